/-
What is proved: parts of the law FnExactStartExploration: what the functions that it reaches compute, and the plain law.
Conditions: those of each theorem.
-/
import Derived.Test.YthmjimboajmhmaaCFnExactStartExploration1
namespace Go.Proofs.Ythmjimboajmhmaa.Pr
open Go.RowKit Go.Proofs.YthmjimboajmhmaaW.PrintWords Go.Proofs.YthmjimboajmhmaaW.PrintLast Go.Proofs.YthmjimboajmhmaaW.PrintMore
attribute [local go_sem] max2_int min2_int max_two min_two max_three min_three max_four min_four   -- for this text's walks alone
set_option linter.unusedVariables false
set_option linter.unusedSimpArgs false
def spec_l4Leg.f (a0_0 : Int) (a0_1 : Int) (a0_2 : Int) (a0_3 : Int) (a0_4 : Int) : Option (Bool) := (spec_l4Station.f a0_0).bind fun t140 => (if t140 = true then ((spec_l4Station.f a0_1).bind fun t141 => (if t141 = true then (if a0_0 = a0_1 then (some false) else ((spec_l1In.f a0_2 1 500).bind fun t142 => (if t142 = true then ((spec_l2Bearing.f a0_3).bind fun t143 => (if t143 = true then ((spec_l1In.f a0_4 (-90) 90).bind fun t144 => (some t144)) else (some false))) else (some false)))) else (some false))) else (some false))
set_option maxHeartbeats 8000000 in
set_option maxRecDepth 100000 in
theorem spec_l4Leg.calls (a0_0 : Int) (a0_1 : Int) (a0_2 : Int) (a0_3 : Int) (a0_4 : Int) (r : Bool) (w : World) (h : spec_l4Leg.f a0_0 a0_1 a0_2 a0_3 a0_4 = some r) :
  Calls Try.prog 106 #[.agg #[.int .i64 a0_0, .int .i64 a0_1, .int .i64 a0_2, .int .i64 a0_3, .int .i64 a0_4]] w fun e w' => e = .returned (.bool r) ∧ Below w.heap.size w w' := by
 have hu37 := Try.underlying37
 have HB := Aside0.mk (Below.refl w.heap.size w)
 have H : ((spec_l4Station.f a0_0).bind fun t140 => (if t140 = true then ((spec_l4Station.f a0_1).bind fun t141 => (if t141 = true then (if a0_0 = a0_1 then (some false) else ((spec_l1In.f a0_2 1 500).bind fun t142 => (if t142 = true then ((spec_l2Bearing.f a0_3).bind fun t143 => (if t143 = true then ((spec_l1In.f a0_4 (-90) 90).bind fun t144 => (some t144)) else (some false))) else (some false)))) else (some false))) else (some false))) = some r := h
 clear h
 replace H := Option.bind_eq_some_iff.mp H
 obtain ⟨t140, A20, H⟩ := H
 replace H : (if t140 = true then ((spec_l4Station.f a0_1).bind fun t141 => (if t141 = true then (if a0_0 = a0_1 then (some false) else ((spec_l1In.f a0_2 1 500).bind fun t142 => (if t142 = true then ((spec_l2Bearing.f a0_3).bind fun t143 => (if t143 = true then ((spec_l1In.f a0_4 (-90) 90).bind fun t144 => (some t144)) else (some false))) else (some false)))) else (some false))) else (some false)) = some r := H
 have A2 := Aside0.mk A20
 clear A20
 by_cases c3 : t140 = true
 ·
  subst c3
  have H1 : ((spec_l4Station.f a0_1).bind fun t141 => (if t141 = true then (if a0_0 = a0_1 then (some false) else ((spec_l1In.f a0_2 1 500).bind fun t142 => (if t142 = true then ((spec_l2Bearing.f a0_3).bind fun t143 => (if t143 = true then ((spec_l1In.f a0_4 (-90) 90).bind fun t144 => (some t144)) else (some false))) else (some false)))) else (some false))) = some r := by rw [if_pos rfl] at H; exact H
  clear H
  have H := H1
  clear H1
  replace H := Option.bind_eq_some_iff.mp H
  obtain ⟨t141, A40, H⟩ := H
  replace H : (if t141 = true then (if a0_0 = a0_1 then (some false) else ((spec_l1In.f a0_2 1 500).bind fun t142 => (if t142 = true then ((spec_l2Bearing.f a0_3).bind fun t143 => (if t143 = true then ((spec_l1In.f a0_4 (-90) 90).bind fun t144 => (some t144)) else (some false))) else (some false)))) else (some false)) = some r := H
  have A4 := Aside0.mk A40
  clear A40
  by_cases c5 : t141 = true
  ·
   subst c5
   have H1 : (if a0_0 = a0_1 then (some false) else ((spec_l1In.f a0_2 1 500).bind fun t142 => (if t142 = true then ((spec_l2Bearing.f a0_3).bind fun t143 => (if t143 = true then ((spec_l1In.f a0_4 (-90) 90).bind fun t144 => (some t144)) else (some false))) else (some false)))) = some r := by rw [if_pos rfl] at H; exact H
   clear H
   have H := H1
   clear H1
   by_cases c6 : a0_0 = a0_1
   ·
    rw [if_pos c6] at H
    have c6b0 : (a0_0 == a0_1) = true := beq_iff_eq.mpr c6
    have c6b1 : (a0_0 != a0_1) = false := bne_eq_false_iff_eq.mpr c6
    clear c6
    obtain rfl := Option.some.inj H
    go_enter Try.func106, Try.ntmps106
    go_wp2_with (first | ((with_reducible refine gate_dst (N := 1) rfl ?_); refine box_event ?hg (N := 1) ?hd (cs := #[.int .i64 a0_0, .int .i64 a0_1, .int .i64 a0_2, .int .i64 a0_3, .int .i64 a0_4]) (t := 37) ?hr ?_; (case hd => rfl); (case hg => rfl); (case hr => first | (go_simp; done) | (go_simp; rfl)); intro gb139 hg w7 hbox hb; have BK139 := Aside0.mk (hbox); have GW139 := Aside0.mk ((bz_ hg (lb0_ HB.out))); have GE139 := Aside0.mk ((bz_ hg (lb0_ HB.out))); replace HB := Aside0.mk (below_step (lb0_ HB.out) hb); clear hb hbox hg; obtain ⟨hcz8_0, hcz8_1, hcz8_2, hcz8_3, hcz8_4⟩ := cz5_ BK139.out; obtain ⟨hfz8_0, hfz8_1, hfz8_2, hfz8_3, hfz8_4⟩ := fz5_ BK139.out) | ((with_reducible refine gate_callee (f := 100) rfl ?_); refine ga_ (some 5) Try.func100 #[.int .i64 a0_0] ?_; (with_reducible refine (spec_l4Station.calls a0_0 true _ A2.out).mono ?_); rintro e w' ⟨rfl, ⟨nd, rfl⟩⟩; refine ⟨_, rfl, ?_⟩) | (go_at_call 100; (with_reducible refine (spec_l4Station.calls a0_1 true _ A4.out).mono ?_); rintro e w' ⟨rfl, ⟨nd, rfl⟩⟩))
    go_ret
    exact ⟨rr_, lb1_ HB.out GE139.out⟩
   ·
    rw [if_neg c6] at H
    have c6b0 : (a0_0 == a0_1) = false := beq_eq_false_iff_ne.mpr c6
    have c6b1 : (a0_0 != a0_1) = true := bne_iff_ne.mpr c6
    replace H := Option.bind_eq_some_iff.mp H
    obtain ⟨t142, A90, H⟩ := H
    replace H : (if t142 = true then ((spec_l2Bearing.f a0_3).bind fun t143 => (if t143 = true then ((spec_l1In.f a0_4 (-90) 90).bind fun t144 => (some t144)) else (some false))) else (some false)) = some r := H
    have A9 := Aside0.mk A90
    clear A90
    by_cases c10 : t142 = true
    ·
     subst c10
     have H1 : ((spec_l2Bearing.f a0_3).bind fun t143 => (if t143 = true then ((spec_l1In.f a0_4 (-90) 90).bind fun t144 => (some t144)) else (some false))) = some r := by rw [if_pos rfl] at H; exact H
     clear H
     have H := H1
     clear H1
     replace H := Option.bind_eq_some_iff.mp H
     obtain ⟨t143, A110, H⟩ := H
     replace H : (if t143 = true then ((spec_l1In.f a0_4 (-90) 90).bind fun t144 => (some t144)) else (some false)) = some r := H
     have A11 := Aside0.mk A110
     clear A110
     by_cases c12 : t143 = true
     ·
      subst c12
      have H1 : ((spec_l1In.f a0_4 (-90) 90).bind fun t144 => (some t144)) = some r := by rw [if_pos rfl] at H; exact H
      clear H
      have H := H1
      clear H1
      replace H := Option.bind_eq_some_iff.mp H
      obtain ⟨t144, A130, H⟩ := H
      replace H : (some t144) = some r := H
      have A13 := Aside0.mk A130
      clear A130
      obtain rfl := Option.some.inj H
      go_enter Try.func106, Try.ntmps106
      go_wp2_with (first | ((with_reducible refine gate_dst (N := 1) rfl ?_); refine box_event ?hg (N := 1) ?hd (cs := #[.int .i64 a0_0, .int .i64 a0_1, .int .i64 a0_2, .int .i64 a0_3, .int .i64 a0_4]) (t := 37) ?hr ?_; (case hd => rfl); (case hg => rfl); (case hr => first | (go_simp; done) | (go_simp; rfl)); intro gb139 hg w14 hbox hb; have BK139 := Aside0.mk (hbox); have GW139 := Aside0.mk ((bz_ hg (lb0_ HB.out))); have GE139 := Aside0.mk ((bz_ hg (lb0_ HB.out))); replace HB := Aside0.mk (below_step (lb0_ HB.out) hb); clear hb hbox hg; obtain ⟨hcz15_0, hcz15_1, hcz15_2, hcz15_3, hcz15_4⟩ := cz5_ BK139.out; obtain ⟨hfz15_0, hfz15_1, hfz15_2, hfz15_3, hfz15_4⟩ := fz5_ BK139.out) | ((with_reducible refine gate_callee (f := 100) rfl ?_); refine ga_ (some 5) Try.func100 #[.int .i64 a0_0] ?_; (with_reducible refine (spec_l4Station.calls a0_0 true _ A2.out).mono ?_); rintro e w' ⟨rfl, ⟨nd, rfl⟩⟩; refine ⟨_, rfl, ?_⟩) | (go_at_call 100; (with_reducible refine (spec_l4Station.calls a0_1 true _ A4.out).mono ?_); rintro e w' ⟨rfl, ⟨nd, rfl⟩⟩) | (go_at_call 101; (with_reducible refine (spec_l1In.calls a0_2 1 500 true _ A9.out).mono ?_); rintro e w' ⟨rfl, ⟨nd, rfl⟩⟩) | (go_at_call 120; (with_reducible refine (spec_l2Bearing.calls a0_3 true _ A11.out).mono ?_); rintro e w' ⟨rfl, ⟨nd, rfl⟩⟩) | (go_at_call 101; (with_reducible refine (spec_l1In.calls a0_4 (-90) 90 t144 _ A13.out).mono ?_); rintro e w' ⟨rfl, ⟨nd, rfl⟩⟩))
      go_ret
      exact ⟨rr_, lb1_ HB.out GE139.out⟩
     ·
      replace c12 := Bool.eq_false_iff.mpr c12
      subst c12
      have H1 : (some false) = some r := by rw [if_neg (show ¬ (false = true) by decide)] at H; exact H
      clear H
      have H := H1
      clear H1
      obtain rfl := Option.some.inj H
      go_enter Try.func106, Try.ntmps106
      go_wp2_with (first | ((with_reducible refine gate_dst (N := 1) rfl ?_); refine box_event ?hg (N := 1) ?hd (cs := #[.int .i64 a0_0, .int .i64 a0_1, .int .i64 a0_2, .int .i64 a0_3, .int .i64 a0_4]) (t := 37) ?hr ?_; (case hd => rfl); (case hg => rfl); (case hr => first | (go_simp; done) | (go_simp; rfl)); intro gb139 hg w16 hbox hb; have BK139 := Aside0.mk (hbox); have GW139 := Aside0.mk ((bz_ hg (lb0_ HB.out))); have GE139 := Aside0.mk ((bz_ hg (lb0_ HB.out))); replace HB := Aside0.mk (below_step (lb0_ HB.out) hb); clear hb hbox hg; obtain ⟨hcz17_0, hcz17_1, hcz17_2, hcz17_3, hcz17_4⟩ := cz5_ BK139.out; obtain ⟨hfz17_0, hfz17_1, hfz17_2, hfz17_3, hfz17_4⟩ := fz5_ BK139.out) | ((with_reducible refine gate_callee (f := 100) rfl ?_); refine ga_ (some 5) Try.func100 #[.int .i64 a0_0] ?_; (with_reducible refine (spec_l4Station.calls a0_0 true _ A2.out).mono ?_); rintro e w' ⟨rfl, ⟨nd, rfl⟩⟩; refine ⟨_, rfl, ?_⟩) | (go_at_call 100; (with_reducible refine (spec_l4Station.calls a0_1 true _ A4.out).mono ?_); rintro e w' ⟨rfl, ⟨nd, rfl⟩⟩) | (go_at_call 101; (with_reducible refine (spec_l1In.calls a0_2 1 500 true _ A9.out).mono ?_); rintro e w' ⟨rfl, ⟨nd, rfl⟩⟩) | (go_at_call 120; (with_reducible refine (spec_l2Bearing.calls a0_3 false _ A11.out).mono ?_); rintro e w' ⟨rfl, ⟨nd, rfl⟩⟩))
      go_ret
      exact ⟨rr_, lb1_ HB.out GE139.out⟩
    ·
     replace c10 := Bool.eq_false_iff.mpr c10
     subst c10
     have H1 : (some false) = some r := by rw [if_neg (show ¬ (false = true) by decide)] at H; exact H
     clear H
     have H := H1
     clear H1
     obtain rfl := Option.some.inj H
     go_enter Try.func106, Try.ntmps106
     go_wp2_with (first | ((with_reducible refine gate_dst (N := 1) rfl ?_); refine box_event ?hg (N := 1) ?hd (cs := #[.int .i64 a0_0, .int .i64 a0_1, .int .i64 a0_2, .int .i64 a0_3, .int .i64 a0_4]) (t := 37) ?hr ?_; (case hd => rfl); (case hg => rfl); (case hr => first | (go_simp; done) | (go_simp; rfl)); intro gb139 hg w18 hbox hb; have BK139 := Aside0.mk (hbox); have GW139 := Aside0.mk ((bz_ hg (lb0_ HB.out))); have GE139 := Aside0.mk ((bz_ hg (lb0_ HB.out))); replace HB := Aside0.mk (below_step (lb0_ HB.out) hb); clear hb hbox hg; obtain ⟨hcz19_0, hcz19_1, hcz19_2, hcz19_3, hcz19_4⟩ := cz5_ BK139.out; obtain ⟨hfz19_0, hfz19_1, hfz19_2, hfz19_3, hfz19_4⟩ := fz5_ BK139.out) | ((with_reducible refine gate_callee (f := 100) rfl ?_); refine ga_ (some 5) Try.func100 #[.int .i64 a0_0] ?_; (with_reducible refine (spec_l4Station.calls a0_0 true _ A2.out).mono ?_); rintro e w' ⟨rfl, ⟨nd, rfl⟩⟩; refine ⟨_, rfl, ?_⟩) | (go_at_call 100; (with_reducible refine (spec_l4Station.calls a0_1 true _ A4.out).mono ?_); rintro e w' ⟨rfl, ⟨nd, rfl⟩⟩) | (go_at_call 101; (with_reducible refine (spec_l1In.calls a0_2 1 500 false _ A9.out).mono ?_); rintro e w' ⟨rfl, ⟨nd, rfl⟩⟩))
     go_ret
     exact ⟨rr_, lb1_ HB.out GE139.out⟩
  ·
   replace c5 := Bool.eq_false_iff.mpr c5
   subst c5
   have H1 : (some false) = some r := by rw [if_neg (show ¬ (false = true) by decide)] at H; exact H
   clear H
   have H := H1
   clear H1
   obtain rfl := Option.some.inj H
   go_enter Try.func106, Try.ntmps106
   go_wp2_with (first | ((with_reducible refine gate_dst (N := 1) rfl ?_); refine box_event ?hg (N := 1) ?hd (cs := #[.int .i64 a0_0, .int .i64 a0_1, .int .i64 a0_2, .int .i64 a0_3, .int .i64 a0_4]) (t := 37) ?hr ?_; (case hd => rfl); (case hg => rfl); (case hr => first | (go_simp; done) | (go_simp; rfl)); intro gb139 hg w20 hbox hb; have BK139 := Aside0.mk (hbox); have GW139 := Aside0.mk ((bz_ hg (lb0_ HB.out))); have GE139 := Aside0.mk ((bz_ hg (lb0_ HB.out))); replace HB := Aside0.mk (below_step (lb0_ HB.out) hb); clear hb hbox hg; obtain ⟨hcz21_0, hcz21_1, hcz21_2, hcz21_3, hcz21_4⟩ := cz5_ BK139.out; obtain ⟨hfz21_0, hfz21_1, hfz21_2, hfz21_3, hfz21_4⟩ := fz5_ BK139.out) | ((with_reducible refine gate_callee (f := 100) rfl ?_); refine ga_ (some 5) Try.func100 #[.int .i64 a0_0] ?_; (with_reducible refine (spec_l4Station.calls a0_0 true _ A2.out).mono ?_); rintro e w' ⟨rfl, ⟨nd, rfl⟩⟩; refine ⟨_, rfl, ?_⟩) | (go_at_call 100; (with_reducible refine (spec_l4Station.calls a0_1 false _ A4.out).mono ?_); rintro e w' ⟨rfl, ⟨nd, rfl⟩⟩))
   go_ret
   exact ⟨rr_, lb1_ HB.out GE139.out⟩
 ·
  replace c3 := Bool.eq_false_iff.mpr c3
  subst c3
  have H1 : (some false) = some r := by rw [if_neg (show ¬ (false = true) by decide)] at H; exact H
  clear H
  have H := H1
  clear H1
  obtain rfl := Option.some.inj H
  go_enter Try.func106, Try.ntmps106
  go_wp2_with (first | ((with_reducible refine gate_dst (N := 1) rfl ?_); refine box_event ?hg (N := 1) ?hd (cs := #[.int .i64 a0_0, .int .i64 a0_1, .int .i64 a0_2, .int .i64 a0_3, .int .i64 a0_4]) (t := 37) ?hr ?_; (case hd => rfl); (case hg => rfl); (case hr => first | (go_simp; done) | (go_simp; rfl)); intro gb139 hg w22 hbox hb; have BK139 := Aside0.mk (hbox); have GW139 := Aside0.mk ((bz_ hg (lb0_ HB.out))); have GE139 := Aside0.mk ((bz_ hg (lb0_ HB.out))); replace HB := Aside0.mk (below_step (lb0_ HB.out) hb); clear hb hbox hg; obtain ⟨hcz23_0, hcz23_1, hcz23_2, hcz23_3, hcz23_4⟩ := cz5_ BK139.out; obtain ⟨hfz23_0, hfz23_1, hfz23_2, hfz23_3, hfz23_4⟩ := fz5_ BK139.out) | ((with_reducible refine gate_callee (f := 100) rfl ?_); refine ga_ (some 5) Try.func100 #[.int .i64 a0_0] ?_; (with_reducible refine (spec_l4Station.calls a0_0 false _ A2.out).mono ?_); rintro e w' ⟨rfl, ⟨nd, rfl⟩⟩; refine ⟨_, rfl, ?_⟩))
  go_ret
  exact ⟨rr_, lb1_ HB.out GE139.out⟩
def spec_l4Legs.l0 : Nat → List (S37) → Int → Option (Bool)
 | 0, _, _ => none
 | k + 1, x0, x3 => if x3 < (x0.length : Int) then (if 0 ≤ x3 then ((spec_l4Leg.f ((rd_T37 x0 x3).f0) ((rd_T37 x0 x3).f1) ((rd_T37 x0 x3).f2) ((rd_T37 x0 x3).f3) ((rd_T37 x0 x3).f4)).bind fun t146 => (if t146 = true then (spec_l4Legs.l0 k x0 (wrap64 (x3 + 1))) else (some false))) else (none)) else (some (decide ((x0.length : Int) ≤ 12)))
def spec_l4Legs.f (k : Nat) (l0 : List (S37)) : Option (Bool) := spec_l4Legs.l0 k l0 0
theorem spec_l4Legs.mono_l : ∀ k, (∀ y0 y1, LeO (spec_l4Legs.l0 k y0 y1) (spec_l4Legs.l0 (k + 1) y0 y1))
 | 0 => fun _ _ r h => by simp [spec_l4Legs.l0] at h
 | k + 1 => by
  have ih0 := spec_l4Legs.mono_l k
  ·
   intro y0 y1
   unfold spec_l4Legs.l0
   repeat' first
   | (with_reducible exact ih0 _ _)
   | (with_reducible exact LeO.refl _)
   | (with_reducible exact LeO.none _)
   | (with_reducible refine LeO.ite ?_ ?_)
   | (with_reducible refine LeO.bind ?_ (fun _ => ?_))
   | exact ih0 _ _
   | exact LeO.none _
   | refine LeO.ite ?_ ?_
   | refine LeO.bind ?_ (fun _ => ?_)
theorem spec_l4Legs.mono : ∀ a0 k, LeO (spec_l4Legs.f k a0) (spec_l4Legs.f (k + 1) a0) := by
 intro a0 k
 have ih0 := spec_l4Legs.mono_l k
 unfold spec_l4Legs.f
 repeat' first
   | (with_reducible exact ih0 _ _)
   | (with_reducible exact LeO.refl _)
   | (with_reducible exact LeO.none _)
   | (with_reducible refine LeO.ite ?_ ?_)
   | (with_reducible refine LeO.bind ?_ (fun _ => ?_))
   | exact ih0 _ _
   | exact LeO.none _
   | refine LeO.ite ?_ ?_
   | refine LeO.bind ?_ (fun _ => ?_)
set_option maxHeartbeats 8000000 in
set_option maxRecDepth 100000 in
theorem spec_l4Legs.calls (k : Nat) (A0 : Option Addr) (c0 : Nat) (l0 : List (S37)) (r : Bool) (w : World) (hr0 : Kd.C k37 w A0 l0.length l0) (hc0 : l0.length ≤ c0) (h : spec_l4Legs.f k l0 = some r) :
  Calls Try.prog 99 #[.slice A0 l0.length c0] w fun e w' => e = .returned (.bool r) ∧ Below w.heap.size w w' := by
 have hu37 := Try.underlying37
 have HR0 := Aside0.mk hr0
 have HC0 := Aside0.mk hc0
 clear hr0 hc0
 have HB := Aside0.mk (Below.refl w.heap.size w)
 have H : (spec_l4Legs.l0 k l0 0) = some r := h
 clear h
 have H' := Aside0.mk H
 clear H
 go_enter Try.func99, Try.ntmps99
 go_wp2
 go_loopg [3] k (fun kq v3 w' => ∃ (x3_1 : Int), v3 = .int .i64 x3_1 ∧ Aside0 (spec_l4Legs.l0 kq l0 x3_1 = some r) ∧ Aside0 (kq ≤ k) ∧ Aside0 (Below w.heap.size w w'))
 case atStart => exact ⟨(0), (by first | rfl | (simp; done) | (simp [*]; done)), H', ⟨Nat.le_refl _⟩, ⟨lb0_ HB.out⟩⟩
 case round =>
  clear H'
  obtain ⟨x3_1, rfl, HA, HK1, HB⟩ := hrel
  cases gk with
  | zero => exact absurd HA.out (by simp [spec_l4Legs.l0])
  | succ k1 =>
   have H := HA.out
   clear HA
   simp only [spec_l4Legs.l0] at H
   by_cases c2 : x3_1 < (l0.length : Int)
   ·
    rw [if_pos c2] at H
    have c2b0 : decide (x3_1 < (l0.length : Int)) = true := decide_eq_true c2
    clear c2
    by_cases c3 : 0 ≤ x3_1
    ·
     rw [if_pos c3] at H
     have c3b0 : decide (0 ≤ x3_1) = true := decide_eq_true c3
     clear c3
     replace H := Option.bind_eq_some_iff.mp H
     obtain ⟨t146, A40, H⟩ := H
     replace H : (if t146 = true then (spec_l4Legs.l0 k1 l0 (wrap64 (x3_1 + 1))) else (some false)) = some r := H
     have A4 := Aside0.mk A40
     clear A40
     by_cases c5 : t146 = true
     ·
      subst c5
      have H1 : (spec_l4Legs.l0 k1 l0 (wrap64 (x3_1 + 1))) = some r := by rw [if_pos rfl] at H; exact H
      clear H
      have H := H1
      clear H1
      have H' := Aside0.mk H
      clear H
      have p145 : 0 ≤ (x3_1 : Int) := dt_
      have q145 : x3_1 < (l0.length : Int) := dt_
      obtain ⟨ad145, e145, hx145_0, hx145_1, hx145_2, hx145_3, hx145_4⟩ := at_T37 HR0.out x3_1 p145 q145
      cases e145
      replace hx145_0 := bc_ HB.out hx145_0
      replace hx145_1 := bc_ HB.out hx145_1
      replace hx145_2 := bc_ HB.out hx145_2
      replace hx145_3 := bc_ HB.out hx145_3
      replace hx145_4 := bc_ HB.out hx145_4
      replace p145 := eq_true p145
      replace q145 := eq_true q145
      go_wp2_with (first | ((with_reducible refine gate_callee (f := 106) rfl ?_); refine ga_ (some 14) Try.func106 #[.agg #[.int .i64 ((rd_T37 l0 x3_1).f0), .int .i64 ((rd_T37 l0 x3_1).f1), .int .i64 ((rd_T37 l0 x3_1).f2), .int .i64 ((rd_T37 l0 x3_1).f3), .int .i64 ((rd_T37 l0 x3_1).f4)]] ?_; (with_reducible refine (spec_l4Leg.calls ((rd_T37 l0 x3_1).f0) ((rd_T37 l0 x3_1).f1) ((rd_T37 l0 x3_1).f2) ((rd_T37 l0 x3_1).f3) ((rd_T37 l0 x3_1).f4) true _ A4.out).mono ?_); rintro e w6 ⟨rfl, hb⟩; refine ⟨_, rfl, ?_⟩; replace HB := Aside0.mk (below_step (lb0_ HB.out) hb); (try clear hb); (try clear hb2); (try clear hk); (try clear hi)))
      go_roundg k1
      case measure => have := HK1.out; omega
      case rel => exact ⟨(wrap64 (x3_1 + 1)), (by first | rfl | (simp; done) | (simp [*]; done)), H', ⟨by have := HK1.out; omega⟩, ⟨lb0_ HB.out⟩⟩
     ·
      replace c5 := Bool.eq_false_iff.mpr c5
      subst c5
      have H1 : (some false) = some r := by rw [if_neg (show ¬ (false = true) by decide)] at H; exact H
      clear H
      have H := H1
      clear H1
      obtain rfl := Option.some.inj H
      have p145 : 0 ≤ (x3_1 : Int) := dt_
      have q145 : x3_1 < (l0.length : Int) := dt_
      obtain ⟨ad145, e145, hx145_0, hx145_1, hx145_2, hx145_3, hx145_4⟩ := at_T37 HR0.out x3_1 p145 q145
      cases e145
      replace hx145_0 := bc_ HB.out hx145_0
      replace hx145_1 := bc_ HB.out hx145_1
      replace hx145_2 := bc_ HB.out hx145_2
      replace hx145_3 := bc_ HB.out hx145_3
      replace hx145_4 := bc_ HB.out hx145_4
      replace p145 := eq_true p145
      replace q145 := eq_true q145
      go_wp2_with (first | ((with_reducible refine gate_callee (f := 106) rfl ?_); refine ga_ (some 14) Try.func106 #[.agg #[.int .i64 ((rd_T37 l0 x3_1).f0), .int .i64 ((rd_T37 l0 x3_1).f1), .int .i64 ((rd_T37 l0 x3_1).f2), .int .i64 ((rd_T37 l0 x3_1).f3), .int .i64 ((rd_T37 l0 x3_1).f4)]] ?_; (with_reducible refine (spec_l4Leg.calls ((rd_T37 l0 x3_1).f0) ((rd_T37 l0 x3_1).f1) ((rd_T37 l0 x3_1).f2) ((rd_T37 l0 x3_1).f3) ((rd_T37 l0 x3_1).f4) false _ A4.out).mono ?_); rintro e w7 ⟨rfl, hb⟩; refine ⟨_, rfl, ?_⟩; replace HB := Aside0.mk (below_step (lb0_ HB.out) hb); (try clear hb); (try clear hb2); (try clear hk); (try clear hi)))
      go_ret
      exact ⟨rr_, lb0_ HB.out⟩
    ·
     rw [if_neg c3] at H
     exact absurd H (by simp)
   ·
    rw [if_neg c2] at H
    have c2b0 : decide (x3_1 < (l0.length : Int)) = false := decide_eq_false c2
    clear c2
    obtain rfl := Option.some.inj H
    go_wp2
    go_ret
    exact ⟨rr_, lb0_ HB.out⟩
def spec_l25Good.j0 : Nat → Bool → List (S37) → List Bool → List Bool → Int → Int → Option (Bool)
 | 0, _, _, _, _, _, _ => none
 | k + 1, x31, x148000, x148001, x148002, x148003, x148004 => if x31 = true then (some false) else (if 0 < (x148001.length : Int) then (if rdOf false x148001 0 = true then (if 0 ≤ x148003 then (if x148003 < (x148001.length : Int) then (if rdOf false x148001 x148003 = true then ((spec_l25Out.f k x148000 x148001 x148003).bind fun t153 => (if t153 ≥ 0 then (some (decide (t153 ≤ x148004))) else (some false))) else (some false)) else (none)) else (none)) else (some false)) else (none))
def spec_l25Good.f (k : Nat) (l0_0 : List (S37)) (l0_1 : List Bool) (l0_2 : List Bool) (a0_3 : Int) (a0_4 : Int) : Option (Bool) := (spec_l4Legs.f k l0_0).bind fun t148 => (if t148 = true then (if (l0_1.length : Int) = 8 then (if (l0_2.length : Int) = 8 then ((spec_l4Station.f a0_3).bind fun t149 => (if t149 = true then ((spec_l1In.f a0_4 0 100000).bind fun t150 => (spec_l25Good.j0 k (!t150) l0_0 l0_1 l0_2 a0_3 a0_4)) else (spec_l25Good.j0 k true l0_0 l0_1 l0_2 a0_3 a0_4))) else (spec_l25Good.j0 k true l0_0 l0_1 l0_2 a0_3 a0_4)) else (spec_l25Good.j0 k true l0_0 l0_1 l0_2 a0_3 a0_4)) else (spec_l25Good.j0 k true l0_0 l0_1 l0_2 a0_3 a0_4))
theorem spec_l25Good.mono_l : ∀ k, (∀ y0 y1 y2 y3 y4 y5, LeO (spec_l25Good.j0 k y0 y1 y2 y3 y4 y5) (spec_l25Good.j0 (k + 1) y0 y1 y2 y3 y4 y5))
 | 0 => fun _ _ _ _ _ _ r h => by simp [spec_l25Good.j0] at h
 | k + 1 => by
  have ih0 := spec_l25Good.mono_l k
  ·
   intro y0 y1 y2 y3 y4 y5
   unfold spec_l25Good.j0
   repeat' first
   | (with_reducible exact ih0 _ _ _ _ _ _)
   | (with_reducible exact spec_l25Out.mono _ _ _ _)
   | (with_reducible exact spec_l4Legs.mono _ _)
   | (with_reducible exact LeO.refl _)
   | (with_reducible exact LeO.none _)
   | (with_reducible refine LeO.ite ?_ ?_)
   | (with_reducible refine LeO.bind ?_ (fun _ => ?_))
   | exact ih0 _ _ _ _ _ _
   | exact spec_l25Out.mono _ _ _ _
   | exact spec_l4Legs.mono _ _
   | exact LeO.none _
   | refine LeO.ite ?_ ?_
   | refine LeO.bind ?_ (fun _ => ?_)
theorem spec_l25Good.mono : ∀ a0 a1 a2 a3 a4 k, LeO (spec_l25Good.f k a0 a1 a2 a3 a4) (spec_l25Good.f (k + 1) a0 a1 a2 a3 a4) := by
 intro a0 a1 a2 a3 a4 k
 have ih0 := spec_l25Good.mono_l k
 unfold spec_l25Good.f
 repeat' first
   | (with_reducible exact ih0 _ _ _ _ _ _)
   | (with_reducible exact spec_l25Out.mono _ _ _ _)
   | (with_reducible exact spec_l4Legs.mono _ _)
   | (with_reducible exact LeO.refl _)
   | (with_reducible exact LeO.none _)
   | (with_reducible refine LeO.ite ?_ ?_)
   | (with_reducible refine LeO.bind ?_ (fun _ => ?_))
   | exact ih0 _ _ _ _ _ _
   | exact spec_l25Out.mono _ _ _ _
   | exact spec_l4Legs.mono _ _
   | exact LeO.none _
   | refine LeO.ite ?_ ?_
   | refine LeO.bind ?_ (fun _ => ?_)
set_option maxHeartbeats 8000000 in
set_option maxRecDepth 100000 in
theorem spec_l25Good.calls (k : Nat) (A0_0 : Option Addr) (c0_0 : Nat) (l0_0 : List (S37)) (A0_1 : Option Addr) (c0_1 : Nat) (l0_1 : List Bool) (A0_2 : Option Addr) (c0_2 : Nat) (l0_2 : List Bool) (a0_3 : Int) (a0_4 : Int) (r : Bool) (w : World) (hr0_0 : Kd.C k37 w A0_0 l0_0.length l0_0) (hc0_0 : l0_0.length ≤ c0_0) (hr0_1 : Kd.C Kd.bool w A0_1 l0_1.length l0_1) (hc0_1 : l0_1.length ≤ c0_1) (hr0_2 : Kd.C Kd.bool w A0_2 l0_2.length l0_2) (hc0_2 : l0_2.length ≤ c0_2) (h : spec_l25Good.f k l0_0 l0_1 l0_2 a0_3 a0_4 = some r) :
  Calls Try.prog 67 #[.agg #[.slice A0_0 l0_0.length c0_0, .slice A0_1 l0_1.length c0_1, .slice A0_2 l0_2.length c0_2, .int .i64 a0_3, .int .i64 a0_4]] w fun e w' => e = .returned (.bool r) ∧ Below w.heap.size w w' := by
 have hu30 := Try.underlying30
 have HR0_0 := Aside0.mk hr0_0
 have HC0_0 := Aside0.mk hc0_0
 clear hr0_0 hc0_0
 have HR0_1 := Aside0.mk hr0_1
 have HC0_1 := Aside0.mk hc0_1
 clear hr0_1 hc0_1
 have HR0_2 := Aside0.mk hr0_2
 have HC0_2 := Aside0.mk hc0_2
 clear hr0_2 hc0_2
 have HB := Aside0.mk (Below.refl w.heap.size w)
 have H : ((spec_l4Legs.f k l0_0).bind fun t148 => (if t148 = true then (if (l0_1.length : Int) = 8 then (if (l0_2.length : Int) = 8 then ((spec_l4Station.f a0_3).bind fun t149 => (if t149 = true then ((spec_l1In.f a0_4 0 100000).bind fun t150 => (spec_l25Good.j0 k (!t150) l0_0 l0_1 l0_2 a0_3 a0_4)) else (spec_l25Good.j0 k true l0_0 l0_1 l0_2 a0_3 a0_4))) else (spec_l25Good.j0 k true l0_0 l0_1 l0_2 a0_3 a0_4)) else (spec_l25Good.j0 k true l0_0 l0_1 l0_2 a0_3 a0_4)) else (spec_l25Good.j0 k true l0_0 l0_1 l0_2 a0_3 a0_4))) = some r := h
 clear h
 have HC2 := Aside0.mk H
 clear H
 go_enter Try.func67, Try.ntmps67
 go_upto_region 1 with (first | ((with_reducible refine gate_dst (N := 1) rfl ?_); (try (refine gate_guard (by rfl) ?_; dsimp only)); refine box_event ?hg (N := 1) ?hd (cs := #[.slice A0_0 l0_0.length c0_0, .slice A0_1 l0_1.length c0_1, .slice A0_2 l0_2.length c0_2, .int .i64 a0_3, .int .i64 a0_4]) (t := 30) ?hr ?_; (case hd => rfl); (case hg => rfl); (case hr => first | (go_simp; done) | (go_simp; rfl)); intro gb147 hg w3 hbox hb; have BK147 := Aside0.mk (hbox); have GW147 := Aside0.mk ((bz_ hg (lb0_ HB.out))); have GE147 := Aside0.mk ((bz_ hg (lb0_ HB.out))); replace HB := Aside0.mk (below_step (lb0_ HB.out) hb); clear hb hbox hg))
 (try simp only [Act.put, List.setIfInBounds_toArray, List.set_cons_zero, List.set_cons_succ])
 go_cut [31] (fun v31 wc => ∃ (kq : Nat) (x31_1 : Bool), v31 = .bool x31_1 ∧ Aside0 (spec_l25Good.j0 kq x31_1 l0_0 l0_1 l0_2 a0_3 a0_4 = some r) ∧ Aside0 (kq ≤ k) ∧ Aside0 (wc.heap[gb147]? = some (.cells #[(.slice A0_0 l0_0.length c0_0), (.slice A0_1 l0_1.length c0_1), (.slice A0_2 l0_2.length c0_2), .int .i64 a0_3, .int .i64 a0_4] 30 (0, 0))) ∧ Aside0 (Below w.heap.size w wc))
 case first =>
  have H := HC2.out
  clear HC2
  replace H := Option.bind_eq_some_iff.mp H
  obtain ⟨t148, A40, H⟩ := H
  replace H : (if t148 = true then (if (l0_1.length : Int) = 8 then (if (l0_2.length : Int) = 8 then ((spec_l4Station.f a0_3).bind fun t149 => (if t149 = true then ((spec_l1In.f a0_4 0 100000).bind fun t150 => (spec_l25Good.j0 k (!t150) l0_0 l0_1 l0_2 a0_3 a0_4)) else (spec_l25Good.j0 k true l0_0 l0_1 l0_2 a0_3 a0_4))) else (spec_l25Good.j0 k true l0_0 l0_1 l0_2 a0_3 a0_4)) else (spec_l25Good.j0 k true l0_0 l0_1 l0_2 a0_3 a0_4)) else (spec_l25Good.j0 k true l0_0 l0_1 l0_2 a0_3 a0_4)) = some r := H
  have A4 := Aside0.mk A40
  clear A40
  by_cases c5 : t148 = true
  ·
   subst c5
   have H1 : (if (l0_1.length : Int) = 8 then (if (l0_2.length : Int) = 8 then ((spec_l4Station.f a0_3).bind fun t149 => (if t149 = true then ((spec_l1In.f a0_4 0 100000).bind fun t150 => (spec_l25Good.j0 k (!t150) l0_0 l0_1 l0_2 a0_3 a0_4)) else (spec_l25Good.j0 k true l0_0 l0_1 l0_2 a0_3 a0_4))) else (spec_l25Good.j0 k true l0_0 l0_1 l0_2 a0_3 a0_4)) else (spec_l25Good.j0 k true l0_0 l0_1 l0_2 a0_3 a0_4)) = some r := by rw [if_pos rfl] at H; exact H
   clear H
   have H := H1
   clear H1
   by_cases c6 : (l0_1.length : Int) = 8
   ·
    rw [if_pos c6] at H
    have c6b0 : ((l0_1.length : Int) == 8) = true := beq_iff_eq.mpr c6
    have c6b1 : ((l0_1.length : Int) != 8) = false := bne_eq_false_iff_eq.mpr c6
    clear c6
    (first | rw [c6b0] | (simp only [i64_w, i32_w]; rw [c6b0]) | skip)
    by_cases c7 : (l0_2.length : Int) = 8
    ·
     rw [if_pos c7] at H
     have c7b0 : ((l0_2.length : Int) == 8) = true := beq_iff_eq.mpr c7
     have c7b1 : ((l0_2.length : Int) != 8) = false := bne_eq_false_iff_eq.mpr c7
     clear c7
     replace H := Option.bind_eq_some_iff.mp H
     obtain ⟨t149, A80, H⟩ := H
     replace H : (if t149 = true then ((spec_l1In.f a0_4 0 100000).bind fun t150 => (spec_l25Good.j0 k (!t150) l0_0 l0_1 l0_2 a0_3 a0_4)) else (spec_l25Good.j0 k true l0_0 l0_1 l0_2 a0_3 a0_4)) = some r := H
     have A8 := Aside0.mk A80
     clear A80
     by_cases c9 : t149 = true
     ·
      subst c9
      have H1 : ((spec_l1In.f a0_4 0 100000).bind fun t150 => (spec_l25Good.j0 k (!t150) l0_0 l0_1 l0_2 a0_3 a0_4)) = some r := by rw [if_pos rfl] at H; exact H
      clear H
      have H := H1
      clear H1
      replace H := Option.bind_eq_some_iff.mp H
      obtain ⟨t150, A100, H⟩ := H
      replace H : (spec_l25Good.j0 k (!t150) l0_0 l0_1 l0_2 a0_3 a0_4) = some r := H
      have A10 := Aside0.mk A100
      clear A100
      have H' := Aside0.mk H
      clear H
      obtain ⟨hcz11_0, hcz11_1, hcz11_2, hcz11_3, hcz11_4⟩ := cz5_ BK147.out
      obtain ⟨hfz11_0, hfz11_1, hfz11_2, hfz11_3, hfz11_4⟩ := fz5_ BK147.out
      go_wp2_with (first | ((with_reducible refine gate_callee (f := 99) rfl ?_); refine ga_ (some 6) Try.func99 #[.slice A0_0 l0_0.length c0_0] ?_; (with_reducible refine (spec_l4Legs.calls k _ _ l0_0 true _ ?side1 ?side2 A4.out).mono ?_); (case side1 => exact kc_ (Kd.C_below HR0_0.out HB.out)); (case side2 => exact HC0_0.out); rintro e w12 ⟨rfl, hb⟩; refine ⟨_, rfl, ?_⟩; replace BK147 := Aside0.mk (bb_ (bk_ BK147.out) hb); replace HB := Aside0.mk (below_step (lb1_ HB.out GE147.out) hb); (try clear hb); (try clear hb2); (try clear hk); (try clear hi); obtain ⟨hcz13_0, hcz13_1, hcz13_2, hcz13_3, hcz13_4⟩ := cz5_ BK147.out; obtain ⟨hfz13_0, hfz13_1, hfz13_2, hfz13_3, hfz13_4⟩ := fz5_ BK147.out) | (go_at_call 100; (with_reducible refine (spec_l4Station.calls a0_3 true _ A8.out).mono ?_); rintro e w' ⟨rfl, ⟨nd, rfl⟩⟩) | (go_at_call 101; (with_reducible refine (spec_l1In.calls a0_4 0 100000 t150 _ A10.out).mono ?_); rintro e w' ⟨rfl, ⟨nd, rfl⟩⟩))
      go_meet
      case rel => exact ⟨_, (!t150), (by first | rfl | (simp; done) | (simp [*]; done)), H', ⟨by first | omega | exact Nat.le_refl _⟩, ⟨bk_ BK147.out⟩, ⟨lb1_ HB.out GE147.out⟩⟩
     ·
      replace c9 := Bool.eq_false_iff.mpr c9
      subst c9
      have H1 : (spec_l25Good.j0 k true l0_0 l0_1 l0_2 a0_3 a0_4) = some r := by rw [if_neg (show ¬ (false = true) by decide)] at H; exact H
      clear H
      have H := H1
      clear H1
      have H' := Aside0.mk H
      clear H
      obtain ⟨hcz14_0, hcz14_1, hcz14_2, hcz14_3, hcz14_4⟩ := cz5_ BK147.out
      obtain ⟨hfz14_0, hfz14_1, hfz14_2, hfz14_3, hfz14_4⟩ := fz5_ BK147.out
      go_wp2_with (first | ((with_reducible refine gate_callee (f := 99) rfl ?_); refine ga_ (some 6) Try.func99 #[.slice A0_0 l0_0.length c0_0] ?_; (with_reducible refine (spec_l4Legs.calls k _ _ l0_0 true _ ?side1 ?side2 A4.out).mono ?_); (case side1 => exact kc_ (Kd.C_below HR0_0.out HB.out)); (case side2 => exact HC0_0.out); rintro e w15 ⟨rfl, hb⟩; refine ⟨_, rfl, ?_⟩; replace BK147 := Aside0.mk (bb_ (bk_ BK147.out) hb); replace HB := Aside0.mk (below_step (lb1_ HB.out GE147.out) hb); (try clear hb); (try clear hb2); (try clear hk); (try clear hi); obtain ⟨hcz16_0, hcz16_1, hcz16_2, hcz16_3, hcz16_4⟩ := cz5_ BK147.out; obtain ⟨hfz16_0, hfz16_1, hfz16_2, hfz16_3, hfz16_4⟩ := fz5_ BK147.out) | (go_at_call 100; (with_reducible refine (spec_l4Station.calls a0_3 false _ A8.out).mono ?_); rintro e w' ⟨rfl, ⟨nd, rfl⟩⟩))
      go_meet
      case rel => exact ⟨_, (true), (by first | rfl | (simp; done) | (simp [*]; done)), H', ⟨by first | omega | exact Nat.le_refl _⟩, ⟨bk_ BK147.out⟩, ⟨lb1_ HB.out GE147.out⟩⟩
    ·
     rw [if_neg c7] at H
     have c7b0 : ((l0_2.length : Int) == 8) = false := beq_eq_false_iff_ne.mpr c7
     have c7b1 : ((l0_2.length : Int) != 8) = true := bne_iff_ne.mpr c7
     have H' := Aside0.mk H
     clear H
     obtain ⟨hcz17_0, hcz17_1, hcz17_2, hcz17_3, hcz17_4⟩ := cz5_ BK147.out
     obtain ⟨hfz17_0, hfz17_1, hfz17_2, hfz17_3, hfz17_4⟩ := fz5_ BK147.out
     go_wp2_with (first | ((with_reducible refine gate_callee (f := 99) rfl ?_); refine ga_ (some 6) Try.func99 #[.slice A0_0 l0_0.length c0_0] ?_; (with_reducible refine (spec_l4Legs.calls k _ _ l0_0 true _ ?side1 ?side2 A4.out).mono ?_); (case side1 => exact kc_ (Kd.C_below HR0_0.out HB.out)); (case side2 => exact HC0_0.out); rintro e w18 ⟨rfl, hb⟩; refine ⟨_, rfl, ?_⟩; replace BK147 := Aside0.mk (bb_ (bk_ BK147.out) hb); replace HB := Aside0.mk (below_step (lb1_ HB.out GE147.out) hb); (try clear hb); (try clear hb2); (try clear hk); (try clear hi); obtain ⟨hcz19_0, hcz19_1, hcz19_2, hcz19_3, hcz19_4⟩ := cz5_ BK147.out; obtain ⟨hfz19_0, hfz19_1, hfz19_2, hfz19_3, hfz19_4⟩ := fz5_ BK147.out))
     go_meet
     case rel => exact ⟨_, (true), (by first | rfl | (simp; done) | (simp [*]; done)), H', ⟨by first | omega | exact Nat.le_refl _⟩, ⟨bk_ BK147.out⟩, ⟨lb1_ HB.out GE147.out⟩⟩
   ·
    rw [if_neg c6] at H
    have c6b0 : ((l0_1.length : Int) == 8) = false := beq_eq_false_iff_ne.mpr c6
    have c6b1 : ((l0_1.length : Int) != 8) = true := bne_iff_ne.mpr c6
    (first | rw [c6b0] | (simp only [i64_w, i32_w]; rw [c6b0]) | skip)
    have H' := Aside0.mk H
    clear H
    obtain ⟨hcz20_0, hcz20_1, hcz20_2, hcz20_3, hcz20_4⟩ := cz5_ BK147.out
    obtain ⟨hfz20_0, hfz20_1, hfz20_2, hfz20_3, hfz20_4⟩ := fz5_ BK147.out
    go_wp2_with (first | ((with_reducible refine gate_callee (f := 99) rfl ?_); refine ga_ (some 6) Try.func99 #[.slice A0_0 l0_0.length c0_0] ?_; (with_reducible refine (spec_l4Legs.calls k _ _ l0_0 true _ ?side1 ?side2 A4.out).mono ?_); (case side1 => exact kc_ (Kd.C_below HR0_0.out HB.out)); (case side2 => exact HC0_0.out); rintro e w21 ⟨rfl, hb⟩; refine ⟨_, rfl, ?_⟩; replace BK147 := Aside0.mk (bb_ (bk_ BK147.out) hb); replace HB := Aside0.mk (below_step (lb1_ HB.out GE147.out) hb); (try clear hb); (try clear hb2); (try clear hk); (try clear hi); obtain ⟨hcz22_0, hcz22_1, hcz22_2, hcz22_3, hcz22_4⟩ := cz5_ BK147.out; obtain ⟨hfz22_0, hfz22_1, hfz22_2, hfz22_3, hfz22_4⟩ := fz5_ BK147.out))
    go_meet
    case rel => exact ⟨_, (true), (by first | rfl | (simp; done) | (simp [*]; done)), H', ⟨by first | omega | exact Nat.le_refl _⟩, ⟨bk_ BK147.out⟩, ⟨lb1_ HB.out GE147.out⟩⟩
  ·
   replace c5 := Bool.eq_false_iff.mpr c5
   subst c5
   have H1 : (spec_l25Good.j0 k true l0_0 l0_1 l0_2 a0_3 a0_4) = some r := by rw [if_neg (show ¬ (false = true) by decide)] at H; exact H
   clear H
   have H := H1
   clear H1
   have H' := Aside0.mk H
   clear H
   obtain ⟨hcz23_0, hcz23_1, hcz23_2, hcz23_3, hcz23_4⟩ := cz5_ BK147.out
   obtain ⟨hfz23_0, hfz23_1, hfz23_2, hfz23_3, hfz23_4⟩ := fz5_ BK147.out
   go_wp2_with (first | ((with_reducible refine gate_callee (f := 99) rfl ?_); refine ga_ (some 6) Try.func99 #[.slice A0_0 l0_0.length c0_0] ?_; (with_reducible refine (spec_l4Legs.calls k _ _ l0_0 false _ ?side1 ?side2 A4.out).mono ?_); (case side1 => exact kc_ (Kd.C_below HR0_0.out HB.out)); (case side2 => exact HC0_0.out); rintro e w24 ⟨rfl, hb⟩; refine ⟨_, rfl, ?_⟩; replace BK147 := Aside0.mk (bb_ (bk_ BK147.out) hb); replace HB := Aside0.mk (below_step (lb1_ HB.out GE147.out) hb); (try clear hb); (try clear hb2); (try clear hk); (try clear hi)))
   go_meet
   case rel => exact ⟨_, (true), (by first | rfl | (simp; done) | (simp [*]; done)), H', ⟨by first | omega | exact Nat.le_refl _⟩, ⟨bk_ BK147.out⟩, ⟨lb1_ HB.out GE147.out⟩⟩
 case rest =>
  clear HC2
  try clear p2
  try clear c5
  try clear c6
  try clear c6b0
  try clear c6b1
  try clear c7
  try clear c7b0
  try clear c7b1
  try clear c9
  try clear hcz11_0 hcz11_1 hcz11_2 hcz11_3 hcz11_4
  try clear hcz13_0 hcz13_1 hcz13_2 hcz13_3 hcz13_4
  try clear hcz14_0 hcz14_1 hcz14_2 hcz14_3 hcz14_4
  try clear hcz16_0 hcz16_1 hcz16_2 hcz16_3 hcz16_4
  try clear hcz17_0 hcz17_1 hcz17_2 hcz17_3 hcz17_4
  try clear hcz19_0 hcz19_1 hcz19_2 hcz19_3 hcz19_4
  try clear hcz20_0 hcz20_1 hcz20_2 hcz20_3 hcz20_4
  try clear hcz22_0 hcz22_1 hcz22_2 hcz22_3 hcz22_4
  try clear hcz23_0 hcz23_1 hcz23_2 hcz23_3 hcz23_4
  try clear hfz11_0 hfz11_1 hfz11_2 hfz11_3 hfz11_4
  try clear hfz13_0 hfz13_1 hfz13_2 hfz13_3 hfz13_4
  try clear hfz14_0 hfz14_1 hfz14_2 hfz14_3 hfz14_4
  try clear hfz16_0 hfz16_1 hfz16_2 hfz16_3 hfz16_4
  try clear hfz17_0 hfz17_1 hfz17_2 hfz17_3 hfz17_4
  try clear hfz19_0 hfz19_1 hfz19_2 hfz19_3 hfz19_4
  try clear hfz20_0 hfz20_1 hfz20_2 hfz20_3 hfz20_4
  try clear hfz22_0 hfz22_1 hfz22_2 hfz22_3 hfz22_4
  try clear hfz23_0 hfz23_1 hfz23_2 hfz23_3 hfz23_4
  obtain ⟨kq, x31_1, rfl, HA, HJ1, BK147, HB⟩ := hcut
  cases kq with
  | zero => exact absurd HA.out (by simp [spec_l25Good.j0])
  | succ kj1 =>
   have H := HA.out
   clear HA
   simp only [spec_l25Good.j0] at H
   by_cases c25 : x31_1 = true
   ·
    subst c25
    have H1 : (some false) = some r := by rw [if_pos rfl] at H; exact H
    clear H
    have H := H1
    clear H1
    obtain rfl := Option.some.inj H
    go_wp2
    go_ret
    exact ⟨rr_, lb1_ HB.out GE147.out⟩
   ·
    replace c25 := Bool.eq_false_iff.mpr c25
    subst c25
    have H1 : (if 0 < (l0_1.length : Int) then (if rdOf false l0_1 0 = true then (if 0 ≤ a0_3 then (if a0_3 < (l0_1.length : Int) then (if rdOf false l0_1 a0_3 = true then ((spec_l25Out.f kj1 l0_0 l0_1 a0_3).bind fun t153 => (if t153 ≥ 0 then (some (decide (t153 ≤ a0_4))) else (some false))) else (some false)) else (none)) else (none)) else (some false)) else (none)) = some r := by rw [if_neg (show ¬ (false = true) by decide)] at H; exact H
    clear H
    have H := H1
    clear H1
    by_cases c26 : 0 < (l0_1.length : Int)
    ·
     rw [if_pos c26] at H
     have c26b0 : decide (0 < (l0_1.length : Int)) = true := decide_eq_true c26
     have c26b1 : decide (0 < l0_1.length) = true := decide_eq_true (by omega)
     clear c26
     obtain ⟨bq27, hbq27⟩ : ∃ b_ : Bool, b_ = (rdOf false l0_1 0) := ⟨_, rfl⟩
     replace H : (if bq27 = true then (if 0 ≤ a0_3 then (if a0_3 < (l0_1.length : Int) then (if rdOf false l0_1 a0_3 = true then ((spec_l25Out.f kj1 l0_0 l0_1 a0_3).bind fun t153 => (if t153 ≥ 0 then (some (decide (t153 ≤ a0_4))) else (some false))) else (some false)) else (none)) else (none)) else (some false)) = some r := by rw [← hbq27] at H; exact H
     have Nbq27 := Aside0.mk hbq27
     clear hbq27
     by_cases c28 : bq27 = true
     ·
      subst c28
      have H1 : (if 0 ≤ a0_3 then (if a0_3 < (l0_1.length : Int) then (if rdOf false l0_1 a0_3 = true then ((spec_l25Out.f kj1 l0_0 l0_1 a0_3).bind fun t153 => (if t153 ≥ 0 then (some (decide (t153 ≤ a0_4))) else (some false))) else (some false)) else (none)) else (none)) = some r := by rw [if_pos rfl] at H; exact H
      clear H
      have H := H1
      clear H1
      by_cases c29 : 0 ≤ a0_3
      ·
       rw [if_pos c29] at H
       have c29b0 : decide (0 ≤ a0_3) = true := decide_eq_true c29
       clear c29
       by_cases c30 : a0_3 < (l0_1.length : Int)
       ·
        rw [if_pos c30] at H
        have c30b0 : decide (a0_3 < (l0_1.length : Int)) = true := decide_eq_true c30; clear c30
        obtain ⟨bq31, hbq31⟩ : ∃ b_ : Bool, b_ = (rdOf false l0_1 a0_3) := ⟨_, rfl⟩
        replace H : (if bq31 = true then ((spec_l25Out.f kj1 l0_0 l0_1 a0_3).bind fun t153 => (if t153 ≥ 0 then (some (decide (t153 ≤ a0_4))) else (some false))) else (some false)) = some r := by rw [← hbq31] at H; exact H
        have Nbq31 := Aside0.mk hbq31; clear hbq31
        by_cases c32 : bq31 = true
        ·
         subst c32
         have H1 : ((spec_l25Out.f kj1 l0_0 l0_1 a0_3).bind fun t153 => (if t153 ≥ 0 then (some (decide (t153 ≤ a0_4))) else (some false))) = some r := by rw [if_pos rfl] at H; exact H
         clear H; have H := H1; clear H1; replace H := Option.bind_eq_some_iff.mp H; obtain ⟨t153, A330, H⟩ := H; replace H : (if t153 ≥ 0 then (some (decide (t153 ≤ a0_4))) else (some false)) = some r := H; have A33 := Aside0.mk A330; clear A330
         by_cases c34 : t153 ≥ 0
         ·
          rw [if_pos c34] at H
          have c34b0 : decide (0 ≤ t153) = true := decide_eq_true c34; clear c34; obtain rfl := Option.some.inj H; obtain ⟨hcz35_0, hcz35_1, hcz35_2, hcz35_3, hcz35_4⟩ := cz5_ BK147.out; obtain ⟨hfz35_0, hfz35_1, hfz35_2, hfz35_3, hfz35_4⟩ := fz5_ BK147.out
          have p151 : 0 ≤ (0 : Int) := (by omega)
          have q151 : 0 < (l0_1.length : Int) := dt_; obtain ⟨ad151, e151, hx151_0⟩ := Kd.at_bool HR0_1.out 0 p151 q151; (try rw [← Nbq27.out] at hx151_0); (try rw [← Nbq31.out] at hx151_0)
          cases e151
          have qi151 : (0 < l0_1.length) = True := eq_true (by omega); (try rw [show ((0 : Int)).toNat = 0 from rfl] at hx151_0); (try rw [Addr.add_zero'] at hx151_0); replace hx151_0 := bc_ HB.out hx151_0; replace p151 := eq_true p151; replace q151 := eq_true q151; have p152 : 0 ≤ (a0_3 : Int) := dt_; have q152 : a0_3 < (l0_1.length : Int) := dt_; obtain ⟨ad152, e152, hx152_0⟩ := Kd.at_bool HR0_1.out a0_3 p152 q152; (try rw [← Nbq27.out] at hx152_0); (try rw [← Nbq31.out] at hx152_0)
          obtain rfl : ad151 = ad152 := (by injection e152)
          replace hx152_0 := bc_ HB.out hx152_0; replace p152 := eq_true p152; replace q152 := eq_true q152
          go_wp2_with (first | ((with_reducible refine gate_callee (f := 88) rfl ?_); refine ga_ (some 52) Try.func88 #[.slice A0_0 l0_0.length c0_0, .slice (some ad151) l0_1.length c0_1, .int .i64 a0_3] ?_; (with_reducible refine (spec_l25Out.calls kj1 _ _ l0_0 _ _ l0_1 a0_3 t153 _ ?side1 ?side2 ?side3 ?side4 A33.out).mono ?_); (case side1 => exact kc_ (Kd.C_below HR0_0.out HB.out)); (case side2 => exact HC0_0.out); (case side3 => exact kc_ (Kd.C_below HR0_1.out HB.out)); (case side4 => exact HC0_1.out); rintro e w36 ⟨rfl, hb⟩; refine ⟨_, rfl, ?_⟩; replace BK147 := Aside0.mk (bb_ (bk_ BK147.out) hb); replace HB := Aside0.mk (below_step (lb1_ HB.out GE147.out) hb); (try clear hb); (try clear hb2); (try clear hk); (try clear hi); obtain ⟨hcz37_0, hcz37_1, hcz37_2, hcz37_3, hcz37_4⟩ := cz5_ BK147.out; obtain ⟨hfz37_0, hfz37_1, hfz37_2, hfz37_3, hfz37_4⟩ := fz5_ BK147.out))
          go_ret
          exact ⟨rr_, lb1_ HB.out GE147.out⟩
         ·
          rw [if_neg c34] at H
          have c34b0 : decide (0 ≤ t153) = false := decide_eq_false c34; clear c34; obtain rfl := Option.some.inj H; obtain ⟨hcz38_0, hcz38_1, hcz38_2, hcz38_3, hcz38_4⟩ := cz5_ BK147.out; obtain ⟨hfz38_0, hfz38_1, hfz38_2, hfz38_3, hfz38_4⟩ := fz5_ BK147.out
          have p151 : 0 ≤ (0 : Int) := (by omega)
          have q151 : 0 < (l0_1.length : Int) := dt_; obtain ⟨ad151, e151, hx151_0⟩ := Kd.at_bool HR0_1.out 0 p151 q151; (try rw [← Nbq27.out] at hx151_0); (try rw [← Nbq31.out] at hx151_0)
          cases e151
          have qi151 : (0 < l0_1.length) = True := eq_true (by omega); (try rw [show ((0 : Int)).toNat = 0 from rfl] at hx151_0); (try rw [Addr.add_zero'] at hx151_0); replace hx151_0 := bc_ HB.out hx151_0; replace p151 := eq_true p151; replace q151 := eq_true q151; have p152 : 0 ≤ (a0_3 : Int) := dt_; have q152 : a0_3 < (l0_1.length : Int) := dt_; obtain ⟨ad152, e152, hx152_0⟩ := Kd.at_bool HR0_1.out a0_3 p152 q152; (try rw [← Nbq27.out] at hx152_0); (try rw [← Nbq31.out] at hx152_0)
          obtain rfl : ad151 = ad152 := (by injection e152)
          replace hx152_0 := bc_ HB.out hx152_0; replace p152 := eq_true p152; replace q152 := eq_true q152
          go_wp2_with (first | ((with_reducible refine gate_callee (f := 88) rfl ?_); refine ga_ (some 52) Try.func88 #[.slice A0_0 l0_0.length c0_0, .slice (some ad151) l0_1.length c0_1, .int .i64 a0_3] ?_; (with_reducible refine (spec_l25Out.calls kj1 _ _ l0_0 _ _ l0_1 a0_3 t153 _ ?side1 ?side2 ?side3 ?side4 A33.out).mono ?_); (case side1 => exact kc_ (Kd.C_below HR0_0.out HB.out)); (case side2 => exact HC0_0.out); (case side3 => exact kc_ (Kd.C_below HR0_1.out HB.out)); (case side4 => exact HC0_1.out); rintro e w39 ⟨rfl, hb⟩; refine ⟨_, rfl, ?_⟩; replace BK147 := Aside0.mk (bb_ (bk_ BK147.out) hb); replace HB := Aside0.mk (below_step (lb1_ HB.out GE147.out) hb); (try clear hb); (try clear hb2); (try clear hk); (try clear hi)))
          go_ret
          exact ⟨rr_, lb1_ HB.out GE147.out⟩
        ·
         replace c32 := Bool.eq_false_iff.mpr c32; subst c32
         have H1 : (some false) = some r := by rw [if_neg (show ¬ (false = true) by decide)] at H; exact H
         clear H; have H := H1; clear H1; obtain rfl := Option.some.inj H; obtain ⟨hcz40_0, hcz40_1, hcz40_2, hcz40_3, hcz40_4⟩ := cz5_ BK147.out; obtain ⟨hfz40_0, hfz40_1, hfz40_2, hfz40_3, hfz40_4⟩ := fz5_ BK147.out
         have p151 : 0 ≤ (0 : Int) := (by omega)
         have q151 : 0 < (l0_1.length : Int) := dt_; obtain ⟨ad151, e151, hx151_0⟩ := Kd.at_bool HR0_1.out 0 p151 q151; (try rw [← Nbq27.out] at hx151_0); (try rw [← Nbq31.out] at hx151_0)
         cases e151
         have qi151 : (0 < l0_1.length) = True := eq_true (by omega); (try rw [show ((0 : Int)).toNat = 0 from rfl] at hx151_0); (try rw [Addr.add_zero'] at hx151_0); replace hx151_0 := bc_ HB.out hx151_0; replace p151 := eq_true p151; replace q151 := eq_true q151; have p152 : 0 ≤ (a0_3 : Int) := dt_; have q152 : a0_3 < (l0_1.length : Int) := dt_; obtain ⟨ad152, e152, hx152_0⟩ := Kd.at_bool HR0_1.out a0_3 p152 q152; (try rw [← Nbq27.out] at hx152_0); (try rw [← Nbq31.out] at hx152_0)
         obtain rfl : ad151 = ad152 := (by injection e152)
         replace hx152_0 := bc_ HB.out hx152_0; replace p152 := eq_true p152; replace q152 := eq_true q152
         go_wp2
         go_ret
         exact ⟨rr_, lb1_ HB.out GE147.out⟩
       ·
        rw [if_neg c30] at H
        exact absurd H (by simp)
      ·
       rw [if_neg c29] at H
       exact absurd H (by simp)
     ·
      replace c28 := Bool.eq_false_iff.mpr c28
      subst c28
      have H1 : (some false) = some r := by rw [if_neg (show ¬ (false = true) by decide)] at H; exact H
      clear H
      have H := H1
      clear H1
      obtain rfl := Option.some.inj H
      obtain ⟨hcz41_0, hcz41_1, hcz41_2, hcz41_3, hcz41_4⟩ := cz5_ BK147.out
      obtain ⟨hfz41_0, hfz41_1, hfz41_2, hfz41_3, hfz41_4⟩ := fz5_ BK147.out
      have p151 : 0 ≤ (0 : Int) := (by omega)
      have q151 : 0 < (l0_1.length : Int) := dt_
      obtain ⟨ad151, e151, hx151_0⟩ := Kd.at_bool HR0_1.out 0 p151 q151
      (try rw [← Nbq27.out] at hx151_0)
      cases e151
      have qi151 : (0 < l0_1.length) = True := eq_true (by omega)
      (try rw [show ((0 : Int)).toNat = 0 from rfl] at hx151_0)
      (try rw [Addr.add_zero'] at hx151_0)
      replace hx151_0 := bc_ HB.out hx151_0
      replace p151 := eq_true p151
      replace q151 := eq_true q151
      go_wp2
      go_ret
      exact ⟨rr_, lb1_ HB.out GE147.out⟩
    ·
     rw [if_neg c26] at H
     exact absurd H (by simp)
end Go.Proofs.Ythmjimboajmhmaa.Pr

