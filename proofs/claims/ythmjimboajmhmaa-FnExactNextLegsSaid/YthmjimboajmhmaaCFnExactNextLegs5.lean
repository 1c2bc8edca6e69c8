/-
What is proved: parts of the law FnExactNextLegs: what the functions that it reaches compute, and the plain law.
Conditions: those of each theorem.
-/
import Derived.Test.YthmjimboajmhmaaCFnExactNextLegs4
set_option maxHeartbeats 8000000
set_option maxRecDepth 100000
namespace Go.Proofs.Ythmjimboajmhmaa.Pr
open Go.RowKit Go.Proofs.YthmjimboajmhmaaW.PrintWords Go.Proofs.YthmjimboajmhmaaW.PrintLast Go.Proofs.YthmjimboajmhmaaW.PrintMore
attribute [local go_sem] max2_int min2_int max_two min_two max_three min_three max_four min_four   -- for this text's walks alone
set_option linter.unusedVariables false
set_option linter.unusedSimpArgs false
def impl_IsLeg.f (a0_0 : Int) (a0_1 : Int) (a0_2 : Int) (a0_3 : Int) (a0_4 : Int) : Option (Bool) := (impl_isStation.f a0_0).bind fun t189 => (if t189 = true then ((impl_isStation.f a0_1).bind fun t190 => (if t190 = true then (if a0_0 = a0_1 then (some false) else ((impl_within.f a0_2 1 500).bind fun t191 => (if t191 = true then ((impl_isBearing.f a0_3).bind fun t192 => (if t192 = true then ((impl_within.f a0_4 (-90) 90).bind fun t193 => (some t193)) else (some false))) else (some false)))) else (some false))) else (some false))
theorem impl_IsLeg.calls (a0_0 : Int) (a0_1 : Int) (a0_2 : Int) (a0_3 : Int) (a0_4 : Int) (r : Bool) (w : World) (h : impl_IsLeg.f a0_0 a0_1 a0_2 a0_3 a0_4 = some r) :
  Calls Try.prog 102 #[.agg #[.int .i64 a0_0, .int .i64 a0_1, .int .i64 a0_2, .int .i64 a0_3, .int .i64 a0_4]] w fun e w' => e = .returned (.bool r) ∧ Below w.heap.size w w' := by
 have hu37 := Try.underlying37
 have HB := Aside0.mk (Below.refl w.heap.size w)
 have H : ((impl_isStation.f a0_0).bind fun t189 => (if t189 = true then ((impl_isStation.f a0_1).bind fun t190 => (if t190 = true then (if a0_0 = a0_1 then (some false) else ((impl_within.f a0_2 1 500).bind fun t191 => (if t191 = true then ((impl_isBearing.f a0_3).bind fun t192 => (if t192 = true then ((impl_within.f a0_4 (-90) 90).bind fun t193 => (some t193)) else (some false))) else (some false)))) else (some false))) else (some false))) = some r := h
 clear h
 replace H := Option.bind_eq_some_iff.mp H
 obtain ⟨t189, A20, H⟩ := H
 replace H : (if t189 = true then ((impl_isStation.f a0_1).bind fun t190 => (if t190 = true then (if a0_0 = a0_1 then (some false) else ((impl_within.f a0_2 1 500).bind fun t191 => (if t191 = true then ((impl_isBearing.f a0_3).bind fun t192 => (if t192 = true then ((impl_within.f a0_4 (-90) 90).bind fun t193 => (some t193)) else (some false))) else (some false)))) else (some false))) else (some false)) = some r := H
 have A2 := Aside0.mk A20
 clear A20
 by_cases c3 : t189 = true
 ·
  subst c3
  have H1 : ((impl_isStation.f a0_1).bind fun t190 => (if t190 = true then (if a0_0 = a0_1 then (some false) else ((impl_within.f a0_2 1 500).bind fun t191 => (if t191 = true then ((impl_isBearing.f a0_3).bind fun t192 => (if t192 = true then ((impl_within.f a0_4 (-90) 90).bind fun t193 => (some t193)) else (some false))) else (some false)))) else (some false))) = some r := by rw [if_pos rfl] at H; exact H
  clear H
  have H := H1
  clear H1
  replace H := Option.bind_eq_some_iff.mp H
  obtain ⟨t190, A40, H⟩ := H
  replace H : (if t190 = true then (if a0_0 = a0_1 then (some false) else ((impl_within.f a0_2 1 500).bind fun t191 => (if t191 = true then ((impl_isBearing.f a0_3).bind fun t192 => (if t192 = true then ((impl_within.f a0_4 (-90) 90).bind fun t193 => (some t193)) else (some false))) else (some false)))) else (some false)) = some r := H
  have A4 := Aside0.mk A40
  clear A40
  by_cases c5 : t190 = true
  ·
   subst c5
   have H1 : (if a0_0 = a0_1 then (some false) else ((impl_within.f a0_2 1 500).bind fun t191 => (if t191 = true then ((impl_isBearing.f a0_3).bind fun t192 => (if t192 = true then ((impl_within.f a0_4 (-90) 90).bind fun t193 => (some t193)) else (some false))) else (some false)))) = some r := by rw [if_pos rfl] at H; exact H
   clear H
   have H := H1
   clear H1
   by_cases c6 : a0_0 = a0_1
   ·
    rw [if_pos c6] at H
    have c6b0 : (a0_0 == a0_1) = true := beq_iff_eq.mpr c6
    have c6b1 : (a0_0 != a0_1) = false := bne_eq_false_iff_eq.mpr c6
    clear c6
    obtain rfl := Option.some.inj H
    go_enter Try.func102, Try.ntmps102
    go_wp2_with (first | ((with_reducible refine gate_dst (N := 1) rfl ?_); refine box_event ?hg (N := 1) ?hd (cs := #[.int .i64 a0_0, .int .i64 a0_1, .int .i64 a0_2, .int .i64 a0_3, .int .i64 a0_4]) (t := 37) ?hr ?_; (case hd => rfl); (case hg => rfl); (case hr => first | (go_simp; done) | (go_simp; rfl)); intro gb188 hg w7 hbox hb; have BK188 := Aside0.mk (hbox); have GW188 := Aside0.mk ((bz_ hg (lb0_ HB.out))); have GE188 := Aside0.mk ((bz_ hg (lb0_ HB.out))); replace HB := Aside0.mk (below_step (lb0_ HB.out) hb); clear hb hbox hg; obtain ⟨hcz8_0, hcz8_1, hcz8_2, hcz8_3, hcz8_4⟩ := cz5_ BK188.out; obtain ⟨hfz8_0, hfz8_1, hfz8_2, hfz8_3, hfz8_4⟩ := fz5_ BK188.out) | ((with_reducible refine gate_callee (f := 70) rfl ?_); refine ga_ (some 5) Try.func70 #[.int .i64 a0_0] ?_; (with_reducible refine (impl_isStation.calls a0_0 true _ A2.out).mono ?_); rintro e w' ⟨rfl, ⟨nd, rfl⟩⟩; refine ⟨_, rfl, ?_⟩) | (go_at_call 70; (with_reducible refine (impl_isStation.calls a0_1 true _ A4.out).mono ?_); rintro e w' ⟨rfl, ⟨nd, rfl⟩⟩))
    go_ret
    exact ⟨rr_, lb1_ HB.out GE188.out⟩
   ·
    rw [if_neg c6] at H
    have c6b0 : (a0_0 == a0_1) = false := beq_eq_false_iff_ne.mpr c6
    have c6b1 : (a0_0 != a0_1) = true := bne_iff_ne.mpr c6
    replace H := Option.bind_eq_some_iff.mp H
    obtain ⟨t191, A90, H⟩ := H
    replace H : (if t191 = true then ((impl_isBearing.f a0_3).bind fun t192 => (if t192 = true then ((impl_within.f a0_4 (-90) 90).bind fun t193 => (some t193)) else (some false))) else (some false)) = some r := H
    have A9 := Aside0.mk A90
    clear A90
    by_cases c10 : t191 = true
    ·
     subst c10
     have H1 : ((impl_isBearing.f a0_3).bind fun t192 => (if t192 = true then ((impl_within.f a0_4 (-90) 90).bind fun t193 => (some t193)) else (some false))) = some r := by rw [if_pos rfl] at H; exact H
     clear H
     have H := H1
     clear H1
     replace H := Option.bind_eq_some_iff.mp H
     obtain ⟨t192, A110, H⟩ := H
     replace H : (if t192 = true then ((impl_within.f a0_4 (-90) 90).bind fun t193 => (some t193)) else (some false)) = some r := H
     have A11 := Aside0.mk A110
     clear A110
     by_cases c12 : t192 = true
     ·
      subst c12
      have H1 : ((impl_within.f a0_4 (-90) 90).bind fun t193 => (some t193)) = some r := by rw [if_pos rfl] at H; exact H
      clear H
      have H := H1
      clear H1
      replace H := Option.bind_eq_some_iff.mp H
      obtain ⟨t193, A130, H⟩ := H
      replace H : (some t193) = some r := H
      have A13 := Aside0.mk A130
      clear A130
      obtain rfl := Option.some.inj H
      go_enter Try.func102, Try.ntmps102
      go_wp2_with (first | ((with_reducible refine gate_dst (N := 1) rfl ?_); refine box_event ?hg (N := 1) ?hd (cs := #[.int .i64 a0_0, .int .i64 a0_1, .int .i64 a0_2, .int .i64 a0_3, .int .i64 a0_4]) (t := 37) ?hr ?_; (case hd => rfl); (case hg => rfl); (case hr => first | (go_simp; done) | (go_simp; rfl)); intro gb188 hg w14 hbox hb; have BK188 := Aside0.mk (hbox); have GW188 := Aside0.mk ((bz_ hg (lb0_ HB.out))); have GE188 := Aside0.mk ((bz_ hg (lb0_ HB.out))); replace HB := Aside0.mk (below_step (lb0_ HB.out) hb); clear hb hbox hg; obtain ⟨hcz15_0, hcz15_1, hcz15_2, hcz15_3, hcz15_4⟩ := cz5_ BK188.out; obtain ⟨hfz15_0, hfz15_1, hfz15_2, hfz15_3, hfz15_4⟩ := fz5_ BK188.out) | ((with_reducible refine gate_callee (f := 70) rfl ?_); refine ga_ (some 5) Try.func70 #[.int .i64 a0_0] ?_; (with_reducible refine (impl_isStation.calls a0_0 true _ A2.out).mono ?_); rintro e w' ⟨rfl, ⟨nd, rfl⟩⟩; refine ⟨_, rfl, ?_⟩) | (go_at_call 70; (with_reducible refine (impl_isStation.calls a0_1 true _ A4.out).mono ?_); rintro e w' ⟨rfl, ⟨nd, rfl⟩⟩) | (go_at_call 71; (with_reducible refine (impl_within.calls a0_2 1 500 true _ A9.out).mono ?_); rintro e w' ⟨rfl, ⟨nd, rfl⟩⟩) | (go_at_call 117; (with_reducible refine (impl_isBearing.calls a0_3 true _ A11.out).mono ?_); rintro e w' ⟨rfl, ⟨nd, rfl⟩⟩) | (go_at_call 71; (with_reducible refine (impl_within.calls a0_4 (-90) 90 t193 _ A13.out).mono ?_); rintro e w' ⟨rfl, ⟨nd, rfl⟩⟩))
      go_ret
      exact ⟨rr_, lb1_ HB.out GE188.out⟩
     ·
      replace c12 := Bool.eq_false_iff.mpr c12
      subst c12
      have H1 : (some false) = some r := by rw [if_neg (show ¬ (false = true) by decide)] at H; exact H
      clear H
      have H := H1
      clear H1
      obtain rfl := Option.some.inj H
      go_enter Try.func102, Try.ntmps102
      go_wp2_with (first | ((with_reducible refine gate_dst (N := 1) rfl ?_); refine box_event ?hg (N := 1) ?hd (cs := #[.int .i64 a0_0, .int .i64 a0_1, .int .i64 a0_2, .int .i64 a0_3, .int .i64 a0_4]) (t := 37) ?hr ?_; (case hd => rfl); (case hg => rfl); (case hr => first | (go_simp; done) | (go_simp; rfl)); intro gb188 hg w16 hbox hb; have BK188 := Aside0.mk (hbox); have GW188 := Aside0.mk ((bz_ hg (lb0_ HB.out))); have GE188 := Aside0.mk ((bz_ hg (lb0_ HB.out))); replace HB := Aside0.mk (below_step (lb0_ HB.out) hb); clear hb hbox hg; obtain ⟨hcz17_0, hcz17_1, hcz17_2, hcz17_3, hcz17_4⟩ := cz5_ BK188.out; obtain ⟨hfz17_0, hfz17_1, hfz17_2, hfz17_3, hfz17_4⟩ := fz5_ BK188.out) | ((with_reducible refine gate_callee (f := 70) rfl ?_); refine ga_ (some 5) Try.func70 #[.int .i64 a0_0] ?_; (with_reducible refine (impl_isStation.calls a0_0 true _ A2.out).mono ?_); rintro e w' ⟨rfl, ⟨nd, rfl⟩⟩; refine ⟨_, rfl, ?_⟩) | (go_at_call 70; (with_reducible refine (impl_isStation.calls a0_1 true _ A4.out).mono ?_); rintro e w' ⟨rfl, ⟨nd, rfl⟩⟩) | (go_at_call 71; (with_reducible refine (impl_within.calls a0_2 1 500 true _ A9.out).mono ?_); rintro e w' ⟨rfl, ⟨nd, rfl⟩⟩) | (go_at_call 117; (with_reducible refine (impl_isBearing.calls a0_3 false _ A11.out).mono ?_); rintro e w' ⟨rfl, ⟨nd, rfl⟩⟩))
      go_ret
      exact ⟨rr_, lb1_ HB.out GE188.out⟩
    ·
     replace c10 := Bool.eq_false_iff.mpr c10
     subst c10
     have H1 : (some false) = some r := by rw [if_neg (show ¬ (false = true) by decide)] at H; exact H
     clear H
     have H := H1
     clear H1
     obtain rfl := Option.some.inj H
     go_enter Try.func102, Try.ntmps102
     go_wp2_with (first | ((with_reducible refine gate_dst (N := 1) rfl ?_); refine box_event ?hg (N := 1) ?hd (cs := #[.int .i64 a0_0, .int .i64 a0_1, .int .i64 a0_2, .int .i64 a0_3, .int .i64 a0_4]) (t := 37) ?hr ?_; (case hd => rfl); (case hg => rfl); (case hr => first | (go_simp; done) | (go_simp; rfl)); intro gb188 hg w18 hbox hb; have BK188 := Aside0.mk (hbox); have GW188 := Aside0.mk ((bz_ hg (lb0_ HB.out))); have GE188 := Aside0.mk ((bz_ hg (lb0_ HB.out))); replace HB := Aside0.mk (below_step (lb0_ HB.out) hb); clear hb hbox hg; obtain ⟨hcz19_0, hcz19_1, hcz19_2, hcz19_3, hcz19_4⟩ := cz5_ BK188.out; obtain ⟨hfz19_0, hfz19_1, hfz19_2, hfz19_3, hfz19_4⟩ := fz5_ BK188.out) | ((with_reducible refine gate_callee (f := 70) rfl ?_); refine ga_ (some 5) Try.func70 #[.int .i64 a0_0] ?_; (with_reducible refine (impl_isStation.calls a0_0 true _ A2.out).mono ?_); rintro e w' ⟨rfl, ⟨nd, rfl⟩⟩; refine ⟨_, rfl, ?_⟩) | (go_at_call 70; (with_reducible refine (impl_isStation.calls a0_1 true _ A4.out).mono ?_); rintro e w' ⟨rfl, ⟨nd, rfl⟩⟩) | (go_at_call 71; (with_reducible refine (impl_within.calls a0_2 1 500 false _ A9.out).mono ?_); rintro e w' ⟨rfl, ⟨nd, rfl⟩⟩))
     go_ret
     exact ⟨rr_, lb1_ HB.out GE188.out⟩
  ·
   replace c5 := Bool.eq_false_iff.mpr c5
   subst c5
   have H1 : (some false) = some r := by rw [if_neg (show ¬ (false = true) by decide)] at H; exact H
   clear H
   have H := H1
   clear H1
   obtain rfl := Option.some.inj H
   go_enter Try.func102, Try.ntmps102
   go_wp2_with (first | ((with_reducible refine gate_dst (N := 1) rfl ?_); refine box_event ?hg (N := 1) ?hd (cs := #[.int .i64 a0_0, .int .i64 a0_1, .int .i64 a0_2, .int .i64 a0_3, .int .i64 a0_4]) (t := 37) ?hr ?_; (case hd => rfl); (case hg => rfl); (case hr => first | (go_simp; done) | (go_simp; rfl)); intro gb188 hg w20 hbox hb; have BK188 := Aside0.mk (hbox); have GW188 := Aside0.mk ((bz_ hg (lb0_ HB.out))); have GE188 := Aside0.mk ((bz_ hg (lb0_ HB.out))); replace HB := Aside0.mk (below_step (lb0_ HB.out) hb); clear hb hbox hg; obtain ⟨hcz21_0, hcz21_1, hcz21_2, hcz21_3, hcz21_4⟩ := cz5_ BK188.out; obtain ⟨hfz21_0, hfz21_1, hfz21_2, hfz21_3, hfz21_4⟩ := fz5_ BK188.out) | ((with_reducible refine gate_callee (f := 70) rfl ?_); refine ga_ (some 5) Try.func70 #[.int .i64 a0_0] ?_; (with_reducible refine (impl_isStation.calls a0_0 true _ A2.out).mono ?_); rintro e w' ⟨rfl, ⟨nd, rfl⟩⟩; refine ⟨_, rfl, ?_⟩) | (go_at_call 70; (with_reducible refine (impl_isStation.calls a0_1 false _ A4.out).mono ?_); rintro e w' ⟨rfl, ⟨nd, rfl⟩⟩))
   go_ret
   exact ⟨rr_, lb1_ HB.out GE188.out⟩
 ·
  replace c3 := Bool.eq_false_iff.mpr c3
  subst c3
  have H1 : (some false) = some r := by rw [if_neg (show ¬ (false = true) by decide)] at H; exact H
  clear H
  have H := H1
  clear H1
  obtain rfl := Option.some.inj H
  go_enter Try.func102, Try.ntmps102
  go_wp2_with (first | ((with_reducible refine gate_dst (N := 1) rfl ?_); refine box_event ?hg (N := 1) ?hd (cs := #[.int .i64 a0_0, .int .i64 a0_1, .int .i64 a0_2, .int .i64 a0_3, .int .i64 a0_4]) (t := 37) ?hr ?_; (case hd => rfl); (case hg => rfl); (case hr => first | (go_simp; done) | (go_simp; rfl)); intro gb188 hg w22 hbox hb; have BK188 := Aside0.mk (hbox); have GW188 := Aside0.mk ((bz_ hg (lb0_ HB.out))); have GE188 := Aside0.mk ((bz_ hg (lb0_ HB.out))); replace HB := Aside0.mk (below_step (lb0_ HB.out) hb); clear hb hbox hg; obtain ⟨hcz23_0, hcz23_1, hcz23_2, hcz23_3, hcz23_4⟩ := cz5_ BK188.out; obtain ⟨hfz23_0, hfz23_1, hfz23_2, hfz23_3, hfz23_4⟩ := fz5_ BK188.out) | ((with_reducible refine gate_callee (f := 70) rfl ?_); refine ga_ (some 5) Try.func70 #[.int .i64 a0_0] ?_; (with_reducible refine (impl_isStation.calls a0_0 false _ A2.out).mono ?_); rintro e w' ⟨rfl, ⟨nd, rfl⟩⟩; refine ⟨_, rfl, ?_⟩))
  go_ret
  exact ⟨rr_, lb1_ HB.out GE188.out⟩
def impl_areLegs.l0 : Nat → List (S37) → List (S37) → Int → Int → Option (Bool)
 | 0, _, _, _, _ => none
 | k + 1, x0, x5, x6, x7 => if x7 < x6 then (if 0 ≤ x7 then (if x7 < (x5.length : Int) then ((impl_IsLeg.f ((rd_T37 x5 x7).f0) ((rd_T37 x5 x7).f1) ((rd_T37 x5 x7).f2) ((rd_T37 x5 x7).f3) ((rd_T37 x5 x7).f4)).bind fun t196 => (if t196 = true then (impl_areLegs.l0 k x0 x5 x6 (wrap64 (x7 + 1))) else (some false))) else (none)) else (none)) else (some (decide ((x0.length : Int) ≤ 12)))
def impl_areLegs.f (k : Nat) (l0 : List (S37)) : Option (Bool) := impl_areLegs.l0 k l0 l0 (l0.length : Int) 0
theorem impl_areLegs.mono_l : ∀ k, (∀ y0 y1 y2 y3, LeO (impl_areLegs.l0 k y0 y1 y2 y3) (impl_areLegs.l0 (k + 1) y0 y1 y2 y3))
 | 0 => fun _ _ _ _ r h => by simp [impl_areLegs.l0] at h
 | k + 1 => by
  have ih0 := impl_areLegs.mono_l k
  ·
   intro y0 y1 y2 y3
   unfold impl_areLegs.l0
   repeat' first
   | (with_reducible exact ih0 _ _ _ _)
   | (with_reducible exact LeO.refl _)
   | (with_reducible exact LeO.none _)
   | (with_reducible refine LeO.ite ?_ ?_)
   | (with_reducible refine LeO.bind ?_ (fun _ => ?_))
   | exact ih0 _ _ _ _
   | exact LeO.none _
   | refine LeO.ite ?_ ?_
   | refine LeO.bind ?_ (fun _ => ?_)
theorem impl_areLegs.mono : ∀ a0 k, LeO (impl_areLegs.f k a0) (impl_areLegs.f (k + 1) a0) := by
 intro a0 k
 have ih0 := impl_areLegs.mono_l k
 unfold impl_areLegs.f
 repeat' first
   | (with_reducible exact ih0 _ _ _ _)
   | (with_reducible exact LeO.refl _)
   | (with_reducible exact LeO.none _)
   | (with_reducible refine LeO.ite ?_ ?_)
   | (with_reducible refine LeO.bind ?_ (fun _ => ?_))
   | exact ih0 _ _ _ _
   | exact LeO.none _
   | refine LeO.ite ?_ ?_
   | refine LeO.bind ?_ (fun _ => ?_)
theorem impl_areLegs.calls (k : Nat) (A0 : Option Addr) (c0 : Nat) (l0 : List (S37)) (r : Bool) (w : World) (hr0 : Kd.C k37 w A0 l0.length l0) (hc0 : l0.length ≤ c0) (h : impl_areLegs.f k l0 = some r) :
  Calls Try.prog 69 #[.slice A0 l0.length c0] w fun e w' => e = .returned (.bool r) ∧ Below w.heap.size w w' := by
 have hu37 := Try.underlying37
 have HR0 := Aside0.mk hr0
 have HC0 := Aside0.mk hc0
 clear hr0 hc0
 have HB := Aside0.mk (Below.refl w.heap.size w)
 have H : (impl_areLegs.l0 k l0 l0 (l0.length : Int) 0) = some r := h
 clear h
 have H' := Aside0.mk H
 clear H
 go_enter Try.func69, Try.ntmps69
 go_wp2
 go_loopg [7] k (fun kq v7 w' => ∃ (x7_1 : Int), v7 = .int .i64 x7_1 ∧ Aside0 (impl_areLegs.l0 kq l0 l0 (l0.length : Int) x7_1 = some r) ∧ Aside0 (kq ≤ k) ∧ Aside0 (Below w.heap.size w w'))
 case atStart => exact ⟨(0), (by first | rfl | (simp; done) | (simp [*]; done)), H', ⟨Nat.le_refl _⟩, ⟨lb0_ HB.out⟩⟩
 case round =>
  clear H'
  obtain ⟨x7_1, rfl, HA, HK1, HB⟩ := hrel
  cases gk with
  | zero => exact absurd HA.out (by simp [impl_areLegs.l0])
  | succ k1 =>
   have H := HA.out
   clear HA
   simp only [impl_areLegs.l0] at H
   by_cases c2 : x7_1 < (l0.length : Int)
   ·
    rw [if_pos c2] at H
    have c2b0 : decide (x7_1 < (l0.length : Int)) = true := decide_eq_true c2
    clear c2
    by_cases c3 : 0 ≤ x7_1
    ·
     rw [if_pos c3] at H
     have c3b0 : decide (0 ≤ x7_1) = true := decide_eq_true c3
     clear c3
     by_cases c4 : x7_1 < (l0.length : Int)
     ·
      rw [if_pos c4] at H
      have c4b0 : decide (x7_1 < (l0.length : Int)) = true := decide_eq_true c4
      clear c4
      replace H := Option.bind_eq_some_iff.mp H
      obtain ⟨t196, A50, H⟩ := H
      replace H : (if t196 = true then (impl_areLegs.l0 k1 l0 l0 (l0.length : Int) (wrap64 (x7_1 + 1))) else (some false)) = some r := H
      have A5 := Aside0.mk A50
      clear A50
      by_cases c6 : t196 = true
      ·
       subst c6
       have H1 : (impl_areLegs.l0 k1 l0 l0 (l0.length : Int) (wrap64 (x7_1 + 1))) = some r := by rw [if_pos rfl] at H; exact H
       clear H
       have H := H1
       clear H1
       have H' := Aside0.mk H
       clear H
       have p194 : 0 ≤ (x7_1 : Int) := dt_
       have q194 : x7_1 < (l0.length : Int) := dt_
       obtain ⟨ad194, e194, hx194_0, hx194_1, hx194_2, hx194_3, hx194_4⟩ := at_T37 HR0.out x7_1 p194 q194
       cases e194
       replace hx194_0 := bc_ HB.out hx194_0
       replace hx194_1 := bc_ HB.out hx194_1
       replace hx194_2 := bc_ HB.out hx194_2
       replace hx194_3 := bc_ HB.out hx194_3
       replace hx194_4 := bc_ HB.out hx194_4
       replace p194 := eq_true p194
       replace q194 := eq_true q194
       go_wp2_with (first | ((with_reducible refine gate_dst (N := 4) rfl ?_); refine box_event ?hg (N := 4) ?hd (cs := #[.int .i64 0, .int .i64 0, .int .i64 0, .int .i64 0, .int .i64 0]) (t := 37) ?hr ?_; (case hd => rfl); (case hg => rfl); (case hr => first | (go_simp; done) | (go_simp; rfl)); intro gb195 hg w7 hbox hb; have BK195 := Aside0.mk (hbox); have GW195 := Aside0.mk ((bz_ hg (lb0_ HB.out))); have GE195 := Aside0.mk ((bz_ hg (lb0_ HB.out))); replace HB := Aside0.mk (below_step (lb0_ HB.out) hb); clear hb hbox hg; obtain ⟨hcz8_0, hcz8_1, hcz8_2, hcz8_3, hcz8_4⟩ := cz5_ BK195.out; obtain ⟨hfz8_0, hfz8_1, hfz8_2, hfz8_3, hfz8_4⟩ := fz5_ BK195.out) | ((with_reducible refine gate_callee (f := 102) rfl ?_); refine ga_ (some 12) Try.func102 #[.agg #[.int .i64 ((rd_T37 l0 x7_1).f0), .int .i64 ((rd_T37 l0 x7_1).f1), .int .i64 ((rd_T37 l0 x7_1).f2), .int .i64 ((rd_T37 l0 x7_1).f3), .int .i64 ((rd_T37 l0 x7_1).f4)]] ?_; (with_reducible refine (impl_IsLeg.calls ((rd_T37 l0 x7_1).f0) ((rd_T37 l0 x7_1).f1) ((rd_T37 l0 x7_1).f2) ((rd_T37 l0 x7_1).f3) ((rd_T37 l0 x7_1).f4) true _ A5.out).mono ?_); rintro e w9 ⟨rfl, hb⟩; refine ⟨_, rfl, ?_⟩; replace BK195 := Aside0.mk (blk_below (g := gb195) (o := .cells #[.int .i64 ((rd_T37 l0 x7_1).f0), .int .i64 ((rd_T37 l0 x7_1).f1), .int .i64 ((rd_T37 l0 x7_1).f2), .int .i64 ((rd_T37 l0 x7_1).f3), .int .i64 ((rd_T37 l0 x7_1).f4)] 37 (0, 0)) (by (with_reducible repeat (first | refine blk_drewN ?_ _ | refine blk_drew ?_ | refine blk_alloc ?_ _)); exact (p5_ BK195.out _ _ _ _ _)) hb); replace HB := Aside0.mk (below_step (lb1_ HB.out GE195.out) hb); (try clear hb); (try clear hb2); (try clear hk); (try clear hi)))
       go_roundg k1
       case measure => have := HK1.out; omega
       case rel => exact ⟨(wrap64 (x7_1 + 1)), (by first | rfl | (simp; done) | (simp [*]; done)), H', ⟨by have := HK1.out; omega⟩, ⟨lb1_ HB.out GE195.out⟩⟩
      ·
       replace c6 := Bool.eq_false_iff.mpr c6
       subst c6
       have H1 : (some false) = some r := by rw [if_neg (show ¬ (false = true) by decide)] at H; exact H
       clear H
       have H := H1
       clear H1
       obtain rfl := Option.some.inj H
       have p194 : 0 ≤ (x7_1 : Int) := dt_
       have q194 : x7_1 < (l0.length : Int) := dt_
       obtain ⟨ad194, e194, hx194_0, hx194_1, hx194_2, hx194_3, hx194_4⟩ := at_T37 HR0.out x7_1 p194 q194
       cases e194
       replace hx194_0 := bc_ HB.out hx194_0
       replace hx194_1 := bc_ HB.out hx194_1
       replace hx194_2 := bc_ HB.out hx194_2
       replace hx194_3 := bc_ HB.out hx194_3
       replace hx194_4 := bc_ HB.out hx194_4
       replace p194 := eq_true p194
       replace q194 := eq_true q194
       go_wp2_with (first | ((with_reducible refine gate_dst (N := 4) rfl ?_); refine box_event ?hg (N := 4) ?hd (cs := #[.int .i64 0, .int .i64 0, .int .i64 0, .int .i64 0, .int .i64 0]) (t := 37) ?hr ?_; (case hd => rfl); (case hg => rfl); (case hr => first | (go_simp; done) | (go_simp; rfl)); intro gb195 hg w10 hbox hb; have BK195 := Aside0.mk (hbox); have GW195 := Aside0.mk ((bz_ hg (lb0_ HB.out))); have GE195 := Aside0.mk ((bz_ hg (lb0_ HB.out))); replace HB := Aside0.mk (below_step (lb0_ HB.out) hb); clear hb hbox hg; obtain ⟨hcz11_0, hcz11_1, hcz11_2, hcz11_3, hcz11_4⟩ := cz5_ BK195.out; obtain ⟨hfz11_0, hfz11_1, hfz11_2, hfz11_3, hfz11_4⟩ := fz5_ BK195.out) | ((with_reducible refine gate_callee (f := 102) rfl ?_); refine ga_ (some 12) Try.func102 #[.agg #[.int .i64 ((rd_T37 l0 x7_1).f0), .int .i64 ((rd_T37 l0 x7_1).f1), .int .i64 ((rd_T37 l0 x7_1).f2), .int .i64 ((rd_T37 l0 x7_1).f3), .int .i64 ((rd_T37 l0 x7_1).f4)]] ?_; (with_reducible refine (impl_IsLeg.calls ((rd_T37 l0 x7_1).f0) ((rd_T37 l0 x7_1).f1) ((rd_T37 l0 x7_1).f2) ((rd_T37 l0 x7_1).f3) ((rd_T37 l0 x7_1).f4) false _ A5.out).mono ?_); rintro e w12 ⟨rfl, hb⟩; refine ⟨_, rfl, ?_⟩; replace BK195 := Aside0.mk (blk_below (g := gb195) (o := .cells #[.int .i64 ((rd_T37 l0 x7_1).f0), .int .i64 ((rd_T37 l0 x7_1).f1), .int .i64 ((rd_T37 l0 x7_1).f2), .int .i64 ((rd_T37 l0 x7_1).f3), .int .i64 ((rd_T37 l0 x7_1).f4)] 37 (0, 0)) (by (with_reducible repeat (first | refine blk_drewN ?_ _ | refine blk_drew ?_ | refine blk_alloc ?_ _)); exact (p5_ BK195.out _ _ _ _ _)) hb); replace HB := Aside0.mk (below_step (lb1_ HB.out GE195.out) hb); (try clear hb); (try clear hb2); (try clear hk); (try clear hi)))
       go_ret
       exact ⟨rr_, lb1_ HB.out GE195.out⟩
     ·
      rw [if_neg c4] at H
      exact absurd H (by simp)
    ·
     rw [if_neg c3] at H
     exact absurd H (by simp)
   ·
    rw [if_neg c2] at H
    have c2b0 : decide (x7_1 < (l0.length : Int)) = false := decide_eq_false c2
    clear c2
    obtain rfl := Option.some.inj H
    go_wp2
    go_ret
    exact ⟨rr_, lb0_ HB.out⟩
theorem heap_new_ (w : World) (cs : Array Value) (t : TypeId) : (w.alloc (.cells cs t)).heap[w.heap.size]? = some (.cells cs t (0, 0)) := by
 show (w.heap.push _)[w.heap.size]? = _
 simp
theorem heap_size_ (w : World) (o : Obj) : (w.alloc o).heap.size = w.heap.size + 1 := by
 show (w.heap.push o).size = _
 simp
def bits_Mul64.f (a0 : Int) (a1 : Int) : Option (Int × Int) := some (IntKind.u64.wrap ((IntKind.u64.wrap ((IntKind.u64.wrap ((a0 / 4294967296) * (a1 / 4294967296))) + ((IntKind.u64.wrap ((IntKind.u64.wrap ((a0 / 4294967296) * (Go.bits .and .u64 a1 4294967295))) + ((IntKind.u64.wrap ((Go.bits .and .u64 a0 4294967295) * (Go.bits .and .u64 a1 4294967295))) / 4294967296))) / 4294967296))) + ((IntKind.u64.wrap ((Go.bits .and .u64 (IntKind.u64.wrap ((IntKind.u64.wrap ((a0 / 4294967296) * (Go.bits .and .u64 a1 4294967295))) + ((IntKind.u64.wrap ((Go.bits .and .u64 a0 4294967295) * (Go.bits .and .u64 a1 4294967295))) / 4294967296))) 4294967295) + (IntKind.u64.wrap ((Go.bits .and .u64 a0 4294967295) * (a1 / 4294967296))))) / 4294967296)), IntKind.u64.wrap (a0 * a1))
theorem bits_Mul64.calls (a0 : Int) (a1 : Int) (r1 : Int) (r2 : Int) (w : World) (h : bits_Mul64.f a0 a1 = some (r1, r2)) :
  Calls Try.prog 126 #[.int .u64 a0, .int .u64 a1] w fun e w' => e = .returned (.tuple #[.int .u64 r1, .int .u64 r2]) ∧ Drawn0 w w' := by
 have H : (some (IntKind.u64.wrap ((IntKind.u64.wrap ((IntKind.u64.wrap ((a0 / 4294967296) * (a1 / 4294967296))) + ((IntKind.u64.wrap ((IntKind.u64.wrap ((a0 / 4294967296) * (Go.bits .and .u64 a1 4294967295))) + ((IntKind.u64.wrap ((Go.bits .and .u64 a0 4294967295) * (Go.bits .and .u64 a1 4294967295))) / 4294967296))) / 4294967296))) + ((IntKind.u64.wrap ((Go.bits .and .u64 (IntKind.u64.wrap ((IntKind.u64.wrap ((a0 / 4294967296) * (Go.bits .and .u64 a1 4294967295))) + ((IntKind.u64.wrap ((Go.bits .and .u64 a0 4294967295) * (Go.bits .and .u64 a1 4294967295))) / 4294967296))) 4294967295) + (IntKind.u64.wrap ((Go.bits .and .u64 a0 4294967295) * (a1 / 4294967296))))) / 4294967296)), IntKind.u64.wrap (a0 * a1))) = some (r1, r2) := h
 clear h
 simp only [Option.some.injEq, Prod.mk.injEq] at H
 obtain ⟨rfl, rfl⟩ := H
 go_enter Try.func126, Try.ntmps126
 go_wp2
 go_ret2
 exact ⟨by first | rfl | (simp; done) | (simp [*]; done), by repeat (first | exact Drawn0.refl _ | apply Drawn0.step)⟩
def bits_Mul.f (a0 : Int) (a1 : Int) : Option (Int × Int) := (bits_Mul64.f a0 a1).bind fun bt197 => (some (bt197.1, bt197.2))
theorem bits_Mul.calls (a0 : Int) (a1 : Int) (r1 : Int) (r2 : Int) (w : World) (h : bits_Mul.f a0 a1 = some (r1, r2)) :
  Calls Try.prog 118 #[.int .u64 a0, .int .u64 a1] w fun e w' => e = .returned (.tuple #[.int .u64 r1, .int .u64 r2]) ∧ Drawn0 w w' := by
 have H : ((bits_Mul64.f a0 a1).bind fun bt197 => (some (bt197.1, bt197.2))) = some (r1, r2) := h
 clear h
 replace H := Option.bind_eq_some_iff.mp H
 obtain ⟨⟨t197, t198⟩, A30, H⟩ := H
 replace H : (some (t197, t198)) = some (r1, r2) := H
 have A3 := Aside0.mk A30
 clear A30
 simp only [Option.some.injEq, Prod.mk.injEq] at H
 obtain ⟨rfl, rfl⟩ := H
 go_enter Try.func118, Try.ntmps118
 go_wp2_with (first | ((with_reducible refine gate_callee (f := 126) rfl ?_); refine ga_ (some 25) Try.func126 #[.int .u64 a0, .int .u64 a1] ?_; (with_reducible refine (bits_Mul64.calls a0 a1 t197 t198 _ A3.out).mono ?_); rintro e w' ⟨rfl, ⟨nd, rfl⟩⟩; refine ⟨_, rfl, ?_⟩))
 go_ret2
 exact ⟨by first | rfl | (simp; done) | (simp [*]; done), by repeat (first | exact Drawn0.refl _ | apply Drawn0.step)⟩
def slices_Repeat_int_int.f (l0 : List Int) (a1 : Int) : Option (List Int) := if l0.length = 1 ∧ a1 = 8 then some (List.replicate 8 (rd l0 0)) else none
theorem made8 : madeCells (Value.int .i64 0).cells 8 = #[.int .i64 0, .int .i64 0, .int .i64 0, .int .i64 0, .int .i64 0, .int .i64 0, .int .i64 0, .int .i64 0] := by
 apply Array.ext
 ·
  simp [madeCells]
 ·
  intro i h1 h2
  match i, h2 with
  | 0, _ => simp [madeCells, Value.cells]
  | 1, _ => simp [madeCells, Value.cells]
  | 2, _ => simp [madeCells, Value.cells]
  | 3, _ => simp [madeCells, Value.cells]
  | 4, _ => simp [madeCells, Value.cells]
  | 5, _ => simp [madeCells, Value.cells]
  | 6, _ => simp [madeCells, Value.cells]
  | 7, _ => simp [madeCells, Value.cells]
  | n + 8, h => exact absurd h (by simp)
theorem cell_add0_ (W : World) (g j : Nat) : W.cell? ((⟨g, 0, none⟩ : Addr).add j) = W.cell? ⟨g, j, none⟩ := by
 unfold Addr.add
 split
 ·
  rename_i h
  rw [h]
 ·
  simp only [Nat.zero_add]
theorem mul_1_8 : bits_Mul.f 1 8 = some (0, 8) := by decide +kernel
theorem slices_Repeat_int_int.calls (A0 : Option Addr) (c0 : Nat) (l0 : List Int) (a1 : Int) (r : List Int) (w : World) (hr0 : Kd.C (Kd.int .i64) w A0 l0.length l0) (hc0 : l0.length ≤ c0) (h : slices_Repeat_int_int.f l0 a1 = some r) :
  Calls Try.prog 103 #[.slice A0 l0.length c0, .int .i64 a1] w fun e w' => ∃ v0_ : Value, e = .returned (v0_) ∧ Kd.R (Kd.int .i64) 3 w' w.heap.size (fun _ => True) v0_ r ∧ Below w.heap.size w w' := by
 unfold slices_Repeat_int_int.f at h
 by_cases hl : l0.length = 1 ∧ a1 = 8
 ·
  rw [if_pos hl] at h
  obtain rfl := Option.some.inj h
  obtain ⟨hl1, rfl⟩ := hl
  obtain ⟨ad, rfl, hx⟩ := Kd.at_int hr0 0 (by omega) (by omega)
  have HR := Aside0.mk hr0
  clear hr0
  rw [hl1] at hc0 ⊢
  have hm : ∀ W : World, Sem.run Try.prog (Instr.makeSlice 60 (.int .i64 8) (.int .i64 8)) W = .ok (.slice (some ⟨W.heap.size, 0, none⟩) 8 8) (W.alloc (.cells #[.int .i64 0, .int .i64 0, .int .i64 0, .int .i64 0, .int .i64 0, .int .i64 0, .int .i64 0, .int .i64 0] 3)) := fun W => by
   obtain ⟨i0, hi, hz0, hz1, hz2⟩ := info_parts info3
   have h := run_makeSlice (P := Try.prog) W 60 3 i0 (.int .i64 0) Try.underlying60 hi hz0 .i64 .i64 8 8 (by decide) (by decide) (by rw [hz1]; decide) (by rw [hz2]; decide) (by decide)
   rw [hz1] at h
   rw [h, show Int.toNat 8 * 1 = 8 from rfl, made8]
   rfl
  generalize rd l0 0 = x at hx ⊢
  have hsrc : Aside0 (∀ W : World, Below w.heap.size w W → ∀ (j : Nat) (v : Value), [Value.int .i64 x][j]? = some v → W.cell? (ad.add j) = some v) := ⟨fun W hb j v hj => by
   match j, hj with
   | 0, hj =>
    have : v = .int .i64 x := (by simpa using hj : Value.int .i64 x = v).symm
    subst this
    exact pw_cell_below hb hx⟩
  have hsz : Aside0 ((Try.prog.info? 3).map (·.size) = some 1) := ⟨by kernel_rfl⟩
  have hone : Aside0 (∀ v ∈ [Value.int .i64 x], v.oneCell' = true) := ⟨fun v hv => by rw [List.mem_singleton.1 hv]; rfl⟩
  go_enter Try.func103, Try.ntmps103
  go_wp2_with (first | (go_at_call 118; refine (bits_Mul.calls 1 8 0 8 _ mul_1_8).mono ?_; rintro e w1 ⟨rfl, ⟨n1, rfl⟩⟩) | (refine wpList_copy_splice rfl (.tmp 31) (.tmp 32) 60 60 rfl 3 Try.underlying60 hsz.out _ _ _ _ _ _ rfl rfl w.heap.size 0 [.int .i64 0, .int .i64 0, .int .i64 0, .int .i64 0, .int .i64 0, .int .i64 0, .int .i64 0, .int .i64 0] 3 (heap_new_ _ _ _) [.int .i64 x] rfl (fun _ => ⟨rfl, ad, rfl, hsrc.out _ (below_alloc (pw_below_drewN (Below.refl _ _) _) _)⟩) (by simp) hone.out w.heap.size w (below_alloc (pw_below_drewN (Below.refl _ _) _) _) (Nat.le_refl _) ?_; intro w2 hg2 hb2))
  have HG0 := Aside0.mk hg2
  have HB0 := Aside0.mk hb2
  clear hg2 hb2
  go_loopg [8] 3 (fun gg s8 wr => Aside0 (Below w.heap.size w wr) ∧ ((3 ≤ gg ∧ s8 = .int .i64 1 ∧ Aside0 (Hid (wr.heap[w.heap.size]? = some (.cells (List.toArray [.int .i64 x, .int .i64 0, .int .i64 0, .int .i64 0, .int .i64 0, .int .i64 0, .int .i64 0, .int .i64 0]) 3 (0, 0))))) ∨ (2 ≤ gg ∧ s8 = .int .i64 2 ∧ Aside0 (Hid (wr.heap[w.heap.size]? = some (.cells (List.toArray [.int .i64 x, .int .i64 x, .int .i64 0, .int .i64 0, .int .i64 0, .int .i64 0, .int .i64 0, .int .i64 0]) 3 (0, 0))))) ∨ (1 ≤ gg ∧ s8 = .int .i64 4 ∧ Aside0 (Hid (wr.heap[w.heap.size]? = some (.cells (List.toArray [.int .i64 x, .int .i64 x, .int .i64 x, .int .i64 x, .int .i64 0, .int .i64 0, .int .i64 0, .int .i64 0]) 3 (0, 0))))) ∨ (s8 = .int .i64 8 ∧ Aside0 (Hid (wr.heap[w.heap.size]? = some (.cells (List.toArray [.int .i64 x, .int .i64 x, .int .i64 x, .int .i64 x, .int .i64 x, .int .i64 x, .int .i64 x, .int .i64 x]) 3 (0, 0)))))))
  case atStart => exact ⟨HB0, .inl ⟨Nat.le_refl _, rfl, HG0⟩⟩
  case round =>
  obtain ⟨HB, ⟨hg, rfl, HG⟩ | ⟨hg, rfl, HG⟩ | ⟨hg, rfl, HG⟩ | ⟨rfl, HG⟩⟩ := hrel
  ·
   have hsrc1 : Aside0 (∀ W : World, Hid (W.heap[w.heap.size]? = some (.cells (List.toArray [.int .i64 x, .int .i64 0, .int .i64 0, .int .i64 0, .int .i64 0, .int .i64 0, .int .i64 0, .int .i64 0]) 3 (0, 0))) → ∀ (j : Nat) (v : Value), [Value.int .i64 x][j]? = some v → W.cell? ((⟨w.heap.size, 0, none⟩ : Addr).add j) = some v) := ⟨fun W hg j v hj => by
    have e := cell_of_row W w.heap.size (0 + j) _ 3 (0, 0) hg
    rw [Nat.zero_add] at e
    refine Eq.trans (cell_add0_ W w.heap.size j) (e.trans ?_)
    clear e hg
    have hl := (List.getElem?_eq_some_iff.1 hj).1
    match j, hl, hj with
    | 0, _, hj => exact hj
    | m + 1, hl, _ => exact absurd hl (by simp)⟩
   have hone1 : Aside0 (∀ v ∈ [Value.int .i64 x], v.oneCell' = true) := ⟨fun v hv => by simp at hv; rw [hv]; rfl⟩
   go_wp2_with fail
   go_region_held3 (fun W => True) (exact trivial) ((first | (refine step_copy_splice rfl (.tmp 41) (.tmp 44) 60 60 rfl 3 Try.underlying60 hsz.out _ _ _ _ _ _ rfl rfl w.heap.size 1 [.int .i64 x, .int .i64 0, .int .i64 0, .int .i64 0, .int .i64 0, .int .i64 0, .int .i64 0, .int .i64 0] 3 HG.out [Value.int .i64 x] rfl (fun _ => ⟨rfl, _, rfl, hsrc1.out _ HG.out⟩) (by simp) hone1.out w.heap.size w (below_drew HB.out) (Nat.le_refl _) ?_; intro w3 hg3 hb3) | fail))
   all_goals go_wp2_with fail
   go_roundg 2
   case measure => omega
   case rel => exact ⟨⟨hb3⟩, .inr (.inl ⟨by omega, by rfl, ⟨hg3⟩⟩)⟩
  ·
   have hsrc2 : Aside0 (∀ W : World, Hid (W.heap[w.heap.size]? = some (.cells (List.toArray [.int .i64 x, .int .i64 x, .int .i64 0, .int .i64 0, .int .i64 0, .int .i64 0, .int .i64 0, .int .i64 0]) 3 (0, 0))) → ∀ (j : Nat) (v : Value), [Value.int .i64 x, Value.int .i64 x][j]? = some v → W.cell? ((⟨w.heap.size, 0, none⟩ : Addr).add j) = some v) := ⟨fun W hg j v hj => by
    have e := cell_of_row W w.heap.size (0 + j) _ 3 (0, 0) hg
    rw [Nat.zero_add] at e
    refine Eq.trans (cell_add0_ W w.heap.size j) (e.trans ?_)
    clear e hg
    have hl := (List.getElem?_eq_some_iff.1 hj).1
    match j, hl, hj with
    | 0, _, hj => exact hj
    | 1, _, hj => exact hj
    | m + 2, hl, _ => exact absurd hl (by simp)⟩
   have hone2 : Aside0 (∀ v ∈ [Value.int .i64 x, Value.int .i64 x], v.oneCell' = true) := ⟨fun v hv => by simp at hv; rw [hv]; rfl⟩
   go_wp2_with fail
   go_region_held3 (fun W => True) (exact trivial) ((first | (refine step_copy_splice rfl (.tmp 41) (.tmp 44) 60 60 rfl 3 Try.underlying60 hsz.out _ _ _ _ _ _ rfl rfl w.heap.size 2 [.int .i64 x, .int .i64 x, .int .i64 0, .int .i64 0, .int .i64 0, .int .i64 0, .int .i64 0, .int .i64 0] 3 HG.out [Value.int .i64 x, Value.int .i64 x] rfl (fun _ => ⟨rfl, _, rfl, hsrc2.out _ HG.out⟩) (by simp) hone2.out w.heap.size w (below_drew HB.out) (Nat.le_refl _) ?_; intro w3 hg3 hb3) | fail))
   all_goals go_wp2_with fail
   go_roundg 1
   case measure => omega
   case rel => exact ⟨⟨hb3⟩, .inr (.inr (.inl ⟨by omega, by rfl, ⟨hg3⟩⟩))⟩
  ·
   have hsrc4 : Aside0 (∀ W : World, Hid (W.heap[w.heap.size]? = some (.cells (List.toArray [.int .i64 x, .int .i64 x, .int .i64 x, .int .i64 x, .int .i64 0, .int .i64 0, .int .i64 0, .int .i64 0]) 3 (0, 0))) → ∀ (j : Nat) (v : Value), [Value.int .i64 x, Value.int .i64 x, Value.int .i64 x, Value.int .i64 x][j]? = some v → W.cell? ((⟨w.heap.size, 0, none⟩ : Addr).add j) = some v) := ⟨fun W hg j v hj => by
    have e := cell_of_row W w.heap.size (0 + j) _ 3 (0, 0) hg
    rw [Nat.zero_add] at e
    refine Eq.trans (cell_add0_ W w.heap.size j) (e.trans ?_)
    clear e hg
    have hl := (List.getElem?_eq_some_iff.1 hj).1
    match j, hl, hj with
    | 0, _, hj => exact hj
    | 1, _, hj => exact hj
    | 2, _, hj => exact hj
    | 3, _, hj => exact hj
    | m + 4, hl, _ => exact absurd hl (by simp)⟩
   have hone4 : Aside0 (∀ v ∈ [Value.int .i64 x, Value.int .i64 x, Value.int .i64 x, Value.int .i64 x], v.oneCell' = true) := ⟨fun v hv => by simp at hv; rw [hv]; rfl⟩
   go_wp2_with fail
   go_region_held3 (fun W => True) (exact trivial) ((first | (refine step_copy_splice rfl (.tmp 41) (.tmp 44) 60 60 rfl 3 Try.underlying60 hsz.out _ _ _ _ _ _ rfl rfl w.heap.size 4 [.int .i64 x, .int .i64 x, .int .i64 x, .int .i64 x, .int .i64 0, .int .i64 0, .int .i64 0, .int .i64 0] 3 HG.out [Value.int .i64 x, Value.int .i64 x, Value.int .i64 x, Value.int .i64 x] rfl (fun _ => ⟨rfl, _, rfl, hsrc4.out _ HG.out⟩) (by simp) hone4.out w.heap.size w (below_drew HB.out) (Nat.le_refl _) ?_; intro w3 hg3 hb3) | fail))
   all_goals go_wp2_with fail
   go_roundg 0
   case measure => omega
   case rel => exact ⟨⟨hb3⟩, .inr (.inr (.inr ⟨by rfl, ⟨hg3⟩⟩))⟩
  ·
   go_wp2
   go_ret
   refine ⟨_, rfl, Kd.R_of_own ⟨rfl, .inr ⟨_, 8, _, rfl, Nat.le_refl _, HG.out, Nat.le_refl _, by decide, rfl, rfl⟩⟩ (fun _ _ => trivial), HB.out⟩
 ·
  rw [if_neg hl] at h
  cases h
mutual
def impl_Exploration_wayOut.l0 : Nat → List Int → Int → List (S37) → List Bool → List Bool → Int → Int → Option (Int × Bool)
 | 0, _, _, _, _, _, _, _ => none
 | k + 1, x4, x11, x200000, x200001, x200002, x200003, x200004 => if x11 < 8 then (impl_Exploration_wayOut.l1 k x4 x11 x200000 (x200000.length : Int) 0 x200000 x200001 x200002 x200003 x200004) else (if 0 ≤ x200003 then (if x200003 < (x4.length : Int) then (some (rd x4 x200003, decide ((rd x4 x200003) < 1073741824))) else (none)) else (none))
def impl_Exploration_wayOut.l1 : Nat → List Int → Int → List (S37) → Int → Int → List (S37) → List Bool → List Bool → Int → Int → Option (Int × Bool)
 | 0, _, _, _, _, _, _, _, _, _, _ => none
 | k + 1, x4, x11, x14, x15, x16, x200000, x200001, x200002, x200003, x200004 => if x16 < x15 then (if 0 ≤ x16 then (if x16 < (x14.length : Int) then (if 0 ≤ ((rd_T37 x14 x16).f0) then (if ((rd_T37 x14 x16).f0) < (x200001.length : Int) then (if rdOf false x200001 ((rd_T37 x14 x16).f0) = true then (if 0 ≤ ((rd_T37 x14 x16).f1) then (if ((rd_T37 x14 x16).f1) < (x200001.length : Int) then (if rdOf false x200001 ((rd_T37 x14 x16).f1) = true then (if ((rd_T37 x14 x16).f0) < (x4.length : Int) then (if ((rd_T37 x14 x16).f1) < (x4.length : Int) then ((some (x4.set (((rd_T37 x14 x16).f0) : Int).toNat (mn (rd x4 ((rd_T37 x14 x16).f0)) (wrap64 ((rd x4 ((rd_T37 x14 x16).f1)) + ((rd_T37 x14 x16).f2)))) : List Int)).bind fun y215 => (impl_Exploration_wayOut.l1 k (y215.set (((rd_T37 x14 x16).f1) : Int).toNat (mn (rd y215 ((rd_T37 x14 x16).f1)) (wrap64 ((rd y215 ((rd_T37 x14 x16).f0)) + ((rd_T37 x14 x16).f2))))) x11 x14 x15 (wrap64 (x16 + 1)) x200000 x200001 x200002 x200003 x200004)) else (none)) else (none)) else (impl_Exploration_wayOut.l1 k x4 x11 x14 x15 (wrap64 (x16 + 1)) x200000 x200001 x200002 x200003 x200004)) else (none)) else (none)) else (impl_Exploration_wayOut.l1 k x4 x11 x14 x15 (wrap64 (x16 + 1)) x200000 x200001 x200002 x200003 x200004)) else (none)) else (none)) else (none)) else (none)) else (impl_Exploration_wayOut.l0 k x4 (wrap64 (x11 + 1)) x200000 x200001 x200002 x200003 x200004)
end
def impl_Exploration_wayOut.f (k : Nat) (l0_0 : List (S37)) (l0_1 : List Bool) (l0_2 : List Bool) (a0_3 : Int) (a0_4 : Int) : Option (Int × Bool) := (slices_Repeat_int_int.f (([1073741824] : List Int)) 8).bind fun t203 => (if 0 < (t203.length : Int) then (impl_Exploration_wayOut.l0 k (t203.set (0 : Int).toNat 0) 0 l0_0 l0_1 l0_2 a0_3 a0_4) else (none))
theorem impl_Exploration_wayOut.mono_l : ∀ k, (∀ y0 y1 y2 y3 y4 y5 y6, LeO (impl_Exploration_wayOut.l0 k y0 y1 y2 y3 y4 y5 y6) (impl_Exploration_wayOut.l0 (k + 1) y0 y1 y2 y3 y4 y5 y6)) ∧ (∀ y0 y1 y2 y3 y4 y5 y6 y7 y8 y9, LeO (impl_Exploration_wayOut.l1 k y0 y1 y2 y3 y4 y5 y6 y7 y8 y9) (impl_Exploration_wayOut.l1 (k + 1) y0 y1 y2 y3 y4 y5 y6 y7 y8 y9))
 | 0 => ⟨fun _ _ _ _ _ _ _ r h => by simp [impl_Exploration_wayOut.l0] at h, fun _ _ _ _ _ _ _ _ _ _ r h => by simp [impl_Exploration_wayOut.l1] at h⟩
 | k + 1 => by
  obtain ⟨ih0, ih1⟩ := impl_Exploration_wayOut.mono_l k
  refine ⟨?_, ?_⟩
  ·
   intro y0 y1 y2 y3 y4 y5 y6
   unfold impl_Exploration_wayOut.l0
   repeat' first
   | (with_reducible exact ih0 _ _ _ _ _ _ _)
   | (with_reducible exact ih1 _ _ _ _ _ _ _ _ _ _)
   | (with_reducible exact LeO.refl _)
   | (with_reducible exact LeO.none _)
   | (with_reducible refine LeO.ite ?_ ?_)
   | (with_reducible refine LeO.bind ?_ (fun _ => ?_))
   | exact ih0 _ _ _ _ _ _ _
   | exact ih1 _ _ _ _ _ _ _ _ _ _
   | exact LeO.none _
   | refine LeO.ite ?_ ?_
   | refine LeO.bind ?_ (fun _ => ?_)
  ·
   intro y0 y1 y2 y3 y4 y5 y6 y7 y8 y9
   unfold impl_Exploration_wayOut.l1
   repeat' first
   | (with_reducible exact ih0 _ _ _ _ _ _ _)
   | (with_reducible exact ih1 _ _ _ _ _ _ _ _ _ _)
   | (with_reducible exact LeO.refl _)
   | (with_reducible exact LeO.none _)
   | (with_reducible refine LeO.ite ?_ ?_)
   | (with_reducible refine LeO.bind ?_ (fun _ => ?_))
   | exact ih0 _ _ _ _ _ _ _
   | exact ih1 _ _ _ _ _ _ _ _ _ _
   | exact LeO.none _
   | refine LeO.ite ?_ ?_
   | refine LeO.bind ?_ (fun _ => ?_)
theorem impl_Exploration_wayOut.mono : ∀ a0 a1 a2 a3 a4 k, LeO (impl_Exploration_wayOut.f k a0 a1 a2 a3 a4) (impl_Exploration_wayOut.f (k + 1) a0 a1 a2 a3 a4) := by
 intro a0 a1 a2 a3 a4 k
 obtain ⟨ih0, ih1⟩ := impl_Exploration_wayOut.mono_l k
 unfold impl_Exploration_wayOut.f
 repeat' first
   | (with_reducible exact ih0 _ _ _ _ _ _ _)
   | (with_reducible exact ih1 _ _ _ _ _ _ _ _ _ _)
   | (with_reducible exact LeO.refl _)
   | (with_reducible exact LeO.none _)
   | (with_reducible refine LeO.ite ?_ ?_)
   | (with_reducible refine LeO.bind ?_ (fun _ => ?_))
   | exact ih0 _ _ _ _ _ _ _
   | exact ih1 _ _ _ _ _ _ _ _ _ _
   | exact LeO.none _
   | refine LeO.ite ?_ ?_
   | refine LeO.bind ?_ (fun _ => ?_)
def impl_Exploration_wayOut.T9 : Bool × List (List Nat × List Nat) := (true, [([], []), ([], []), ([1], [1]), ([], []), ([], []), ([4], [4]), ([3, 5], [3, 5]), ([6], [6]), ([], []), ([], []), ([9], [9]), ([8, 10], [8, 10]), ([11], [11]), ([], []), ([13], [13]), ([12, 14], [12, 14]), ([7, 15], [7, 15]), ([0, 2, 0, 1, 2, 3, 4, 5, 6, 7, 8, 9, 10, 11, 12, 13, 14, 15, 16], [0, 2]), ([17, 16, 0, 1, 2, 3, 4, 5, 6, 7, 8, 9, 10, 11, 12, 13, 14, 15, 16], [16, 17])])
def impl_Exploration_wayOut.B9 : List Nat := [0, 0, 2, 0, 0, 16, 56, 120, 0, 0, 512, 1792, 3840, 0, 8192, 32512, 65528, 131071, 262143]
theorem impl_Exploration_wayOut.tab9 : rtab .any (opsOf Try.f72 9) = impl_Exploration_wayOut.T9 := by kernel_rfl
theorem impl_Exploration_wayOut.bits9 : waitsOk impl_Exploration_wayOut.T9.2 impl_Exploration_wayOut.B9 = true := by kernel_rfl
def impl_Exploration_wayOut.T10 : Bool × List (List Nat × List Nat) := (true, [([], []), ([], []), ([1], [1]), ([], []), ([], []), ([4], [4]), ([3, 5], [3, 5]), ([6], [6]), ([], []), ([], []), ([9], [9]), ([8, 10], [8, 10]), ([11], [11]), ([], []), ([13], [13]), ([12, 14], [12, 14]), ([7, 15], [7, 15]), ([0, 2, 0, 1, 2, 3, 4, 5, 6, 7, 8, 9, 10, 11, 12, 13, 14, 15, 16], [0, 2]), ([17, 16, 0, 1, 2, 3, 4, 5, 6, 7, 8, 9, 10, 11, 12, 13, 14, 15, 16], [16, 17])])
def impl_Exploration_wayOut.B10 : List Nat := [0, 0, 2, 0, 0, 16, 56, 120, 0, 0, 512, 1792, 3840, 0, 8192, 32512, 65528, 131071, 262143]
theorem impl_Exploration_wayOut.tab10 : rtab .any (opsOf Try.f72 10) = impl_Exploration_wayOut.T10 := by kernel_rfl
theorem impl_Exploration_wayOut.bits10 : waitsOk impl_Exploration_wayOut.T10.2 impl_Exploration_wayOut.B10 = true := by kernel_rfl
def impl_Exploration_wayOut.T13 : Bool × List (List Nat × List Nat) := (true, [([], []), ([], []), ([1], [1]), ([0, 2], [0, 2]), ([3], [3]), ([], []), ([], []), ([6], [6]), ([5, 7], [5, 7]), ([8], [8]), ([9], [9]), ([4, 0, 1, 2, 3, 4], [4]), ([10, 11, 0, 1, 2, 3, 4, 5, 6, 7, 8, 9, 10, 11], [10])])
def impl_Exploration_wayOut.B13 : List Nat := [0, 0, 2, 7, 15, 0, 0, 64, 224, 480, 992, 31, 4095]
theorem impl_Exploration_wayOut.tab13 : rtab .any (opsOf Try.f72 13) = impl_Exploration_wayOut.T13 := by kernel_rfl
theorem impl_Exploration_wayOut.bits13 : waitsOk impl_Exploration_wayOut.T13.2 impl_Exploration_wayOut.B13 = true := by kernel_rfl
abbrev impl_Exploration_wayOut.mk0 : Array Bool := #[fF,fF,fF,fF,fF,fF,fF,fF,fF,fF,fF,fF,fF,fF,fF,fF,fF,fF,fF]
abbrev impl_Exploration_wayOut.mk1 : Array Bool := #[tT,fF,fF,fF,fF,fF,fF,fF,fF,fF,fF,fF,fF,fF,fF,fF,fF,fF,fF]
abbrev impl_Exploration_wayOut.mk2 : Array Bool := #[tT,tT,fF,fF,fF,fF,fF,fF,fF,fF,fF,fF,fF,fF,fF,fF,fF,fF,fF]
abbrev impl_Exploration_wayOut.mk3 : Array Bool := #[tT,tT,fF,tT,fF,fF,fF,fF,fF,fF,fF,fF,fF,fF,fF,fF,fF,fF,fF]
abbrev impl_Exploration_wayOut.mk4 : Array Bool := #[tT,tT,fF,tT,tT,fF,fF,fF,fF,fF,fF,fF,fF,fF,fF,fF,fF,fF,fF]
abbrev impl_Exploration_wayOut.mk5 : Array Bool := #[tT,tT,fF,tT,tT,fF,fF,fF,tT,fF,fF,fF,fF,fF,fF,fF,fF,fF,fF]
abbrev impl_Exploration_wayOut.mk6 : Array Bool := #[tT,tT,fF,tT,tT,fF,fF,fF,tT,tT,fF,fF,fF,fF,fF,fF,fF,fF,fF]
abbrev impl_Exploration_wayOut.mk7 : Array Bool := #[tT,tT,fF,tT,tT,fF,fF,fF,tT,tT,fF,fF,fF,tT,fF,fF,fF,fF,fF]
abbrev impl_Exploration_wayOut.mk8 : Array Bool := #[tT,tT,tT,tT,tT,fF,fF,fF,tT,tT,fF,fF,fF,tT,fF,fF,fF,fF,fF]
abbrev impl_Exploration_wayOut.mk9 : Array Bool := #[tT,tT,tT,tT,tT,tT,fF,fF,tT,tT,fF,fF,fF,tT,fF,fF,fF,fF,fF]
abbrev impl_Exploration_wayOut.mk10 : Array Bool := #[tT,tT,tT,tT,tT,tT,tT,fF,tT,tT,fF,fF,fF,tT,fF,fF,fF,fF,fF]
abbrev impl_Exploration_wayOut.mk11 : Array Bool := #[tT,tT,tT,tT,tT,tT,tT,tT,tT,tT,fF,fF,fF,tT,fF,fF,fF,fF,fF]
abbrev impl_Exploration_wayOut.mk12 : Array Bool := #[tT,tT,tT,tT,tT,tT,tT,tT,tT,tT,tT,fF,fF,tT,fF,fF,fF,fF,fF]
abbrev impl_Exploration_wayOut.mk13 : Array Bool := #[tT,tT,tT,tT,tT,tT,tT,tT,tT,tT,tT,tT,fF,tT,fF,fF,fF,fF,fF]
abbrev impl_Exploration_wayOut.mk14 : Array Bool := #[tT,tT,tT,tT,tT,tT,tT,tT,tT,tT,tT,tT,tT,tT,fF,fF,fF,fF,fF]
abbrev impl_Exploration_wayOut.mk15 : Array Bool := #[tT,tT,tT,tT,tT,tT,tT,tT,tT,tT,tT,tT,tT,tT,tT,fF,fF,fF,fF]
abbrev impl_Exploration_wayOut.mk16 : Array Bool := #[tT,tT,tT,tT,tT,tT,tT,tT,tT,tT,tT,tT,tT,tT,tT,tT,fF,fF,fF]
abbrev impl_Exploration_wayOut.mk17 : Array Bool := #[tT,tT,tT,tT,tT,tT,tT,tT,tT,tT,tT,tT,tT,tT,tT,tT,tT,fF,fF]
abbrev impl_Exploration_wayOut.mk18 : Array Bool := #[tT,tT,tT,tT,tT,tT,tT,tT,tT,tT,tT,tT,tT,tT,tT,tT,tT,tT,fF]
abbrev impl_Exploration_wayOut.mk19 : Array Bool := #[tT,tT,tT,tT,tT,tT,tT,tT,tT,tT,tT,tT,tT,tT,tT,tT,tT,tT,tT]
abbrev impl_Exploration_wayOut.mk20 : Array Bool := #[fF,fF,fF,fF,fF,fF,fF,fF,fF,fF,fF,fF,fF]
abbrev impl_Exploration_wayOut.mk21 : Array Bool := #[tT,fF,fF,fF,fF,fF,fF,fF,fF,fF,fF,fF,fF]
abbrev impl_Exploration_wayOut.mk22 : Array Bool := #[tT,tT,fF,fF,fF,fF,fF,fF,fF,fF,fF,fF,fF]
abbrev impl_Exploration_wayOut.mk23 : Array Bool := #[tT,tT,fF,fF,fF,tT,fF,fF,fF,fF,fF,fF,fF]
abbrev impl_Exploration_wayOut.mk24 : Array Bool := #[tT,tT,fF,fF,fF,tT,tT,fF,fF,fF,fF,fF,fF]
abbrev impl_Exploration_wayOut.mk25 : Array Bool := #[tT,tT,tT,fF,fF,tT,tT,fF,fF,fF,fF,fF,fF]
abbrev impl_Exploration_wayOut.mk26 : Array Bool := #[tT,tT,tT,tT,fF,tT,tT,fF,fF,fF,fF,fF,fF]
abbrev impl_Exploration_wayOut.mk27 : Array Bool := #[tT,tT,tT,tT,tT,tT,tT,fF,fF,fF,fF,fF,fF]
abbrev impl_Exploration_wayOut.mk28 : Array Bool := #[tT,tT,tT,tT,tT,tT,tT,fF,fF,fF,fF,tT,fF]
abbrev impl_Exploration_wayOut.mk29 : Array Bool := #[tT,tT,tT,tT,tT,tT,tT,tT,fF,fF,fF,tT,fF]
abbrev impl_Exploration_wayOut.mk30 : Array Bool := #[tT,tT,tT,tT,tT,tT,tT,tT,tT,fF,fF,tT,fF]
abbrev impl_Exploration_wayOut.mk31 : Array Bool := #[tT,tT,tT,tT,tT,tT,tT,tT,tT,tT,fF,tT,fF]
abbrev impl_Exploration_wayOut.mk32 : Array Bool := #[tT,tT,tT,tT,tT,tT,tT,tT,tT,tT,tT,tT,fF]
abbrev impl_Exploration_wayOut.mk33 : Array Bool := #[tT,tT,tT,tT,tT,tT,tT,tT,tT,tT,tT,tT,tT]
theorem impl_Exploration_wayOut.calls (k : Nat) (A0_0 : Option Addr) (c0_0 : Nat) (l0_0 : List (S37)) (A0_1 : Option Addr) (c0_1 : Nat) (l0_1 : List Bool) (A0_2 : Option Addr) (c0_2 : Nat) (l0_2 : List Bool) (a0_3 : Int) (a0_4 : Int) (r1 : Int) (r2 : Bool) (w : World) (hr0_0 : Kd.C k37 w A0_0 l0_0.length l0_0) (hc0_0 : l0_0.length ≤ c0_0) (hr0_1 : Kd.C Kd.bool w A0_1 l0_1.length l0_1) (hc0_1 : l0_1.length ≤ c0_1) (hr0_2 : Kd.C Kd.bool w A0_2 l0_2.length l0_2) (hc0_2 : l0_2.length ≤ c0_2) (h : impl_Exploration_wayOut.f k l0_0 l0_1 l0_2 a0_3 a0_4 = some (r1, r2)) :
  Calls Try.prog 72 #[.agg #[.slice A0_0 l0_0.length c0_0, .slice A0_1 l0_1.length c0_1, .slice A0_2 l0_2.length c0_2, .int .i64 a0_3, .int .i64 a0_4]] w fun e w' => e = .returned (.tuple #[.int .i64 r1, .bool r2]) ∧ Below w.heap.size w w' := by
 have hu30 := Try.underlying30
 have hu37 := Try.underlying37
 have HR0_0 := Aside0.mk hr0_0
 have HC0_0 := Aside0.mk hc0_0
 clear hr0_0 hc0_0
 have HR0_1 := Aside0.mk hr0_1
 have HC0_1 := Aside0.mk hc0_1
 clear hr0_1 hc0_1
 have HR0_2 := Aside0.mk hr0_2
 have HC0_2 := Aside0.mk hc0_2
 clear hr0_2 hc0_2
 have HB := Aside0.mk (Below.refl w.heap.size w)
 have H : ((slices_Repeat_int_int.f (([1073741824] : List Int)) 8).bind fun t203 => (if 0 < (t203.length : Int) then (impl_Exploration_wayOut.l0 k (t203.set (0 : Int).toNat 0) 0 l0_0 l0_1 l0_2 a0_3 a0_4) else (none))) = some (r1, r2) := h
 clear h
 obtain ⟨y200, hy200⟩ : ∃ y_ : List Int, y_ = (([1073741824] : List Int)) := ⟨_, rfl⟩
 replace H : ((slices_Repeat_int_int.f y200 8).bind fun t203 => (if 0 < (t203.length : Int) then (impl_Exploration_wayOut.l0 k (t203.set (0 : Int).toNat 0) 0 l0_0 l0_1 l0_2 a0_3 a0_4) else (none))) = some (r1, r2) := by first | (rw [hy200]; with_reducible exact H) | (have H2_ := (Option.bind_some _ _).symm.trans H; rw [hy200]; with_reducible exact H2_) | (have H2_ := (Option.bind_some _ _).symm.trans H; with_reducible exact H2_) | with_reducible exact H | (rw [hy200]; exact H) | exact H
 have Ny200 := Aside0.mk hy200
 clear hy200
 replace H := Option.bind_eq_some_iff.mp H
 obtain ⟨t203, A20, H⟩ := H
 replace H : (if 0 < (t203.length : Int) then (impl_Exploration_wayOut.l0 k (t203.set (0 : Int).toNat 0) 0 l0_0 l0_1 l0_2 a0_3 a0_4) else (none)) = some (r1, r2) := H
 have A2 := Aside0.mk A20
 clear A20
 by_cases c3 : 0 < (t203.length : Int)
 ·
  rw [if_pos c3] at H
  have c3b0 : decide (0 < (t203.length : Int)) = true := decide_eq_true c3
  have c3b1 : decide (0 < t203.length) = true := decide_eq_true (by omega)
  clear c3
  obtain ⟨y206, hy206⟩ : ∃ y_ : List Int, y_ = (t203.set (0 : Int).toNat 0) := ⟨_, rfl⟩
  replace H : (impl_Exploration_wayOut.l0 k y206 0 l0_0 l0_1 l0_2 a0_3 a0_4) = some (r1, r2) := by first | (rw [hy206]; with_reducible exact H) | (have H2_ := (Option.bind_some _ _).symm.trans H; rw [hy206]; with_reducible exact H2_) | (have H2_ := (Option.bind_some _ _).symm.trans H; with_reducible exact H2_) | with_reducible exact H | (rw [hy206]; exact H) | exact H
  have Ny206 := Aside0.mk hy206
  clear hy206
  have H' := Aside0.mk H
  clear H
  go_enter Try.func72, Try.ntmps72
  go_wp2_with (first | ((with_reducible refine gate_dst (N := 1) rfl ?_); refine box_event ?hg (N := 1) ?hd (cs := #[.slice A0_0 l0_0.length c0_0, .slice A0_1 l0_1.length c0_1, .slice A0_2 l0_2.length c0_2, .int .i64 a0_3, .int .i64 a0_4]) (t := 30) ?hr ?_; (case hd => rfl); (case hg => rfl); (case hr => first | (go_simp; done) | (go_simp; rfl)); intro gb199 hg w5 hbox hb; have BK199 := Aside0.mk (hbox); have GW199 := Aside0.mk ((bz_ hg (lb0_ HB.out))); have GE199 := Aside0.mk ((bz_ hg (lb0_ HB.out))); replace HB := Aside0.mk (below_step (lb0_ HB.out) hb); clear hb hbox hg) | ((with_reducible refine gate_dst (N := 7) rfl ?_); refine Kd.R_lit (Kd.int .i64) _ 3 ?hg (N := 7) ?hd (xs := ([1073741824] : List Int)) (inner := [.int .i64 1073741824]) (ok := fun _ => True) (okp := fun _ => True) ?hr ?hp (fun _ hk => hk) trivial (Below.refl _ _) (Nat.le_refl _) (by simp) ?_; (case hd => rfl); (case hg => rfl); (case hr => first | (go_simp; done) | (go_simp; rfl)); (case hp => exact (Reps.one (show Kd.M (Kd.int .i64) _ _ _ 1073741824 [.int .i64 1073741824] from rfl) (Reps.none _ _))); intro v201 w6 ho7 hb hg_ hnew_; clear hg_ hnew_; replace ho7 := ry_ Ny200.out ho7; have HO202 := Aside0.mk (Kd.R_lower ho7 (below_size (lb1_ HB.out GE199.out))); replace BK199 := Aside0.mk (bb_ (bk_ BK199.out) hb); replace HB := Aside0.mk (below_step (lb1_ HB.out GE199.out) hb); clear hb ho7; obtain ⟨Ao8, co8, eo8⟩ := Kd.R_slice HO202.out; subst eo8) | ((with_reducible refine gate_callee (f := 103) rfl ?_); refine ga_ (some 8) Try.func103 #[.slice Ao8 y200.length co8, .int .i64 8] ?_; (with_reducible refine (slices_Repeat_int_int.calls _ _ y200 8 t203 _ ?side1 ?side2 A2.out).mono ?_); (case side1 => exact kc_ (Kd.R_reads' HO202.out).2.2); (case side2 => exact (Kd.R_reads' HO202.out).2.1); rintro e w9 ⟨v204, rfl, ho0, hb⟩; refine ⟨_, rfl, ?_⟩; have HO205 := Aside0.mk (Kd.R_lower (Kd.R_new' ho0 (Kd.R_lt (kr_ HO202.out))) (below_size (lb1_ HB.out GE199.out))); replace HO202 := Aside0.mk (Kd.R_elder' (kr_ HO202.out) (Kd.R_base ho0) hb); replace BK199 := Aside0.mk (bb_ (bk_ BK199.out) hb); replace HB := Aside0.mk (below_step (lb1_ HB.out GE199.out) hb); (try clear hb); (try clear hb2); (try clear hk); (try clear hi); (try clear ho0); have p4 : 0 ≤ (0 : Int) := (by omega); have q4 : (0 : Int) < ((t203.length : Int) : Int) := dt_; have qi4 : (0 < t203.length) = True := eq_true (by omega); obtain ⟨go4, co4, eo4, gb4, gl4, cl4, HG4⟩ := Kd.R_form HO205.out (by omega); (first | cases eo4 | (injection eo4 with ea_ en_ ec_; (first | subst ea_ | (injection ea_ with ea_; subst ea_)); subst ec_; clear en_)); have GB4 := Aside0.mk gb4; have GG4 := Aside0.mk HG4; clear gb4 gl4 HG4; obtain ⟨hx4_0, hf4_0⟩ := Kd.R_celln 0 HO205.out (0 : Int) p4 q4; (try rw [show ((0 : Int)).toNat = 0 from rfl] at hx4_0); (try simp only [Nat.reduceMul, Nat.zero_mul, Nat.zero_add, Nat.reduceAdd] at hx4_0); (try rw [show ((0 : Int)).toNat = 0 from rfl] at hf4_0); (try simp only [Nat.reduceMul, Nat.zero_mul, Nat.zero_add, Nat.reduceAdd] at hf4_0); replace p4 := eq_true p4; replace q4 := eq_true q4; have n_ := Aside0.mk (Kd.R_mono (ok' := (fun k_ => some k_ ≠ (.slice Ao8 y200.length co8 : Value).ownBlock)) HO205.out (fun k_ hk => hk.2)); clear HO205; have HO205 := n_; clear n_; obtain ⟨hy10_, hz10_⟩ := Kd.R_celln 0 HO205.out (0 : Int) (by omega) (dt_); (try simp only [Int.reduceToNat, Int.toNat_zero, Int.toNat_ofNat, Nat.reduceMul, Nat.zero_mul, Nat.zero_add] at hy10_ hz10_); (try rw [show ((0 : Int)).toNat = 0 from rfl] at hy10_); (try rw [show ((0 : Int)).toNat = 0 from rfl] at hz10_); have HP10 := Kd.R_putg HO205.out (0 : Int) 0) | ((with_reducible refine gate_store (t := 3) (p := 10) rfl ?_); refine store_event (t := 3) (p := 10) (v := ?vo_w11) (w1 := (w9.setCell ⟨go4, (0 : Int).toNat, none⟩ (.int .i64 0))) ?hg ?ho ?hn ?hr ?_; (case ho => rfl); (case hg => rfl); (case hn => rfl); (case hr => first | (go_simp; done) | (go_simp; rfl)); intro w11 hw; have hg : w9.grownBy w11 (some go4) := (by rw [hw]; exact HP10.2); have hp_ : Kd.R (Kd.int .i64) 3 w11 w.heap.size (fun k_ => some k_ ≠ (.slice Ao8 y200.length co8 : Value).ownBlock) (.slice (some ⟨go4, 0, none⟩) t203.length co4) y206 := (by rw [hw, Ny206.out]; exact HP10.1); clear HP10; replace BK199 := Aside0.mk (blk_grown (g := gb199) (o := .cells #[.slice A0_0 l0_0.length c0_0, .slice A0_1 l0_1.length c0_1, .slice A0_2 l0_2.length c0_2, .int .i64 a0_3, .int .i64 a0_4] 30 (0, 0)) (bk_ BK199.out) hg (Kd.R_ne HO205.out BK199.out (by decide))); replace HO202 := Aside0.mk (Kd.R_after (v := (.slice (some ⟨go4, 0, none⟩) t203.length co4)) (v1 := (.slice (some ⟨go4, 0, none⟩) t203.length co4)) (ok := (fun _ => True)) (kr_ HO202.out) hg (.inl rfl)); replace HO205 := Aside0.mk (hp_); replace HB := Aside0.mk ((by rw [hw]; exact below_set (HB.out) GB4.out : Below w.heap.size w w11)); clear hg hw hp_))
  go_loopg [11] k (fun kq v11 w' => ∃ (x4_1 : List Int) (x11_1 : Int), v11 = .int .i64 x11_1 ∧ Aside0 (impl_Exploration_wayOut.l0 kq x4_1 x11_1 l0_0 l0_1 l0_2 a0_3 a0_4 = some (r1, r2)) ∧ Aside0 (kq ≤ k) ∧ Aside0 (Kd.R (Kd.int .i64) 3 w' w.heap.size (fun _ => True) (.slice (some ⟨go4, 0, none⟩) t203.length co4) x4_1) ∧ Aside0 (w'.heap[gb199]? = some (.cells #[(.slice A0_0 l0_0.length c0_0), (.slice A0_1 l0_1.length c0_1), (.slice A0_2 l0_2.length c0_2), .int .i64 a0_3, .int .i64 a0_4] 30 (0, 0))) ∧ Aside0 (Below w.heap.size w w'))
  case atStart => exact ⟨(y206), (0), (by first | rfl | (simp; done) | (simp [*]; done)), H', ⟨Nat.le_refl _⟩, ⟨krm_ HO205.out (fun _ hk => trivial)⟩, ⟨bk_ BK199.out⟩, ⟨lb1_ HB.out GE199.out⟩⟩
  case round =>
   clear H'
   try clear c1
   try clear p2
   try clear c3
   try clear c3b0
   try clear c3b1
   try clear p4
   try clear q4
   try clear hx4
   try clear qi4
   try clear hf4
   try clear c7
   try clear c10
   try clear hx4_0
   try clear p4
   try clear q4
   obtain ⟨x4_1, x11_1, rfl, HA, HK1, HO_4, BK199, HB⟩ := hrel
   have hl4_1 := (Kd.R_reads' HO_4.out).1
   rw [hl4_1] at HO_4
   (try simp only [hl4_1])
   (try simp only [hl4_1] at BK199)
   cases gk with
   | zero => exact absurd HA.out (by simp [impl_Exploration_wayOut.l0])
   | succ k1 =>
    have H := HA.out
    clear HA
    simp only [impl_Exploration_wayOut.l0] at H
    by_cases c12 : x11_1 < 8
    ·
     rw [if_pos c12] at H
     have c12b0 : decide (x11_1 < 8) = true := decide_eq_true c12
     clear c12
     have H' := Aside0.mk H
     clear H
     obtain ⟨hcz13_0, hcz13_1, hcz13_2, hcz13_3, hcz13_4⟩ := cz5_ BK199.out
     obtain ⟨hfz13_0, hfz13_1, hfz13_2, hfz13_3, hfz13_4⟩ := fz5_ BK199.out
     go_wp2
     go_loopg [16] k1 (fun kq v16 w' => ∃ (x4_2 : List Int) (x16_2 : Int), v16 = .int .i64 x16_2 ∧ Aside0 (impl_Exploration_wayOut.l1 kq x4_2 x11_1 l0_0 (l0_0.length : Int) x16_2 l0_0 l0_1 l0_2 a0_3 a0_4 = some (r1, r2)) ∧ Aside0 (kq ≤ k1) ∧ Aside0 (Kd.R (Kd.int .i64) 3 w' w.heap.size (fun _ => True) (.slice (some ⟨go4, 0, none⟩) x4_1.length co4) x4_2) ∧ Aside0 (w'.heap[gb199]? = some (.cells #[(.slice A0_0 l0_0.length c0_0), (.slice A0_1 l0_1.length c0_1), (.slice A0_2 l0_2.length c0_2), .int .i64 a0_3, .int .i64 a0_4] 30 (0, 0))) ∧ Aside0 (Below w.heap.size w w'))
     case atStart => exact ⟨(x4_1), (0), (by first | rfl | (simp; done) | (simp [*]; done)), H', ⟨Nat.le_refl _⟩, ⟨by (try simp only [hl4_1]); (with_reducible repeat (first | apply Kd.R_alloc | apply Kd.R_drewN | apply Kd.R_drew)); exact HO_4.out⟩, ⟨by (try simp only [hl4_1]); (with_reducible repeat (first | refine blk_drewN ?_ _ | refine blk_drew ?_ | refine blk_alloc ?_ _)); exact BK199.out⟩, ⟨lb1_ HB.out GE199.out⟩⟩
     case round =>
      clear H'
      try clear c1
      try clear p2
      try clear c3
      try clear c3b0
      try clear c3b1
      try clear p4
      try clear q4
      try clear hx4
      try clear qi4
      try clear hf4
      try clear c7
      try clear c10
      try clear c12
      try clear c12b0
      try clear hcz13_0 hcz13_1 hcz13_2 hcz13_3 hcz13_4
      try clear hfz13_0 hfz13_1 hfz13_2 hfz13_3 hfz13_4
      try clear hx4_0
      try clear p2
      try clear p4
      try clear q4
      obtain ⟨x4_2, x16_2, rfl, HA, HK2, HO_4, BK199, HB⟩ := hrel
      have hl4_2 := (Kd.R_reads' HO_4.out).1
      rw [hl4_2] at HO_4
      (try simp only [hl4_2])
      (try simp only [hl4_2] at BK199)
      cases gk with
      | zero => exact absurd HA.out (by simp [impl_Exploration_wayOut.l1])
      | succ k2 =>
       have H := HA.out
       clear HA
       simp only [impl_Exploration_wayOut.l1] at H
       by_cases c14 : x16_2 < (l0_0.length : Int)
       ·
        rw [if_pos c14] at H
        have c14b0 : decide (x16_2 < (l0_0.length : Int)) = true := decide_eq_true c14; clear c14
        by_cases c15 : 0 ≤ x16_2
        ·
         rw [if_pos c15] at H
         have c15b0 : decide (0 ≤ x16_2) = true := decide_eq_true c15; clear c15
         by_cases c16 : x16_2 < (l0_0.length : Int)
         ·
          rw [if_pos c16] at H
          have c16b0 : decide (x16_2 < (l0_0.length : Int)) = true := decide_eq_true c16; clear c16
          by_cases c17 : 0 ≤ ((rd_T37 l0_0 x16_2).f0)
          ·
           rw [if_pos c17] at H
           have c17b0 : decide (0 ≤ ((rd_T37 l0_0 x16_2).f0)) = true := decide_eq_true c17; clear c17
           by_cases c18 : ((rd_T37 l0_0 x16_2).f0) < (l0_1.length : Int)
           ·
            rw [if_pos c18] at H
            have c18b0 : decide (((rd_T37 l0_0 x16_2).f0) < (l0_1.length : Int)) = true := decide_eq_true c18; clear c18
            obtain ⟨bq19, hbq19⟩ : ∃ b_ : Bool, b_ = (rdOf false l0_1 ((rd_T37 l0_0 x16_2).f0)) := ⟨_, rfl⟩
            replace H : (if bq19 = true then (if 0 ≤ ((rd_T37 l0_0 x16_2).f1) then (if ((rd_T37 l0_0 x16_2).f1) < (l0_1.length : Int) then (if rdOf false l0_1 ((rd_T37 l0_0 x16_2).f1) = true then (if ((rd_T37 l0_0 x16_2).f0) < (x4_2.length : Int) then (if ((rd_T37 l0_0 x16_2).f1) < (x4_2.length : Int) then ((some (x4_2.set (((rd_T37 l0_0 x16_2).f0) : Int).toNat (mn (rd x4_2 ((rd_T37 l0_0 x16_2).f0)) (wrap64 ((rd x4_2 ((rd_T37 l0_0 x16_2).f1)) + ((rd_T37 l0_0 x16_2).f2)))) : List Int)).bind fun y215 => (impl_Exploration_wayOut.l1 k2 (y215.set (((rd_T37 l0_0 x16_2).f1) : Int).toNat (mn (rd y215 ((rd_T37 l0_0 x16_2).f1)) (wrap64 ((rd y215 ((rd_T37 l0_0 x16_2).f0)) + ((rd_T37 l0_0 x16_2).f2))))) x11_1 l0_0 (l0_0.length : Int) (wrap64 (x16_2 + 1)) l0_0 l0_1 l0_2 a0_3 a0_4)) else (none)) else (none)) else (impl_Exploration_wayOut.l1 k2 x4_2 x11_1 l0_0 (l0_0.length : Int) (wrap64 (x16_2 + 1)) l0_0 l0_1 l0_2 a0_3 a0_4)) else (none)) else (none)) else (impl_Exploration_wayOut.l1 k2 x4_2 x11_1 l0_0 (l0_0.length : Int) (wrap64 (x16_2 + 1)) l0_0 l0_1 l0_2 a0_3 a0_4)) = some (r1, r2) := by rw [← hbq19] at H; exact H
            have Nbq19 := Aside0.mk hbq19; clear hbq19
            by_cases c20 : bq19 = true
            ·
             subst c20
             have H1 : (if 0 ≤ ((rd_T37 l0_0 x16_2).f1) then (if ((rd_T37 l0_0 x16_2).f1) < (l0_1.length : Int) then (if rdOf false l0_1 ((rd_T37 l0_0 x16_2).f1) = true then (if ((rd_T37 l0_0 x16_2).f0) < (x4_2.length : Int) then (if ((rd_T37 l0_0 x16_2).f1) < (x4_2.length : Int) then ((some (x4_2.set (((rd_T37 l0_0 x16_2).f0) : Int).toNat (mn (rd x4_2 ((rd_T37 l0_0 x16_2).f0)) (wrap64 ((rd x4_2 ((rd_T37 l0_0 x16_2).f1)) + ((rd_T37 l0_0 x16_2).f2)))) : List Int)).bind fun y215 => (impl_Exploration_wayOut.l1 k2 (y215.set (((rd_T37 l0_0 x16_2).f1) : Int).toNat (mn (rd y215 ((rd_T37 l0_0 x16_2).f1)) (wrap64 ((rd y215 ((rd_T37 l0_0 x16_2).f0)) + ((rd_T37 l0_0 x16_2).f2))))) x11_1 l0_0 (l0_0.length : Int) (wrap64 (x16_2 + 1)) l0_0 l0_1 l0_2 a0_3 a0_4)) else (none)) else (none)) else (impl_Exploration_wayOut.l1 k2 x4_2 x11_1 l0_0 (l0_0.length : Int) (wrap64 (x16_2 + 1)) l0_0 l0_1 l0_2 a0_3 a0_4)) else (none)) else (none)) = some (r1, r2) := by rw [if_pos rfl] at H; exact H
             clear H; have H := H1; clear H1
             by_cases c21 : 0 ≤ ((rd_T37 l0_0 x16_2).f1)
             ·
              rw [if_pos c21] at H
              have c21b0 : decide (0 ≤ ((rd_T37 l0_0 x16_2).f1)) = true := decide_eq_true c21; clear c21
              by_cases c22 : ((rd_T37 l0_0 x16_2).f1) < (l0_1.length : Int)
              ·
               rw [if_pos c22] at H
               have c22b0 : decide (((rd_T37 l0_0 x16_2).f1) < (l0_1.length : Int)) = true := decide_eq_true c22; clear c22
               obtain ⟨bq23, hbq23⟩ : ∃ b_ : Bool, b_ = (rdOf false l0_1 ((rd_T37 l0_0 x16_2).f1)) := ⟨_, rfl⟩
               replace H : (if bq23 = true then (if ((rd_T37 l0_0 x16_2).f0) < (x4_2.length : Int) then (if ((rd_T37 l0_0 x16_2).f1) < (x4_2.length : Int) then ((some (x4_2.set (((rd_T37 l0_0 x16_2).f0) : Int).toNat (mn (rd x4_2 ((rd_T37 l0_0 x16_2).f0)) (wrap64 ((rd x4_2 ((rd_T37 l0_0 x16_2).f1)) + ((rd_T37 l0_0 x16_2).f2)))) : List Int)).bind fun y215 => (impl_Exploration_wayOut.l1 k2 (y215.set (((rd_T37 l0_0 x16_2).f1) : Int).toNat (mn (rd y215 ((rd_T37 l0_0 x16_2).f1)) (wrap64 ((rd y215 ((rd_T37 l0_0 x16_2).f0)) + ((rd_T37 l0_0 x16_2).f2))))) x11_1 l0_0 (l0_0.length : Int) (wrap64 (x16_2 + 1)) l0_0 l0_1 l0_2 a0_3 a0_4)) else (none)) else (none)) else (impl_Exploration_wayOut.l1 k2 x4_2 x11_1 l0_0 (l0_0.length : Int) (wrap64 (x16_2 + 1)) l0_0 l0_1 l0_2 a0_3 a0_4)) = some (r1, r2) := by rw [← hbq23] at H; exact H
               have Nbq23 := Aside0.mk hbq23; clear hbq23
               by_cases c24 : bq23 = true
               ·
                subst c24
                have H1 : (if ((rd_T37 l0_0 x16_2).f0) < (x4_2.length : Int) then (if ((rd_T37 l0_0 x16_2).f1) < (x4_2.length : Int) then ((some (x4_2.set (((rd_T37 l0_0 x16_2).f0) : Int).toNat (mn (rd x4_2 ((rd_T37 l0_0 x16_2).f0)) (wrap64 ((rd x4_2 ((rd_T37 l0_0 x16_2).f1)) + ((rd_T37 l0_0 x16_2).f2)))) : List Int)).bind fun y215 => (impl_Exploration_wayOut.l1 k2 (y215.set (((rd_T37 l0_0 x16_2).f1) : Int).toNat (mn (rd y215 ((rd_T37 l0_0 x16_2).f1)) (wrap64 ((rd y215 ((rd_T37 l0_0 x16_2).f0)) + ((rd_T37 l0_0 x16_2).f2))))) x11_1 l0_0 (l0_0.length : Int) (wrap64 (x16_2 + 1)) l0_0 l0_1 l0_2 a0_3 a0_4)) else (none)) else (none)) = some (r1, r2) := by rw [if_pos rfl] at H; exact H
                clear H; have H := H1; clear H1
                by_cases c25 : ((rd_T37 l0_0 x16_2).f0) < (x4_2.length : Int)
                ·
                 rw [if_pos c25] at H
                 have c25b0 : decide (((rd_T37 l0_0 x16_2).f0) < (x4_2.length : Int)) = true := decide_eq_true c25; clear c25
                 by_cases c26 : ((rd_T37 l0_0 x16_2).f1) < (x4_2.length : Int)
                 ·
                  rw [if_pos c26] at H
                  have c26b0 : decide (((rd_T37 l0_0 x16_2).f1) < (x4_2.length : Int)) = true := decide_eq_true c26; clear c26
                  obtain ⟨ji27, hji27⟩ : ∃ j_ : Int, (mn (rd x4_2 ((rd_T37 l0_0 x16_2).f0)) (wrap64 ((rd x4_2 ((rd_T37 l0_0 x16_2).f1)) + ((rd_T37 l0_0 x16_2).f2)))) = j_ := ⟨_, rfl⟩
                  replace H : ((some (x4_2.set (((rd_T37 l0_0 x16_2).f0) : Int).toNat (ji27) : List Int)).bind fun y215 => (impl_Exploration_wayOut.l1 k2 (y215.set (((rd_T37 l0_0 x16_2).f1) : Int).toNat (mn (rd y215 ((rd_T37 l0_0 x16_2).f1)) (wrap64 ((rd y215 ((rd_T37 l0_0 x16_2).f0)) + ((rd_T37 l0_0 x16_2).f2))))) x11_1 l0_0 (l0_0.length : Int) (wrap64 (x16_2 + 1)) l0_0 l0_1 l0_2 a0_3 a0_4)) = some (r1, r2) := by first | (rw [hji27] at H; exact H) | (simp only [hji27] at H ⊢; exact H)
                  have hji27_ : (if (wrap64 ((rd x4_2 ((rd_T37 l0_0 x16_2).f1)) + ((rd_T37 l0_0 x16_2).f2))) < (rd x4_2 ((rd_T37 l0_0 x16_2).f0)) then (wrap64 ((rd x4_2 ((rd_T37 l0_0 x16_2).f1)) + ((rd_T37 l0_0 x16_2).f2))) else (rd x4_2 ((rd_T37 l0_0 x16_2).f0))) = ji27 := hji27
                  obtain ⟨y215, hy215⟩ : ∃ y_ : List Int, y_ = (x4_2.set (((rd_T37 l0_0 x16_2).f0) : Int).toNat (ji27)) := ⟨_, rfl⟩
                  replace H : (impl_Exploration_wayOut.l1 k2 (y215.set (((rd_T37 l0_0 x16_2).f1) : Int).toNat (mn (rd y215 ((rd_T37 l0_0 x16_2).f1)) (wrap64 ((rd y215 ((rd_T37 l0_0 x16_2).f0)) + ((rd_T37 l0_0 x16_2).f2))))) x11_1 l0_0 (l0_0.length : Int) (wrap64 (x16_2 + 1)) l0_0 l0_1 l0_2 a0_3 a0_4) = some (r1, r2) := by first | (rw [hy215]; with_reducible exact H) | (have H2_ := (Option.bind_some _ _).symm.trans H; rw [hy215]; with_reducible exact H2_) | (have H2_ := (Option.bind_some _ _).symm.trans H; with_reducible exact H2_) | with_reducible exact H | (rw [hy215]; exact H) | exact H
                  have Ny215 := Aside0.mk hy215; clear hy215
                  obtain ⟨ji29, hji29⟩ : ∃ j_ : Int, (mn (rd y215 ((rd_T37 l0_0 x16_2).f1)) (wrap64 ((rd y215 ((rd_T37 l0_0 x16_2).f0)) + ((rd_T37 l0_0 x16_2).f2)))) = j_ := ⟨_, rfl⟩
                  replace H : (impl_Exploration_wayOut.l1 k2 (y215.set (((rd_T37 l0_0 x16_2).f1) : Int).toNat (ji29)) x11_1 l0_0 (l0_0.length : Int) (wrap64 (x16_2 + 1)) l0_0 l0_1 l0_2 a0_3 a0_4) = some (r1, r2) := by first | (rw [hji29] at H; exact H) | (simp only [hji29] at H ⊢; exact H)
                  have hji29_ : (if (wrap64 ((rd y215 ((rd_T37 l0_0 x16_2).f0)) + ((rd_T37 l0_0 x16_2).f2))) < (rd y215 ((rd_T37 l0_0 x16_2).f1)) then (wrap64 ((rd y215 ((rd_T37 l0_0 x16_2).f0)) + ((rd_T37 l0_0 x16_2).f2))) else (rd y215 ((rd_T37 l0_0 x16_2).f1))) = ji29 := hji29
                  obtain ⟨y218, hy218⟩ : ∃ y_ : List Int, y_ = (y215.set (((rd_T37 l0_0 x16_2).f1) : Int).toNat (ji29)) := ⟨_, rfl⟩
                  replace H : (impl_Exploration_wayOut.l1 k2 y218 x11_1 l0_0 (l0_0.length : Int) (wrap64 (x16_2 + 1)) l0_0 l0_1 l0_2 a0_3 a0_4) = some (r1, r2) := by first | (rw [hy218]; with_reducible exact H) | (have H2_ := (Option.bind_some _ _).symm.trans H; rw [hy218]; with_reducible exact H2_) | (have H2_ := (Option.bind_some _ _).symm.trans H; with_reducible exact H2_) | with_reducible exact H | (rw [hy218]; exact H) | exact H
                  have Ny218 := Aside0.mk hy218; clear hy218; have H' := Aside0.mk H; clear H; have p209 : 0 ≤ (x16_2 : Int) := dt_; have q209 : x16_2 < (l0_0.length : Int) := dt_; obtain ⟨ad209, e209, hx209_0, hx209_1, hx209_2, hx209_3, hx209_4⟩ := at_T37 HR0_0.out x16_2 p209 q209
                  cases e209
                  replace hx209_0 := bc_ HB.out hx209_0; replace hx209_1 := bc_ HB.out hx209_1; replace hx209_2 := bc_ HB.out hx209_2; replace hx209_3 := bc_ HB.out hx209_3; replace hx209_4 := bc_ HB.out hx209_4; replace p209 := eq_true p209; replace q209 := eq_true q209
                  try go_wp2_with (first | ((with_reducible refine gate_dst (N := 6) rfl ?_); refine box_event ?hg (N := 6) ?hd (cs := #[.int .i64 0, .int .i64 0, .int .i64 0, .int .i64 0, .int .i64 0]) (t := 37) ?hr ?_; (case hd => rfl); (case hg => rfl); (case hr => first | (go_simp; done) | (go_simp; rfl)); intro gb210 hg w31 hbox hb; replace HO_4 := Aside0.mk (Kd.R_below (kr_ HO_4.out) hb); have BK210 := Aside0.mk (hbox); have GW210 := Aside0.mk ((bz_ hg (lb1_ HB.out GE199.out))); have GE210 := Aside0.mk ((bz_ hg (lb1_ HB.out GE199.out))); replace HB := Aside0.mk (below_step (lb1_ HB.out GE199.out) hb); have NB199_210 := Aside0.mk (nl_ hg BK199.out); have NB210_199 := Aside0.mk (ng_ hg BK199.out); replace BK199 := Aside0.mk (bb_ (bk_ BK199.out) hb); clear hb hbox hg; have hnb32 := NB210_199.out; have hnc32 := NB199_210.out; obtain ⟨hcz33_0, hcz33_1, hcz33_2, hcz33_3, hcz33_4⟩ := cz5_ BK210.out; obtain ⟨hfz33_0, hfz33_1, hfz33_2, hfz33_3, hfz33_4⟩ := fz5_ BK210.out; obtain ⟨hcz34_0, hcz34_1, hcz34_2, hcz34_3, hcz34_4⟩ := cz5_ BK199.out; obtain ⟨hfz34_0, hfz34_1, hfz34_2, hfz34_3, hfz34_4⟩ := fz5_ BK199.out; have p211 : 0 ≤ (((rd_T37 l0_0 x16_2).f0) : Int) := dt_; have q211 : ((rd_T37 l0_0 x16_2).f0) < (l0_1.length : Int) := dt_; obtain ⟨ad211, e211, hx211_0⟩ := Kd.at_bool HR0_1.out ((rd_T37 l0_0 x16_2).f0) p211 q211; (try rw [← Nbq19.out] at hx211_0); (try rw [← Nbq23.out] at hx211_0); cases e211; have hn211_0 : ad211.block ≠ gb210 := Nat.ne_of_lt (Nat.lt_of_lt_of_le (by have := World.block_lt_of_cell? _ _ hx211_0; first | rwa [add_block] at this | exact this) GW210.out); have hn211_1 : ad211.block ≠ gb210 := Nat.ne_of_lt (Nat.lt_of_lt_of_le (by have := World.block_lt_of_cell? _ _ hx211_0; first | rwa [add_block] at this | exact this) GW210.out); have hn211_2 : ad211.block ≠ gb210 := Nat.ne_of_lt (Nat.lt_of_lt_of_le (by have := World.block_lt_of_cell? _ _ hx211_0; first | rwa [add_block] at this | exact this) GW210.out); have hn211_3 : ad211.block ≠ gb210 := Nat.ne_of_lt (Nat.lt_of_lt_of_le (by have := World.block_lt_of_cell? _ _ hx211_0; first | rwa [add_block] at this | exact this) GW210.out); have hn211_4 : ad211.block ≠ gb210 := Nat.ne_of_lt (Nat.lt_of_lt_of_le (by have := World.block_lt_of_cell? _ _ hx211_0; first | rwa [add_block] at this | exact this) GW210.out); replace hx211_0 := bc_ HB.out hx211_0; replace hx211_0 := (cell_far (p := ⟨gb210, 0, none⟩) (by first | (rw [add_block]; exact hn211_0) | (show (Addr.add _ _).block ≠ _; rw [add_block]; exact hn211_0) | exact hn211_0) (.int .i64 ((rd_T37 l0_0 x16_2).f0))).trans hx211_0; replace hx211_0 := (cell_far (p := ⟨gb210, 1, none⟩) (by first | (rw [add_block]; exact hn211_1) | (show (Addr.add _ _).block ≠ _; rw [add_block]; exact hn211_1) | exact hn211_1) (.int .i64 ((rd_T37 l0_0 x16_2).f1))).trans hx211_0; replace hx211_0 := (cell_far (p := ⟨gb210, 2, none⟩) (by first | (rw [add_block]; exact hn211_2) | (show (Addr.add _ _).block ≠ _; rw [add_block]; exact hn211_2) | exact hn211_2) (.int .i64 ((rd_T37 l0_0 x16_2).f2))).trans hx211_0; replace hx211_0 := (cell_far (p := ⟨gb210, 3, none⟩) (by first | (rw [add_block]; exact hn211_3) | (show (Addr.add _ _).block ≠ _; rw [add_block]; exact hn211_3) | exact hn211_3) (.int .i64 ((rd_T37 l0_0 x16_2).f3))).trans hx211_0; replace hx211_0 := (cell_far (p := ⟨gb210, 4, none⟩) (by first | (rw [add_block]; exact hn211_4) | (show (Addr.add _ _).block ≠ _; rw [add_block]; exact hn211_4) | exact hn211_4) (.int .i64 ((rd_T37 l0_0 x16_2).f4))).trans hx211_0; clear hn211_0; clear hn211_1; clear hn211_2; clear hn211_3; clear hn211_4; replace p211 := eq_true p211; replace q211 := eq_true q211; have p212 : 0 ≤ (((rd_T37 l0_0 x16_2).f1) : Int) := dt_; have q212 : ((rd_T37 l0_0 x16_2).f1) < (l0_1.length : Int) := dt_; obtain ⟨ad212, e212, hx212_0⟩ := Kd.at_bool HR0_1.out ((rd_T37 l0_0 x16_2).f1) p212 q212; (try rw [← Nbq19.out] at hx212_0); (try rw [← Nbq23.out] at hx212_0); obtain rfl : ad211 = ad212 := (by injection e212); have hn212_0 : ad211.block ≠ gb210 := Nat.ne_of_lt (Nat.lt_of_lt_of_le (by have := World.block_lt_of_cell? _ _ hx212_0; first | rwa [add_block] at this | exact this) GW210.out); have hn212_1 : ad211.block ≠ gb210 := Nat.ne_of_lt (Nat.lt_of_lt_of_le (by have := World.block_lt_of_cell? _ _ hx212_0; first | rwa [add_block] at this | exact this) GW210.out); have hn212_2 : ad211.block ≠ gb210 := Nat.ne_of_lt (Nat.lt_of_lt_of_le (by have := World.block_lt_of_cell? _ _ hx212_0; first | rwa [add_block] at this | exact this) GW210.out); have hn212_3 : ad211.block ≠ gb210 := Nat.ne_of_lt (Nat.lt_of_lt_of_le (by have := World.block_lt_of_cell? _ _ hx212_0; first | rwa [add_block] at this | exact this) GW210.out); have hn212_4 : ad211.block ≠ gb210 := Nat.ne_of_lt (Nat.lt_of_lt_of_le (by have := World.block_lt_of_cell? _ _ hx212_0; first | rwa [add_block] at this | exact this) GW210.out); replace hx212_0 := bc_ HB.out hx212_0; replace hx212_0 := (cell_far (p := ⟨gb210, 0, none⟩) (by first | (rw [add_block]; exact hn212_0) | (show (Addr.add _ _).block ≠ _; rw [add_block]; exact hn212_0) | exact hn212_0) (.int .i64 ((rd_T37 l0_0 x16_2).f0))).trans hx212_0; replace hx212_0 := (cell_far (p := ⟨gb210, 1, none⟩) (by first | (rw [add_block]; exact hn212_1) | (show (Addr.add _ _).block ≠ _; rw [add_block]; exact hn212_1) | exact hn212_1) (.int .i64 ((rd_T37 l0_0 x16_2).f1))).trans hx212_0; replace hx212_0 := (cell_far (p := ⟨gb210, 2, none⟩) (by first | (rw [add_block]; exact hn212_2) | (show (Addr.add _ _).block ≠ _; rw [add_block]; exact hn212_2) | exact hn212_2) (.int .i64 ((rd_T37 l0_0 x16_2).f2))).trans hx212_0; replace hx212_0 := (cell_far (p := ⟨gb210, 3, none⟩) (by first | (rw [add_block]; exact hn212_3) | (show (Addr.add _ _).block ≠ _; rw [add_block]; exact hn212_3) | exact hn212_3) (.int .i64 ((rd_T37 l0_0 x16_2).f3))).trans hx212_0; replace hx212_0 := (cell_far (p := ⟨gb210, 4, none⟩) (by first | (rw [add_block]; exact hn212_4) | (show (Addr.add _ _).block ≠ _; rw [add_block]; exact hn212_4) | exact hn212_4) (.int .i64 ((rd_T37 l0_0 x16_2).f4))).trans hx212_0; clear hn212_0; clear hn212_1; clear hn212_2; clear hn212_3; clear hn212_4; replace p212 := eq_true p212; replace q212 := eq_true q212))
                  have n0_ : Aside0 (Kd.R (Kd.int .i64) 3 (((((w31.setCell ⟨gb210, 0, none⟩ (.int .i64 ((rd_T37 l0_0 x16_2).f0))).setCell ⟨gb210, 1, none⟩ (.int .i64 ((rd_T37 l0_0 x16_2).f1))).setCell ⟨gb210, 2, none⟩ (.int .i64 ((rd_T37 l0_0 x16_2).f2))).setCell ⟨gb210, 3, none⟩ (.int .i64 ((rd_T37 l0_0 x16_2).f3))).setCell ⟨gb210, 4, none⟩ (.int .i64 ((rd_T37 l0_0 x16_2).f4))) w.heap.size (fun _ => True) (.slice (some ⟨go4, 0, none⟩) x4_2.length co4) x4_2) := ⟨Kd.R_mono (r5_ HO_4.out BK210.out (by decide) _ _ _ _ _) (fun _ hk => trivial)⟩
                  have n1_ : Aside0 ((((((w31.setCell ⟨gb210, 0, none⟩ (.int .i64 ((rd_T37 l0_0 x16_2).f0))).setCell ⟨gb210, 1, none⟩ (.int .i64 ((rd_T37 l0_0 x16_2).f1))).setCell ⟨gb210, 2, none⟩ (.int .i64 ((rd_T37 l0_0 x16_2).f2))).setCell ⟨gb210, 3, none⟩ (.int .i64 ((rd_T37 l0_0 x16_2).f3))).setCell ⟨gb210, 4, none⟩ (.int .i64 ((rd_T37 l0_0 x16_2).f4))).heap[gb199]? = some (.cells #[.slice (some ad209) l0_0.length c0_0, .slice (some ad211) l0_1.length c0_1, .slice A0_2 l0_2.length c0_2, .int .i64 a0_3, .int .i64 a0_4] 30 (0, 0))) := ⟨by exact (f5_ BK199.out NB199_210.out _ _ _ _ _)⟩
                  have n2_ : Aside0 ((((((w31.setCell ⟨gb210, 0, none⟩ (.int .i64 ((rd_T37 l0_0 x16_2).f0))).setCell ⟨gb210, 1, none⟩ (.int .i64 ((rd_T37 l0_0 x16_2).f1))).setCell ⟨gb210, 2, none⟩ (.int .i64 ((rd_T37 l0_0 x16_2).f2))).setCell ⟨gb210, 3, none⟩ (.int .i64 ((rd_T37 l0_0 x16_2).f3))).setCell ⟨gb210, 4, none⟩ (.int .i64 ((rd_T37 l0_0 x16_2).f4))).heap[gb210]? = some (.cells #[.int .i64 ((rd_T37 l0_0 x16_2).f0), .int .i64 ((rd_T37 l0_0 x16_2).f1), .int .i64 ((rd_T37 l0_0 x16_2).f2), .int .i64 ((rd_T37 l0_0 x16_2).f3), .int .i64 ((rd_T37 l0_0 x16_2).f4)] 37 (0, 0))) := ⟨by exact (p5_ BK210.out _ _ _ _ _)⟩
                  have n3_ : Aside0 (Below w.heap.size w (((((w31.setCell ⟨gb210, 0, none⟩ (.int .i64 ((rd_T37 l0_0 x16_2).f0))).setCell ⟨gb210, 1, none⟩ (.int .i64 ((rd_T37 l0_0 x16_2).f1))).setCell ⟨gb210, 2, none⟩ (.int .i64 ((rd_T37 l0_0 x16_2).f2))).setCell ⟨gb210, 3, none⟩ (.int .i64 ((rd_T37 l0_0 x16_2).f3))).setCell ⟨gb210, 4, none⟩ (.int .i64 ((rd_T37 l0_0 x16_2).f4)))) := ⟨lb2_ HB.out GE199.out GE210.out⟩
                  (try clear HO_4); (try clear BK199); (try clear BK210); (try clear HB); generalize (((((w31.setCell ⟨gb210, 0, none⟩ (.int .i64 ((rd_T37 l0_0 x16_2).f0))).setCell ⟨gb210, 1, none⟩ (.int .i64 ((rd_T37 l0_0 x16_2).f1))).setCell ⟨gb210, 2, none⟩ (.int .i64 ((rd_T37 l0_0 x16_2).f2))).setCell ⟨gb210, 3, none⟩ (.int .i64 ((rd_T37 l0_0 x16_2).f3))).setCell ⟨gb210, 4, none⟩ (.int .i64 ((rd_T37 l0_0 x16_2).f4))) = w35 at n0_ n1_ n2_ n3_ ⊢; have HO_4 := n0_; have BK199 := n1_; have BK210 := n2_; have HB := n3_; clear n0_ n1_ n2_ n3_; replace HO_4 := Aside0.mk (Kd.R_drew HO_4.out); replace BK199 := Aside0.mk (blk_drew BK199.out); replace BK210 := Aside0.mk (blk_drew BK210.out); replace HB := Aside0.mk (below_drew1 HB.out); have p213 : 0 ≤ (((rd_T37 l0_0 x16_2).f0) : Int) := dt_; have q213 : ((rd_T37 l0_0 x16_2).f0) < (x4_2.length : Int) := dt_; obtain ⟨ad213, e213, hx213_0⟩ := Kd.at_int (Kd.R_reads' HO_4.out).2.2 ((rd_T37 l0_0 x16_2).f0) p213 q213
                  obtain rfl : (⟨go4, 0, none⟩ : Addr) = ad213 := (by injection e213)
                  (first | simp only [add_plain] at hx213_0 | simp only [add_at] at hx213_0 | simp only [Addr.add, Nat.zero_add] at hx213_0 | skip)
                  replace p213 := eq_true p213; replace q213 := eq_true q213; have p214 : 0 ≤ (((rd_T37 l0_0 x16_2).f1) : Int) := dt_; have q214 : ((rd_T37 l0_0 x16_2).f1) < (x4_2.length : Int) := dt_; obtain ⟨ad214, e214, hx214_0⟩ := Kd.at_int (Kd.R_reads' HO_4.out).2.2 ((rd_T37 l0_0 x16_2).f1) p214 q214
                  obtain rfl : (⟨go4, 0, none⟩ : Addr) = ad214 := (by injection e214)
                  (first | simp only [add_plain] at hx214_0 | simp only [add_at] at hx214_0 | simp only [Addr.add, Nat.zero_add] at hx214_0 | skip)
                  replace p214 := eq_true p214; replace q214 := eq_true q214; have p28 : 0 ≤ (((rd_T37 l0_0 x16_2).f0) : Int) := dt_; have q28 : (((rd_T37 l0_0 x16_2).f0) : Int) < ((x4_2.length : Int) : Int) := dt_; obtain ⟨hx28_0, hf28_0⟩ := Kd.R_celln 0 HO_4.out (((rd_T37 l0_0 x16_2).f0) : Int) p28 q28; replace p28 := eq_true p28; replace q28 := eq_true q28; have HP37 := Kd.R_putn HO_4.out (((rd_T37 l0_0 x16_2).f0) : Int) ji27
                  rw [← Ny215.out] at HP37
                  have HQ37 := Aside0.mk HP37; clear HP37; refine start_ (n := 19) (S := fun w' => w'.cell? ⟨gb210, 0, none⟩ = some (.int .i64 ((rd_T37 l0_0 x16_2).f0)) ∧ w'.cell? ⟨gb210, 1, none⟩ = some (.int .i64 ((rd_T37 l0_0 x16_2).f1)) ∧ w'.cell? ⟨gb210, 2, none⟩ = some (.int .i64 ((rd_T37 l0_0 x16_2).f2)) ∧ w'.cell? ⟨gb210, 3, none⟩ = some (.int .i64 ((rd_T37 l0_0 x16_2).f3)) ∧ w'.cell? ⟨gb210, 4, none⟩ = some (.int .i64 ((rd_T37 l0_0 x16_2).f4)) ∧ w'.cell? ⟨go4, (((rd_T37 l0_0 x16_2).f0)).toNat, none⟩ = some (.int .i64 (rd x4_2 ((rd_T37 l0_0 x16_2).f0))) ∧ w'.cell? ⟨go4, (((rd_T37 l0_0 x16_2).f1)).toNat, none⟩ = some (.int .i64 (rd x4_2 ((rd_T37 l0_0 x16_2).f1)))) (ds := [18]) impl_Exploration_wayOut.mk0 (by kernel_rfl) rfl rfl ⟨(blk_cell BK210.out 0).trans rfl, (blk_cell BK210.out 1).trans rfl, (blk_cell BK210.out 2).trans rfl, (blk_cell BK210.out 3).trans rfl, (blk_cell BK210.out 4).trans rfl, hx213_0, hx214_0⟩ (fun hHeld => ?_); refine with_tabW impl_Exploration_wayOut.tab9 impl_Exploration_wayOut.bits9 (fun HT_ HW_ => ?_); generalize w35.drew = w36 at HO_4 BK199 BK210 HB HQ37 hf28_0 hx213_0 hx214_0 hx28_0 hHeld ⊢; refine pz_ HT_ 0 (some 34) impl_Exploration_wayOut.mk1 ?_; refine pz_ HT_ 1 (some 35) impl_Exploration_wayOut.mk2 ?_; refine pz_ HT_ 3 (some 37) impl_Exploration_wayOut.mk3 ?_; refine pz_ HT_ 4 (some 38) impl_Exploration_wayOut.mk4 ?_; refine pz_ HT_ 8 (some 42) impl_Exploration_wayOut.mk5 ?_; refine pz_ HT_ 9 (some 43) impl_Exploration_wayOut.mk6 ?_; refine pz_ HT_ 13 (some 47) impl_Exploration_wayOut.mk7 ?_; refine tk_ HT_ HW_ hHeld 2 (some 36) impl_Exploration_wayOut.mk8 ?_; refine tk_ HT_ HW_ hHeld 5 (some 39) impl_Exploration_wayOut.mk9 ?_; refine pz_ HT_ 6 (some 40) impl_Exploration_wayOut.mk10 ?_; refine tk_ HT_ HW_ hHeld 7 (some 41) impl_Exploration_wayOut.mk11 ?_; refine tk_ HT_ HW_ hHeld 10 (some 44) impl_Exploration_wayOut.mk12 ?_; refine pz_ HT_ 11 (some 45) impl_Exploration_wayOut.mk13 ?_; refine tk_ HT_ HW_ hHeld 12 (some 46) impl_Exploration_wayOut.mk14 ?_; refine tk_ HT_ HW_ hHeld 14 (some 48) impl_Exploration_wayOut.mk15 ?_; refine pz_ HT_ 15 (some 49) impl_Exploration_wayOut.mk16 ?_; refine pz_ HT_ 16 (some 50) impl_Exploration_wayOut.mk17 ?_; refine pz_ HT_ 17 (some 51) impl_Exploration_wayOut.mk18 ?_; refine last_ (i := 18) (N := none) impl_Exploration_wayOut.mk19 rfl rfl (one_of HT_.out (by kernel_rfl)) (by decide) (fun K hK => ?_); refine skip_ (w1 := ?_) (by rfl) rfl ?_ ?_; rotate_left
                  ·
                   go_simp; rfl
                  refine hK.out _ _ ?_; clear hK K; refine done_ (done_of HT_.out (by kernel_rfl)) ?_
                  try go_wp2
                  have n0_ : Aside0 (Kd.R (Kd.int .i64) 3 (w36.setCell ⟨go4, (((rd_T37 l0_0 x16_2).f0) : Int).toNat, none⟩ (.int .i64 ji27)) w.heap.size (fun _ => True) (.slice (some ⟨go4, 0, none⟩) x4_2.length co4) y215) := ⟨kr_ HQ37.out⟩
                  have n1_ : Aside0 ((w36.setCell ⟨go4, (((rd_T37 l0_0 x16_2).f0) : Int).toNat, none⟩ (.int .i64 ji27)).heap[gb199]? = some (.cells #[.slice (some ad209) l0_0.length c0_0, .slice (some ad211) l0_1.length c0_1, .slice A0_2 l0_2.length c0_2, .int .i64 a0_3, .int .i64 a0_4] 30 (0, 0))) := ⟨by (with_reducible repeat (first | refine blk_drewN ?_ _ | refine blk_drew ?_ | refine blk_alloc ?_ _)); refine blk_far ?_ (by have h_ := Kd.R_ne HO_4.out BK199.out (by decide); intro e_; exact h_ (by rw [e_]; rfl)) _; (with_reducible repeat (first | refine blk_drewN ?_ _ | refine blk_drew ?_ | refine blk_alloc ?_ _)); exact BK199.out⟩
                  have n2_ : Aside0 ((w36.setCell ⟨go4, (((rd_T37 l0_0 x16_2).f0) : Int).toNat, none⟩ (.int .i64 ji27)).heap[gb210]? = some (.cells #[.int .i64 ((rd_T37 l0_0 x16_2).f0), .int .i64 ((rd_T37 l0_0 x16_2).f1), .int .i64 ((rd_T37 l0_0 x16_2).f2), .int .i64 ((rd_T37 l0_0 x16_2).f3), .int .i64 ((rd_T37 l0_0 x16_2).f4)] 37 (0, 0))) := ⟨by (with_reducible repeat (first | refine blk_drewN ?_ _ | refine blk_drew ?_ | refine blk_alloc ?_ _)); refine blk_far ?_ (by have h_ := Kd.R_ne HO_4.out BK210.out (by decide); intro e_; exact h_ (by rw [e_]; rfl)) _; (with_reducible repeat (first | refine blk_drewN ?_ _ | refine blk_drew ?_ | refine blk_alloc ?_ _)); exact BK210.out⟩
                  have n3_ : Aside0 (Below w.heap.size w (w36.setCell ⟨go4, (((rd_T37 l0_0 x16_2).f0) : Int).toNat, none⟩ (.int .i64 ji27))) := ⟨lb3_ HB.out GB4.out GE199.out GE210.out⟩
                  (try clear HO_4); (try clear BK199); (try clear BK210); (try clear HB); generalize (w36.setCell ⟨go4, (((rd_T37 l0_0 x16_2).f0) : Int).toNat, none⟩ (.int .i64 ji27)) = w38 at n0_ n1_ n2_ n3_ ⊢; have HO_4 := n0_; have BK199 := n1_; have BK210 := n2_; have HB := n3_; clear n0_ n1_ n2_ n3_; replace HO_4 := Aside0.mk (Kd.R_drew HO_4.out); replace BK199 := Aside0.mk (blk_drew BK199.out); replace BK210 := Aside0.mk (blk_drew BK210.out); replace HB := Aside0.mk (below_drew1 HB.out); have p216 : 0 ≤ (((rd_T37 l0_0 x16_2).f1) : Int) := dt_
                  have q216 : ((rd_T37 l0_0 x16_2).f1) < (y215.length : Int) := (by have h_ : (((rd_T37 l0_0 x16_2).f1) : Int) < ((x4_2.length : Int) : Int) := dt_; first | (have e_ := (Kd.R_reads' HO_4.out).1; omega) | simpa only [Ny215.out, List.length_set] using h_)
                  have ql216 : ((((rd_T37 l0_0 x16_2).f1) : Int) < ((x4_2.length : Int) : Int)) = True := eq_true (dt_); obtain ⟨ad216, e216, hx216_0⟩ := Kd.at_int (Kd.R_reads' HO_4.out).2.2 ((rd_T37 l0_0 x16_2).f1) p216 q216
                  obtain rfl : (⟨go4, 0, none⟩ : Addr) = ad216 := (by injection e216)
                  (first | simp only [add_plain] at hx216_0 | simp only [add_at] at hx216_0 | simp only [Addr.add, Nat.zero_add] at hx216_0 | skip)
                  replace p216 := eq_true p216; replace q216 := eq_true q216; have p217 : 0 ≤ (((rd_T37 l0_0 x16_2).f0) : Int) := dt_
                  have q217 : ((rd_T37 l0_0 x16_2).f0) < (y215.length : Int) := (by have h_ : (((rd_T37 l0_0 x16_2).f0) : Int) < ((x4_2.length : Int) : Int) := dt_; first | (have e_ := (Kd.R_reads' HO_4.out).1; omega) | simpa only [Ny215.out, List.length_set] using h_)
                  have ql217 : ((((rd_T37 l0_0 x16_2).f0) : Int) < ((x4_2.length : Int) : Int)) = True := eq_true (dt_); obtain ⟨ad217, e217, hx217_0⟩ := Kd.at_int (Kd.R_reads' HO_4.out).2.2 ((rd_T37 l0_0 x16_2).f0) p217 q217
                  obtain rfl : (⟨go4, 0, none⟩ : Addr) = ad217 := (by injection e217)
                  (first | simp only [add_plain] at hx217_0 | simp only [add_at] at hx217_0 | simp only [Addr.add, Nat.zero_add] at hx217_0 | skip)
                  replace p217 := eq_true p217; replace q217 := eq_true q217; have p30 : 0 ≤ (((rd_T37 l0_0 x16_2).f1) : Int) := dt_; have q30 : (((rd_T37 l0_0 x16_2).f1) : Int) < ((x4_2.length : Int) : Int) := dt_; obtain ⟨hx30_0, hf30_0⟩ := Kd.R_celln 0 HO_4.out (((rd_T37 l0_0 x16_2).f1) : Int) p30 q30; replace p30 := eq_true p30; replace q30 := eq_true q30; have HP40 := Kd.R_putn HO_4.out (((rd_T37 l0_0 x16_2).f1) : Int) ji29
                  rw [← Ny218.out] at HP40
                  have HQ40 := Aside0.mk HP40; clear HP40; refine start_ (n := 19) (S := fun w' => w'.cell? ⟨gb210, 0, none⟩ = some (.int .i64 ((rd_T37 l0_0 x16_2).f0)) ∧ w'.cell? ⟨gb210, 1, none⟩ = some (.int .i64 ((rd_T37 l0_0 x16_2).f1)) ∧ w'.cell? ⟨gb210, 2, none⟩ = some (.int .i64 ((rd_T37 l0_0 x16_2).f2)) ∧ w'.cell? ⟨gb210, 3, none⟩ = some (.int .i64 ((rd_T37 l0_0 x16_2).f3)) ∧ w'.cell? ⟨gb210, 4, none⟩ = some (.int .i64 ((rd_T37 l0_0 x16_2).f4)) ∧ w'.cell? ⟨go4, (((rd_T37 l0_0 x16_2).f1)).toNat, none⟩ = some (.int .i64 (rd y215 ((rd_T37 l0_0 x16_2).f1))) ∧ w'.cell? ⟨go4, (((rd_T37 l0_0 x16_2).f0)).toNat, none⟩ = some (.int .i64 (rd y215 ((rd_T37 l0_0 x16_2).f0)))) (ds := [18]) impl_Exploration_wayOut.mk0 (by kernel_rfl) rfl rfl ⟨(blk_cell BK210.out 0).trans rfl, (blk_cell BK210.out 1).trans rfl, (blk_cell BK210.out 2).trans rfl, (blk_cell BK210.out 3).trans rfl, (blk_cell BK210.out 4).trans rfl, hx216_0, hx217_0⟩ (fun hHeld => ?_); refine with_tabW impl_Exploration_wayOut.tab10 impl_Exploration_wayOut.bits10 (fun HT_ HW_ => ?_); generalize w38.drew = w39 at HO_4 BK199 BK210 HB HQ37 HQ40 hf30_0 hx216_0 hx217_0 hx30_0 hHeld ⊢; refine pz_ HT_ 0 (some 52) impl_Exploration_wayOut.mk1 ?_; refine pz_ HT_ 1 (some 53) impl_Exploration_wayOut.mk2 ?_; refine pz_ HT_ 3 (some 55) impl_Exploration_wayOut.mk3 ?_; refine pz_ HT_ 4 (some 56) impl_Exploration_wayOut.mk4 ?_; refine pz_ HT_ 8 (some 60) impl_Exploration_wayOut.mk5 ?_; refine pz_ HT_ 9 (some 61) impl_Exploration_wayOut.mk6 ?_; refine pz_ HT_ 13 (some 65) impl_Exploration_wayOut.mk7 ?_; refine tk_ HT_ HW_ hHeld 2 (some 54) impl_Exploration_wayOut.mk8 ?_; refine tk_ HT_ HW_ hHeld 5 (some 57) impl_Exploration_wayOut.mk9 ?_; refine pz_ HT_ 6 (some 58) impl_Exploration_wayOut.mk10 ?_; refine tk_ HT_ HW_ hHeld 7 (some 59) impl_Exploration_wayOut.mk11 ?_; refine tk_ HT_ HW_ hHeld 10 (some 62) impl_Exploration_wayOut.mk12 ?_; refine pz_ HT_ 11 (some 63) impl_Exploration_wayOut.mk13 ?_; refine tk_ HT_ HW_ hHeld 12 (some 64) impl_Exploration_wayOut.mk14 ?_; refine tk_ HT_ HW_ hHeld 14 (some 66) impl_Exploration_wayOut.mk15 ?_; refine pz_ HT_ 15 (some 67) impl_Exploration_wayOut.mk16 ?_; refine pz_ HT_ 16 (some 68) impl_Exploration_wayOut.mk17 ?_; refine pz_ HT_ 17 (some 69) impl_Exploration_wayOut.mk18 ?_; refine last_ (i := 18) (N := none) impl_Exploration_wayOut.mk19 rfl rfl (one_of HT_.out (by kernel_rfl)) (by decide) (fun K hK => ?_); refine skip_ (w1 := ?_) (by rfl) rfl ?_ ?_; rotate_left
                  ·
                   go_simp; rfl
                  refine hK.out _ _ ?_; clear hK K; refine done_ (done_of HT_.out (by kernel_rfl)) ?_
                  try go_wp2
                  (try simp only [← hl4_2])
                  go_roundg k2
                  case measure => have := HK1.out; have := HK2.out; omega
                  case rel => exact ⟨(y218), (wrap64 (x16_2 + 1)), (by first | rfl | (simp; done) | (simp [*]; done)), H', ⟨by have := HK1.out; have := HK2.out; omega⟩, ⟨by (try simp only [hl4_1]); (try simp only [hl4_2]); (with_reducible repeat (first | apply Kd.R_alloc | apply Kd.R_drewN | apply Kd.R_drew)); exact HQ40.out⟩, ⟨by (try simp only [hl4_1]); (try simp only [hl4_2]); (with_reducible repeat (first | refine blk_drewN ?_ _ | refine blk_drew ?_ | refine blk_alloc ?_ _)); refine blk_far ?_ (by have h_ := Kd.R_ne HO_4.out BK199.out (by decide); intro e_; exact h_ (by rw [e_]; rfl)) _; (with_reducible repeat (first | refine blk_drewN ?_ _ | refine blk_drew ?_ | refine blk_alloc ?_ _)); exact BK199.out⟩, ⟨lb3_ HB.out GB4.out GE199.out GE210.out⟩⟩
                 ·
                  rw [if_neg c26] at H
                  exact absurd H (by simp)
                ·
                 rw [if_neg c25] at H
                 exact absurd H (by simp)
               ·
                replace c24 := Bool.eq_false_iff.mpr c24; subst c24
                have H1 : (impl_Exploration_wayOut.l1 k2 x4_2 x11_1 l0_0 (l0_0.length : Int) (wrap64 (x16_2 + 1)) l0_0 l0_1 l0_2 a0_3 a0_4) = some (r1, r2) := by rw [if_neg (show ¬ (false = true) by decide)] at H; exact H
                clear H; have H := H1; clear H1; have H' := Aside0.mk H; clear H; have p209 : 0 ≤ (x16_2 : Int) := dt_; have q209 : x16_2 < (l0_0.length : Int) := dt_; obtain ⟨ad209, e209, hx209_0, hx209_1, hx209_2, hx209_3, hx209_4⟩ := at_T37 HR0_0.out x16_2 p209 q209
                cases e209
                replace hx209_0 := bc_ HB.out hx209_0; replace hx209_1 := bc_ HB.out hx209_1; replace hx209_2 := bc_ HB.out hx209_2; replace hx209_3 := bc_ HB.out hx209_3; replace hx209_4 := bc_ HB.out hx209_4; replace p209 := eq_true p209; replace q209 := eq_true q209
                go_wp2_with (first | ((with_reducible refine gate_dst (N := 6) rfl ?_); refine box_event ?hg (N := 6) ?hd (cs := #[.int .i64 0, .int .i64 0, .int .i64 0, .int .i64 0, .int .i64 0]) (t := 37) ?hr ?_; (case hd => rfl); (case hg => rfl); (case hr => first | (go_simp; done) | (go_simp; rfl)); intro gb210 hg w41 hbox hb; replace HO_4 := Aside0.mk (Kd.R_below (kr_ HO_4.out) hb); have BK210 := Aside0.mk (hbox); have GW210 := Aside0.mk ((bz_ hg (lb1_ HB.out GE199.out))); have GE210 := Aside0.mk ((bz_ hg (lb1_ HB.out GE199.out))); replace HB := Aside0.mk (below_step (lb1_ HB.out GE199.out) hb); have NB199_210 := Aside0.mk (nl_ hg BK199.out); have NB210_199 := Aside0.mk (ng_ hg BK199.out); replace BK199 := Aside0.mk (bb_ (bk_ BK199.out) hb); clear hb hbox hg; have hnb42 := NB210_199.out; have hnc42 := NB199_210.out; obtain ⟨hcz43_0, hcz43_1, hcz43_2, hcz43_3, hcz43_4⟩ := cz5_ BK210.out; obtain ⟨hfz43_0, hfz43_1, hfz43_2, hfz43_3, hfz43_4⟩ := fz5_ BK210.out; obtain ⟨hcz44_0, hcz44_1, hcz44_2, hcz44_3, hcz44_4⟩ := cz5_ BK199.out; obtain ⟨hfz44_0, hfz44_1, hfz44_2, hfz44_3, hfz44_4⟩ := fz5_ BK199.out; have p211 : 0 ≤ (((rd_T37 l0_0 x16_2).f0) : Int) := dt_; have q211 : ((rd_T37 l0_0 x16_2).f0) < (l0_1.length : Int) := dt_; obtain ⟨ad211, e211, hx211_0⟩ := Kd.at_bool HR0_1.out ((rd_T37 l0_0 x16_2).f0) p211 q211; (try rw [← Nbq19.out] at hx211_0); (try rw [← Nbq23.out] at hx211_0); cases e211; have hn211_0 : ad211.block ≠ gb210 := Nat.ne_of_lt (Nat.lt_of_lt_of_le (by have := World.block_lt_of_cell? _ _ hx211_0; first | rwa [add_block] at this | exact this) GW210.out); have hn211_1 : ad211.block ≠ gb210 := Nat.ne_of_lt (Nat.lt_of_lt_of_le (by have := World.block_lt_of_cell? _ _ hx211_0; first | rwa [add_block] at this | exact this) GW210.out); have hn211_2 : ad211.block ≠ gb210 := Nat.ne_of_lt (Nat.lt_of_lt_of_le (by have := World.block_lt_of_cell? _ _ hx211_0; first | rwa [add_block] at this | exact this) GW210.out); have hn211_3 : ad211.block ≠ gb210 := Nat.ne_of_lt (Nat.lt_of_lt_of_le (by have := World.block_lt_of_cell? _ _ hx211_0; first | rwa [add_block] at this | exact this) GW210.out); have hn211_4 : ad211.block ≠ gb210 := Nat.ne_of_lt (Nat.lt_of_lt_of_le (by have := World.block_lt_of_cell? _ _ hx211_0; first | rwa [add_block] at this | exact this) GW210.out); replace hx211_0 := bc_ HB.out hx211_0; replace hx211_0 := (cell_far (p := ⟨gb210, 0, none⟩) (by first | (rw [add_block]; exact hn211_0) | (show (Addr.add _ _).block ≠ _; rw [add_block]; exact hn211_0) | exact hn211_0) (.int .i64 ((rd_T37 l0_0 x16_2).f0))).trans hx211_0; replace hx211_0 := (cell_far (p := ⟨gb210, 1, none⟩) (by first | (rw [add_block]; exact hn211_1) | (show (Addr.add _ _).block ≠ _; rw [add_block]; exact hn211_1) | exact hn211_1) (.int .i64 ((rd_T37 l0_0 x16_2).f1))).trans hx211_0; replace hx211_0 := (cell_far (p := ⟨gb210, 2, none⟩) (by first | (rw [add_block]; exact hn211_2) | (show (Addr.add _ _).block ≠ _; rw [add_block]; exact hn211_2) | exact hn211_2) (.int .i64 ((rd_T37 l0_0 x16_2).f2))).trans hx211_0; replace hx211_0 := (cell_far (p := ⟨gb210, 3, none⟩) (by first | (rw [add_block]; exact hn211_3) | (show (Addr.add _ _).block ≠ _; rw [add_block]; exact hn211_3) | exact hn211_3) (.int .i64 ((rd_T37 l0_0 x16_2).f3))).trans hx211_0; replace hx211_0 := (cell_far (p := ⟨gb210, 4, none⟩) (by first | (rw [add_block]; exact hn211_4) | (show (Addr.add _ _).block ≠ _; rw [add_block]; exact hn211_4) | exact hn211_4) (.int .i64 ((rd_T37 l0_0 x16_2).f4))).trans hx211_0; clear hn211_0; clear hn211_1; clear hn211_2; clear hn211_3; clear hn211_4; replace p211 := eq_true p211; replace q211 := eq_true q211; have p212 : 0 ≤ (((rd_T37 l0_0 x16_2).f1) : Int) := dt_; have q212 : ((rd_T37 l0_0 x16_2).f1) < (l0_1.length : Int) := dt_; obtain ⟨ad212, e212, hx212_0⟩ := Kd.at_bool HR0_1.out ((rd_T37 l0_0 x16_2).f1) p212 q212; (try rw [← Nbq19.out] at hx212_0); (try rw [← Nbq23.out] at hx212_0); obtain rfl : ad211 = ad212 := (by injection e212); have hn212_0 : ad211.block ≠ gb210 := Nat.ne_of_lt (Nat.lt_of_lt_of_le (by have := World.block_lt_of_cell? _ _ hx212_0; first | rwa [add_block] at this | exact this) GW210.out); have hn212_1 : ad211.block ≠ gb210 := Nat.ne_of_lt (Nat.lt_of_lt_of_le (by have := World.block_lt_of_cell? _ _ hx212_0; first | rwa [add_block] at this | exact this) GW210.out); have hn212_2 : ad211.block ≠ gb210 := Nat.ne_of_lt (Nat.lt_of_lt_of_le (by have := World.block_lt_of_cell? _ _ hx212_0; first | rwa [add_block] at this | exact this) GW210.out); have hn212_3 : ad211.block ≠ gb210 := Nat.ne_of_lt (Nat.lt_of_lt_of_le (by have := World.block_lt_of_cell? _ _ hx212_0; first | rwa [add_block] at this | exact this) GW210.out); have hn212_4 : ad211.block ≠ gb210 := Nat.ne_of_lt (Nat.lt_of_lt_of_le (by have := World.block_lt_of_cell? _ _ hx212_0; first | rwa [add_block] at this | exact this) GW210.out); replace hx212_0 := bc_ HB.out hx212_0; replace hx212_0 := (cell_far (p := ⟨gb210, 0, none⟩) (by first | (rw [add_block]; exact hn212_0) | (show (Addr.add _ _).block ≠ _; rw [add_block]; exact hn212_0) | exact hn212_0) (.int .i64 ((rd_T37 l0_0 x16_2).f0))).trans hx212_0; replace hx212_0 := (cell_far (p := ⟨gb210, 1, none⟩) (by first | (rw [add_block]; exact hn212_1) | (show (Addr.add _ _).block ≠ _; rw [add_block]; exact hn212_1) | exact hn212_1) (.int .i64 ((rd_T37 l0_0 x16_2).f1))).trans hx212_0; replace hx212_0 := (cell_far (p := ⟨gb210, 2, none⟩) (by first | (rw [add_block]; exact hn212_2) | (show (Addr.add _ _).block ≠ _; rw [add_block]; exact hn212_2) | exact hn212_2) (.int .i64 ((rd_T37 l0_0 x16_2).f2))).trans hx212_0; replace hx212_0 := (cell_far (p := ⟨gb210, 3, none⟩) (by first | (rw [add_block]; exact hn212_3) | (show (Addr.add _ _).block ≠ _; rw [add_block]; exact hn212_3) | exact hn212_3) (.int .i64 ((rd_T37 l0_0 x16_2).f3))).trans hx212_0; replace hx212_0 := (cell_far (p := ⟨gb210, 4, none⟩) (by first | (rw [add_block]; exact hn212_4) | (show (Addr.add _ _).block ≠ _; rw [add_block]; exact hn212_4) | exact hn212_4) (.int .i64 ((rd_T37 l0_0 x16_2).f4))).trans hx212_0; clear hn212_0; clear hn212_1; clear hn212_2; clear hn212_3; clear hn212_4; replace p212 := eq_true p212; replace q212 := eq_true q212))
                (try simp only [← hl4_2])
                go_roundg k2
                case measure => have := HK1.out; have := HK2.out; omega
                case rel => exact ⟨(x4_2), (wrap64 (x16_2 + 1)), (by first | rfl | (simp; done) | (simp [*]; done)), H', ⟨by have := HK1.out; have := HK2.out; omega⟩, ⟨by (try simp only [hl4_1]); (try simp only [hl4_2]); (with_reducible repeat (first | apply Kd.R_alloc | apply Kd.R_drewN | apply Kd.R_drew)); exact Kd.R_mono (Kd.R_far (p := ⟨gb210, 4, none⟩) (Kd.R_far (p := ⟨gb210, 3, none⟩) (Kd.R_far (p := ⟨gb210, 2, none⟩) (Kd.R_far (p := ⟨gb210, 1, none⟩) (Kd.R_far (p := ⟨gb210, 0, none⟩) (Kd.R_types HO_4.out BK210.out (by decide)) (fun _ hk => hk.2) (.int .i64 ((rd_T37 l0_0 x16_2).f0))) (fun _ hk => hk.2) (.int .i64 ((rd_T37 l0_0 x16_2).f1))) (fun _ hk => hk.2) (.int .i64 ((rd_T37 l0_0 x16_2).f2))) (fun _ hk => hk.2) (.int .i64 ((rd_T37 l0_0 x16_2).f3))) (fun _ hk => hk.2) (.int .i64 ((rd_T37 l0_0 x16_2).f4))) (fun _ hk => trivial)⟩, ⟨by (try simp only [hl4_1]); (try simp only [hl4_2]); (with_reducible repeat (first | refine blk_drewN ?_ _ | refine blk_drew ?_ | refine blk_alloc ?_ _)); refine blk_far ?_ NB199_210.out _; (with_reducible repeat (first | refine blk_drewN ?_ _ | refine blk_drew ?_ | refine blk_alloc ?_ _)); refine blk_far ?_ NB199_210.out _; (with_reducible repeat (first | refine blk_drewN ?_ _ | refine blk_drew ?_ | refine blk_alloc ?_ _)); refine blk_far ?_ NB199_210.out _; (with_reducible repeat (first | refine blk_drewN ?_ _ | refine blk_drew ?_ | refine blk_alloc ?_ _)); refine blk_far ?_ NB199_210.out _; (with_reducible repeat (first | refine blk_drewN ?_ _ | refine blk_drew ?_ | refine blk_alloc ?_ _)); refine blk_far ?_ NB199_210.out _; (with_reducible repeat (first | refine blk_drewN ?_ _ | refine blk_drew ?_ | refine blk_alloc ?_ _)); exact BK199.out⟩, ⟨lb2_ HB.out GE199.out GE210.out⟩⟩
              ·
               rw [if_neg c22] at H
               exact absurd H (by simp)
             ·
              rw [if_neg c21] at H
              exact absurd H (by simp)
            ·
             replace c20 := Bool.eq_false_iff.mpr c20; subst c20
             have H1 : (impl_Exploration_wayOut.l1 k2 x4_2 x11_1 l0_0 (l0_0.length : Int) (wrap64 (x16_2 + 1)) l0_0 l0_1 l0_2 a0_3 a0_4) = some (r1, r2) := by rw [if_neg (show ¬ (false = true) by decide)] at H; exact H
             clear H; have H := H1; clear H1; have H' := Aside0.mk H; clear H; have p209 : 0 ≤ (x16_2 : Int) := dt_; have q209 : x16_2 < (l0_0.length : Int) := dt_; obtain ⟨ad209, e209, hx209_0, hx209_1, hx209_2, hx209_3, hx209_4⟩ := at_T37 HR0_0.out x16_2 p209 q209
             cases e209
             replace hx209_0 := bc_ HB.out hx209_0; replace hx209_1 := bc_ HB.out hx209_1; replace hx209_2 := bc_ HB.out hx209_2; replace hx209_3 := bc_ HB.out hx209_3; replace hx209_4 := bc_ HB.out hx209_4; replace p209 := eq_true p209; replace q209 := eq_true q209
             go_wp2_with (first | ((with_reducible refine gate_dst (N := 6) rfl ?_); refine box_event ?hg (N := 6) ?hd (cs := #[.int .i64 0, .int .i64 0, .int .i64 0, .int .i64 0, .int .i64 0]) (t := 37) ?hr ?_; (case hd => rfl); (case hg => rfl); (case hr => first | (go_simp; done) | (go_simp; rfl)); intro gb210 hg w45 hbox hb; replace HO_4 := Aside0.mk (Kd.R_below (kr_ HO_4.out) hb); have BK210 := Aside0.mk (hbox); have GW210 := Aside0.mk ((bz_ hg (lb1_ HB.out GE199.out))); have GE210 := Aside0.mk ((bz_ hg (lb1_ HB.out GE199.out))); replace HB := Aside0.mk (below_step (lb1_ HB.out GE199.out) hb); have NB199_210 := Aside0.mk (nl_ hg BK199.out); have NB210_199 := Aside0.mk (ng_ hg BK199.out); replace BK199 := Aside0.mk (bb_ (bk_ BK199.out) hb); clear hb hbox hg; have hnb46 := NB210_199.out; have hnc46 := NB199_210.out; obtain ⟨hcz47_0, hcz47_1, hcz47_2, hcz47_3, hcz47_4⟩ := cz5_ BK210.out; obtain ⟨hfz47_0, hfz47_1, hfz47_2, hfz47_3, hfz47_4⟩ := fz5_ BK210.out; obtain ⟨hcz48_0, hcz48_1, hcz48_2, hcz48_3, hcz48_4⟩ := cz5_ BK199.out; obtain ⟨hfz48_0, hfz48_1, hfz48_2, hfz48_3, hfz48_4⟩ := fz5_ BK199.out; have p211 : 0 ≤ (((rd_T37 l0_0 x16_2).f0) : Int) := dt_; have q211 : ((rd_T37 l0_0 x16_2).f0) < (l0_1.length : Int) := dt_; obtain ⟨ad211, e211, hx211_0⟩ := Kd.at_bool HR0_1.out ((rd_T37 l0_0 x16_2).f0) p211 q211; (try rw [← Nbq19.out] at hx211_0); cases e211; have hn211_0 : ad211.block ≠ gb210 := Nat.ne_of_lt (Nat.lt_of_lt_of_le (by have := World.block_lt_of_cell? _ _ hx211_0; first | rwa [add_block] at this | exact this) GW210.out); have hn211_1 : ad211.block ≠ gb210 := Nat.ne_of_lt (Nat.lt_of_lt_of_le (by have := World.block_lt_of_cell? _ _ hx211_0; first | rwa [add_block] at this | exact this) GW210.out); have hn211_2 : ad211.block ≠ gb210 := Nat.ne_of_lt (Nat.lt_of_lt_of_le (by have := World.block_lt_of_cell? _ _ hx211_0; first | rwa [add_block] at this | exact this) GW210.out); have hn211_3 : ad211.block ≠ gb210 := Nat.ne_of_lt (Nat.lt_of_lt_of_le (by have := World.block_lt_of_cell? _ _ hx211_0; first | rwa [add_block] at this | exact this) GW210.out); have hn211_4 : ad211.block ≠ gb210 := Nat.ne_of_lt (Nat.lt_of_lt_of_le (by have := World.block_lt_of_cell? _ _ hx211_0; first | rwa [add_block] at this | exact this) GW210.out); replace hx211_0 := bc_ HB.out hx211_0; replace hx211_0 := (cell_far (p := ⟨gb210, 0, none⟩) (by first | (rw [add_block]; exact hn211_0) | (show (Addr.add _ _).block ≠ _; rw [add_block]; exact hn211_0) | exact hn211_0) (.int .i64 ((rd_T37 l0_0 x16_2).f0))).trans hx211_0; replace hx211_0 := (cell_far (p := ⟨gb210, 1, none⟩) (by first | (rw [add_block]; exact hn211_1) | (show (Addr.add _ _).block ≠ _; rw [add_block]; exact hn211_1) | exact hn211_1) (.int .i64 ((rd_T37 l0_0 x16_2).f1))).trans hx211_0; replace hx211_0 := (cell_far (p := ⟨gb210, 2, none⟩) (by first | (rw [add_block]; exact hn211_2) | (show (Addr.add _ _).block ≠ _; rw [add_block]; exact hn211_2) | exact hn211_2) (.int .i64 ((rd_T37 l0_0 x16_2).f2))).trans hx211_0; replace hx211_0 := (cell_far (p := ⟨gb210, 3, none⟩) (by first | (rw [add_block]; exact hn211_3) | (show (Addr.add _ _).block ≠ _; rw [add_block]; exact hn211_3) | exact hn211_3) (.int .i64 ((rd_T37 l0_0 x16_2).f3))).trans hx211_0; replace hx211_0 := (cell_far (p := ⟨gb210, 4, none⟩) (by first | (rw [add_block]; exact hn211_4) | (show (Addr.add _ _).block ≠ _; rw [add_block]; exact hn211_4) | exact hn211_4) (.int .i64 ((rd_T37 l0_0 x16_2).f4))).trans hx211_0; clear hn211_0; clear hn211_1; clear hn211_2; clear hn211_3; clear hn211_4; replace p211 := eq_true p211; replace q211 := eq_true q211))
             (try simp only [← hl4_2])
             go_roundg k2
             case measure => have := HK1.out; have := HK2.out; omega
             case rel => exact ⟨(x4_2), (wrap64 (x16_2 + 1)), (by first | rfl | (simp; done) | (simp [*]; done)), H', ⟨by have := HK1.out; have := HK2.out; omega⟩, ⟨by (try simp only [hl4_1]); (try simp only [hl4_2]); (with_reducible repeat (first | apply Kd.R_alloc | apply Kd.R_drewN | apply Kd.R_drew)); exact Kd.R_mono (Kd.R_far (p := ⟨gb210, 4, none⟩) (Kd.R_far (p := ⟨gb210, 3, none⟩) (Kd.R_far (p := ⟨gb210, 2, none⟩) (Kd.R_far (p := ⟨gb210, 1, none⟩) (Kd.R_far (p := ⟨gb210, 0, none⟩) (Kd.R_types HO_4.out BK210.out (by decide)) (fun _ hk => hk.2) (.int .i64 ((rd_T37 l0_0 x16_2).f0))) (fun _ hk => hk.2) (.int .i64 ((rd_T37 l0_0 x16_2).f1))) (fun _ hk => hk.2) (.int .i64 ((rd_T37 l0_0 x16_2).f2))) (fun _ hk => hk.2) (.int .i64 ((rd_T37 l0_0 x16_2).f3))) (fun _ hk => hk.2) (.int .i64 ((rd_T37 l0_0 x16_2).f4))) (fun _ hk => trivial)⟩, ⟨by (try simp only [hl4_1]); (try simp only [hl4_2]); (with_reducible repeat (first | refine blk_drewN ?_ _ | refine blk_drew ?_ | refine blk_alloc ?_ _)); refine blk_far ?_ NB199_210.out _; (with_reducible repeat (first | refine blk_drewN ?_ _ | refine blk_drew ?_ | refine blk_alloc ?_ _)); refine blk_far ?_ NB199_210.out _; (with_reducible repeat (first | refine blk_drewN ?_ _ | refine blk_drew ?_ | refine blk_alloc ?_ _)); refine blk_far ?_ NB199_210.out _; (with_reducible repeat (first | refine blk_drewN ?_ _ | refine blk_drew ?_ | refine blk_alloc ?_ _)); refine blk_far ?_ NB199_210.out _; (with_reducible repeat (first | refine blk_drewN ?_ _ | refine blk_drew ?_ | refine blk_alloc ?_ _)); refine blk_far ?_ NB199_210.out _; (with_reducible repeat (first | refine blk_drewN ?_ _ | refine blk_drew ?_ | refine blk_alloc ?_ _)); exact BK199.out⟩, ⟨lb2_ HB.out GE199.out GE210.out⟩⟩
           ·
            rw [if_neg c18] at H
            exact absurd H (by simp)
          ·
           rw [if_neg c17] at H
           exact absurd H (by simp)
         ·
          rw [if_neg c16] at H
          exact absurd H (by simp)
        ·
         rw [if_neg c15] at H
         exact absurd H (by simp)
       ·
        rw [if_neg c14] at H
        have c14b0 : decide (x16_2 < (l0_0.length : Int)) = false := decide_eq_false c14; clear c14; have H' := Aside0.mk H; clear H
        go_wp2
        (try simp only [← hl4_1, ← hl4_2])
        go_roundg k2
        case measure => have := HK1.out; have := HK2.out; omega
        case rel => exact ⟨(x4_2), (wrap64 (x11_1 + 1)), (by first | rfl | (simp; done) | (simp [*]; done)), H', ⟨by have := HK1.out; have := HK2.out; omega⟩, ⟨by (try simp only [hl4_1]); (try simp only [hl4_2]); (with_reducible repeat (first | apply Kd.R_alloc | apply Kd.R_drewN | apply Kd.R_drew)); exact HO_4.out⟩, ⟨by (try simp only [hl4_1]); (try simp only [hl4_2]); (with_reducible repeat (first | refine blk_drewN ?_ _ | refine blk_drew ?_ | refine blk_alloc ?_ _)); exact BK199.out⟩, ⟨lb1_ HB.out GE199.out⟩⟩
    ·
     rw [if_neg c12] at H
     have c12b0 : decide (x11_1 < 8) = false := decide_eq_false c12
     clear c12
     by_cases c49 : 0 ≤ a0_3
     ·
      rw [if_pos c49] at H
      have c49b0 : decide (0 ≤ a0_3) = true := decide_eq_true c49
      clear c49
      by_cases c50 : a0_3 < (x4_1.length : Int)
      ·
       rw [if_pos c50] at H
       have c50b0 : decide (a0_3 < (x4_1.length : Int)) = true := decide_eq_true c50
       clear c50
       simp only [Option.some.injEq, Prod.mk.injEq] at H
       obtain ⟨rfl, rfl⟩ := H
       try go_wp2
       replace HO_4 := Aside0.mk (Kd.R_drew HO_4.out)
       replace BK199 := Aside0.mk (blk_drew BK199.out)
       replace HB := Aside0.mk (below_drew1 HB.out)
       have p207 : 0 ≤ (a0_3 : Int) := dt_
       have q207 : a0_3 < (x4_1.length : Int) := dt_
       obtain ⟨ad207, e207, hx207_0⟩ := Kd.at_int (Kd.R_reads' HO_4.out).2.2 a0_3 p207 q207
       obtain rfl : (⟨go4, 0, none⟩ : Addr) = ad207 := (by injection e207)
       (first | simp only [add_plain] at hx207_0 | simp only [add_at] at hx207_0 | simp only [Addr.add, Nat.zero_add] at hx207_0 | skip)
       replace p207 := eq_true p207
       replace q207 := eq_true q207
       have p208 : 0 ≤ (a0_3 : Int) := dt_
       have q208 : a0_3 < (x4_1.length : Int) := dt_
       obtain ⟨ad208, e208, hx208_0⟩ := Kd.at_int (Kd.R_reads' HO_4.out).2.2 a0_3 p208 q208
       obtain rfl : (⟨go4, 0, none⟩ : Addr) = ad208 := (by injection e208)
       (first | simp only [add_plain] at hx208_0 | simp only [add_at] at hx208_0 | simp only [Addr.add, Nat.zero_add] at hx208_0 | skip)
       replace p208 := eq_true p208
       replace q208 := eq_true q208
       refine start_ (n := 13) (S := fun w' => w'.cell? ⟨gb199, 0, none⟩ = some (.slice A0_0 l0_0.length c0_0) ∧ w'.cell? ⟨gb199, 1, none⟩ = some (.slice A0_1 l0_1.length c0_1) ∧ w'.cell? ⟨gb199, 2, none⟩ = some (.slice A0_2 l0_2.length c0_2) ∧ w'.cell? ⟨gb199, 3, none⟩ = some (.int .i64 a0_3) ∧ w'.cell? ⟨gb199, 4, none⟩ = some (.int .i64 a0_4) ∧ w'.cell? ⟨go4, (a0_3).toNat, none⟩ = some (.int .i64 (rd x4_1 a0_3)) ∧ w'.cell? ⟨go4, (a0_3).toNat, none⟩ = some (.int .i64 (rd x4_1 a0_3))) (ds := []) impl_Exploration_wayOut.mk20 (by kernel_rfl) rfl rfl ⟨(blk_cell BK199.out 0).trans rfl, (blk_cell BK199.out 1).trans rfl, (blk_cell BK199.out 2).trans rfl, (blk_cell BK199.out 3).trans rfl, (blk_cell BK199.out 4).trans rfl, hx207_0, hx208_0⟩ (fun hHeld => ?_); refine with_tabW impl_Exploration_wayOut.tab13 impl_Exploration_wayOut.bits13 (fun HT_ HW_ => ?_)
       generalize wr.drew = w51 at HO_4 BK199 HB hx207_0 hx208_0 hHeld ⊢
       refine pz_ HT_ 0 (some 72) impl_Exploration_wayOut.mk21 ?_
       refine pz_ HT_ 1 (some 73) impl_Exploration_wayOut.mk22 ?_
       refine pz_ HT_ 5 (some 77) impl_Exploration_wayOut.mk23 ?_
       refine pz_ HT_ 6 (some 78) impl_Exploration_wayOut.mk24 ?_
       refine tk_ HT_ HW_ hHeld 2 (some 74) impl_Exploration_wayOut.mk25 ?_
       refine pz_ HT_ 3 (some 75) impl_Exploration_wayOut.mk26 ?_
       refine tk_ HT_ HW_ hHeld 4 (some 76) impl_Exploration_wayOut.mk27 ?_
       refine pz_ HT_ 11 (some 2) impl_Exploration_wayOut.mk28 ?_
       refine tk_ HT_ HW_ hHeld 7 (some 79) impl_Exploration_wayOut.mk29 ?_
       refine pz_ HT_ 8 (some 80) impl_Exploration_wayOut.mk30 ?_
       refine tk_ HT_ HW_ hHeld 9 (some 81) impl_Exploration_wayOut.mk31 ?_
       refine pz_ HT_ 10 (some 82) impl_Exploration_wayOut.mk32 ?_
       refine pz_ HT_ 12 (some 3) impl_Exploration_wayOut.mk33 ?_
       refine done_ (done_of HT_.out (by kernel_rfl)) ?_
       try go_wp2
       go_ret2
       exact ⟨rr_, lb1_ HB.out GE199.out⟩
      ·
       rw [if_neg c50] at H
       exact absurd H (by simp)
     ·
      rw [if_neg c49] at H
      exact absurd H (by simp)
 ·
  rw [if_neg c3] at H
  exact absurd H (by simp)
def impl_IsExploration.j0 : Nat → Bool → List (S37) → List Bool → List Bool → Int → Int → Option (Bool)
 | 0, _, _, _, _, _, _ => none
 | k + 1, x32, x220000, x220001, x220002, x220003, x220004 => if x32 = true then (some false) else (if 0 < (x220001.length : Int) then (if rdOf false x220001 0 = true then (if 0 ≤ x220003 then (if x220003 < (x220001.length : Int) then (if rdOf false x220001 x220003 = true then ((impl_Exploration_wayOut.f k x220000 x220001 x220002 x220003 x220004).bind fun bt225 => (if bt225.2 = true then (some (decide (bt225.1 ≤ x220004))) else (some false))) else (some false)) else (none)) else (none)) else (some false)) else (none))
def impl_IsExploration.f (k : Nat) (l0_0 : List (S37)) (l0_1 : List Bool) (l0_2 : List Bool) (a0_3 : Int) (a0_4 : Int) : Option (Bool) := (impl_areLegs.f k l0_0).bind fun t220 => (if t220 = true then (if (l0_1.length : Int) = 8 then (if (l0_2.length : Int) = 8 then ((impl_isStation.f a0_3).bind fun t221 => (if t221 = true then ((impl_within.f a0_4 0 100000).bind fun t222 => (impl_IsExploration.j0 k (!t222) l0_0 l0_1 l0_2 a0_3 a0_4)) else (impl_IsExploration.j0 k true l0_0 l0_1 l0_2 a0_3 a0_4))) else (impl_IsExploration.j0 k true l0_0 l0_1 l0_2 a0_3 a0_4)) else (impl_IsExploration.j0 k true l0_0 l0_1 l0_2 a0_3 a0_4)) else (impl_IsExploration.j0 k true l0_0 l0_1 l0_2 a0_3 a0_4))
theorem impl_IsExploration.mono_l : ∀ k, (∀ y0 y1 y2 y3 y4 y5, LeO (impl_IsExploration.j0 k y0 y1 y2 y3 y4 y5) (impl_IsExploration.j0 (k + 1) y0 y1 y2 y3 y4 y5))
 | 0 => fun _ _ _ _ _ _ r h => by simp [impl_IsExploration.j0] at h
 | k + 1 => by
  have ih0 := impl_IsExploration.mono_l k
  ·
   intro y0 y1 y2 y3 y4 y5
   unfold impl_IsExploration.j0
   repeat' first
   | (with_reducible exact ih0 _ _ _ _ _ _)
   | (with_reducible exact impl_Exploration_wayOut.mono _ _ _ _ _ _)
   | (with_reducible exact impl_areLegs.mono _ _)
   | (with_reducible exact LeO.refl _)
   | (with_reducible exact LeO.none _)
   | (with_reducible refine LeO.ite ?_ ?_)
   | (with_reducible refine LeO.bind ?_ (fun _ => ?_))
   | exact ih0 _ _ _ _ _ _
   | exact impl_Exploration_wayOut.mono _ _ _ _ _ _
   | exact impl_areLegs.mono _ _
   | exact LeO.none _
   | refine LeO.ite ?_ ?_
   | refine LeO.bind ?_ (fun _ => ?_)
theorem impl_IsExploration.mono : ∀ a0 a1 a2 a3 a4 k, LeO (impl_IsExploration.f k a0 a1 a2 a3 a4) (impl_IsExploration.f (k + 1) a0 a1 a2 a3 a4) := by
 intro a0 a1 a2 a3 a4 k
 have ih0 := impl_IsExploration.mono_l k
 unfold impl_IsExploration.f
 repeat' first
   | (with_reducible exact ih0 _ _ _ _ _ _)
   | (with_reducible exact impl_Exploration_wayOut.mono _ _ _ _ _ _)
   | (with_reducible exact impl_areLegs.mono _ _)
   | (with_reducible exact LeO.refl _)
   | (with_reducible exact LeO.none _)
   | (with_reducible refine LeO.ite ?_ ?_)
   | (with_reducible refine LeO.bind ?_ (fun _ => ?_))
   | exact ih0 _ _ _ _ _ _
   | exact impl_Exploration_wayOut.mono _ _ _ _ _ _
   | exact impl_areLegs.mono _ _
   | exact LeO.none _
   | refine LeO.ite ?_ ?_
   | refine LeO.bind ?_ (fun _ => ?_)
theorem impl_IsExploration.calls (k : Nat) (A0_0 : Option Addr) (c0_0 : Nat) (l0_0 : List (S37)) (A0_1 : Option Addr) (c0_1 : Nat) (l0_1 : List Bool) (A0_2 : Option Addr) (c0_2 : Nat) (l0_2 : List Bool) (a0_3 : Int) (a0_4 : Int) (r : Bool) (w : World) (hr0_0 : Kd.C k37 w A0_0 l0_0.length l0_0) (hc0_0 : l0_0.length ≤ c0_0) (hr0_1 : Kd.C Kd.bool w A0_1 l0_1.length l0_1) (hc0_1 : l0_1.length ≤ c0_1) (hr0_2 : Kd.C Kd.bool w A0_2 l0_2.length l0_2) (hc0_2 : l0_2.length ≤ c0_2) (h : impl_IsExploration.f k l0_0 l0_1 l0_2 a0_3 a0_4 = some r) :
  Calls Try.prog 18 #[.agg #[.slice A0_0 l0_0.length c0_0, .slice A0_1 l0_1.length c0_1, .slice A0_2 l0_2.length c0_2, .int .i64 a0_3, .int .i64 a0_4]] w fun e w' => e = .returned (.bool r) ∧ Below w.heap.size w w' := by
 have hu30 := Try.underlying30
 have HR0_0 := Aside0.mk hr0_0
 have HC0_0 := Aside0.mk hc0_0
 clear hr0_0 hc0_0
 have HR0_1 := Aside0.mk hr0_1
 have HC0_1 := Aside0.mk hc0_1
 clear hr0_1 hc0_1
 have HR0_2 := Aside0.mk hr0_2
 have HC0_2 := Aside0.mk hc0_2
 clear hr0_2 hc0_2
 have HB := Aside0.mk (Below.refl w.heap.size w)
 have H : ((impl_areLegs.f k l0_0).bind fun t220 => (if t220 = true then (if (l0_1.length : Int) = 8 then (if (l0_2.length : Int) = 8 then ((impl_isStation.f a0_3).bind fun t221 => (if t221 = true then ((impl_within.f a0_4 0 100000).bind fun t222 => (impl_IsExploration.j0 k (!t222) l0_0 l0_1 l0_2 a0_3 a0_4)) else (impl_IsExploration.j0 k true l0_0 l0_1 l0_2 a0_3 a0_4))) else (impl_IsExploration.j0 k true l0_0 l0_1 l0_2 a0_3 a0_4)) else (impl_IsExploration.j0 k true l0_0 l0_1 l0_2 a0_3 a0_4)) else (impl_IsExploration.j0 k true l0_0 l0_1 l0_2 a0_3 a0_4))) = some r := h
 clear h
 have HC2 := Aside0.mk H
 clear H
 go_enter Try.func18, Try.ntmps18
 go_upto_region 1 with (first | ((with_reducible refine gate_dst (N := 1) rfl ?_); (try (refine gate_guard (by rfl) ?_; dsimp only)); refine box_event ?hg (N := 1) ?hd (cs := #[.slice A0_0 l0_0.length c0_0, .slice A0_1 l0_1.length c0_1, .slice A0_2 l0_2.length c0_2, .int .i64 a0_3, .int .i64 a0_4]) (t := 30) ?hr ?_; (case hd => rfl); (case hg => rfl); (case hr => first | (go_simp; done) | (go_simp; rfl)); intro gb219 hg w3 hbox hb; have BK219 := Aside0.mk (hbox); have GW219 := Aside0.mk ((bz_ hg (lb0_ HB.out))); have GE219 := Aside0.mk ((bz_ hg (lb0_ HB.out))); replace HB := Aside0.mk (below_step (lb0_ HB.out) hb); clear hb hbox hg))
 (try simp only [Act.put, List.setIfInBounds_toArray, List.set_cons_zero, List.set_cons_succ])
 go_cut [32] (fun v32 wc => ∃ (kq : Nat) (x32_1 : Bool), v32 = .bool x32_1 ∧ Aside0 (impl_IsExploration.j0 kq x32_1 l0_0 l0_1 l0_2 a0_3 a0_4 = some r) ∧ Aside0 (kq ≤ k) ∧ Aside0 (wc.heap[gb219]? = some (.cells #[(.slice A0_0 l0_0.length c0_0), (.slice A0_1 l0_1.length c0_1), (.slice A0_2 l0_2.length c0_2), .int .i64 a0_3, .int .i64 a0_4] 30 (0, 0))) ∧ Aside0 (Below w.heap.size w wc))
 case first =>
  have H := HC2.out
  clear HC2
  replace H := Option.bind_eq_some_iff.mp H
  obtain ⟨t220, A40, H⟩ := H
  replace H : (if t220 = true then (if (l0_1.length : Int) = 8 then (if (l0_2.length : Int) = 8 then ((impl_isStation.f a0_3).bind fun t221 => (if t221 = true then ((impl_within.f a0_4 0 100000).bind fun t222 => (impl_IsExploration.j0 k (!t222) l0_0 l0_1 l0_2 a0_3 a0_4)) else (impl_IsExploration.j0 k true l0_0 l0_1 l0_2 a0_3 a0_4))) else (impl_IsExploration.j0 k true l0_0 l0_1 l0_2 a0_3 a0_4)) else (impl_IsExploration.j0 k true l0_0 l0_1 l0_2 a0_3 a0_4)) else (impl_IsExploration.j0 k true l0_0 l0_1 l0_2 a0_3 a0_4)) = some r := H
  have A4 := Aside0.mk A40
  clear A40
  by_cases c5 : t220 = true
  ·
   subst c5
   have H1 : (if (l0_1.length : Int) = 8 then (if (l0_2.length : Int) = 8 then ((impl_isStation.f a0_3).bind fun t221 => (if t221 = true then ((impl_within.f a0_4 0 100000).bind fun t222 => (impl_IsExploration.j0 k (!t222) l0_0 l0_1 l0_2 a0_3 a0_4)) else (impl_IsExploration.j0 k true l0_0 l0_1 l0_2 a0_3 a0_4))) else (impl_IsExploration.j0 k true l0_0 l0_1 l0_2 a0_3 a0_4)) else (impl_IsExploration.j0 k true l0_0 l0_1 l0_2 a0_3 a0_4)) = some r := by rw [if_pos rfl] at H; exact H
   clear H
   have H := H1
   clear H1
   by_cases c6 : (l0_1.length : Int) = 8
   ·
    rw [if_pos c6] at H
    have c6b0 : ((l0_1.length : Int) == 8) = true := beq_iff_eq.mpr c6
    have c6b1 : ((l0_1.length : Int) != 8) = false := bne_eq_false_iff_eq.mpr c6
    clear c6
    (first | rw [c6b0] | (simp only [i64_w, i32_w]; rw [c6b0]) | skip)
    by_cases c7 : (l0_2.length : Int) = 8
    ·
     rw [if_pos c7] at H
     have c7b0 : ((l0_2.length : Int) == 8) = true := beq_iff_eq.mpr c7
     have c7b1 : ((l0_2.length : Int) != 8) = false := bne_eq_false_iff_eq.mpr c7
     clear c7
     replace H := Option.bind_eq_some_iff.mp H
     obtain ⟨t221, A80, H⟩ := H
     replace H : (if t221 = true then ((impl_within.f a0_4 0 100000).bind fun t222 => (impl_IsExploration.j0 k (!t222) l0_0 l0_1 l0_2 a0_3 a0_4)) else (impl_IsExploration.j0 k true l0_0 l0_1 l0_2 a0_3 a0_4)) = some r := H
     have A8 := Aside0.mk A80
     clear A80
     by_cases c9 : t221 = true
     ·
      subst c9
      have H1 : ((impl_within.f a0_4 0 100000).bind fun t222 => (impl_IsExploration.j0 k (!t222) l0_0 l0_1 l0_2 a0_3 a0_4)) = some r := by rw [if_pos rfl] at H; exact H
      clear H
      have H := H1
      clear H1
      replace H := Option.bind_eq_some_iff.mp H
      obtain ⟨t222, A100, H⟩ := H
      replace H : (impl_IsExploration.j0 k (!t222) l0_0 l0_1 l0_2 a0_3 a0_4) = some r := H
      have A10 := Aside0.mk A100
      clear A100
      have H' := Aside0.mk H
      clear H
      obtain ⟨hcz11_0, hcz11_1, hcz11_2, hcz11_3, hcz11_4⟩ := cz5_ BK219.out
      obtain ⟨hfz11_0, hfz11_1, hfz11_2, hfz11_3, hfz11_4⟩ := fz5_ BK219.out
      go_wp2_with (first | ((with_reducible refine gate_callee (f := 69) rfl ?_); refine ga_ (some 7) Try.func69 #[.slice A0_0 l0_0.length c0_0] ?_; (with_reducible refine (impl_areLegs.calls k _ _ l0_0 true _ ?side1 ?side2 A4.out).mono ?_); (case side1 => exact kc_ (Kd.C_below HR0_0.out HB.out)); (case side2 => exact HC0_0.out); rintro e w12 ⟨rfl, hb⟩; refine ⟨_, rfl, ?_⟩; replace BK219 := Aside0.mk (bb_ (bk_ BK219.out) hb); replace HB := Aside0.mk (below_step (lb1_ HB.out GE219.out) hb); (try clear hb); (try clear hb2); (try clear hk); (try clear hi); obtain ⟨hcz13_0, hcz13_1, hcz13_2, hcz13_3, hcz13_4⟩ := cz5_ BK219.out; obtain ⟨hfz13_0, hfz13_1, hfz13_2, hfz13_3, hfz13_4⟩ := fz5_ BK219.out) | (go_at_call 70; (with_reducible refine (impl_isStation.calls a0_3 true _ A8.out).mono ?_); rintro e w' ⟨rfl, ⟨nd, rfl⟩⟩) | (go_at_call 71; (with_reducible refine (impl_within.calls a0_4 0 100000 t222 _ A10.out).mono ?_); rintro e w' ⟨rfl, ⟨nd, rfl⟩⟩))
      go_meet
      case rel => exact ⟨_, (!t222), (by first | rfl | (simp; done) | (simp [*]; done)), H', ⟨by first | omega | exact Nat.le_refl _⟩, ⟨bk_ BK219.out⟩, ⟨lb1_ HB.out GE219.out⟩⟩
     ·
      replace c9 := Bool.eq_false_iff.mpr c9
      subst c9
      have H1 : (impl_IsExploration.j0 k true l0_0 l0_1 l0_2 a0_3 a0_4) = some r := by rw [if_neg (show ¬ (false = true) by decide)] at H; exact H
      clear H
      have H := H1
      clear H1
      have H' := Aside0.mk H
      clear H
      obtain ⟨hcz14_0, hcz14_1, hcz14_2, hcz14_3, hcz14_4⟩ := cz5_ BK219.out
      obtain ⟨hfz14_0, hfz14_1, hfz14_2, hfz14_3, hfz14_4⟩ := fz5_ BK219.out
      go_wp2_with (first | ((with_reducible refine gate_callee (f := 69) rfl ?_); refine ga_ (some 7) Try.func69 #[.slice A0_0 l0_0.length c0_0] ?_; (with_reducible refine (impl_areLegs.calls k _ _ l0_0 true _ ?side1 ?side2 A4.out).mono ?_); (case side1 => exact kc_ (Kd.C_below HR0_0.out HB.out)); (case side2 => exact HC0_0.out); rintro e w15 ⟨rfl, hb⟩; refine ⟨_, rfl, ?_⟩; replace BK219 := Aside0.mk (bb_ (bk_ BK219.out) hb); replace HB := Aside0.mk (below_step (lb1_ HB.out GE219.out) hb); (try clear hb); (try clear hb2); (try clear hk); (try clear hi); obtain ⟨hcz16_0, hcz16_1, hcz16_2, hcz16_3, hcz16_4⟩ := cz5_ BK219.out; obtain ⟨hfz16_0, hfz16_1, hfz16_2, hfz16_3, hfz16_4⟩ := fz5_ BK219.out) | (go_at_call 70; (with_reducible refine (impl_isStation.calls a0_3 false _ A8.out).mono ?_); rintro e w' ⟨rfl, ⟨nd, rfl⟩⟩))
      go_meet
      case rel => exact ⟨_, (true), (by first | rfl | (simp; done) | (simp [*]; done)), H', ⟨by first | omega | exact Nat.le_refl _⟩, ⟨bk_ BK219.out⟩, ⟨lb1_ HB.out GE219.out⟩⟩
    ·
     rw [if_neg c7] at H
     have c7b0 : ((l0_2.length : Int) == 8) = false := beq_eq_false_iff_ne.mpr c7
     have c7b1 : ((l0_2.length : Int) != 8) = true := bne_iff_ne.mpr c7
     have H' := Aside0.mk H
     clear H
     obtain ⟨hcz17_0, hcz17_1, hcz17_2, hcz17_3, hcz17_4⟩ := cz5_ BK219.out
     obtain ⟨hfz17_0, hfz17_1, hfz17_2, hfz17_3, hfz17_4⟩ := fz5_ BK219.out
     go_wp2_with (first | ((with_reducible refine gate_callee (f := 69) rfl ?_); refine ga_ (some 7) Try.func69 #[.slice A0_0 l0_0.length c0_0] ?_; (with_reducible refine (impl_areLegs.calls k _ _ l0_0 true _ ?side1 ?side2 A4.out).mono ?_); (case side1 => exact kc_ (Kd.C_below HR0_0.out HB.out)); (case side2 => exact HC0_0.out); rintro e w18 ⟨rfl, hb⟩; refine ⟨_, rfl, ?_⟩; replace BK219 := Aside0.mk (bb_ (bk_ BK219.out) hb); replace HB := Aside0.mk (below_step (lb1_ HB.out GE219.out) hb); (try clear hb); (try clear hb2); (try clear hk); (try clear hi); obtain ⟨hcz19_0, hcz19_1, hcz19_2, hcz19_3, hcz19_4⟩ := cz5_ BK219.out; obtain ⟨hfz19_0, hfz19_1, hfz19_2, hfz19_3, hfz19_4⟩ := fz5_ BK219.out))
     go_meet
     case rel => exact ⟨_, (true), (by first | rfl | (simp; done) | (simp [*]; done)), H', ⟨by first | omega | exact Nat.le_refl _⟩, ⟨bk_ BK219.out⟩, ⟨lb1_ HB.out GE219.out⟩⟩
   ·
    rw [if_neg c6] at H
    have c6b0 : ((l0_1.length : Int) == 8) = false := beq_eq_false_iff_ne.mpr c6
    have c6b1 : ((l0_1.length : Int) != 8) = true := bne_iff_ne.mpr c6
    (first | rw [c6b0] | (simp only [i64_w, i32_w]; rw [c6b0]) | skip)
    have H' := Aside0.mk H
    clear H
    obtain ⟨hcz20_0, hcz20_1, hcz20_2, hcz20_3, hcz20_4⟩ := cz5_ BK219.out
    obtain ⟨hfz20_0, hfz20_1, hfz20_2, hfz20_3, hfz20_4⟩ := fz5_ BK219.out
    go_wp2_with (first | ((with_reducible refine gate_callee (f := 69) rfl ?_); refine ga_ (some 7) Try.func69 #[.slice A0_0 l0_0.length c0_0] ?_; (with_reducible refine (impl_areLegs.calls k _ _ l0_0 true _ ?side1 ?side2 A4.out).mono ?_); (case side1 => exact kc_ (Kd.C_below HR0_0.out HB.out)); (case side2 => exact HC0_0.out); rintro e w21 ⟨rfl, hb⟩; refine ⟨_, rfl, ?_⟩; replace BK219 := Aside0.mk (bb_ (bk_ BK219.out) hb); replace HB := Aside0.mk (below_step (lb1_ HB.out GE219.out) hb); (try clear hb); (try clear hb2); (try clear hk); (try clear hi); obtain ⟨hcz22_0, hcz22_1, hcz22_2, hcz22_3, hcz22_4⟩ := cz5_ BK219.out; obtain ⟨hfz22_0, hfz22_1, hfz22_2, hfz22_3, hfz22_4⟩ := fz5_ BK219.out))
    go_meet
    case rel => exact ⟨_, (true), (by first | rfl | (simp; done) | (simp [*]; done)), H', ⟨by first | omega | exact Nat.le_refl _⟩, ⟨bk_ BK219.out⟩, ⟨lb1_ HB.out GE219.out⟩⟩
  ·
   replace c5 := Bool.eq_false_iff.mpr c5
   subst c5
   have H1 : (impl_IsExploration.j0 k true l0_0 l0_1 l0_2 a0_3 a0_4) = some r := by rw [if_neg (show ¬ (false = true) by decide)] at H; exact H
   clear H
   have H := H1
   clear H1
   have H' := Aside0.mk H
   clear H
   obtain ⟨hcz23_0, hcz23_1, hcz23_2, hcz23_3, hcz23_4⟩ := cz5_ BK219.out
   obtain ⟨hfz23_0, hfz23_1, hfz23_2, hfz23_3, hfz23_4⟩ := fz5_ BK219.out
   go_wp2_with (first | ((with_reducible refine gate_callee (f := 69) rfl ?_); refine ga_ (some 7) Try.func69 #[.slice A0_0 l0_0.length c0_0] ?_; (with_reducible refine (impl_areLegs.calls k _ _ l0_0 false _ ?side1 ?side2 A4.out).mono ?_); (case side1 => exact kc_ (Kd.C_below HR0_0.out HB.out)); (case side2 => exact HC0_0.out); rintro e w24 ⟨rfl, hb⟩; refine ⟨_, rfl, ?_⟩; replace BK219 := Aside0.mk (bb_ (bk_ BK219.out) hb); replace HB := Aside0.mk (below_step (lb1_ HB.out GE219.out) hb); (try clear hb); (try clear hb2); (try clear hk); (try clear hi)))
   go_meet
   case rel => exact ⟨_, (true), (by first | rfl | (simp; done) | (simp [*]; done)), H', ⟨by first | omega | exact Nat.le_refl _⟩, ⟨bk_ BK219.out⟩, ⟨lb1_ HB.out GE219.out⟩⟩
 case rest =>
  clear HC2
  try clear c1
  try clear p2
  try clear c5
  try clear c6
  try clear c6b0
  try clear c6b1
  try clear c7
  try clear c7b0
  try clear c7b1
  try clear c9
  try clear c18
  try clear hcz11_0 hcz11_1 hcz11_2 hcz11_3 hcz11_4
  try clear hcz13_0 hcz13_1 hcz13_2 hcz13_3 hcz13_4
  try clear hcz14_0 hcz14_1 hcz14_2 hcz14_3 hcz14_4
  try clear hcz16_0 hcz16_1 hcz16_2 hcz16_3 hcz16_4
  try clear hcz17_0 hcz17_1 hcz17_2 hcz17_3 hcz17_4
  try clear hcz19_0 hcz19_1 hcz19_2 hcz19_3 hcz19_4
  try clear hcz20_0 hcz20_1 hcz20_2 hcz20_3 hcz20_4
  try clear hcz22_0 hcz22_1 hcz22_2 hcz22_3 hcz22_4
  try clear hcz23_0 hcz23_1 hcz23_2 hcz23_3 hcz23_4
  try clear hfz11_0 hfz11_1 hfz11_2 hfz11_3 hfz11_4
  try clear hfz13_0 hfz13_1 hfz13_2 hfz13_3 hfz13_4
  try clear hfz14_0 hfz14_1 hfz14_2 hfz14_3 hfz14_4
  try clear hfz16_0 hfz16_1 hfz16_2 hfz16_3 hfz16_4
  try clear hfz17_0 hfz17_1 hfz17_2 hfz17_3 hfz17_4
  try clear hfz19_0 hfz19_1 hfz19_2 hfz19_3 hfz19_4
  try clear hfz20_0 hfz20_1 hfz20_2 hfz20_3 hfz20_4
  try clear hfz22_0 hfz22_1 hfz22_2 hfz22_3 hfz22_4
  try clear hfz23_0 hfz23_1 hfz23_2 hfz23_3 hfz23_4
  obtain ⟨kq, x32_1, rfl, HA, HJ1, BK219, HB⟩ := hcut
  cases kq with
  | zero => exact absurd HA.out (by simp [impl_IsExploration.j0])
  | succ kj1 =>
   have H := HA.out
   clear HA
   simp only [impl_IsExploration.j0] at H
   by_cases c25 : x32_1 = true
   ·
    subst c25
    have H1 : (some false) = some r := by rw [if_pos rfl] at H; exact H
    clear H
    have H := H1
    clear H1
    obtain rfl := Option.some.inj H
    go_wp2
    go_ret
    exact ⟨rr_, lb1_ HB.out GE219.out⟩
   ·
    replace c25 := Bool.eq_false_iff.mpr c25
    subst c25
    have H1 : (if 0 < (l0_1.length : Int) then (if rdOf false l0_1 0 = true then (if 0 ≤ a0_3 then (if a0_3 < (l0_1.length : Int) then (if rdOf false l0_1 a0_3 = true then ((impl_Exploration_wayOut.f kj1 l0_0 l0_1 l0_2 a0_3 a0_4).bind fun bt225 => (if bt225.2 = true then (some (decide (bt225.1 ≤ a0_4))) else (some false))) else (some false)) else (none)) else (none)) else (some false)) else (none)) = some r := by rw [if_neg (show ¬ (false = true) by decide)] at H; exact H
    clear H
    have H := H1
    clear H1
    by_cases c26 : 0 < (l0_1.length : Int)
    ·
     rw [if_pos c26] at H
     have c26b0 : decide (0 < (l0_1.length : Int)) = true := decide_eq_true c26
     have c26b1 : decide (0 < l0_1.length) = true := decide_eq_true (by omega)
     clear c26
     obtain ⟨bq27, hbq27⟩ : ∃ b_ : Bool, b_ = (rdOf false l0_1 0) := ⟨_, rfl⟩
     replace H : (if bq27 = true then (if 0 ≤ a0_3 then (if a0_3 < (l0_1.length : Int) then (if rdOf false l0_1 a0_3 = true then ((impl_Exploration_wayOut.f kj1 l0_0 l0_1 l0_2 a0_3 a0_4).bind fun bt225 => (if bt225.2 = true then (some (decide (bt225.1 ≤ a0_4))) else (some false))) else (some false)) else (none)) else (none)) else (some false)) = some r := by rw [← hbq27] at H; exact H
     have Nbq27 := Aside0.mk hbq27
     clear hbq27
     by_cases c28 : bq27 = true
     ·
      subst c28
      have H1 : (if 0 ≤ a0_3 then (if a0_3 < (l0_1.length : Int) then (if rdOf false l0_1 a0_3 = true then ((impl_Exploration_wayOut.f kj1 l0_0 l0_1 l0_2 a0_3 a0_4).bind fun bt225 => (if bt225.2 = true then (some (decide (bt225.1 ≤ a0_4))) else (some false))) else (some false)) else (none)) else (none)) = some r := by rw [if_pos rfl] at H; exact H
      clear H
      have H := H1
      clear H1
      by_cases c29 : 0 ≤ a0_3
      ·
       rw [if_pos c29] at H
       have c29b0 : decide (0 ≤ a0_3) = true := decide_eq_true c29
       clear c29
       by_cases c30 : a0_3 < (l0_1.length : Int)
       ·
        rw [if_pos c30] at H
        have c30b0 : decide (a0_3 < (l0_1.length : Int)) = true := decide_eq_true c30; clear c30
        obtain ⟨bq31, hbq31⟩ : ∃ b_ : Bool, b_ = (rdOf false l0_1 a0_3) := ⟨_, rfl⟩
        replace H : (if bq31 = true then ((impl_Exploration_wayOut.f kj1 l0_0 l0_1 l0_2 a0_3 a0_4).bind fun bt225 => (if bt225.2 = true then (some (decide (bt225.1 ≤ a0_4))) else (some false))) else (some false)) = some r := by rw [← hbq31] at H; exact H
        have Nbq31 := Aside0.mk hbq31; clear hbq31
        by_cases c32 : bq31 = true
        ·
         subst c32
         have H1 : ((impl_Exploration_wayOut.f kj1 l0_0 l0_1 l0_2 a0_3 a0_4).bind fun bt225 => (if bt225.2 = true then (some (decide (bt225.1 ≤ a0_4))) else (some false))) = some r := by rw [if_pos rfl] at H; exact H
         clear H; have H := H1; clear H1; replace H := Option.bind_eq_some_iff.mp H; obtain ⟨⟨t225, t226⟩, A330, H⟩ := H; replace H : (if t226 = true then (some (decide (t225 ≤ a0_4))) else (some false)) = some r := H; have A33 := Aside0.mk A330; clear A330
         by_cases c34 : t226 = true
         ·
          subst c34
          have H1 : (some (decide (t225 ≤ a0_4))) = some r := by rw [if_pos rfl] at H; exact H
          clear H; have H := H1; clear H1; obtain rfl := Option.some.inj H; obtain ⟨hcz35_0, hcz35_1, hcz35_2, hcz35_3, hcz35_4⟩ := cz5_ BK219.out; obtain ⟨hfz35_0, hfz35_1, hfz35_2, hfz35_3, hfz35_4⟩ := fz5_ BK219.out
          have p223 : 0 ≤ (0 : Int) := (by omega)
          have q223 : 0 < (l0_1.length : Int) := dt_; obtain ⟨ad223, e223, hx223_0⟩ := Kd.at_bool HR0_1.out 0 p223 q223; (try rw [← Nbq27.out] at hx223_0); (try rw [← Nbq31.out] at hx223_0)
          cases e223
          have qi223 : (0 < l0_1.length) = True := eq_true (by omega); (try rw [show ((0 : Int)).toNat = 0 from rfl] at hx223_0); (try rw [Addr.add_zero'] at hx223_0); replace hx223_0 := bc_ HB.out hx223_0; replace p223 := eq_true p223; replace q223 := eq_true q223; have p224 : 0 ≤ (a0_3 : Int) := dt_; have q224 : a0_3 < (l0_1.length : Int) := dt_; obtain ⟨ad224, e224, hx224_0⟩ := Kd.at_bool HR0_1.out a0_3 p224 q224; (try rw [← Nbq27.out] at hx224_0); (try rw [← Nbq31.out] at hx224_0)
          obtain rfl : ad223 = ad224 := (by injection e224)
          replace hx224_0 := bc_ HB.out hx224_0; replace p224 := eq_true p224; replace q224 := eq_true q224
          go_wp2_with (first | ((with_reducible refine gate_callee (f := 72) rfl ?_); refine ga_ (some 49) Try.func72 #[.agg #[.slice A0_0 l0_0.length c0_0, .slice (some ad223) l0_1.length c0_1, .slice A0_2 l0_2.length c0_2, .int .i64 a0_3, .int .i64 a0_4]] ?_; (with_reducible refine (impl_Exploration_wayOut.calls kj1 _ _ l0_0 _ _ l0_1 _ _ l0_2 a0_3 a0_4 t225 true _ ?side1 ?side2 ?side3 ?side4 ?side5 ?side6 A33.out).mono ?_); (case side1 => exact kc_ (Kd.C_below HR0_0.out HB.out)); (case side2 => exact HC0_0.out); (case side3 => exact kc_ (Kd.C_below HR0_1.out HB.out)); (case side4 => exact HC0_1.out); (case side5 => exact kc_ (Kd.C_below HR0_2.out HB.out)); (case side6 => exact HC0_2.out); rintro e w36 ⟨rfl, hb⟩; refine ⟨_, rfl, ?_⟩; replace BK219 := Aside0.mk (bb_ (bk_ BK219.out) hb); replace HB := Aside0.mk (below_step (lb1_ HB.out GE219.out) hb); (try clear hb); (try clear hb2); (try clear hk); (try clear hi); obtain ⟨hcz37_0, hcz37_1, hcz37_2, hcz37_3, hcz37_4⟩ := cz5_ BK219.out; obtain ⟨hfz37_0, hfz37_1, hfz37_2, hfz37_3, hfz37_4⟩ := fz5_ BK219.out))
          go_ret
          exact ⟨rr_, lb1_ HB.out GE219.out⟩
         ·
          replace c34 := Bool.eq_false_iff.mpr c34; subst c34
          have H1 : (some false) = some r := by rw [if_neg (show ¬ (false = true) by decide)] at H; exact H
          clear H; have H := H1; clear H1; obtain rfl := Option.some.inj H; obtain ⟨hcz38_0, hcz38_1, hcz38_2, hcz38_3, hcz38_4⟩ := cz5_ BK219.out; obtain ⟨hfz38_0, hfz38_1, hfz38_2, hfz38_3, hfz38_4⟩ := fz5_ BK219.out
          have p223 : 0 ≤ (0 : Int) := (by omega)
          have q223 : 0 < (l0_1.length : Int) := dt_; obtain ⟨ad223, e223, hx223_0⟩ := Kd.at_bool HR0_1.out 0 p223 q223; (try rw [← Nbq27.out] at hx223_0); (try rw [← Nbq31.out] at hx223_0)
          cases e223
          have qi223 : (0 < l0_1.length) = True := eq_true (by omega); (try rw [show ((0 : Int)).toNat = 0 from rfl] at hx223_0); (try rw [Addr.add_zero'] at hx223_0); replace hx223_0 := bc_ HB.out hx223_0; replace p223 := eq_true p223; replace q223 := eq_true q223; have p224 : 0 ≤ (a0_3 : Int) := dt_; have q224 : a0_3 < (l0_1.length : Int) := dt_; obtain ⟨ad224, e224, hx224_0⟩ := Kd.at_bool HR0_1.out a0_3 p224 q224; (try rw [← Nbq27.out] at hx224_0); (try rw [← Nbq31.out] at hx224_0)
          obtain rfl : ad223 = ad224 := (by injection e224)
          replace hx224_0 := bc_ HB.out hx224_0; replace p224 := eq_true p224; replace q224 := eq_true q224
          go_wp2_with (first | ((with_reducible refine gate_callee (f := 72) rfl ?_); refine ga_ (some 49) Try.func72 #[.agg #[.slice A0_0 l0_0.length c0_0, .slice (some ad223) l0_1.length c0_1, .slice A0_2 l0_2.length c0_2, .int .i64 a0_3, .int .i64 a0_4]] ?_; (with_reducible refine (impl_Exploration_wayOut.calls kj1 _ _ l0_0 _ _ l0_1 _ _ l0_2 a0_3 a0_4 t225 false _ ?side1 ?side2 ?side3 ?side4 ?side5 ?side6 A33.out).mono ?_); (case side1 => exact kc_ (Kd.C_below HR0_0.out HB.out)); (case side2 => exact HC0_0.out); (case side3 => exact kc_ (Kd.C_below HR0_1.out HB.out)); (case side4 => exact HC0_1.out); (case side5 => exact kc_ (Kd.C_below HR0_2.out HB.out)); (case side6 => exact HC0_2.out); rintro e w39 ⟨rfl, hb⟩; refine ⟨_, rfl, ?_⟩; replace BK219 := Aside0.mk (bb_ (bk_ BK219.out) hb); replace HB := Aside0.mk (below_step (lb1_ HB.out GE219.out) hb); (try clear hb); (try clear hb2); (try clear hk); (try clear hi)))
          go_ret
          exact ⟨rr_, lb1_ HB.out GE219.out⟩
        ·
         replace c32 := Bool.eq_false_iff.mpr c32; subst c32
         have H1 : (some false) = some r := by rw [if_neg (show ¬ (false = true) by decide)] at H; exact H
         clear H; have H := H1; clear H1; obtain rfl := Option.some.inj H; obtain ⟨hcz40_0, hcz40_1, hcz40_2, hcz40_3, hcz40_4⟩ := cz5_ BK219.out; obtain ⟨hfz40_0, hfz40_1, hfz40_2, hfz40_3, hfz40_4⟩ := fz5_ BK219.out
         have p223 : 0 ≤ (0 : Int) := (by omega)
         have q223 : 0 < (l0_1.length : Int) := dt_; obtain ⟨ad223, e223, hx223_0⟩ := Kd.at_bool HR0_1.out 0 p223 q223; (try rw [← Nbq27.out] at hx223_0); (try rw [← Nbq31.out] at hx223_0)
         cases e223
         have qi223 : (0 < l0_1.length) = True := eq_true (by omega); (try rw [show ((0 : Int)).toNat = 0 from rfl] at hx223_0); (try rw [Addr.add_zero'] at hx223_0); replace hx223_0 := bc_ HB.out hx223_0; replace p223 := eq_true p223; replace q223 := eq_true q223; have p224 : 0 ≤ (a0_3 : Int) := dt_; have q224 : a0_3 < (l0_1.length : Int) := dt_; obtain ⟨ad224, e224, hx224_0⟩ := Kd.at_bool HR0_1.out a0_3 p224 q224; (try rw [← Nbq27.out] at hx224_0); (try rw [← Nbq31.out] at hx224_0)
         obtain rfl : ad223 = ad224 := (by injection e224)
         replace hx224_0 := bc_ HB.out hx224_0; replace p224 := eq_true p224; replace q224 := eq_true q224
         go_wp2
         go_ret
         exact ⟨rr_, lb1_ HB.out GE219.out⟩
       ·
        rw [if_neg c30] at H
        exact absurd H (by simp)
      ·
       rw [if_neg c29] at H
       exact absurd H (by simp)
     ·
      replace c28 := Bool.eq_false_iff.mpr c28
      subst c28
      have H1 : (some false) = some r := by rw [if_neg (show ¬ (false = true) by decide)] at H; exact H
      clear H
      have H := H1
      clear H1
      obtain rfl := Option.some.inj H
      obtain ⟨hcz41_0, hcz41_1, hcz41_2, hcz41_3, hcz41_4⟩ := cz5_ BK219.out
      obtain ⟨hfz41_0, hfz41_1, hfz41_2, hfz41_3, hfz41_4⟩ := fz5_ BK219.out
      have p223 : 0 ≤ (0 : Int) := (by omega)
      have q223 : 0 < (l0_1.length : Int) := dt_
      obtain ⟨ad223, e223, hx223_0⟩ := Kd.at_bool HR0_1.out 0 p223 q223
      (try rw [← Nbq27.out] at hx223_0)
      cases e223
      have qi223 : (0 < l0_1.length) = True := eq_true (by omega)
      (try rw [show ((0 : Int)).toNat = 0 from rfl] at hx223_0)
      (try rw [Addr.add_zero'] at hx223_0)
      replace hx223_0 := bc_ HB.out hx223_0
      replace p223 := eq_true p223
      replace q223 := eq_true q223
      go_wp2
      go_ret
      exact ⟨rr_, lb1_ HB.out GE219.out⟩
    ·
     rw [if_neg c26] at H
     exact absurd H (by simp)
theorem own_block_ {α : Type} {d : Kd α} {e base : Nat} {ok : Nat → Prop} {w : World} {v : Value} {xs : List α} (h : d.R e w base ok v xs) (hn : 0 < xs.length) : ∃ gv cap, v = .slice (some ⟨gv, 0, none⟩) xs.length cap ∧ base ≤ gv ∧ xs.length ≤ cap ∧ v.ownBlock = some gv := by
 obtain ⟨inner, ho⟩ := Kd.R_own h
 rcases ho.2 with ⟨_, h0⟩ | ⟨gv, cap, cur, rfl, hb, _, hc, _⟩
 ·
  omega
 ·
  exact ⟨gv, cap, rfl, hb, hc, rfl⟩
theorem own_ne_ {α : Type} {d : Kd α} {e base : Nat} {ok : Nat → Prop} {w : World} {v : Value} {xs : List α} (h : d.R e w base ok v xs) (hE : d.E = []) {g t : Nat} {cs : Array Value} (hb : w.heap[g]? = some (.cells cs t (0, 0))) (ht : e ≠ t) : d.R e w base (fun k => ok k ∧ k ≠ g) v xs := by
 refine Kd.R_mono (Kd.R_bound h) (fun k hk => ⟨hk.1, fun he => ?_⟩)
 obtain ⟨q, hq, cells, hc⟩ := hk.2.2.2
 subst he
 rw [hE, List.mem_singleton] at hq
 subst hq
 rw [hb] at hc
 injection hc with hc
 injection hc with _ hc
 exact ht hc.symm
structure ExS (w : World) (base g : Nat) (vL vV vD : Value) (L : List S37) (V D : List Bool) (p t : Int) : Prop where
 blk : w.heap[g]? = some (.cells #[vL, vV, vD, .int .i64 p, .int .i64 t] 30 (0, 0))
 gb : base ≤ g
 rL : Kd.R k37 37 w base (fun _ => True) vL L
 rV : Kd.R Kd.bool 4 w base (fun k => some k ≠ vD.ownBlock) vV V
 rD : Kd.R Kd.bool 4 w base (fun k => some k ≠ vV.ownBlock) vD D
namespace ExS
variable {w w1 : World} {base g : Nat} {vL vV vD : Value} {L : List S37} {V D : List Bool} {p t : Int}
theorem below (h : ExS w base g vL vV vD L V D p t) (hb : Below w.heap.size w w1) : ExS w1 base g vL vV vD L V D p t :=
 ⟨blk_below h.blk hb, h.gb, Kd.R_below h.rL hb, Kd.R_below h.rV hb, Kd.R_below h.rD hb⟩
theorem keep (h : ExS w base g vL vV vD L V D p t) (hk : KeepBut w w1 g none) {p' t' : Int} (hb : w1.heap[g]? = some (.cells #[vL, vV, vD, .int .i64 p', .int .i64 t'] 30 (0, 0))) : ExS w1 base g vL vV vD L V D p' t' :=
 ⟨hb, h.gb, Kd.R_mono (Kd.R_keep (own_ne_ h.rL rfl h.blk (by decide)) hk (fun _ hk => hk.2)) (fun _ hk => hk.1), Kd.R_mono (Kd.R_keep (own_ne_ h.rV rfl h.blk (by decide)) hk (fun _ hk => hk.2)) (fun _ hk => hk.1), Kd.R_mono (Kd.R_keep (own_ne_ h.rD rfl h.blk (by decide)) hk (fun _ hk => hk.2)) (fun _ hk => hk.1)⟩
theorem put3 (h : ExS w base g vL vV vD L V D p t) (p' : Int) : ExS (w.setCell ⟨g, 3, none⟩ (.int .i64 p')) base g vL vV vD L V D p' t :=
 h.keep (KeepBut.set_ (KeepBut.refl _ _ _) 3 _) (blk_put h.blk 3 _ rfl)
theorem put4 (h : ExS w base g vL vV vD L V D p t) (t' : Int) : ExS (w.setCell ⟨g, 4, none⟩ (.int .i64 t')) base g vL vV vD L V D p t' :=
 h.keep (KeepBut.set_ (KeepBut.refl _ _ _) 4 _) (blk_put h.blk 4 _ rfl)
theorem putV {gv cap : Nat} (h : ExS w base g vL (.slice (some ⟨gv, 0, none⟩) V.length cap) vD L V D p t) (i : Int) (x : Bool) : ExS (w.setCell ⟨gv, i.toNat, none⟩ (.bool x)) base g vL (.slice (some ⟨gv, 0, none⟩) V.length cap) vD L (V.set i.toNat x) D p t := by
 obtain ⟨h1, h2⟩ := Kd.R_putg (enc := Value.bool) h.rV i x
 have hne := h.rV.1 gv rfl
 have hg : gv ≠ g := ((own_ne_ h.rV rfl h.blk (by decide)).1 gv rfl).2
 refine ⟨blk_far h.blk (p := ⟨gv, i.toNat, none⟩) (fun e => hg e.symm) _, h.gb, ?_, h1, ?_⟩
 ·
  exact Kd.R_grown2 h.rL rfl h2 (fun k hk he => by
   injection hk with hk
   subst hk
   obtain ⟨q, hq, cells, hc⟩ := ((Kd.R_bound h.rL).1 gv he.symm).2.2.2
   obtain ⟨q', hq', cells', hc'⟩ := ((Kd.R_bound h.rV).1 gv rfl).2.2.2
   rw [hc] at hc'
   rw [show (k37).E = [] from rfl, List.mem_singleton] at hq
   rw [show (Kd.bool).E = [] from rfl, List.mem_singleton] at hq'
   injection hc' with hc'
   injection hc' with _ hc'
   rw [hq, hq'] at hc'
   exact absurd hc' (by decide))
 ·
  exact Kd.R_grown h.rD h2 (fun k hk => hk)
theorem putD {gv cap : Nat} (h : ExS w base g vL vV (.slice (some ⟨gv, 0, none⟩) D.length cap) L V D p t) (i : Int) (x : Bool) : ExS (w.setCell ⟨gv, i.toNat, none⟩ (.bool x)) base g vL vV (.slice (some ⟨gv, 0, none⟩) D.length cap) L V (D.set i.toNat x) p t := by
 obtain ⟨h1, h2⟩ := Kd.R_putg (enc := Value.bool) h.rD i x
 have hg : gv ≠ g := ((own_ne_ h.rD rfl h.blk (by decide)).1 gv rfl).2
 refine ⟨blk_far h.blk (p := ⟨gv, i.toNat, none⟩) (fun e => hg e.symm) _, h.gb, ?_, ?_, h1⟩
 ·
  exact Kd.R_grown2 h.rL rfl h2 (fun k hk he => by
   injection hk with hk
   subst hk
   obtain ⟨q, hq, cells, hc⟩ := ((Kd.R_bound h.rL).1 gv he.symm).2.2.2
   obtain ⟨q', hq', cells', hc'⟩ := ((Kd.R_bound h.rD).1 gv rfl).2.2.2
   rw [hc] at hc'
   rw [show (k37).E = [] from rfl, List.mem_singleton] at hq
   rw [show (Kd.bool).E = [] from rfl, List.mem_singleton] at hq'
   injection hc' with hc'
   injection hc' with _ hc'
   rw [hq, hq'] at hc'
   exact absurd hc' (by decide))
 ·
  exact Kd.R_grown h.rV h2 (fun k hk => hk)
end ExS
end Go.Proofs.Ythmjimboajmhmaa.Pr

namespace Go.Proofs.Ythmjimboajmhmaa.Pr
open Go.RowKit Go.Proofs.YthmjimboajmhmaaW.PrintWords Go.Proofs.YthmjimboajmhmaaW.PrintLast Go.Proofs.YthmjimboajmhmaaW.PrintMore
attribute [local go_sem] max2_int min2_int max_two min_two max_three min_three max_four min_four   -- for this text's walks alone
set_option linter.unusedVariables false
set_option linter.unusedSimpArgs false
def impl_Leg_87.f (l0 : List S37) : Option (List S37) := if l0.length ≤ 3518437208883 then some l0 else none
set_option maxHeartbeats 4000000 in
set_option maxRecDepth 100000 in
theorem impl_Leg_87.calls (A0 : Option Addr) (c0 : Nat) (l0 : List S37) (r : List S37) (w : World) (hr0 : Kd.C k37 w A0 l0.length l0) (hc0 : l0.length ≤ c0) (h : impl_Leg_87.f l0 = some r) :
  Calls Try.prog 87 #[.slice A0 l0.length c0] w fun e w' => ∃ v0_ : Value, e = .returned (v0_) ∧ Kd.R k37 37 w' w.heap.size (fun _ => True) v0_ r ∧ Below w.heap.size w w' := by
 unfold impl_Leg_87.f at h
 by_cases hl : l0.length ≤ 3518437208883
 ·
  rw [if_pos hl] at h
  obtain rfl := Option.some.inj h
  have HR := Aside0.mk hr0
  clear hr0
  cases A0 with
  | none =>
   have hn : l0 = [] := by
    rcases Nat.eq_zero_or_pos l0.length with h0 | h0
    ·
     exact List.length_eq_zero_iff.1 h0
    ·
     obtain ⟨ad, e, _⟩ := HR.out.2.2 h0
     cases e
   subst hn
   have hq : ∀ w, Sem.run Try.prog (binOp .eql 28 (.slice none 0 c0) (.slice none 0 0)) w = .ok (.bool true) w := fun w => by rfl
   go_enter Try.func87, Try.ntmps87
   go_wp2
   go_ret
   exact ⟨_, rfl, Kd.R_nil _ _ _ _ _, Below.refl _ _⟩
  | some ad =>
   have hq : ∀ w, Sem.run Try.prog (binOp .eql 28 (.slice (some ad) l0.length c0) (.slice none 0 0)) w = .ok (.bool false) w := fun w => by rfl
   go_enter Try.func87, Try.ntmps87
   go_wp2_with (first | ((with_reducible refine gate_dst (N := 5) rfl ?_); refine Kd.R_lit k37 _ 37 ?hg (N := 5) ?hd (xs := []) (inner := []) (ok := fun _ => True) (okp := fun _ => True) ?hr ?hp (fun _ hk => hk) trivial (Below.refl _ _) (Nat.le_refl _) (by simp) ?_; (case hd => rfl); (case hg => rfl); (case hr => first | (go_simp; done) | (go_simp; rfl)); (case hp => exact (Reps.none _ _)); intro v5 w4 ho5 hb5 hg_ hnew_; clear hg_ hnew_; have HO5 := Aside0.mk ho5; have HB5 := Aside0.mk hb5; clear ho5 hb5) | ((with_reducible refine gate_builtin (b := .append) (xs := #[.tmp 5, .tmp 6]) rfl ?_); at_builtin; refine Kd.R_append_rows k37 (w0 := w) w.heap.size rfl (.tmp 5) (.tmp 6) 28 37 (.agg #[(.int .i64 0), (.int .i64 0), (.int .i64 0), (.int .i64 0), (.int .i64 0)]) 40 rfl Try.underlying28 info37 rfl (by decide) (by omega) v5 [] l0 (some ad) _ _ (fun _ => True) (fun _ => False) rfl rfl HO5.out (Kd.C_below HR.out HB5.out) (fun _ _ h => h) (fun _ h => h.elim) (fun _ _ => trivial) HB5.out (below_size HB5.out) (by simp; omega) ?_; intro v7 w7 ho7 hb7 hg7 hat7; have HO7 := Aside0.mk ho7; have HB7 := Aside0.mk hb7; clear ho7 hb7 hg7 hat7))
   go_ret
   exact ⟨_, rfl, HO7.out, HB7.out⟩
 ·
  rw [if_neg hl] at h
  cases h
def slices_Clone_bool_bool.f (l0 : List Bool) : Option (List Bool) := if l0.length ≤ 140737488355328 then some l0 else none
set_option maxHeartbeats 4000000 in
set_option maxRecDepth 100000 in
theorem slices_Clone_bool_bool.calls (A0 : Option Addr) (c0 : Nat) (l0 : List Bool) (r : List Bool) (w : World) (hr0 : Kd.C Kd.bool w A0 l0.length l0) (hc0 : l0.length ≤ c0) (h : slices_Clone_bool_bool.f l0 = some r) :
  Calls Try.prog 109 #[.slice A0 l0.length c0] w fun e w' => ∃ v0_ : Value, e = .returned (v0_) ∧ Kd.R Kd.bool 4 w' w.heap.size (fun _ => True) v0_ r ∧ Below w.heap.size w w' := by
 unfold slices_Clone_bool_bool.f at h
 by_cases hl : l0.length ≤ 140737488355328
 ·
  rw [if_pos hl] at h
  obtain rfl := Option.some.inj h
  have HR := Aside0.mk hr0
  clear hr0
  cases A0 with
  | none =>
   have hn : l0 = [] := by
    rcases Nat.eq_zero_or_pos l0.length with h0 | h0
    ·
     exact List.length_eq_zero_iff.1 h0
    ·
     obtain ⟨ad, e, _⟩ := HR.out.2.2 h0
     cases e
   subst hn
   have hq : ∀ w, Sem.run Try.prog (binOp .eql 23 (.slice none 0 c0) (.slice none 0 0)) w = .ok (.bool true) w := fun w => by rfl
   go_enter Try.func109, Try.ntmps109
   go_wp2
   go_ret
   exact ⟨_, rfl, Kd.R_nil _ _ _ _ _, Below.refl _ _⟩
  | some ad =>
   have hq : ∀ w, Sem.run Try.prog (binOp .eql 23 (.slice (some ad) l0.length c0) (.slice none 0 0)) w = .ok (.bool false) w := fun w => by rfl
   go_enter Try.func109, Try.ntmps109
   go_wp2_with (first | ((with_reducible refine gate_dst (N := 5) rfl ?_); refine Kd.R_lit Kd.bool _ 4 ?hg (N := 5) ?hd (xs := []) (inner := []) (ok := fun _ => True) (okp := fun _ => True) ?hr ?hp (fun _ hk => hk) trivial (Below.refl _ _) (Nat.le_refl _) (by simp) ?_; (case hd => rfl); (case hg => rfl); (case hr => first | (go_simp; done) | (go_simp; rfl)); (case hp => exact (Reps.none _ _)); intro v5 w4 ho5 hb5 hg_ hnew_; clear hg_ hnew_; have HO5 := Aside0.mk ho5; have HB5 := Aside0.mk hb5; clear ho5 hb5) | ((with_reducible refine gate_builtin (b := .append) (xs := #[.tmp 5, .tmp 6]) rfl ?_); at_builtin; refine Kd.R_append_rows Kd.bool (w0 := w) w.heap.size rfl (.tmp 5) (.tmp 6) 23 4 (.bool false) 1 rfl Try.underlying23 info4 rfl (by decide) (by omega) v5 [] l0 (some ad) _ _ (fun _ => True) (fun _ => False) rfl rfl HO5.out (Kd.C_below HR.out HB5.out) (fun _ _ h => h) (fun _ h => h.elim) (fun _ _ => trivial) HB5.out (below_size HB5.out) (by simp; omega) ?_; intro v7 w7 ho7 hb7 hg7 hat7; have HO7 := Aside0.mk ho7; have HB7 := Aside0.mk hb7; clear ho7 hb7 hg7 hat7))
   go_ret
   exact ⟨_, rfl, HO7.out, HB7.out⟩
 ·
  rw [if_neg hl] at h
  cases h
def impl_Exploration_clone.f (l0_0 : List (S37)) (l0_1 : List Bool) (l0_2 : List Bool) (a0_3 : Int) (a0_4 : Int) : Option ((List (S37)) × List Bool × List Bool × Int × Int) := (impl_Leg_87.f l0_0).bind fun t782 => ((slices_Clone_bool_bool.f l0_1).bind fun t785 => ((slices_Clone_bool_bool.f l0_2).bind fun t788 => (some (t782, t785, t788, a0_3, a0_4))))
def impl_Exploration_clone.T1 : Bool × List (List Nat × List Nat) := (true, [([], []), ([0], [0]), ([1], [1]), ([], []), ([3], [3]), ([4, 2], [4]), ([], []), ([6], [6]), ([7, 5], [7]), ([0, 1, 2, 3, 4, 6, 7], []), ([9, 2, 8, 0, 1, 2, 3, 4, 6, 7], [2, 9]), ([0, 1, 2, 3, 4, 5, 6, 7, 9, 10], []), ([11, 5, 10, 0, 1, 2, 3, 4, 5, 6, 7, 9, 10], [5, 11]), ([0, 1, 2, 3, 4, 5, 6, 7, 8, 9, 10, 11, 12], []), ([13, 8, 12, 0, 1, 2, 3, 4, 5, 6, 7, 8, 9, 10, 11, 12], [8, 13])])
def impl_Exploration_clone.B1 : List Nat := [0, 1, 3, 0, 8, 31, 0, 64, 255, 223, 1023, 2047, 4095, 8191, 16383]
theorem impl_Exploration_clone.tab1 : rtab .any (opsOf Try.f83 1) = impl_Exploration_clone.T1 := by kernel_rfl
theorem impl_Exploration_clone.bits1 : waitsOk impl_Exploration_clone.T1.2 impl_Exploration_clone.B1 = true := by kernel_rfl
abbrev impl_Exploration_clone.mk0 : Array Bool := #[fF,fF,fF,fF,fF,fF,fF,fF,fF,fF,fF,fF,fF,fF,fF]
abbrev impl_Exploration_clone.mk1 : Array Bool := #[tT,fF,fF,fF,fF,fF,fF,fF,fF,fF,fF,fF,fF,fF,fF]
abbrev impl_Exploration_clone.mk2 : Array Bool := #[tT,fF,fF,tT,fF,fF,fF,fF,fF,fF,fF,fF,fF,fF,fF]
abbrev impl_Exploration_clone.mk3 : Array Bool := #[tT,fF,fF,tT,fF,fF,tT,fF,fF,fF,fF,fF,fF,fF,fF]
abbrev impl_Exploration_clone.mk4 : Array Bool := #[tT,tT,fF,tT,fF,fF,tT,fF,fF,fF,fF,fF,fF,fF,fF]
abbrev impl_Exploration_clone.mk5 : Array Bool := #[tT,tT,fF,tT,tT,fF,tT,fF,fF,fF,fF,fF,fF,fF,fF]
abbrev impl_Exploration_clone.mk6 : Array Bool := #[tT,tT,fF,tT,tT,fF,tT,tT,fF,fF,fF,fF,fF,fF,fF]
abbrev impl_Exploration_clone.mk7 : Array Bool := #[tT,tT,tT,tT,tT,fF,tT,tT,fF,fF,fF,fF,fF,fF,fF]
abbrev impl_Exploration_clone.mk8 : Array Bool := #[tT,tT,tT,tT,tT,fF,tT,tT,fF,tT,fF,fF,fF,fF,fF]
abbrev impl_Exploration_clone.mk9 : Array Bool := #[tT,tT,tT,tT,tT,tT,tT,tT,fF,tT,fF,fF,fF,fF,fF]
abbrev impl_Exploration_clone.mk10 : Array Bool := #[tT,tT,tT,tT,tT,tT,tT,tT,tT,tT,fF,fF,fF,fF,fF]
abbrev impl_Exploration_clone.mk11 : Array Bool := #[tT,tT,tT,tT,tT,tT,tT,tT,tT,tT,tT,fF,fF,fF,fF]
abbrev impl_Exploration_clone.mk12 : Array Bool := #[tT,tT,tT,tT,tT,tT,tT,tT,tT,tT,tT,tT,fF,fF,fF]
abbrev impl_Exploration_clone.mk13 : Array Bool := #[tT,tT,tT,tT,tT,tT,tT,tT,tT,tT,tT,tT,tT,fF,fF]
abbrev impl_Exploration_clone.mk14 : Array Bool := #[tT,tT,tT,tT,tT,tT,tT,tT,tT,tT,tT,tT,tT,tT,fF]
abbrev impl_Exploration_clone.mk15 : Array Bool := #[tT,tT,tT,tT,tT,tT,tT,tT,tT,tT,tT,tT,tT,tT,tT]
theorem impl_Exploration_clone.calls (A0_0 : Option Addr) (c0_0 : Nat) (l0_0 : List (S37)) (A0_1 : Option Addr) (c0_1 : Nat) (l0_1 : List Bool) (A0_2 : Option Addr) (c0_2 : Nat) (l0_2 : List Bool) (a0_3 : Int) (a0_4 : Int) (r1 : List (S37)) (r2 : List Bool) (r3 : List Bool) (r4 : Int) (r5 : Int) (w : World) (hr0_0 : Kd.C k37 w A0_0 l0_0.length l0_0) (hc0_0 : l0_0.length ≤ c0_0) (hr0_1 : Kd.C Kd.bool w A0_1 l0_1.length l0_1) (hc0_1 : l0_1.length ≤ c0_1) (hr0_2 : Kd.C Kd.bool w A0_2 l0_2.length l0_2) (hc0_2 : l0_2.length ≤ c0_2) (h : impl_Exploration_clone.f l0_0 l0_1 l0_2 a0_3 a0_4 = some (r1, r2, r3, r4, r5)) :
  Calls Try.prog 83 #[.agg #[.slice A0_0 l0_0.length c0_0, .slice A0_1 l0_1.length c0_1, .slice A0_2 l0_2.length c0_2, .int .i64 a0_3, .int .i64 a0_4]] w fun e w' => ∃ v0_ v1_ v2_ : Value, e = .returned (.agg #[v0_, v1_, v2_, .int .i64 r4, .int .i64 r5]) ∧ Kd.R k37 37 w' w.heap.size (fun _ => True) v0_ r1 ∧ Kd.R Kd.bool 4 w' w.heap.size (fun k_ => some k_ ≠ (v2_ : Value).ownBlock) v1_ r2 ∧ Kd.R Kd.bool 4 w' w.heap.size (fun k_ => some k_ ≠ (v1_ : Value).ownBlock) v2_ r3 ∧ Below w.heap.size w w' := by
 have hu30 := Try.underlying30
 have HR0_0 := Aside0.mk hr0_0
 have HC0_0 := Aside0.mk hc0_0
 clear hr0_0 hc0_0
 have HR0_1 := Aside0.mk hr0_1
 have HC0_1 := Aside0.mk hc0_1
 clear hr0_1 hc0_1
 have HR0_2 := Aside0.mk hr0_2
 have HC0_2 := Aside0.mk hc0_2
 clear hr0_2 hc0_2
 have HB := Aside0.mk (Below.refl w.heap.size w)
 have H : ((impl_Leg_87.f l0_0).bind fun t782 => ((slices_Clone_bool_bool.f l0_1).bind fun t785 => ((slices_Clone_bool_bool.f l0_2).bind fun t788 => (some (t782, t785, t788, a0_3, a0_4))))) = some (r1, r2, r3, r4, r5) := h
 clear h
 replace H := Option.bind_eq_some_iff.mp H
 obtain ⟨t782, A20, H⟩ := H
 replace H : ((slices_Clone_bool_bool.f l0_1).bind fun t785 => ((slices_Clone_bool_bool.f l0_2).bind fun t788 => (some (t782, t785, t788, a0_3, a0_4)))) = some (r1, r2, r3, r4, r5) := H
 have A2 := Aside0.mk A20
 clear A20
 replace H := Option.bind_eq_some_iff.mp H
 obtain ⟨t785, A30, H⟩ := H
 replace H : ((slices_Clone_bool_bool.f l0_2).bind fun t788 => (some (t782, t785, t788, a0_3, a0_4))) = some (r1, r2, r3, r4, r5) := H
 have A3 := Aside0.mk A30
 clear A30
 replace H := Option.bind_eq_some_iff.mp H
 obtain ⟨t788, A40, H⟩ := H
 replace H : (some (t782, t785, t788, a0_3, a0_4)) = some (r1, r2, r3, r4, r5) := H
 have A4 := Aside0.mk A40
 clear A40
 simp only [Option.some.injEq, Prod.mk.injEq] at H
 obtain ⟨rfl, rfl, rfl, rfl, rfl⟩ := H
 go_enter Try.func83, Try.ntmps83
 try go_wp2_with (first | ((with_reducible refine gate_dst (N := 1) rfl ?_); refine box_event ?hg (N := 1) ?hd (cs := #[.slice A0_0 l0_0.length c0_0, .slice A0_1 l0_1.length c0_1, .slice A0_2 l0_2.length c0_2, .int .i64 a0_3, .int .i64 a0_4]) (t := 30) ?hr ?_; (case hd => rfl); (case hg => rfl); (case hr => first | (go_simp; done) | (go_simp; rfl)); intro gb780 hg w5 hbox hb; have BK780 := Aside0.mk (hbox); have GW780 := Aside0.mk ((bz_ hg (lb0_ HB.out))); have GE780 := Aside0.mk ((bz_ hg (lb0_ HB.out))); replace HB := Aside0.mk (below_step (lb0_ HB.out) hb); clear hb hbox hg) | ((with_reducible refine gate_dst (N := 2) rfl ?_); refine box_event ?hg (N := 2) ?hd (cs := #[.slice none 0 0, .slice none 0 0, .slice none 0 0, .int .i64 0, .int .i64 0]) (t := 30) ?hr ?_; (case hd => rfl); (case hg => rfl); (case hr => first | (go_simp; done) | (go_simp; rfl)); intro gb781 hg w6 hbox hb; have BK781 := Aside0.mk (hbox); have GW781 := Aside0.mk ((bz_ hg (lb1_ HB.out GE780.out))); have GE781 := Aside0.mk ((bz_ hg (lb1_ HB.out GE780.out))); replace HB := Aside0.mk (below_step (lb1_ HB.out GE780.out) hb); have NB780_781 := Aside0.mk (nl_ hg BK780.out); have NB781_780 := Aside0.mk (ng_ hg BK780.out); replace BK780 := Aside0.mk (bb_ (bk_ BK780.out) hb); clear hb hbox hg))
 replace BK780 := Aside0.mk (blk_drew BK780.out)
 replace BK781 := Aside0.mk (blk_drew BK781.out)
 replace HB := Aside0.mk (below_drew1 HB.out)
 refine start_ (n := 15) (S := fun w' => w'.cell? ⟨gb780, 0, none⟩ = some (.slice A0_0 l0_0.length c0_0) ∧ w'.cell? ⟨gb780, 1, none⟩ = some (.slice A0_1 l0_1.length c0_1) ∧ w'.cell? ⟨gb780, 2, none⟩ = some (.slice A0_2 l0_2.length c0_2) ∧ w'.cell? ⟨gb780, 3, none⟩ = some (.int .i64 a0_3) ∧ w'.cell? ⟨gb780, 4, none⟩ = some (.int .i64 a0_4)) (ds := [10, 12, 14]) impl_Exploration_clone.mk0 (by kernel_rfl) rfl rfl ⟨(blk_cell BK780.out 0).trans rfl, (blk_cell BK780.out 1).trans rfl, (blk_cell BK780.out 2).trans rfl, (blk_cell BK780.out 3).trans rfl, (blk_cell BK780.out 4).trans rfl⟩ (fun hHeld => ?_); refine with_tabW impl_Exploration_clone.tab1 impl_Exploration_clone.bits1 (fun HT_ HW_ => ?_)
 generalize w6.drew = w7 at BK780 BK781 HB hHeld ⊢
 refine pz_ HT_ 0 (some 3) impl_Exploration_clone.mk1 ?_
 refine pz_ HT_ 3 (some 6) impl_Exploration_clone.mk2 ?_
 refine pz_ HT_ 6 (some 9) impl_Exploration_clone.mk3 ?_
 refine tk_ HT_ HW_ hHeld 1 (some 4) impl_Exploration_clone.mk4 ?_
 refine tk_ HT_ HW_ hHeld 4 (some 7) impl_Exploration_clone.mk5 ?_
 refine tk_ HT_ HW_ hHeld 7 (some 10) impl_Exploration_clone.mk6 ?_
 refine one_ (i := 2) (N := some 5) impl_Exploration_clone.mk7 rfl rfl (one_of HT_.out (by kernel_rfl)) (by decide) (fun K hK => ?_)
 refine gs_ Try.func87 #[.slice A0_0 l0_0.length c0_0] ?_
 with_reducible refine (impl_Leg_87.calls _ _ l0_0 t782 _ ?side1 ?side2 A2.out).mono ?_
 (case side1 => exact kc_ (Kd.C_below HR0_0.out HB.out))
 (case side2 => exact HC0_0.out)
 rintro e w8 ⟨v783, rfl, ho0, hb⟩
 refine ⟨_, rfl, ?_⟩
 have HO784 := Aside0.mk (Kd.R_lower ho0 (below_size (lb2_ HB.out GE780.out GE781.out)))
 replace BK780 := Aside0.mk (bb_ (bk_ BK780.out) hb)
 replace BK781 := Aside0.mk (bb_ (bk_ BK781.out) hb)
 replace HB := Aside0.mk (below_step (lb2_ HB.out GE780.out GE781.out) hb)
 (try clear hb)
 (try clear hb2)
 (try clear hk)
 (try clear hi)
 (try clear ho0)
 refine hK.out _ _ ⟨(blk_cell BK780.out 0).trans rfl, (blk_cell BK780.out 1).trans rfl, (blk_cell BK780.out 2).trans rfl, (blk_cell BK780.out 3).trans rfl, (blk_cell BK780.out 4).trans rfl⟩ (fun hHeld => ?_)
 clear hK K
 refine na_ ?_
 refine pz_ HT_ 9 (some 12) impl_Exploration_clone.mk8 ?_
 refine one_ (i := 5) (N := some 8) impl_Exploration_clone.mk9 rfl rfl (one_of HT_.out (by kernel_rfl)) (by decide) (fun K hK => ?_)
 refine gs_ Try.func109 #[.slice A0_1 l0_1.length c0_1] ?_
 with_reducible refine (slices_Clone_bool_bool.calls _ _ l0_1 t785 _ ?side1 ?side2 A3.out).mono ?_
 (case side1 => exact kc_ (Kd.C_below HR0_1.out HB.out))
 (case side2 => exact HC0_1.out)
 rintro e w9 ⟨v786, rfl, ho0, hb⟩
 refine ⟨_, rfl, ?_⟩
 replace HO784 := Aside0.mk (Kd.R_below (kr_ HO784.out) hb)
 have HO787 := Aside0.mk (Kd.R_lower ho0 (below_size (lb2_ HB.out GE780.out GE781.out)))
 replace BK780 := Aside0.mk (bb_ (bk_ BK780.out) hb)
 replace BK781 := Aside0.mk (bb_ (bk_ BK781.out) hb)
 replace HB := Aside0.mk (below_step (lb2_ HB.out GE780.out GE781.out) hb)
 (try clear hb)
 (try clear hb2)
 (try clear hk)
 (try clear hi)
 (try clear ho0)
 refine hK.out _ _ ⟨(blk_cell BK780.out 0).trans rfl, (blk_cell BK780.out 1).trans rfl, (blk_cell BK780.out 2).trans rfl, (blk_cell BK780.out 3).trans rfl, (blk_cell BK780.out 4).trans rfl⟩ (fun hHeld => ?_)
 clear hK K
 refine na_ ?_
 refine one_ (i := 8) (N := some 11) impl_Exploration_clone.mk10 rfl rfl (one_of HT_.out (by kernel_rfl)) (by decide) (fun K hK => ?_)
 refine gs_ Try.func109 #[.slice A0_2 l0_2.length c0_2] ?_
 with_reducible refine (slices_Clone_bool_bool.calls _ _ l0_2 t788 _ ?side1 ?side2 A4.out).mono ?_
 (case side1 => exact kc_ (Kd.C_below HR0_2.out HB.out))
 (case side2 => exact HC0_2.out)
 rintro e w10 ⟨v789, rfl, ho0, hb⟩
 refine ⟨_, rfl, ?_⟩
 replace HO784 := Aside0.mk (Kd.R_below (kr_ HO784.out) hb)
 have HO790 := Aside0.mk (Kd.R_lower (Kd.R_new' ho0 (Kd.R_lt (kr_ HO787.out))) (below_size (lb2_ HB.out GE780.out GE781.out)))
 replace HO787 := Aside0.mk (Kd.R_elder' (kr_ HO787.out) (Kd.R_base ho0) hb)
 replace BK780 := Aside0.mk (bb_ (bk_ BK780.out) hb)
 replace BK781 := Aside0.mk (bb_ (bk_ BK781.out) hb)
 replace HB := Aside0.mk (below_step (lb2_ HB.out GE780.out GE781.out) hb)
 (try clear hb)
 (try clear hb2)
 (try clear hk)
 (try clear hi)
 (try clear ho0)
 obtain ⟨Ao11, co11, eo11⟩ := Kd.R_slice HO784.out
 (first | subst eo11 | (injection eo11 with f1_ f2_ f3_; have f4_ := f1_.symm; have f5_ := f3_.symm; clear f1_ f2_ f3_; subst f4_; subst f5_))
 obtain ⟨Ao13, co13, eo13⟩ := Kd.R_slice HO787.out
 (first | subst eo13 | (injection eo13 with f1_ f2_ f3_; have f4_ := f1_.symm; have f5_ := f3_.symm; clear f1_ f2_ f3_; subst f4_; subst f5_))
 obtain ⟨Ao15, co15, eo15⟩ := Kd.R_slice HO790.out
 (first | subst eo15 | (injection eo15 with f1_ f2_ f3_; have f4_ := f1_.symm; have f5_ := f3_.symm; clear f1_ f2_ f3_; subst f4_; subst f5_))
 refine hK.out _ _ ⟨(blk_cell BK780.out 0).trans rfl, (blk_cell BK780.out 1).trans rfl, (blk_cell BK780.out 2).trans rfl, (blk_cell BK780.out 3).trans rfl, (blk_cell BK780.out 4).trans rfl⟩ (fun hHeld => ?_)
 clear hK K
 refine na_ ?_
 refine last_ (i := 10) (N := none) impl_Exploration_clone.mk11 rfl rfl (one_of HT_.out (by kernel_rfl)) (by decide) (fun K hK => ?_)
 have hs12 : w10.cell? ⟨gb780, 0, none⟩ = some (.slice A0_0 l0_0.length c0_0) := (blk_cell BK780.out 0).trans rfl
 have hfs12 := blk_frozen BK780.out 0
 have hns12_1 := NB781_780.out
 have hms12_1 := NB780_781.out
 refine skip_ (w1 := ?_) (by rfl) rfl ?_ ?_
 rotate_left
 ·
  go_simp
  rfl
 refine hK.out _ _ ?_
 clear hK K
 refine pz_ HT_ 11 (some 13) impl_Exploration_clone.mk12 ?_
 refine last_ (i := 12) (N := none) impl_Exploration_clone.mk13 rfl rfl (one_of HT_.out (by kernel_rfl)) (by decide) (fun K hK => ?_)
 have hs14 : w10.cell? ⟨gb780, 1, none⟩ = some (.slice A0_1 l0_1.length c0_1) := (blk_cell BK780.out 1).trans rfl
 have hfs14 := blk_frozen BK780.out 1
 have hns14_1 := NB781_780.out
 have hms14_1 := NB780_781.out
 refine skip_ (w1 := ?_) (by rfl) rfl ?_ ?_
 rotate_left
 ·
  go_simp
  rfl
 refine hK.out _ _ ?_
 clear hK K
 refine pz_ HT_ 13 (some 14) impl_Exploration_clone.mk14 ?_
 refine last_ (i := 14) (N := none) impl_Exploration_clone.mk15 rfl rfl (one_of HT_.out (by kernel_rfl)) (by decide) (fun K hK => ?_)
 have hs16 : w10.cell? ⟨gb780, 2, none⟩ = some (.slice A0_2 l0_2.length c0_2) := (blk_cell BK780.out 2).trans rfl
 have hfs16 := blk_frozen BK780.out 2
 have hns16_1 := NB781_780.out
 have hms16_1 := NB780_781.out
 refine skip_ (w1 := ?_) (by rfl) rfl ?_ ?_
 rotate_left
 ·
  go_simp
  rfl
 refine hK.out _ _ ?_
 clear hK K
 refine done_ (done_of HT_.out (by kernel_rfl)) ?_
 have hnb17 := NB780_781.out
 have hnc17 := NB781_780.out
 obtain ⟨hcz18_0, hcz18_1, hcz18_2, hcz18_3, hcz18_4⟩ := cz5_ BK780.out
 obtain ⟨hfz18_0, hfz18_1, hfz18_2, hfz18_3, hfz18_4⟩ := fz5_ BK780.out
 obtain ⟨hcz19_0, hcz19_1, hcz19_2, hcz19_3, hcz19_4⟩ := cz5_ BK781.out
 obtain ⟨hfz19_0, hfz19_1, hfz19_2, hfz19_3, hfz19_4⟩ := fz5_ BK781.out
 try go_wp2
 refine bodyPost_ret (results_cell_row rfl _ _ gb781 30 #[.slice Ao11 t782.length co11, .slice Ao13 t785.length co13, .slice Ao15 t788.length co15, .int .i64 a0_3, .int .i64 a0_4] (0, 0) _ rfl (by (with_reducible repeat (first | refine blk_drewN ?_ _ | refine blk_drew ?_ | refine blk_alloc ?_ _)); refine blk_put (cs := #[.slice Ao11 t782.length co11, .slice Ao13 t785.length co13, .slice Ao15 t788.length co15, .int .i64 a0_3, .int .i64 0]) ?_ 4 _ rfl; (with_reducible repeat (first | refine blk_drewN ?_ _ | refine blk_drew ?_ | refine blk_alloc ?_ _)); refine blk_put (cs := #[.slice Ao11 t782.length co11, .slice Ao13 t785.length co13, .slice Ao15 t788.length co15, .int .i64 0, .int .i64 0]) ?_ 3 _ rfl; (with_reducible repeat (first | refine blk_drewN ?_ _ | refine blk_drew ?_ | refine blk_alloc ?_ _)); refine blk_put (cs := #[.slice Ao11 t782.length co11, .slice Ao13 t785.length co13, .slice none 0 0, .int .i64 0, .int .i64 0]) ?_ 2 _ rfl; (with_reducible repeat (first | refine blk_drewN ?_ _ | refine blk_drew ?_ | refine blk_alloc ?_ _)); refine blk_put (cs := #[.slice Ao11 t782.length co11, .slice none 0 0, .slice none 0 0, .int .i64 0, .int .i64 0]) ?_ 1 _ rfl; (with_reducible repeat (first | refine blk_drewN ?_ _ | refine blk_drew ?_ | refine blk_alloc ?_ _)); refine blk_put (cs := #[.slice none 0 0, .slice none 0 0, .slice none 0 0, .int .i64 0, .int .i64 0]) ?_ 0 _ rfl; (with_reducible repeat (first | refine blk_drewN ?_ _ | refine blk_drew ?_ | refine blk_alloc ?_ _)); refine blk_far ?_ NB781_780.out _; (with_reducible repeat (first | refine blk_drewN ?_ _ | refine blk_drew ?_ | refine blk_alloc ?_ _)); refine blk_far ?_ NB781_780.out _; (with_reducible repeat (first | refine blk_drewN ?_ _ | refine blk_drew ?_ | refine blk_alloc ?_ _)); refine blk_far ?_ NB781_780.out _; (with_reducible repeat (first | refine blk_drewN ?_ _ | refine blk_drew ?_ | refine blk_alloc ?_ _)); exact BK781.out) Try.underlying30 rfl (by kernel_rfl)) rfl ?_
 exact ⟨_, _, _, rr_, by (with_reducible repeat (first | apply Kd.R_alloc | apply Kd.R_drewN | apply Kd.R_drew)); exact Kd.R_mono (Kd.R_far (p := ⟨gb781, 4, none⟩) (Kd.R_far (p := ⟨gb781, 3, none⟩) (Kd.R_far (p := ⟨gb781, 2, none⟩) (Kd.R_far (p := ⟨gb781, 1, none⟩) (Kd.R_far (p := ⟨gb781, 0, none⟩) (Kd.R_far (p := ⟨gb780, 2, none⟩) (Kd.R_far (p := ⟨gb780, 1, none⟩) (Kd.R_far (p := ⟨gb780, 0, none⟩) (Kd.R_types (Kd.R_types HO784.out BK780.out (by decide)) BK781.out (by decide)) (fun _ hk => hk.1.2) (.slice Ao11 t782.length co11)) (fun _ hk => hk.1.2) (.slice Ao13 t785.length co13)) (fun _ hk => hk.1.2) (.slice Ao15 t788.length co15)) (fun _ hk => hk.2) (.slice Ao11 t782.length co11)) (fun _ hk => hk.2) (.slice Ao13 t785.length co13)) (fun _ hk => hk.2) (.slice Ao15 t788.length co15)) (fun _ hk => hk.2) (.int .i64 a0_3)) (fun _ hk => hk.2) (.int .i64 a0_4)) (fun _ hk => trivial), by (with_reducible repeat (first | apply Kd.R_alloc | apply Kd.R_drewN | apply Kd.R_drew)); exact Kd.R_mono (Kd.R_far (p := ⟨gb781, 4, none⟩) (Kd.R_far (p := ⟨gb781, 3, none⟩) (Kd.R_far (p := ⟨gb781, 2, none⟩) (Kd.R_far (p := ⟨gb781, 1, none⟩) (Kd.R_far (p := ⟨gb781, 0, none⟩) (Kd.R_far (p := ⟨gb780, 2, none⟩) (Kd.R_far (p := ⟨gb780, 1, none⟩) (Kd.R_far (p := ⟨gb780, 0, none⟩) (Kd.R_types (Kd.R_types HO787.out BK780.out (by decide)) BK781.out (by decide)) (fun _ hk => hk.1.2) (.slice Ao11 t782.length co11)) (fun _ hk => hk.1.2) (.slice Ao13 t785.length co13)) (fun _ hk => hk.1.2) (.slice Ao15 t788.length co15)) (fun _ hk => hk.2) (.slice Ao11 t782.length co11)) (fun _ hk => hk.2) (.slice Ao13 t785.length co13)) (fun _ hk => hk.2) (.slice Ao15 t788.length co15)) (fun _ hk => hk.2) (.int .i64 a0_3)) (fun _ hk => hk.2) (.int .i64 a0_4)) (fun _ hk => hk.1.1.2), by (with_reducible repeat (first | apply Kd.R_alloc | apply Kd.R_drewN | apply Kd.R_drew)); exact Kd.R_mono (Kd.R_far (p := ⟨gb781, 4, none⟩) (Kd.R_far (p := ⟨gb781, 3, none⟩) (Kd.R_far (p := ⟨gb781, 2, none⟩) (Kd.R_far (p := ⟨gb781, 1, none⟩) (Kd.R_far (p := ⟨gb781, 0, none⟩) (Kd.R_far (p := ⟨gb780, 2, none⟩) (Kd.R_far (p := ⟨gb780, 1, none⟩) (Kd.R_far (p := ⟨gb780, 0, none⟩) (Kd.R_types (Kd.R_types HO790.out BK780.out (by decide)) BK781.out (by decide)) (fun _ hk => hk.1.2) (.slice Ao11 t782.length co11)) (fun _ hk => hk.1.2) (.slice Ao13 t785.length co13)) (fun _ hk => hk.1.2) (.slice Ao15 t788.length co15)) (fun _ hk => hk.2) (.slice Ao11 t782.length co11)) (fun _ hk => hk.2) (.slice Ao13 t785.length co13)) (fun _ hk => hk.2) (.slice Ao15 t788.length co15)) (fun _ hk => hk.2) (.int .i64 a0_3)) (fun _ hk => hk.2) (.int .i64 a0_4)) (fun _ hk => hk.1.1.2), lb2_ HB.out GE780.out GE781.out⟩
theorem goAlong_calls (g : Nat) (vL vV vD : Value) (L : List S37) (V D : List Bool) (p t a b tp c s m : Int) (w0 w : World) (hS : ExS w w0.heap.size g vL vV vD L V D p t) (hB : Below w0.heap.size w0 w) (h0 : 0 ≤ wrap64 (wrap64 (a + b) - p)) (h1 : wrap64 (wrap64 (a + b) - p) < (V.length : Int)) :
  Calls Try.prog 119 #[.pointer (some ⟨g, 0, none⟩), .agg #[.int .i64 a, .int .i64 b, .int .i64 tp, .int .i64 c, .int .i64 s], .int .i64 m] w fun e w' => e = .returned (.tuple #[]) ∧ ExS w' w0.heap.size g vL vV vD L (V.set (wrap64 (wrap64 (a + b) - p)).toNat true) D (wrap64 (wrap64 (a + b) - p)) (wrap64 (t - wrap64 (m * tp))) ∧ Below w0.heap.size w0 w' := by
 have hgw : g < w.heap.size := blk_lt hS.blk
 obtain ⟨gv, cap, rfl, hgv, hcap, _⟩ := own_block_ hS.rV (by omega)
 have hx0 := blk_new w (.cells #[.int .i64 a, .int .i64 b, .int .i64 tp, .int .i64 c, .int .i64 s] 37 (0, 0))
 have hS1 := hS.below (below_alloc (Below.refl _ w) (.cells #[.int .i64 a, .int .i64 b, .int .i64 tp, .int .i64 c, .int .i64 s] 37 (0, 0)))
 have hB1 := below_alloc hB (.cells #[.int .i64 a, .int .i64 b, .int .i64 tp, .int .i64 c, .int .i64 s] 37 (0, 0))
 have HX := Aside0.mk hx0
 have HS := Aside0.mk hS1
 have HB := Aside0.mk hB1
 have hne : w.heap.size ≠ g := by omega
 have hgv' : Aside0 (gv < w.heap.size) := ⟨((Kd.R_bound hS.rV).1 gv rfl).2.2.1⟩
 clear hS hx0 hS1 hB1 hB
 go_enter Try.func119, Try.ntmps119
 go_wp2_with fail
 have hW : Aside0 ((w.alloc (.cells #[.int .i64 a, .int .i64 b, .int .i64 tp, .int .i64 c, .int .i64 s] 37)).heap.size = w.heap.size + 1) := ⟨heap_size_ _ _⟩
 generalize w.alloc (.cells #[.int .i64 a, .int .i64 b, .int .i64 tp, .int .i64 c, .int .i64 s] 37) = W at HX HS HB hW ⊢
 have x0 : W.cell? ⟨w.heap.size, 0, none⟩ = some (.int .i64 a) := (blk_cell HX.out 0).trans rfl
 have x1 : W.cell? ⟨w.heap.size, 1, none⟩ = some (.int .i64 b) := (blk_cell HX.out 1).trans rfl
 have g3 : W.cell? ⟨g, 3, none⟩ = some (.int .i64 p) := (blk_cell HS.out.blk 3).trans rfl
 have z3 := blk_frozen HS.out.blk 3
 go_still_tail 13, (by kernel_rfl)
 go_wp2_with fail
 have n1 := Aside0.mk (blk_drew (blk_far (p := ⟨g, 3, none⟩) HX.out hne (.int .i64 (wrap64 (wrap64 (a + b) - p)))))
 have n2 := Aside0.mk ((HS.out.put3 (wrap64 (wrap64 (a + b) - p))).below (below_drew (Below.refl _ _)))
 have n3 := Aside0.mk (below_drew (below_set (j := 3) (v := .int .i64 (wrap64 (wrap64 (a + b) - p))) HB.out HS.out.gb))
 clear HX HS HB hW x0 x1 g3 z3
 have HX := n1
 have HS := n2
 have HB := n3
 clear n1 n2 n3
 generalize (W.setCell ⟨g, 3, none⟩ (.int .i64 (wrap64 (wrap64 (a + b) - p)))).drew = W2 at HX HS HB ⊢
 clear W
 have hpw : IntKind.i64.wrap (IntKind.i64.wrap (a + b) - p) = wrap64 (wrap64 (a + b) - p) := by rw [i64_w, i64_w]
 generalize hq : wrap64 (wrap64 (a + b) - p) = q at h0 h1 HS hpw ⊢
 have g1 : W2.cell? ⟨g, 1, none⟩ = some (.slice (some ⟨gv, 0, none⟩) V.length cap) := (blk_cell HS.out.blk 1).trans rfl
 have g3 : W2.cell? ⟨g, 3, none⟩ = some (.int .i64 q) := (blk_cell HS.out.blk 3).trans rfl
 obtain ⟨yv, zv⟩ := Kd.R_celln false HS.out.rV q h0 h1
 go_still_tail 9, (by kernel_rfl)
 go_wp2_with fail
 have hgvg : gv ≠ w.heap.size := by have := hgv'.out; omega
 have n1 := Aside0.mk (blk_drew (blk_far (p := ⟨gv, q.toNat, none⟩) HX.out hgvg.symm (.bool true)))
 have n2 := Aside0.mk ((HS.out.putV q true).below (below_drew (Below.refl _ _)))
 have n3 := Aside0.mk (below_drew (below_set (j := q.toNat) (v := .bool true) HB.out hgv))
 clear HX HS HB g1 g3 yv zv
 have HX := n1
 have HS := n2
 have HB := n3
 clear n1 n2 n3
 generalize (W2.setCell ⟨gv, q.toNat, none⟩ (.bool true)).drew = W3 at HX HS HB ⊢
 clear W2
 have x2 : W3.cell? ⟨w.heap.size, 2, none⟩ = some (.int .i64 tp) := (blk_cell HX.out 2).trans rfl
 have g4 : W3.cell? ⟨g, 4, none⟩ = some (.int .i64 t) := (blk_cell HS.out.blk 4).trans rfl
 have z4 := blk_frozen HS.out.blk 4
 go_still_tail 11, (by kernel_rfl)
 go_wp2_with fail

 go_end0
 rw [hq]
 exact ⟨rfl, (HS.out.put4 (wrap64 (t - wrap64 (m * tp)))).below (below_drew (Below.refl _ _)), below_drew (below_set (j := 4) (v := .int .i64 (wrap64 (t - wrap64 (m * tp)))) HB.out HS.out.gb)⟩
def walk_f (L : List S37) (V D : List Bool) (p t k i a b tp c s : Int) : Option (List S37 × List Bool × List Bool × Int × Int × Bool) :=
 if (k ≠ 2 ∧ ¬ (a = 0 ∧ b = 0 ∧ tp = 0 ∧ c = 0 ∧ s = 0)) ∨ ((k = 2 ∨ k = 3) ∧ i ≠ 0) then some (L, V, D, p, t, false)
 else if k = 1 then
  (if 0 ≤ i ∧ i ≤ wrap64 ((L.length : Int) - 1) then
   (if (rd_T37 L i).f0 ≠ p ∧ (rd_T37 L i).f1 ≠ p then some (L, V, D, p, t, false)
   else if 0 ≤ wrap64 (wrap64 ((rd_T37 L i).f0 + (rd_T37 L i).f1) - p) ∧ wrap64 (wrap64 ((rd_T37 L i).f0 + (rd_T37 L i).f1) - p) < (V.length : Int) then
    some (L, V.set (wrap64 (wrap64 ((rd_T37 L i).f0 + (rd_T37 L i).f1) - p)).toNat true, D, wrap64 (wrap64 ((rd_T37 L i).f0 + (rd_T37 L i).f1) - p), wrap64 (t - wrap64 (1 * (rd_T37 L i).f2)), true)
   else none)
  else some (L, V, D, p, t, false))
 else if k = 2 then
  (impl_IsLeg.f a b tp c s).bind fun ok => if ok = true ∧ a = p then
   (if L.length < 1000000 ∧ 0 ≤ wrap64 (wrap64 (a + b) - p) ∧ wrap64 (wrap64 (a + b) - p) < (V.length : Int) then
    some (L ++ [⟨a, b, tp, c, s⟩], V.set (wrap64 (wrap64 (a + b) - p)).toNat true, D, wrap64 (wrap64 (a + b) - p), wrap64 (t - wrap64 (3 * tp)), true)
   else none)
  else some (L, V, D, p, t, false)
 else if k = 3 then
  (if 0 ≤ p ∧ p < (D.length : Int) then (if rdOf false D p = true then some (L, V, D, p, t, false) else some (L, V, D.set p.toNat true, p, t, true)) else none)
 else if k = 4 then
  (if p = 0 ∧ 1 ≤ i ∧ i ≤ 1000 then some (L, V, D, p, wrap64 (t + i), true) else some (L, V, D, p, t, false))
 else some (L, V, D, p, t, false)
def walk6.T : Bool × List (List Nat × List Nat) := (true, [([], []), ([0], [0]), ([], []), ([2], [2]), ([3], [3]), ([4], [4]), ([5], [5]), ([6], [6]), ([1, 7], [1, 7]), ([8], [8]), ([9, 8], [9]), ([10], [10]), ([11, 10], [10, 11]), ([12, 10], [10, 12]), ([13, 10], [10, 13]), ([10], [10]), ([15, 10], [10, 15]), ([14, 16, 10], [10, 14, 16]), ([17, 10], [10, 17]), ([18, 10], [10, 18]), ([10], [10]), ([20, 10], [10, 20]), ([21, 10], [10, 21]), ([22, 10], [10, 22]), ([19, 23, 10], [10, 19, 23]), ([24, 10, 10], [10, 24]), ([25], [25]), ([26, 25], [25, 26]), ([27, 25], [25, 27]), ([28, 25], [25, 28]), ([25], [25]), ([30, 25], [25, 30]), ([29, 31, 25], [25, 29, 31]), ([32, 25], [25, 32]), ([33, 25], [25, 33]), ([25], [25]), ([35, 25], [25, 35]), ([36, 25], [25, 36]), ([37, 25], [25, 37]), ([34, 38, 25], [25, 34, 38]), ([25, 39, 10], [10, 25, 39]), ([10, 40], [10, 40])])
def walk6.B : List Nat := [0, 1, 0, 4, 12, 28, 60, 124, 255, 511, 1023, 2047, 4095, 8191, 16383, 2047, 34815, 131071, 262143, 524287, 2047, 1050623, 3147775, 7342079, 16777215, 33554431, 67108863, 134217727, 268435455, 536870911, 67108863, 1140850687, 4294967295, 8589934591, 17179869183, 67108863, 34426847231, 103146323967, 240585277439, 549755813887, 1099511627775, 2199023255551]
theorem walk6.tab : rtab .any (opsOf Try.f105 6) = walk6.T := by kernel_rfl
theorem walk6.bits : waitsOk walk6.T.2 walk6.B = true := by kernel_rfl
abbrev walk6.mk0 : Array Bool := #[fF,fF,fF,fF,fF,fF,fF,fF,fF,fF,fF,fF,fF,fF,fF,fF,fF,fF,fF,fF,fF,fF,fF,fF,fF,fF,fF,fF,fF,fF,fF,fF,fF,fF,fF,fF,fF,fF,fF,fF,fF,fF]
abbrev walk6.mk1 : Array Bool := #[tT,fF,fF,fF,fF,fF,fF,fF,fF,fF,fF,fF,fF,fF,fF,fF,fF,fF,fF,fF,fF,fF,fF,fF,fF,fF,fF,fF,fF,fF,fF,fF,fF,fF,fF,fF,fF,fF,fF,fF,fF,fF]
abbrev walk6.mk2 : Array Bool := #[tT,fF,tT,fF,fF,fF,fF,fF,fF,fF,fF,fF,fF,fF,fF,fF,fF,fF,fF,fF,fF,fF,fF,fF,fF,fF,fF,fF,fF,fF,fF,fF,fF,fF,fF,fF,fF,fF,fF,fF,fF,fF]
abbrev walk6.mk3 : Array Bool := #[tT,fF,tT,tT,fF,fF,fF,fF,fF,fF,fF,fF,fF,fF,fF,fF,fF,fF,fF,fF,fF,fF,fF,fF,fF,fF,fF,fF,fF,fF,fF,fF,fF,fF,fF,fF,fF,fF,fF,fF,fF,fF]
abbrev walk6.mk4 : Array Bool := #[tT,fF,tT,tT,tT,fF,fF,fF,fF,fF,fF,fF,fF,fF,fF,fF,fF,fF,fF,fF,fF,fF,fF,fF,fF,fF,fF,fF,fF,fF,fF,fF,fF,fF,fF,fF,fF,fF,fF,fF,fF,fF]
abbrev walk6.mk5 : Array Bool := #[tT,tT,tT,tT,tT,fF,fF,fF,fF,fF,fF,fF,fF,fF,fF,fF,fF,fF,fF,fF,fF,fF,fF,fF,fF,fF,fF,fF,fF,fF,fF,fF,fF,fF,fF,fF,fF,fF,fF,fF,fF,fF]
abbrev walk6.mk6 : Array Bool := #[tT,tT,tT,tT,tT,tT,fF,fF,fF,fF,fF,fF,fF,fF,fF,fF,fF,fF,fF,fF,fF,fF,fF,fF,fF,fF,fF,fF,fF,fF,fF,fF,fF,fF,fF,fF,fF,fF,fF,fF,fF,fF]
abbrev walk6.mk7 : Array Bool := #[tT,tT,tT,tT,tT,tT,tT,fF,fF,fF,fF,fF,fF,fF,fF,fF,fF,fF,fF,fF,fF,fF,fF,fF,fF,fF,fF,fF,fF,fF,fF,fF,fF,fF,fF,fF,fF,fF,fF,fF,fF,fF]
abbrev walk6.mk8 : Array Bool := #[tT,tT,tT,tT,tT,tT,tT,tT,fF,fF,fF,fF,fF,fF,fF,fF,fF,fF,fF,fF,fF,fF,fF,fF,fF,fF,fF,fF,fF,fF,fF,fF,fF,fF,fF,fF,fF,fF,fF,fF,fF,fF]
abbrev walk6.mk9 : Array Bool := #[tT,tT,tT,tT,tT,tT,tT,tT,tT,fF,fF,fF,fF,fF,fF,fF,fF,fF,fF,fF,fF,fF,fF,fF,fF,fF,fF,fF,fF,fF,fF,fF,fF,fF,fF,fF,fF,fF,fF,fF,fF,fF]
abbrev walk6.mk10 : Array Bool := #[tT,tT,tT,tT,tT,tT,tT,tT,tT,tT,fF,fF,fF,fF,fF,fF,fF,fF,fF,fF,fF,fF,fF,fF,fF,fF,fF,fF,fF,fF,fF,fF,fF,fF,fF,fF,fF,fF,fF,fF,fF,fF]
abbrev walk6.mk11 : Array Bool := #[tT,tT,tT,tT,tT,tT,tT,tT,tT,tT,tT,fF,fF,fF,fF,fF,fF,fF,fF,fF,fF,fF,fF,fF,fF,fF,fF,fF,fF,fF,fF,fF,fF,fF,fF,fF,fF,fF,fF,fF,fF,fF]
abbrev walk6.mk12 : Array Bool := #[tT,tT,tT,tT,tT,tT,tT,tT,tT,tT,tT,tT,fF,fF,fF,fF,fF,fF,fF,fF,fF,fF,fF,fF,fF,fF,fF,fF,fF,fF,fF,fF,fF,fF,fF,fF,fF,fF,fF,fF,fF,fF]
abbrev walk6.mk13 : Array Bool := #[tT,tT,tT,tT,tT,tT,tT,tT,tT,tT,tT,tT,tT,fF,fF,fF,fF,fF,fF,fF,fF,fF,fF,fF,fF,fF,fF,fF,fF,fF,fF,fF,fF,fF,fF,fF,fF,fF,fF,fF,fF,fF]
abbrev walk6.mk14 : Array Bool := #[tT,tT,tT,tT,tT,tT,tT,tT,tT,tT,tT,tT,tT,tT,fF,fF,fF,fF,fF,fF,fF,fF,fF,fF,fF,fF,fF,fF,fF,fF,fF,fF,fF,fF,fF,fF,fF,fF,fF,fF,fF,fF]
abbrev walk6.mk15 : Array Bool := #[tT,tT,tT,tT,tT,tT,tT,tT,tT,tT,tT,tT,tT,tT,fF,tT,fF,fF,fF,fF,fF,fF,fF,fF,fF,fF,fF,fF,fF,fF,fF,fF,fF,fF,fF,fF,fF,fF,fF,fF,fF,fF]
abbrev walk6.mk16 : Array Bool := #[tT,tT,tT,tT,tT,tT,tT,tT,tT,tT,tT,tT,tT,tT,fF,tT,fF,fF,fF,fF,tT,fF,fF,fF,fF,fF,fF,fF,fF,fF,fF,fF,fF,fF,fF,fF,fF,fF,fF,fF,fF,fF]
abbrev walk6.mk17 : Array Bool := #[tT,tT,tT,tT,tT,tT,tT,tT,tT,tT,tT,tT,tT,tT,fF,tT,fF,fF,fF,fF,tT,tT,fF,fF,fF,fF,fF,fF,fF,fF,fF,fF,fF,fF,fF,fF,fF,fF,fF,fF,fF,fF]
abbrev walk6.mk18 : Array Bool := #[tT,tT,tT,tT,tT,tT,tT,tT,tT,tT,tT,tT,tT,tT,fF,tT,fF,fF,fF,fF,tT,tT,tT,fF,fF,fF,fF,fF,fF,fF,fF,fF,fF,fF,fF,fF,fF,fF,fF,fF,fF,fF]
abbrev walk6.mk19 : Array Bool := #[tT,tT,tT,tT,tT,tT,tT,tT,tT,tT,tT,tT,tT,tT,tT,tT,fF,fF,fF,fF,tT,tT,tT,fF,fF,fF,fF,fF,fF,fF,fF,fF,fF,fF,fF,fF,fF,fF,fF,fF,fF,fF]
abbrev walk6.mk20 : Array Bool := #[tT,tT,tT,tT,tT,tT,tT,tT,tT,tT,tT,tT,tT,tT,tT,tT,tT,fF,fF,fF,tT,tT,tT,fF,fF,fF,fF,fF,fF,fF,fF,fF,fF,fF,fF,fF,fF,fF,fF,fF,fF,fF]
abbrev walk6.mk21 : Array Bool := #[tT,tT,tT,tT,tT,tT,tT,tT,tT,tT,tT,tT,tT,tT,tT,tT,tT,tT,fF,fF,tT,tT,tT,fF,fF,fF,fF,fF,fF,fF,fF,fF,fF,fF,fF,fF,fF,fF,fF,fF,fF,fF]
abbrev walk6.mk22 : Array Bool := #[tT,tT,tT,tT,tT,tT,tT,tT,tT,tT,tT,tT,tT,tT,tT,tT,tT,tT,tT,fF,tT,tT,tT,fF,fF,fF,fF,fF,fF,fF,fF,fF,fF,fF,fF,fF,fF,fF,fF,fF,fF,fF]
abbrev walk6.mk23 : Array Bool := #[tT,tT,tT,tT,tT,tT,tT,tT,tT,tT,tT,tT,tT,tT,tT,tT,tT,tT,tT,tT,tT,tT,tT,fF,fF,fF,fF,fF,fF,fF,fF,fF,fF,fF,fF,fF,fF,fF,fF,fF,fF,fF]
abbrev walk6.mk24 : Array Bool := #[tT,tT,tT,tT,tT,tT,tT,tT,tT,tT,tT,tT,tT,tT,tT,tT,tT,tT,tT,tT,tT,tT,tT,tT,fF,fF,fF,fF,fF,fF,fF,fF,fF,fF,fF,fF,fF,fF,fF,fF,fF,fF]
abbrev walk6.mk25 : Array Bool := #[tT,tT,tT,tT,tT,tT,tT,tT,tT,tT,tT,tT,tT,tT,tT,tT,tT,tT,tT,tT,tT,tT,tT,tT,tT,fF,fF,fF,fF,fF,fF,fF,fF,fF,fF,fF,fF,fF,fF,fF,fF,fF]
abbrev walk6.mk26 : Array Bool := #[tT,tT,tT,tT,tT,tT,tT,tT,tT,tT,tT,tT,tT,tT,tT,tT,tT,tT,tT,tT,tT,tT,tT,tT,tT,tT,fF,fF,fF,fF,fF,fF,fF,fF,fF,fF,fF,fF,fF,fF,fF,fF]
abbrev walk6.mk27 : Array Bool := #[tT,tT,tT,tT,tT,tT,tT,tT,tT,tT,tT,tT,tT,tT,tT,tT,tT,tT,tT,tT,tT,tT,tT,tT,tT,tT,tT,fF,fF,fF,fF,fF,fF,fF,fF,fF,fF,fF,fF,fF,fF,fF]
abbrev walk6.mk28 : Array Bool := #[tT,tT,tT,tT,tT,tT,tT,tT,tT,tT,tT,tT,tT,tT,tT,tT,tT,tT,tT,tT,tT,tT,tT,tT,tT,tT,tT,tT,fF,fF,fF,fF,fF,fF,fF,fF,fF,fF,fF,fF,fF,fF]
abbrev walk6.mk29 : Array Bool := #[tT,tT,tT,tT,tT,tT,tT,tT,tT,tT,tT,tT,tT,tT,tT,tT,tT,tT,tT,tT,tT,tT,tT,tT,tT,tT,tT,tT,tT,fF,fF,fF,fF,fF,fF,fF,fF,fF,fF,fF,fF,fF]
abbrev walk6.mk30 : Array Bool := #[tT,tT,tT,tT,tT,tT,tT,tT,tT,tT,tT,tT,tT,tT,tT,tT,tT,tT,tT,tT,tT,tT,tT,tT,tT,tT,tT,tT,tT,fF,tT,fF,fF,fF,fF,fF,fF,fF,fF,fF,fF,fF]
abbrev walk6.mk31 : Array Bool := #[tT,tT,tT,tT,tT,tT,tT,tT,tT,tT,tT,tT,tT,tT,tT,tT,tT,tT,tT,tT,tT,tT,tT,tT,tT,tT,tT,tT,tT,fF,tT,fF,fF,fF,fF,tT,fF,fF,fF,fF,fF,fF]
abbrev walk6.mk32 : Array Bool := #[tT,tT,tT,tT,tT,tT,tT,tT,tT,tT,tT,tT,tT,tT,tT,tT,tT,tT,tT,tT,tT,tT,tT,tT,tT,tT,tT,tT,tT,fF,tT,fF,fF,fF,fF,tT,tT,fF,fF,fF,fF,fF]
abbrev walk6.mk33 : Array Bool := #[tT,tT,tT,tT,tT,tT,tT,tT,tT,tT,tT,tT,tT,tT,tT,tT,tT,tT,tT,tT,tT,tT,tT,tT,tT,tT,tT,tT,tT,fF,tT,fF,fF,fF,fF,tT,tT,tT,fF,fF,fF,fF]
abbrev walk6.mk34 : Array Bool := #[tT,tT,tT,tT,tT,tT,tT,tT,tT,tT,tT,tT,tT,tT,tT,tT,tT,tT,tT,tT,tT,tT,tT,tT,tT,tT,tT,tT,tT,tT,tT,fF,fF,fF,fF,tT,tT,tT,fF,fF,fF,fF]
abbrev walk6.mk35 : Array Bool := #[tT,tT,tT,tT,tT,tT,tT,tT,tT,tT,tT,tT,tT,tT,tT,tT,tT,tT,tT,tT,tT,tT,tT,tT,tT,tT,tT,tT,tT,tT,tT,tT,fF,fF,fF,tT,tT,tT,fF,fF,fF,fF]
abbrev walk6.mk36 : Array Bool := #[tT,tT,tT,tT,tT,tT,tT,tT,tT,tT,tT,tT,tT,tT,tT,tT,tT,tT,tT,tT,tT,tT,tT,tT,tT,tT,tT,tT,tT,tT,tT,tT,tT,fF,fF,tT,tT,tT,fF,fF,fF,fF]
abbrev walk6.mk37 : Array Bool := #[tT,tT,tT,tT,tT,tT,tT,tT,tT,tT,tT,tT,tT,tT,tT,tT,tT,tT,tT,tT,tT,tT,tT,tT,tT,tT,tT,tT,tT,tT,tT,tT,tT,tT,fF,tT,tT,tT,fF,fF,fF,fF]
abbrev walk6.mk38 : Array Bool := #[tT,tT,tT,tT,tT,tT,tT,tT,tT,tT,tT,tT,tT,tT,tT,tT,tT,tT,tT,tT,tT,tT,tT,tT,tT,tT,tT,tT,tT,tT,tT,tT,tT,tT,tT,tT,tT,tT,fF,fF,fF,fF]
abbrev walk6.mk39 : Array Bool := #[tT,tT,tT,tT,tT,tT,tT,tT,tT,tT,tT,tT,tT,tT,tT,tT,tT,tT,tT,tT,tT,tT,tT,tT,tT,tT,tT,tT,tT,tT,tT,tT,tT,tT,tT,tT,tT,tT,tT,fF,fF,fF]
abbrev walk6.mk40 : Array Bool := #[tT,tT,tT,tT,tT,tT,tT,tT,tT,tT,tT,tT,tT,tT,tT,tT,tT,tT,tT,tT,tT,tT,tT,tT,tT,tT,tT,tT,tT,tT,tT,tT,tT,tT,tT,tT,tT,tT,tT,tT,fF,fF]
abbrev walk6.mk41 : Array Bool := #[tT,tT,tT,tT,tT,tT,tT,tT,tT,tT,tT,tT,tT,tT,tT,tT,tT,tT,tT,tT,tT,tT,tT,tT,tT,tT,tT,tT,tT,tT,tT,tT,tT,tT,tT,tT,tT,tT,tT,tT,tT,fF]
abbrev walk6.mk42 : Array Bool := #[tT,tT,tT,tT,tT,tT,tT,tT,tT,tT,tT,tT,tT,tT,tT,tT,tT,tT,tT,tT,tT,tT,tT,tT,tT,tT,tT,tT,tT,tT,tT,tT,tT,tT,tT,tT,tT,tT,tT,tT,tT,tT]
def walk8.T : Bool × List (List Nat × List Nat) := (true, [([], []), ([], []), ([1], [1]), ([2], [2]), ([3], [3]), ([], []), ([5], [5]), ([4, 6], [4, 6]), ([7], [7]), ([0, 8], [0, 8])])
def walk8.B : List Nat := [0, 0, 2, 6, 14, 0, 32, 126, 254, 511]
theorem walk8.tab : rtab .any (opsOf Try.f105 8) = walk8.T := by kernel_rfl
theorem walk8.bits : waitsOk walk8.T.2 walk8.B = true := by kernel_rfl
abbrev walk8.mk0 : Array Bool := #[fF,fF,fF,fF,fF,fF,fF,fF,fF,fF]
abbrev walk8.mk1 : Array Bool := #[tT,fF,fF,fF,fF,fF,fF,fF,fF,fF]
abbrev walk8.mk2 : Array Bool := #[tT,tT,fF,fF,fF,fF,fF,fF,fF,fF]
abbrev walk8.mk3 : Array Bool := #[tT,tT,tT,fF,fF,fF,fF,fF,fF,fF]
abbrev walk8.mk4 : Array Bool := #[tT,tT,tT,tT,fF,fF,fF,fF,fF,fF]
abbrev walk8.mk5 : Array Bool := #[tT,tT,tT,tT,fF,tT,fF,fF,fF,fF]
abbrev walk8.mk6 : Array Bool := #[tT,tT,tT,tT,tT,tT,fF,fF,fF,fF]
abbrev walk8.mk7 : Array Bool := #[tT,tT,tT,tT,tT,tT,tT,fF,fF,fF]
abbrev walk8.mk8 : Array Bool := #[tT,tT,tT,tT,tT,tT,tT,tT,fF,fF]
abbrev walk8.mk9 : Array Bool := #[tT,tT,tT,tT,tT,tT,tT,tT,tT,fF]
abbrev walk8.mk10 : Array Bool := #[tT,tT,tT,tT,tT,tT,tT,tT,tT,tT]
theorem walk_k1A (g : Nat) (vL vV vD : Value) (L : List S37) (V D : List Bool) (p t i : Int) (w0 w : World) (hS : ExS w w0.heap.size g vL vV vD L V D p t) (hB : Below w0.heap.size w0 w) (hwi : impl_within.f i 0 (wrap64 ((L.length : Int) - 1)) = some false) :
  Calls Try.prog 105 #[.pointer (some ⟨g, 0, none⟩), .agg #[.int .i64 1, .int .i64 i, .int .i64 0, .int .i64 0, .int .i64 0, .int .i64 0, .int .i64 0]] w fun e w' => e = .returned (.bool false) ∧ ExS w' w0.heap.size g vL vV vD L V D p t ∧ Below w0.heap.size w0 w' := by
 have hgw : g < w.heap.size := blk_lt hS.blk
 have hne : w.heap.size ≠ g := by omega
 have hu1 := Try.underlying39
 have hu2 := Try.underlying30
 have hu3 := Try.underlying37
 have hu4 := Try.underlying28
 obtain ⟨A0, c0, rfl⟩ := Kd.R_slice hS.rL
 have HX := Aside0.mk (blk_new w (.cells #[.int .i64 1, .int .i64 i, .int .i64 0, .int .i64 0, .int .i64 0, .int .i64 0, .int .i64 0] 39 (0, 0)))
 have HS := Aside0.mk (hS.below (below_alloc (Below.refl _ w) (.cells #[.int .i64 1, .int .i64 i, .int .i64 0, .int .i64 0, .int .i64 0, .int .i64 0, .int .i64 0] 39 (0, 0))))
 have HB := Aside0.mk (below_alloc hB (.cells #[.int .i64 1, .int .i64 i, .int .i64 0, .int .i64 0, .int .i64 0, .int .i64 0, .int .i64 0] 39 (0, 0)))
 clear hS hB
 go_enter Try.func105, Try.ntmps105
 go_wp2_with fail
 generalize w.alloc (.cells #[.int .i64 1, .int .i64 i, .int .i64 0, .int .i64 0, .int .i64 0, .int .i64 0, .int .i64 0] 39) = W at HX HS HB ⊢
 replace HX := Aside0.mk (blk_drew HX.out)
 replace HS := Aside0.mk (HS.out.below (below_drew (Below.refl _ W)))
 replace HB := Aside0.mk (below_drew HB.out)
 refine start_ (n := 42) (S := fun w' => w'.cell? ⟨w.heap.size, 1, none⟩ = some (.int .i64 i) ∧ w'.cell? ⟨g, 0, none⟩ = some (.slice A0 L.length c0) ∧ w'.cell? ⟨g, 3, none⟩ = some (.int .i64 p)) (ds := []) walk6.mk0 (by kernel_rfl) rfl rfl ⟨(blk_cell HX.out 1).trans rfl, (blk_cell HS.out.blk 0).trans rfl, (blk_cell HS.out.blk 3).trans rfl⟩ (fun hHeld => ?_); refine with_tabW walk6.tab walk6.bits (fun HT_ HW_ => ?_)
 generalize W.drew = W1 at HX HS HB hHeld ⊢
 refine pz_ HT_ 0 (some 33) walk6.mk1 ?_
 refine pz_ HT_ 2 (some 35) walk6.mk2 ?_
 refine pz_ HT_ 3 (some 36) walk6.mk3 ?_
 refine pz_ HT_ 4 (some 37) walk6.mk4 ?_
 refine tk_ HT_ HW_ hHeld 1 (some 34) walk6.mk5 ?_
 refine tk_ HT_ HW_ hHeld 5 (some 38) walk6.mk6 ?_
 refine pz_ HT_ 6 (some 39) walk6.mk7 ?_
 refine pz_ HT_ 7 (some 40) walk6.mk8 ?_
 refine one_ (i := 8) (N := some 41) walk6.mk9 rfl rfl (one_of HT_.out (by kernel_rfl)) (by decide) (fun K hK => ?_)
 refine gs_ Try.func71 #[.int .i64 i, .int .i64 0, .int .i64 (wrap64 ((L.length : Int) - 1))] ?_
 refine (impl_within.calls i 0 (wrap64 ((L.length : Int) - 1)) false _ hwi).mono ?_
 rintro e w1 ⟨rfl, ⟨n1_, rfl⟩⟩
 refine ⟨_, rfl, ?_⟩
 replace HX := Aside0.mk (blk_drewN HX.out n1_)
 replace HS := Aside0.mk (HS.out.below (pw_below_drewN (Below.refl _ _) n1_))
 replace HB := Aside0.mk (pw_below_drewN HB.out n1_)
 refine hK.out _ _ ⟨(blk_cell HX.out 1).trans rfl, (blk_cell HS.out.blk 0).trans rfl, (blk_cell HS.out.blk 3).trans rfl⟩ (fun hHeld => ?_)
 clear hK K
 refine na_ ?_
 generalize W1.drewN n1_ = W2 at HX HS HB hHeld ⊢
 refine pz_ HT_ 9 (some 42) walk6.mk10 ?_
 refine pz_ HT_ 10 (some 43) walk6.mk11 ?_
 refine pu_ HT_ 11 (some 44) walk6.mk12 ?_
 refine pu_ HT_ 12 (some 45) walk6.mk13 ?_
 refine pu_ HT_ 13 (some 46) walk6.mk14 ?_
 refine pu_ HT_ 15 (some 48) walk6.mk15 ?_
 refine pu_ HT_ 20 (some 53) walk6.mk16 ?_
 refine pu_ HT_ 21 (some 54) walk6.mk17 ?_
 refine pu_ HT_ 22 (some 55) walk6.mk18 ?_
 refine pu_ HT_ 14 (some 47) walk6.mk19 ?_
 refine pu_ HT_ 16 (some 49) walk6.mk20 ?_
 refine pu_ HT_ 17 (some 50) walk6.mk21 ?_
 refine pu_ HT_ 18 (some 51) walk6.mk22 ?_
 refine pu_ HT_ 19 (some 52) walk6.mk23 ?_
 refine pu_ HT_ 23 (some 56) walk6.mk24 ?_
 refine pu_ HT_ 24 (some 57) walk6.mk25 ?_
 refine pu_ HT_ 25 (some 58) walk6.mk26 ?_
 refine pu_ HT_ 26 (some 59) walk6.mk27 ?_
 refine pu_ HT_ 27 (some 60) walk6.mk28 ?_
 refine pu_ HT_ 28 (some 61) walk6.mk29 ?_
 refine pu_ HT_ 30 (some 63) walk6.mk30 ?_
 refine pu_ HT_ 35 (some 68) walk6.mk31 ?_
 refine pu_ HT_ 36 (some 69) walk6.mk32 ?_
 refine pu_ HT_ 37 (some 70) walk6.mk33 ?_
 refine pu_ HT_ 29 (some 62) walk6.mk34 ?_
 refine pu_ HT_ 31 (some 64) walk6.mk35 ?_
 refine pu_ HT_ 32 (some 65) walk6.mk36 ?_
 refine pu_ HT_ 33 (some 66) walk6.mk37 ?_
 refine pu_ HT_ 34 (some 67) walk6.mk38 ?_
 refine pu_ HT_ 38 (some 71) walk6.mk39 ?_
 refine pu_ HT_ 39 (some 72) walk6.mk40 ?_
 refine pu_ HT_ 40 (some 73) walk6.mk41 ?_
 refine pz_ HT_ 41 (some 74) walk6.mk42 ?_
 refine done_ (done_of HT_.out (by kernel_rfl)) ?_
 go_wp2_with fail
 go_ret
 exact ⟨rfl, HS.out, HB.out⟩
theorem walk_k1B (g : Nat) (vL vV vD : Value) (L : List S37) (V D : List Bool) (p t i : Int) (w0 w : World) (hS : ExS w w0.heap.size g vL vV vD L V D p t) (hB : Below w0.heap.size w0 w) (hwi : impl_within.f i 0 (wrap64 ((L.length : Int) - 1)) = some true) (hi0 : 0 ≤ i) (hi1 : i < (L.length : Int)) (hf0 : (rd_T37 L i).f0 = p) (h0 : 0 ≤ wrap64 (wrap64 ((rd_T37 L i).f0 + (rd_T37 L i).f1) - p)) (h1 : wrap64 (wrap64 ((rd_T37 L i).f0 + (rd_T37 L i).f1) - p) < (V.length : Int)) :
  Calls Try.prog 105 #[.pointer (some ⟨g, 0, none⟩), .agg #[.int .i64 1, .int .i64 i, .int .i64 0, .int .i64 0, .int .i64 0, .int .i64 0, .int .i64 0]] w fun e w' => e = .returned (.bool true) ∧ ExS w' w0.heap.size g vL vV vD L (V.set (wrap64 (wrap64 ((rd_T37 L i).f0 + (rd_T37 L i).f1) - p)).toNat true) D (wrap64 (wrap64 ((rd_T37 L i).f0 + (rd_T37 L i).f1) - p)) (wrap64 (t - wrap64 (1 * (rd_T37 L i).f2))) ∧ Below w0.heap.size w0 w' := by
 have hgw : g < w.heap.size := blk_lt hS.blk
 have hne : w.heap.size ≠ g := by omega
 have hu1 := Try.underlying39
 have hu2 := Try.underlying30
 have hu3 := Try.underlying37
 have hu4 := Try.underlying28
 obtain ⟨A0, c0, rfl⟩ := Kd.R_slice hS.rL
 obtain ⟨ad, e0, y0, y1, y2, y3, y4⟩ := at_T37 (Kd.R_reads' hS.rL).2.2 i hi0 hi1
 subst e0
 have q0 : (0 ≤ i) = True := eq_true hi0
 have q1 : (i < (L.length : Int)) = True := eq_true hi1
 have q0' : decide (0 ≤ i) = true := decide_eq_true hi0
 have q1' : decide (i < (L.length : Int)) = true := decide_eq_true hi1
 have n0 : ((rd_T37 L i).f0 != p) = false := bne_eq_false_iff_eq.mpr hf0
 clear hf0
 have HX := Aside0.mk (blk_new w (.cells #[.int .i64 1, .int .i64 i, .int .i64 0, .int .i64 0, .int .i64 0, .int .i64 0, .int .i64 0] 39 (0, 0)))
 have HS := Aside0.mk (hS.below (below_alloc (Below.refl _ w) (.cells #[.int .i64 1, .int .i64 i, .int .i64 0, .int .i64 0, .int .i64 0, .int .i64 0, .int .i64 0] 39 (0, 0))))
 have HB := Aside0.mk (below_alloc hB (.cells #[.int .i64 1, .int .i64 i, .int .i64 0, .int .i64 0, .int .i64 0, .int .i64 0, .int .i64 0] 39 (0, 0)))
 have Y0 := Aside0.mk (bc_ (below_alloc (Below.refl _ w) (.cells #[.int .i64 1, .int .i64 i, .int .i64 0, .int .i64 0, .int .i64 0, .int .i64 0, .int .i64 0] 39 (0, 0))) y0)
 have Y1 := Aside0.mk (bc_ (below_alloc (Below.refl _ w) (.cells #[.int .i64 1, .int .i64 i, .int .i64 0, .int .i64 0, .int .i64 0, .int .i64 0, .int .i64 0] 39 (0, 0))) y1)
 have Y2 := Aside0.mk (bc_ (below_alloc (Below.refl _ w) (.cells #[.int .i64 1, .int .i64 i, .int .i64 0, .int .i64 0, .int .i64 0, .int .i64 0, .int .i64 0] 39 (0, 0))) y2)
 have Y3 := Aside0.mk (bc_ (below_alloc (Below.refl _ w) (.cells #[.int .i64 1, .int .i64 i, .int .i64 0, .int .i64 0, .int .i64 0, .int .i64 0, .int .i64 0] 39 (0, 0))) y3)
 have Y4 := Aside0.mk (bc_ (below_alloc (Below.refl _ w) (.cells #[.int .i64 1, .int .i64 i, .int .i64 0, .int .i64 0, .int .i64 0, .int .i64 0, .int .i64 0] 39 (0, 0))) y4)
 clear y0 y1 y2 y3 y4
 clear hS hB
 go_enter Try.func105, Try.ntmps105
 go_wp2_with fail
 generalize w.alloc (.cells #[.int .i64 1, .int .i64 i, .int .i64 0, .int .i64 0, .int .i64 0, .int .i64 0, .int .i64 0] 39) = W at HX HS HB Y0 Y1 Y2 Y3 Y4 ⊢
 replace HX := Aside0.mk (blk_drew HX.out)
 replace HS := Aside0.mk (HS.out.below (below_drew (Below.refl _ W)))
 replace HB := Aside0.mk (below_drew HB.out)
 replace Y0 := Aside0.mk (bc_ (below_drew (Below.refl _ W)) Y0.out)
 replace Y1 := Aside0.mk (bc_ (below_drew (Below.refl _ W)) Y1.out)
 replace Y2 := Aside0.mk (bc_ (below_drew (Below.refl _ W)) Y2.out)
 replace Y3 := Aside0.mk (bc_ (below_drew (Below.refl _ W)) Y3.out)
 replace Y4 := Aside0.mk (bc_ (below_drew (Below.refl _ W)) Y4.out)
 refine start_ (n := 42) (S := fun w' => w'.cell? ⟨w.heap.size, 1, none⟩ = some (.int .i64 i) ∧ w'.cell? ⟨g, 0, none⟩ = some (.slice (some ad) L.length c0) ∧ w'.cell? ⟨g, 3, none⟩ = some (.int .i64 p) ∧ w'.cell? (ad.add (i.toNat * 5)) = some (.int .i64 (rd_T37 L i).f0) ∧ w'.cell? ⟨(ad.add (i.toNat * 5)).block, (ad.add (i.toNat * 5)).off + 1, none⟩ = some (.int .i64 (rd_T37 L i).f1) ∧ w'.cell? ⟨(ad.add (i.toNat * 5)).block, (ad.add (i.toNat * 5)).off + 2, none⟩ = some (.int .i64 (rd_T37 L i).f2) ∧ w'.cell? ⟨(ad.add (i.toNat * 5)).block, (ad.add (i.toNat * 5)).off + 3, none⟩ = some (.int .i64 (rd_T37 L i).f3) ∧ w'.cell? ⟨(ad.add (i.toNat * 5)).block, (ad.add (i.toNat * 5)).off + 4, none⟩ = some (.int .i64 (rd_T37 L i).f4)) (ds := []) walk6.mk0 (by kernel_rfl) rfl rfl ⟨(blk_cell HX.out 1).trans rfl, (blk_cell HS.out.blk 0).trans rfl, (blk_cell HS.out.blk 3).trans rfl, Y0.out, Y1.out, Y2.out, Y3.out, Y4.out⟩ (fun hHeld => ?_); refine with_tabW walk6.tab walk6.bits (fun HT_ HW_ => ?_)
 generalize W.drew = W1 at HX HS HB Y0 Y1 Y2 Y3 Y4 hHeld ⊢
 refine pz_ HT_ 0 (some 33) walk6.mk1 ?_
 refine pz_ HT_ 2 (some 35) walk6.mk2 ?_
 refine pz_ HT_ 3 (some 36) walk6.mk3 ?_
 refine pz_ HT_ 4 (some 37) walk6.mk4 ?_
 refine tk_ HT_ HW_ hHeld 1 (some 34) walk6.mk5 ?_
 refine tk_ HT_ HW_ hHeld 5 (some 38) walk6.mk6 ?_
 refine pz_ HT_ 6 (some 39) walk6.mk7 ?_
 refine pz_ HT_ 7 (some 40) walk6.mk8 ?_
 refine one_ (i := 8) (N := some 41) walk6.mk9 rfl rfl (one_of HT_.out (by kernel_rfl)) (by decide) (fun K hK => ?_)
 refine gs_ Try.func71 #[.int .i64 i, .int .i64 0, .int .i64 (wrap64 ((L.length : Int) - 1))] ?_
 refine (impl_within.calls i 0 (wrap64 ((L.length : Int) - 1)) true _ hwi).mono ?_
 rintro e w1 ⟨rfl, ⟨n1_, rfl⟩⟩
 refine ⟨_, rfl, ?_⟩
 replace HX := Aside0.mk (blk_drewN HX.out n1_)
 replace HS := Aside0.mk (HS.out.below (pw_below_drewN (Below.refl _ _) n1_))
 replace HB := Aside0.mk (pw_below_drewN HB.out n1_)
 replace Y0 := Aside0.mk (bc_ (pw_below_drewN (Below.refl _ _) n1_) Y0.out)
 replace Y1 := Aside0.mk (bc_ (pw_below_drewN (Below.refl _ _) n1_) Y1.out)
 replace Y2 := Aside0.mk (bc_ (pw_below_drewN (Below.refl _ _) n1_) Y2.out)
 replace Y3 := Aside0.mk (bc_ (pw_below_drewN (Below.refl _ _) n1_) Y3.out)
 replace Y4 := Aside0.mk (bc_ (pw_below_drewN (Below.refl _ _) n1_) Y4.out)
 refine hK.out _ _ ⟨(blk_cell HX.out 1).trans rfl, (blk_cell HS.out.blk 0).trans rfl, (blk_cell HS.out.blk 3).trans rfl, Y0.out, Y1.out, Y2.out, Y3.out, Y4.out⟩ (fun hHeld => ?_)
 clear hK K
 refine na_ ?_
 generalize W1.drewN n1_ = W2 at HX HS HB Y0 Y1 Y2 Y3 Y4 hHeld ⊢
 refine pz_ HT_ 9 (some 42) walk6.mk10 ?_
 refine pz_ HT_ 10 (some 43) walk6.mk11 ?_
 refine pz_ HT_ 11 (some 44) walk6.mk12 ?_
 refine pz_ HT_ 12 (some 45) walk6.mk13 ?_
 refine pz_ HT_ 13 (some 46) walk6.mk14 ?_
 refine pz_ HT_ 15 (some 48) walk6.mk15 ?_
 refine pz_ HT_ 20 (some 53) walk6.mk16 ?_
 refine pz_ HT_ 21 (some 54) walk6.mk17 ?_
 refine pz_ HT_ 22 (some 55) walk6.mk18 ?_
 refine tk_ HT_ HW_ hHeld 14 (some 47) walk6.mk19 ?_
 refine tk_ HT_ HW_ hHeld 16 (some 49) walk6.mk20 ?_
 refine pz_ HT_ 17 (some 50) walk6.mk21 ?_
 refine pz_ HT_ 18 (some 51) walk6.mk22 ?_
 refine tk_ HT_ HW_ hHeld 19 (some 52) walk6.mk23 ?_
 refine tk_ HT_ HW_ hHeld 23 (some 56) walk6.mk24 ?_
 refine pz_ HT_ 24 (some 57) walk6.mk25 ?_
 refine pz_ HT_ 25 (some 58) walk6.mk26 ?_
 refine pu_ HT_ 26 (some 59) walk6.mk27 ?_
 refine pu_ HT_ 27 (some 60) walk6.mk28 ?_
 refine pu_ HT_ 28 (some 61) walk6.mk29 ?_
 refine pu_ HT_ 30 (some 63) walk6.mk30 ?_
 refine pu_ HT_ 35 (some 68) walk6.mk31 ?_
 refine pu_ HT_ 36 (some 69) walk6.mk32 ?_
 refine pu_ HT_ 37 (some 70) walk6.mk33 ?_
 refine pu_ HT_ 29 (some 62) walk6.mk34 ?_
 refine pu_ HT_ 31 (some 64) walk6.mk35 ?_
 refine pu_ HT_ 32 (some 65) walk6.mk36 ?_
 refine pu_ HT_ 33 (some 66) walk6.mk37 ?_
 refine pu_ HT_ 34 (some 67) walk6.mk38 ?_
 refine pu_ HT_ 38 (some 71) walk6.mk39 ?_
 refine pu_ HT_ 39 (some 72) walk6.mk40 ?_
 refine pz_ HT_ 40 (some 73) walk6.mk41 ?_
 refine pz_ HT_ 41 (some 74) walk6.mk42 ?_
 refine done_ (done_of HT_.out (by kernel_rfl)) ?_
 go_wp2_with fail
 replace HX := Aside0.mk (blk_drew HX.out)
 replace HS := Aside0.mk (HS.out.below (below_drew (Below.refl _ W2)))
 replace HB := Aside0.mk (below_drew HB.out)
 replace Y0 := Aside0.mk (bc_ (below_drew (Below.refl _ W2)) Y0.out)
 replace Y1 := Aside0.mk (bc_ (below_drew (Below.refl _ W2)) Y1.out)
 replace Y2 := Aside0.mk (bc_ (below_drew (Below.refl _ W2)) Y2.out)
 replace Y3 := Aside0.mk (bc_ (below_drew (Below.refl _ W2)) Y3.out)
 replace Y4 := Aside0.mk (bc_ (below_drew (Below.refl _ W2)) Y4.out)
 refine start_ (n := 10) (S := fun w' => w'.cell? ⟨w.heap.size, 1, none⟩ = some (.int .i64 i) ∧ w'.cell? ⟨g, 0, none⟩ = some (.slice (some ad) L.length c0) ∧ w'.cell? ⟨g, 3, none⟩ = some (.int .i64 p) ∧ w'.cell? (ad.add (i.toNat * 5)) = some (.int .i64 (rd_T37 L i).f0) ∧ w'.cell? ⟨(ad.add (i.toNat * 5)).block, (ad.add (i.toNat * 5)).off + 1, none⟩ = some (.int .i64 (rd_T37 L i).f1) ∧ w'.cell? ⟨(ad.add (i.toNat * 5)).block, (ad.add (i.toNat * 5)).off + 2, none⟩ = some (.int .i64 (rd_T37 L i).f2) ∧ w'.cell? ⟨(ad.add (i.toNat * 5)).block, (ad.add (i.toNat * 5)).off + 3, none⟩ = some (.int .i64 (rd_T37 L i).f3) ∧ w'.cell? ⟨(ad.add (i.toNat * 5)).block, (ad.add (i.toNat * 5)).off + 4, none⟩ = some (.int .i64 (rd_T37 L i).f4)) (ds := [9]) walk8.mk0 (by kernel_rfl) rfl rfl ⟨(blk_cell HX.out 1).trans rfl, (blk_cell HS.out.blk 0).trans rfl, (blk_cell HS.out.blk 3).trans rfl, Y0.out, Y1.out, Y2.out, Y3.out, Y4.out⟩ (fun hHeld => ?_); refine with_tabW walk8.tab walk8.bits (fun HT_ HW_ => ?_)
 generalize W2.drew = W3 at HX HS HB Y0 Y1 Y2 Y3 Y4 hHeld ⊢
 refine pz_ HT_ 0 (some 75) walk8.mk1 ?_
 refine pz_ HT_ 1 (some 76) walk8.mk2 ?_
 refine pz_ HT_ 2 (some 77) walk8.mk3 ?_
 refine pz_ HT_ 3 (some 78) walk8.mk4 ?_
 refine pz_ HT_ 5 (some 80) walk8.mk5 ?_
 refine tk_ HT_ HW_ hHeld 4 (some 79) walk8.mk6 ?_
 refine tk_ HT_ HW_ hHeld 6 (some 81) walk8.mk7 ?_
 refine pz_ HT_ 7 (some 82) walk8.mk8 ?_
 refine tk_ HT_ HW_ hHeld 8 (some 83) walk8.mk9 ?_
 refine last_ (i := 9) (N := some 84) walk8.mk10 rfl rfl (one_of HT_.out (by kernel_rfl)) (by decide) (fun K hK => ?_)
 refine gs_ Try.func119 #[.pointer (some ⟨g, 0, none⟩), .agg #[.int .i64 (rd_T37 L i).f0, .int .i64 (rd_T37 L i).f1, .int .i64 (rd_T37 L i).f2, .int .i64 (rd_T37 L i).f3, .int .i64 (rd_T37 L i).f4], .int .i64 1] ?_
 refine (goAlong_calls g _ vV vD L V D p t (rd_T37 L i).f0 (rd_T37 L i).f1 (rd_T37 L i).f2 (rd_T37 L i).f3 (rd_T37 L i).f4 1 w0 _ HS.out HB.out h0 h1).mono ?_
 rintro e w9 ⟨rfl, hS9, hB9⟩
 refine ⟨_, rfl, ?_⟩
 refine hK.out _ _ ?_
 clear hK K
 refine na_ ?_
 refine done_ (done_of HT_.out (by kernel_rfl)) ?_
 go_wp2_with fail
 go_ret
 exact ⟨rfl, hS9, hB9⟩
theorem walk_k1C (g : Nat) (vL vV vD : Value) (L : List S37) (V D : List Bool) (p t i : Int) (w0 w : World) (hS : ExS w w0.heap.size g vL vV vD L V D p t) (hB : Below w0.heap.size w0 w) (hwi : impl_within.f i 0 (wrap64 ((L.length : Int) - 1)) = some true) (hi0 : 0 ≤ i) (hi1 : i < (L.length : Int)) (hf0 : (rd_T37 L i).f0 ≠ p) (hf1 : (rd_T37 L i).f1 = p) (h0 : 0 ≤ wrap64 (wrap64 ((rd_T37 L i).f0 + (rd_T37 L i).f1) - p)) (h1 : wrap64 (wrap64 ((rd_T37 L i).f0 + (rd_T37 L i).f1) - p) < (V.length : Int)) :
  Calls Try.prog 105 #[.pointer (some ⟨g, 0, none⟩), .agg #[.int .i64 1, .int .i64 i, .int .i64 0, .int .i64 0, .int .i64 0, .int .i64 0, .int .i64 0]] w fun e w' => e = .returned (.bool true) ∧ ExS w' w0.heap.size g vL vV vD L (V.set (wrap64 (wrap64 ((rd_T37 L i).f0 + (rd_T37 L i).f1) - p)).toNat true) D (wrap64 (wrap64 ((rd_T37 L i).f0 + (rd_T37 L i).f1) - p)) (wrap64 (t - wrap64 (1 * (rd_T37 L i).f2))) ∧ Below w0.heap.size w0 w' := by
 have hgw : g < w.heap.size := blk_lt hS.blk
 have hne : w.heap.size ≠ g := by omega
 have hu1 := Try.underlying39
 have hu2 := Try.underlying30
 have hu3 := Try.underlying37
 have hu4 := Try.underlying28
 obtain ⟨A0, c0, rfl⟩ := Kd.R_slice hS.rL
 obtain ⟨ad, e0, y0, y1, y2, y3, y4⟩ := at_T37 (Kd.R_reads' hS.rL).2.2 i hi0 hi1
 subst e0
 have q0 : (0 ≤ i) = True := eq_true hi0
 have q1 : (i < (L.length : Int)) = True := eq_true hi1
 have q0' : decide (0 ≤ i) = true := decide_eq_true hi0
 have q1' : decide (i < (L.length : Int)) = true := decide_eq_true hi1
 have n0 : ((rd_T37 L i).f0 != p) = true := bne_iff_ne.mpr hf0
 have n1 : ((rd_T37 L i).f1 != p) = false := bne_eq_false_iff_eq.mpr hf1
 clear hf0 hf1
 have HX := Aside0.mk (blk_new w (.cells #[.int .i64 1, .int .i64 i, .int .i64 0, .int .i64 0, .int .i64 0, .int .i64 0, .int .i64 0] 39 (0, 0)))
 have HS := Aside0.mk (hS.below (below_alloc (Below.refl _ w) (.cells #[.int .i64 1, .int .i64 i, .int .i64 0, .int .i64 0, .int .i64 0, .int .i64 0, .int .i64 0] 39 (0, 0))))
 have HB := Aside0.mk (below_alloc hB (.cells #[.int .i64 1, .int .i64 i, .int .i64 0, .int .i64 0, .int .i64 0, .int .i64 0, .int .i64 0] 39 (0, 0)))
 have Y0 := Aside0.mk (bc_ (below_alloc (Below.refl _ w) (.cells #[.int .i64 1, .int .i64 i, .int .i64 0, .int .i64 0, .int .i64 0, .int .i64 0, .int .i64 0] 39 (0, 0))) y0)
 have Y1 := Aside0.mk (bc_ (below_alloc (Below.refl _ w) (.cells #[.int .i64 1, .int .i64 i, .int .i64 0, .int .i64 0, .int .i64 0, .int .i64 0, .int .i64 0] 39 (0, 0))) y1)
 have Y2 := Aside0.mk (bc_ (below_alloc (Below.refl _ w) (.cells #[.int .i64 1, .int .i64 i, .int .i64 0, .int .i64 0, .int .i64 0, .int .i64 0, .int .i64 0] 39 (0, 0))) y2)
 have Y3 := Aside0.mk (bc_ (below_alloc (Below.refl _ w) (.cells #[.int .i64 1, .int .i64 i, .int .i64 0, .int .i64 0, .int .i64 0, .int .i64 0, .int .i64 0] 39 (0, 0))) y3)
 have Y4 := Aside0.mk (bc_ (below_alloc (Below.refl _ w) (.cells #[.int .i64 1, .int .i64 i, .int .i64 0, .int .i64 0, .int .i64 0, .int .i64 0, .int .i64 0] 39 (0, 0))) y4)
 clear y0 y1 y2 y3 y4
 clear hS hB
 go_enter Try.func105, Try.ntmps105
 go_wp2_with fail
 generalize w.alloc (.cells #[.int .i64 1, .int .i64 i, .int .i64 0, .int .i64 0, .int .i64 0, .int .i64 0, .int .i64 0] 39) = W at HX HS HB Y0 Y1 Y2 Y3 Y4 ⊢
 replace HX := Aside0.mk (blk_drew HX.out)
 replace HS := Aside0.mk (HS.out.below (below_drew (Below.refl _ W)))
 replace HB := Aside0.mk (below_drew HB.out)
 replace Y0 := Aside0.mk (bc_ (below_drew (Below.refl _ W)) Y0.out)
 replace Y1 := Aside0.mk (bc_ (below_drew (Below.refl _ W)) Y1.out)
 replace Y2 := Aside0.mk (bc_ (below_drew (Below.refl _ W)) Y2.out)
 replace Y3 := Aside0.mk (bc_ (below_drew (Below.refl _ W)) Y3.out)
 replace Y4 := Aside0.mk (bc_ (below_drew (Below.refl _ W)) Y4.out)
 refine start_ (n := 42) (S := fun w' => w'.cell? ⟨w.heap.size, 1, none⟩ = some (.int .i64 i) ∧ w'.cell? ⟨g, 0, none⟩ = some (.slice (some ad) L.length c0) ∧ w'.cell? ⟨g, 3, none⟩ = some (.int .i64 p) ∧ w'.cell? (ad.add (i.toNat * 5)) = some (.int .i64 (rd_T37 L i).f0) ∧ w'.cell? ⟨(ad.add (i.toNat * 5)).block, (ad.add (i.toNat * 5)).off + 1, none⟩ = some (.int .i64 (rd_T37 L i).f1) ∧ w'.cell? ⟨(ad.add (i.toNat * 5)).block, (ad.add (i.toNat * 5)).off + 2, none⟩ = some (.int .i64 (rd_T37 L i).f2) ∧ w'.cell? ⟨(ad.add (i.toNat * 5)).block, (ad.add (i.toNat * 5)).off + 3, none⟩ = some (.int .i64 (rd_T37 L i).f3) ∧ w'.cell? ⟨(ad.add (i.toNat * 5)).block, (ad.add (i.toNat * 5)).off + 4, none⟩ = some (.int .i64 (rd_T37 L i).f4)) (ds := []) walk6.mk0 (by kernel_rfl) rfl rfl ⟨(blk_cell HX.out 1).trans rfl, (blk_cell HS.out.blk 0).trans rfl, (blk_cell HS.out.blk 3).trans rfl, Y0.out, Y1.out, Y2.out, Y3.out, Y4.out⟩ (fun hHeld => ?_); refine with_tabW walk6.tab walk6.bits (fun HT_ HW_ => ?_)
 generalize W.drew = W1 at HX HS HB Y0 Y1 Y2 Y3 Y4 hHeld ⊢
 refine pz_ HT_ 0 (some 33) walk6.mk1 ?_
 refine pz_ HT_ 2 (some 35) walk6.mk2 ?_
 refine pz_ HT_ 3 (some 36) walk6.mk3 ?_
 refine pz_ HT_ 4 (some 37) walk6.mk4 ?_
 refine tk_ HT_ HW_ hHeld 1 (some 34) walk6.mk5 ?_
 refine tk_ HT_ HW_ hHeld 5 (some 38) walk6.mk6 ?_
 refine pz_ HT_ 6 (some 39) walk6.mk7 ?_
 refine pz_ HT_ 7 (some 40) walk6.mk8 ?_
 refine one_ (i := 8) (N := some 41) walk6.mk9 rfl rfl (one_of HT_.out (by kernel_rfl)) (by decide) (fun K hK => ?_)
 refine gs_ Try.func71 #[.int .i64 i, .int .i64 0, .int .i64 (wrap64 ((L.length : Int) - 1))] ?_
 refine (impl_within.calls i 0 (wrap64 ((L.length : Int) - 1)) true _ hwi).mono ?_
 rintro e w1 ⟨rfl, ⟨n1_, rfl⟩⟩
 refine ⟨_, rfl, ?_⟩
 replace HX := Aside0.mk (blk_drewN HX.out n1_)
 replace HS := Aside0.mk (HS.out.below (pw_below_drewN (Below.refl _ _) n1_))
 replace HB := Aside0.mk (pw_below_drewN HB.out n1_)
 replace Y0 := Aside0.mk (bc_ (pw_below_drewN (Below.refl _ _) n1_) Y0.out)
 replace Y1 := Aside0.mk (bc_ (pw_below_drewN (Below.refl _ _) n1_) Y1.out)
 replace Y2 := Aside0.mk (bc_ (pw_below_drewN (Below.refl _ _) n1_) Y2.out)
 replace Y3 := Aside0.mk (bc_ (pw_below_drewN (Below.refl _ _) n1_) Y3.out)
 replace Y4 := Aside0.mk (bc_ (pw_below_drewN (Below.refl _ _) n1_) Y4.out)
 refine hK.out _ _ ⟨(blk_cell HX.out 1).trans rfl, (blk_cell HS.out.blk 0).trans rfl, (blk_cell HS.out.blk 3).trans rfl, Y0.out, Y1.out, Y2.out, Y3.out, Y4.out⟩ (fun hHeld => ?_)
 clear hK K
 refine na_ ?_
 generalize W1.drewN n1_ = W2 at HX HS HB Y0 Y1 Y2 Y3 Y4 hHeld ⊢
 refine pz_ HT_ 9 (some 42) walk6.mk10 ?_
 refine pz_ HT_ 10 (some 43) walk6.mk11 ?_
 refine pz_ HT_ 11 (some 44) walk6.mk12 ?_
 refine pz_ HT_ 12 (some 45) walk6.mk13 ?_
 refine pz_ HT_ 13 (some 46) walk6.mk14 ?_
 refine pz_ HT_ 15 (some 48) walk6.mk15 ?_
 refine pz_ HT_ 20 (some 53) walk6.mk16 ?_
 refine pz_ HT_ 21 (some 54) walk6.mk17 ?_
 refine pz_ HT_ 22 (some 55) walk6.mk18 ?_
 refine tk_ HT_ HW_ hHeld 14 (some 47) walk6.mk19 ?_
 refine tk_ HT_ HW_ hHeld 16 (some 49) walk6.mk20 ?_
 refine pz_ HT_ 17 (some 50) walk6.mk21 ?_
 refine pz_ HT_ 18 (some 51) walk6.mk22 ?_
 refine tk_ HT_ HW_ hHeld 19 (some 52) walk6.mk23 ?_
 refine tk_ HT_ HW_ hHeld 23 (some 56) walk6.mk24 ?_
 refine pz_ HT_ 24 (some 57) walk6.mk25 ?_
 refine pz_ HT_ 25 (some 58) walk6.mk26 ?_
 refine pz_ HT_ 26 (some 59) walk6.mk27 ?_
 refine pz_ HT_ 27 (some 60) walk6.mk28 ?_
 refine pz_ HT_ 28 (some 61) walk6.mk29 ?_
 refine pz_ HT_ 30 (some 63) walk6.mk30 ?_
 refine pz_ HT_ 35 (some 68) walk6.mk31 ?_
 refine pz_ HT_ 36 (some 69) walk6.mk32 ?_
 refine pz_ HT_ 37 (some 70) walk6.mk33 ?_
 refine tk_ HT_ HW_ hHeld 29 (some 62) walk6.mk34 ?_
 refine tk_ HT_ HW_ hHeld 31 (some 64) walk6.mk35 ?_
 refine pz_ HT_ 32 (some 65) walk6.mk36 ?_
 refine pz_ HT_ 33 (some 66) walk6.mk37 ?_
 refine tk_ HT_ HW_ hHeld 34 (some 67) walk6.mk38 ?_
 refine tk_ HT_ HW_ hHeld 38 (some 71) walk6.mk39 ?_
 refine pz_ HT_ 39 (some 72) walk6.mk40 ?_
 refine pz_ HT_ 40 (some 73) walk6.mk41 ?_
 refine pz_ HT_ 41 (some 74) walk6.mk42 ?_
 refine done_ (done_of HT_.out (by kernel_rfl)) ?_
 go_wp2_with fail
 replace HX := Aside0.mk (blk_drew HX.out)
 replace HS := Aside0.mk (HS.out.below (below_drew (Below.refl _ W2)))
 replace HB := Aside0.mk (below_drew HB.out)
 replace Y0 := Aside0.mk (bc_ (below_drew (Below.refl _ W2)) Y0.out)
 replace Y1 := Aside0.mk (bc_ (below_drew (Below.refl _ W2)) Y1.out)
 replace Y2 := Aside0.mk (bc_ (below_drew (Below.refl _ W2)) Y2.out)
 replace Y3 := Aside0.mk (bc_ (below_drew (Below.refl _ W2)) Y3.out)
 replace Y4 := Aside0.mk (bc_ (below_drew (Below.refl _ W2)) Y4.out)
 refine start_ (n := 10) (S := fun w' => w'.cell? ⟨w.heap.size, 1, none⟩ = some (.int .i64 i) ∧ w'.cell? ⟨g, 0, none⟩ = some (.slice (some ad) L.length c0) ∧ w'.cell? ⟨g, 3, none⟩ = some (.int .i64 p) ∧ w'.cell? (ad.add (i.toNat * 5)) = some (.int .i64 (rd_T37 L i).f0) ∧ w'.cell? ⟨(ad.add (i.toNat * 5)).block, (ad.add (i.toNat * 5)).off + 1, none⟩ = some (.int .i64 (rd_T37 L i).f1) ∧ w'.cell? ⟨(ad.add (i.toNat * 5)).block, (ad.add (i.toNat * 5)).off + 2, none⟩ = some (.int .i64 (rd_T37 L i).f2) ∧ w'.cell? ⟨(ad.add (i.toNat * 5)).block, (ad.add (i.toNat * 5)).off + 3, none⟩ = some (.int .i64 (rd_T37 L i).f3) ∧ w'.cell? ⟨(ad.add (i.toNat * 5)).block, (ad.add (i.toNat * 5)).off + 4, none⟩ = some (.int .i64 (rd_T37 L i).f4)) (ds := [9]) walk8.mk0 (by kernel_rfl) rfl rfl ⟨(blk_cell HX.out 1).trans rfl, (blk_cell HS.out.blk 0).trans rfl, (blk_cell HS.out.blk 3).trans rfl, Y0.out, Y1.out, Y2.out, Y3.out, Y4.out⟩ (fun hHeld => ?_); refine with_tabW walk8.tab walk8.bits (fun HT_ HW_ => ?_)
 generalize W2.drew = W3 at HX HS HB Y0 Y1 Y2 Y3 Y4 hHeld ⊢
 refine pz_ HT_ 0 (some 75) walk8.mk1 ?_
 refine pz_ HT_ 1 (some 76) walk8.mk2 ?_
 refine pz_ HT_ 2 (some 77) walk8.mk3 ?_
 refine pz_ HT_ 3 (some 78) walk8.mk4 ?_
 refine pz_ HT_ 5 (some 80) walk8.mk5 ?_
 refine tk_ HT_ HW_ hHeld 4 (some 79) walk8.mk6 ?_
 refine tk_ HT_ HW_ hHeld 6 (some 81) walk8.mk7 ?_
 refine pz_ HT_ 7 (some 82) walk8.mk8 ?_
 refine tk_ HT_ HW_ hHeld 8 (some 83) walk8.mk9 ?_
 refine last_ (i := 9) (N := some 84) walk8.mk10 rfl rfl (one_of HT_.out (by kernel_rfl)) (by decide) (fun K hK => ?_)
 refine gs_ Try.func119 #[.pointer (some ⟨g, 0, none⟩), .agg #[.int .i64 (rd_T37 L i).f0, .int .i64 (rd_T37 L i).f1, .int .i64 (rd_T37 L i).f2, .int .i64 (rd_T37 L i).f3, .int .i64 (rd_T37 L i).f4], .int .i64 1] ?_
 refine (goAlong_calls g _ vV vD L V D p t (rd_T37 L i).f0 (rd_T37 L i).f1 (rd_T37 L i).f2 (rd_T37 L i).f3 (rd_T37 L i).f4 1 w0 _ HS.out HB.out h0 h1).mono ?_
 rintro e w9 ⟨rfl, hS9, hB9⟩
 refine ⟨_, rfl, ?_⟩
 refine hK.out _ _ ?_
 clear hK K
 refine na_ ?_
 refine done_ (done_of HT_.out (by kernel_rfl)) ?_
 go_wp2_with fail
 go_ret
 exact ⟨rfl, hS9, hB9⟩
theorem walk_k1D (g : Nat) (vL vV vD : Value) (L : List S37) (V D : List Bool) (p t i : Int) (w0 w : World) (hS : ExS w w0.heap.size g vL vV vD L V D p t) (hB : Below w0.heap.size w0 w) (hwi : impl_within.f i 0 (wrap64 ((L.length : Int) - 1)) = some true) (hi0 : 0 ≤ i) (hi1 : i < (L.length : Int)) (hf0 : (rd_T37 L i).f0 ≠ p) (hf1 : (rd_T37 L i).f1 ≠ p) :
  Calls Try.prog 105 #[.pointer (some ⟨g, 0, none⟩), .agg #[.int .i64 1, .int .i64 i, .int .i64 0, .int .i64 0, .int .i64 0, .int .i64 0, .int .i64 0]] w fun e w' => e = .returned (.bool false) ∧ ExS w' w0.heap.size g vL vV vD L V D p t ∧ Below w0.heap.size w0 w' := by
 have hgw : g < w.heap.size := blk_lt hS.blk
 have hne : w.heap.size ≠ g := by omega
 have hu1 := Try.underlying39
 have hu2 := Try.underlying30
 have hu3 := Try.underlying37
 have hu4 := Try.underlying28
 obtain ⟨A0, c0, rfl⟩ := Kd.R_slice hS.rL
 obtain ⟨ad, e0, y0, y1, y2, y3, y4⟩ := at_T37 (Kd.R_reads' hS.rL).2.2 i hi0 hi1
 subst e0
 have q0 : (0 ≤ i) = True := eq_true hi0
 have q1 : (i < (L.length : Int)) = True := eq_true hi1
 have q0' : decide (0 ≤ i) = true := decide_eq_true hi0
 have q1' : decide (i < (L.length : Int)) = true := decide_eq_true hi1
 have n0 : ((rd_T37 L i).f0 != p) = true := bne_iff_ne.mpr hf0
 have n1 : ((rd_T37 L i).f1 != p) = true := bne_iff_ne.mpr hf1
 clear hf0 hf1
 have HX := Aside0.mk (blk_new w (.cells #[.int .i64 1, .int .i64 i, .int .i64 0, .int .i64 0, .int .i64 0, .int .i64 0, .int .i64 0] 39 (0, 0)))
 have HS := Aside0.mk (hS.below (below_alloc (Below.refl _ w) (.cells #[.int .i64 1, .int .i64 i, .int .i64 0, .int .i64 0, .int .i64 0, .int .i64 0, .int .i64 0] 39 (0, 0))))
 have HB := Aside0.mk (below_alloc hB (.cells #[.int .i64 1, .int .i64 i, .int .i64 0, .int .i64 0, .int .i64 0, .int .i64 0, .int .i64 0] 39 (0, 0)))
 have Y0 := Aside0.mk (bc_ (below_alloc (Below.refl _ w) (.cells #[.int .i64 1, .int .i64 i, .int .i64 0, .int .i64 0, .int .i64 0, .int .i64 0, .int .i64 0] 39 (0, 0))) y0)
 have Y1 := Aside0.mk (bc_ (below_alloc (Below.refl _ w) (.cells #[.int .i64 1, .int .i64 i, .int .i64 0, .int .i64 0, .int .i64 0, .int .i64 0, .int .i64 0] 39 (0, 0))) y1)
 have Y2 := Aside0.mk (bc_ (below_alloc (Below.refl _ w) (.cells #[.int .i64 1, .int .i64 i, .int .i64 0, .int .i64 0, .int .i64 0, .int .i64 0, .int .i64 0] 39 (0, 0))) y2)
 have Y3 := Aside0.mk (bc_ (below_alloc (Below.refl _ w) (.cells #[.int .i64 1, .int .i64 i, .int .i64 0, .int .i64 0, .int .i64 0, .int .i64 0, .int .i64 0] 39 (0, 0))) y3)
 have Y4 := Aside0.mk (bc_ (below_alloc (Below.refl _ w) (.cells #[.int .i64 1, .int .i64 i, .int .i64 0, .int .i64 0, .int .i64 0, .int .i64 0, .int .i64 0] 39 (0, 0))) y4)
 clear y0 y1 y2 y3 y4
 clear hS hB
 go_enter Try.func105, Try.ntmps105
 go_wp2_with fail
 generalize w.alloc (.cells #[.int .i64 1, .int .i64 i, .int .i64 0, .int .i64 0, .int .i64 0, .int .i64 0, .int .i64 0] 39) = W at HX HS HB Y0 Y1 Y2 Y3 Y4 ⊢
 replace HX := Aside0.mk (blk_drew HX.out)
 replace HS := Aside0.mk (HS.out.below (below_drew (Below.refl _ W)))
 replace HB := Aside0.mk (below_drew HB.out)
 replace Y0 := Aside0.mk (bc_ (below_drew (Below.refl _ W)) Y0.out)
 replace Y1 := Aside0.mk (bc_ (below_drew (Below.refl _ W)) Y1.out)
 replace Y2 := Aside0.mk (bc_ (below_drew (Below.refl _ W)) Y2.out)
 replace Y3 := Aside0.mk (bc_ (below_drew (Below.refl _ W)) Y3.out)
 replace Y4 := Aside0.mk (bc_ (below_drew (Below.refl _ W)) Y4.out)
 refine start_ (n := 42) (S := fun w' => w'.cell? ⟨w.heap.size, 1, none⟩ = some (.int .i64 i) ∧ w'.cell? ⟨g, 0, none⟩ = some (.slice (some ad) L.length c0) ∧ w'.cell? ⟨g, 3, none⟩ = some (.int .i64 p) ∧ w'.cell? (ad.add (i.toNat * 5)) = some (.int .i64 (rd_T37 L i).f0) ∧ w'.cell? ⟨(ad.add (i.toNat * 5)).block, (ad.add (i.toNat * 5)).off + 1, none⟩ = some (.int .i64 (rd_T37 L i).f1) ∧ w'.cell? ⟨(ad.add (i.toNat * 5)).block, (ad.add (i.toNat * 5)).off + 2, none⟩ = some (.int .i64 (rd_T37 L i).f2) ∧ w'.cell? ⟨(ad.add (i.toNat * 5)).block, (ad.add (i.toNat * 5)).off + 3, none⟩ = some (.int .i64 (rd_T37 L i).f3) ∧ w'.cell? ⟨(ad.add (i.toNat * 5)).block, (ad.add (i.toNat * 5)).off + 4, none⟩ = some (.int .i64 (rd_T37 L i).f4)) (ds := []) walk6.mk0 (by kernel_rfl) rfl rfl ⟨(blk_cell HX.out 1).trans rfl, (blk_cell HS.out.blk 0).trans rfl, (blk_cell HS.out.blk 3).trans rfl, Y0.out, Y1.out, Y2.out, Y3.out, Y4.out⟩ (fun hHeld => ?_); refine with_tabW walk6.tab walk6.bits (fun HT_ HW_ => ?_)
 generalize W.drew = W1 at HX HS HB Y0 Y1 Y2 Y3 Y4 hHeld ⊢
 refine pz_ HT_ 0 (some 33) walk6.mk1 ?_
 refine pz_ HT_ 2 (some 35) walk6.mk2 ?_
 refine pz_ HT_ 3 (some 36) walk6.mk3 ?_
 refine pz_ HT_ 4 (some 37) walk6.mk4 ?_
 refine tk_ HT_ HW_ hHeld 1 (some 34) walk6.mk5 ?_
 refine tk_ HT_ HW_ hHeld 5 (some 38) walk6.mk6 ?_
 refine pz_ HT_ 6 (some 39) walk6.mk7 ?_
 refine pz_ HT_ 7 (some 40) walk6.mk8 ?_
 refine one_ (i := 8) (N := some 41) walk6.mk9 rfl rfl (one_of HT_.out (by kernel_rfl)) (by decide) (fun K hK => ?_)
 refine gs_ Try.func71 #[.int .i64 i, .int .i64 0, .int .i64 (wrap64 ((L.length : Int) - 1))] ?_
 refine (impl_within.calls i 0 (wrap64 ((L.length : Int) - 1)) true _ hwi).mono ?_
 rintro e w1 ⟨rfl, ⟨n1_, rfl⟩⟩
 refine ⟨_, rfl, ?_⟩
 replace HX := Aside0.mk (blk_drewN HX.out n1_)
 replace HS := Aside0.mk (HS.out.below (pw_below_drewN (Below.refl _ _) n1_))
 replace HB := Aside0.mk (pw_below_drewN HB.out n1_)
 replace Y0 := Aside0.mk (bc_ (pw_below_drewN (Below.refl _ _) n1_) Y0.out)
 replace Y1 := Aside0.mk (bc_ (pw_below_drewN (Below.refl _ _) n1_) Y1.out)
 replace Y2 := Aside0.mk (bc_ (pw_below_drewN (Below.refl _ _) n1_) Y2.out)
 replace Y3 := Aside0.mk (bc_ (pw_below_drewN (Below.refl _ _) n1_) Y3.out)
 replace Y4 := Aside0.mk (bc_ (pw_below_drewN (Below.refl _ _) n1_) Y4.out)
 refine hK.out _ _ ⟨(blk_cell HX.out 1).trans rfl, (blk_cell HS.out.blk 0).trans rfl, (blk_cell HS.out.blk 3).trans rfl, Y0.out, Y1.out, Y2.out, Y3.out, Y4.out⟩ (fun hHeld => ?_)
 clear hK K
 refine na_ ?_
 generalize W1.drewN n1_ = W2 at HX HS HB Y0 Y1 Y2 Y3 Y4 hHeld ⊢
 refine pz_ HT_ 9 (some 42) walk6.mk10 ?_
 refine pz_ HT_ 10 (some 43) walk6.mk11 ?_
 refine pz_ HT_ 11 (some 44) walk6.mk12 ?_
 refine pz_ HT_ 12 (some 45) walk6.mk13 ?_
 refine pz_ HT_ 13 (some 46) walk6.mk14 ?_
 refine pz_ HT_ 15 (some 48) walk6.mk15 ?_
 refine pz_ HT_ 20 (some 53) walk6.mk16 ?_
 refine pz_ HT_ 21 (some 54) walk6.mk17 ?_
 refine pz_ HT_ 22 (some 55) walk6.mk18 ?_
 refine tk_ HT_ HW_ hHeld 14 (some 47) walk6.mk19 ?_
 refine tk_ HT_ HW_ hHeld 16 (some 49) walk6.mk20 ?_
 refine pz_ HT_ 17 (some 50) walk6.mk21 ?_
 refine pz_ HT_ 18 (some 51) walk6.mk22 ?_
 refine tk_ HT_ HW_ hHeld 19 (some 52) walk6.mk23 ?_
 refine tk_ HT_ HW_ hHeld 23 (some 56) walk6.mk24 ?_
 refine pz_ HT_ 24 (some 57) walk6.mk25 ?_
 refine pz_ HT_ 25 (some 58) walk6.mk26 ?_
 refine pz_ HT_ 26 (some 59) walk6.mk27 ?_
 refine pz_ HT_ 27 (some 60) walk6.mk28 ?_
 refine pz_ HT_ 28 (some 61) walk6.mk29 ?_
 refine pz_ HT_ 30 (some 63) walk6.mk30 ?_
 refine pz_ HT_ 35 (some 68) walk6.mk31 ?_
 refine pz_ HT_ 36 (some 69) walk6.mk32 ?_
 refine pz_ HT_ 37 (some 70) walk6.mk33 ?_
 refine tk_ HT_ HW_ hHeld 29 (some 62) walk6.mk34 ?_
 refine tk_ HT_ HW_ hHeld 31 (some 64) walk6.mk35 ?_
 refine pz_ HT_ 32 (some 65) walk6.mk36 ?_
 refine pz_ HT_ 33 (some 66) walk6.mk37 ?_
 refine tk_ HT_ HW_ hHeld 34 (some 67) walk6.mk38 ?_
 refine tk_ HT_ HW_ hHeld 38 (some 71) walk6.mk39 ?_
 refine pz_ HT_ 39 (some 72) walk6.mk40 ?_
 refine pz_ HT_ 40 (some 73) walk6.mk41 ?_
 refine pz_ HT_ 41 (some 74) walk6.mk42 ?_
 refine done_ (done_of HT_.out (by kernel_rfl)) ?_
 go_wp2_with fail
 go_ret
 exact ⟨rfl, HS.out, HB.out⟩
def walk10.T : Bool × List (List Nat × List Nat) := (true, [([], []), ([0], [0]), ([1], [1]), ([2], [2]), ([3, 2], [3]), ([4], [4]), ([5, 4], [4, 5]), ([6, 4], [4, 6]), ([4], [4]), ([8, 4], [4, 8]), ([9, 4], [4, 9]), ([10, 4], [4, 10]), ([7, 11, 4], [4, 7, 11]), ([4, 12], [4, 12])])
def walk10.B : List Nat := [0, 1, 3, 7, 15, 31, 63, 127, 31, 287, 799, 1823, 4095, 8191]
theorem walk10.tab : rtab .any (opsOf Try.f105 10) = walk10.T := by kernel_rfl
theorem walk10.bits : waitsOk walk10.T.2 walk10.B = true := by kernel_rfl
abbrev walk10.mk0 : Array Bool := #[fF,fF,fF,fF,fF,fF,fF,fF,fF,fF,fF,fF,fF,fF]
abbrev walk10.mk1 : Array Bool := #[tT,fF,fF,fF,fF,fF,fF,fF,fF,fF,fF,fF,fF,fF]
abbrev walk10.mk2 : Array Bool := #[tT,tT,fF,fF,fF,fF,fF,fF,fF,fF,fF,fF,fF,fF]
abbrev walk10.mk3 : Array Bool := #[tT,tT,tT,fF,fF,fF,fF,fF,fF,fF,fF,fF,fF,fF]
abbrev walk10.mk4 : Array Bool := #[tT,tT,tT,tT,fF,fF,fF,fF,fF,fF,fF,fF,fF,fF]
abbrev walk10.mk5 : Array Bool := #[tT,tT,tT,tT,tT,fF,fF,fF,fF,fF,fF,fF,fF,fF]
abbrev walk10.mk6 : Array Bool := #[tT,tT,tT,tT,tT,tT,fF,fF,fF,fF,fF,fF,fF,fF]
abbrev walk10.mk7 : Array Bool := #[tT,tT,tT,tT,tT,tT,tT,fF,fF,fF,fF,fF,fF,fF]
abbrev walk10.mk8 : Array Bool := #[tT,tT,tT,tT,tT,tT,tT,fF,tT,fF,fF,fF,fF,fF]
abbrev walk10.mk9 : Array Bool := #[tT,tT,tT,tT,tT,tT,tT,fF,tT,tT,fF,fF,fF,fF]
abbrev walk10.mk10 : Array Bool := #[tT,tT,tT,tT,tT,tT,tT,fF,tT,tT,tT,fF,fF,fF]
abbrev walk10.mk11 : Array Bool := #[tT,tT,tT,tT,tT,tT,tT,tT,tT,tT,tT,fF,fF,fF]
abbrev walk10.mk12 : Array Bool := #[tT,tT,tT,tT,tT,tT,tT,tT,tT,tT,tT,tT,fF,fF]
abbrev walk10.mk13 : Array Bool := #[tT,tT,tT,tT,tT,tT,tT,tT,tT,tT,tT,tT,tT,fF]
abbrev walk10.mk14 : Array Bool := #[tT,tT,tT,tT,tT,tT,tT,tT,tT,tT,tT,tT,tT,tT]
def walk12.T : Bool × List (List Nat × List Nat) := (true, [([], []), ([], []), ([1], [1]), ([2], [2]), ([3], [3]), ([], []), ([5], [5]), ([6], [6]), ([4, 7], [4, 7]), ([0, 0, 1, 2, 3, 4, 5, 6, 7, 8], [0]), ([9, 0, 1, 2, 3, 4, 5, 6, 7, 8], [9]), ([10, 8, 8, 0, 1, 2, 3, 4, 5, 6, 7, 8], [8, 10])])
def walk12.B : List Nat := [0, 0, 2, 6, 14, 0, 32, 96, 254, 511, 1023, 2047]
theorem walk12.tab : rtab .any (opsOf Try.f105 12) = walk12.T := by kernel_rfl
theorem walk12.bits : waitsOk walk12.T.2 walk12.B = true := by kernel_rfl
abbrev walk12.mk0 : Array Bool := #[fF,fF,fF,fF,fF,fF,fF,fF,fF,fF,fF,fF]
abbrev walk12.mk1 : Array Bool := #[tT,fF,fF,fF,fF,fF,fF,fF,fF,fF,fF,fF]
abbrev walk12.mk2 : Array Bool := #[tT,tT,fF,fF,fF,fF,fF,fF,fF,fF,fF,fF]
abbrev walk12.mk3 : Array Bool := #[tT,tT,tT,fF,fF,fF,fF,fF,fF,fF,fF,fF]
abbrev walk12.mk4 : Array Bool := #[tT,tT,tT,tT,fF,fF,fF,fF,fF,fF,fF,fF]
abbrev walk12.mk5 : Array Bool := #[tT,tT,tT,tT,fF,tT,fF,fF,fF,fF,fF,fF]
abbrev walk12.mk6 : Array Bool := #[tT,tT,tT,tT,tT,tT,fF,fF,fF,fF,fF,fF]
abbrev walk12.mk7 : Array Bool := #[tT,tT,tT,tT,tT,tT,tT,fF,fF,fF,fF,fF]
abbrev walk12.mk8 : Array Bool := #[tT,tT,tT,tT,tT,tT,tT,tT,fF,fF,fF,fF]
abbrev walk12.mk9 : Array Bool := #[tT,tT,tT,tT,tT,tT,tT,tT,tT,fF,fF,fF]
abbrev walk12.mk10 : Array Bool := #[tT,tT,tT,tT,tT,tT,tT,tT,tT,tT,fF,fF]
abbrev walk12.mk11 : Array Bool := #[tT,tT,tT,tT,tT,tT,tT,tT,tT,tT,tT,fF]
abbrev walk12.mk12 : Array Bool := #[tT,tT,tT,tT,tT,tT,tT,tT,tT,tT,tT,tT]
theorem ExS.putL {w : World} {base g : Nat} {vL vV vD : Value} {L' : List S37} {V D : List Bool} {p t : Int} {vL' : Value} (hb : w.heap[g]? = some (.cells #[vL, vV, vD, .int .i64 p, .int .i64 t] 30 (0, 0))) (gb : base ≤ g) (rL : Kd.R k37 37 w base (fun _ => True) vL' L')
  (rV : Kd.R Kd.bool 4 w base (fun k => some k ≠ vD.ownBlock) vV V) (rD : Kd.R Kd.bool 4 w base (fun k => some k ≠ vV.ownBlock) vD D) : ExS (w.setCell ⟨g, 0, none⟩ vL') base g vL' vV vD L' V D p t := by
 have hk : KeepBut w (w.setCell ⟨g, 0, none⟩ vL') g none := KeepBut.set_ (KeepBut.refl _ _ _) 0 _
 exact ⟨blk_put hb 0 _ rfl, gb, Kd.R_mono (Kd.R_keep (own_ne_ rL rfl hb (by decide)) hk (fun _ hk => hk.2)) (fun _ hk => hk.1), Kd.R_mono (Kd.R_keep (own_ne_ rV rfl hb (by decide)) hk (fun _ hk => hk.2)) (fun _ hk => hk.1), Kd.R_mono (Kd.R_keep (own_ne_ rD rfl hb (by decide)) hk (fun _ hk => hk.2)) (fun _ hk => hk.1)⟩
theorem walk_k2F (g : Nat) (vL vV vD : Value) (L : List S37) (V D : List Bool) (p t a b tp c s : Int) (w0 w : World) (hS : ExS w w0.heap.size g vL vV vD L V D p t) (hB : Below w0.heap.size w0 w) (hok : impl_IsLeg.f a b tp c s = some false) :
  Calls Try.prog 105 #[.pointer (some ⟨g, 0, none⟩), .agg #[.int .i64 2, .int .i64 0, .int .i64 a, .int .i64 b, .int .i64 tp, .int .i64 c, .int .i64 s]] w fun e w' => e = .returned (.bool false) ∧ ExS w' w0.heap.size g vL vV vD L V D p t ∧ Below w0.heap.size w0 w' := by
 have hgw : g < w.heap.size := blk_lt hS.blk
 have hne : w.heap.size ≠ g := by omega
 have hu1 := Try.underlying39
 have hu2 := Try.underlying30
 have hu3 := Try.underlying37
 have hu4 := Try.underlying28
 obtain ⟨A0, c0, rfl⟩ := Kd.R_slice hS.rL
 have HX := Aside0.mk (blk_new w (.cells #[.int .i64 2, .int .i64 0, .int .i64 a, .int .i64 b, .int .i64 tp, .int .i64 c, .int .i64 s] 39 (0, 0)))
 have HS := Aside0.mk (hS.below (below_alloc (Below.refl _ w) (.cells #[.int .i64 2, .int .i64 0, .int .i64 a, .int .i64 b, .int .i64 tp, .int .i64 c, .int .i64 s] 39 (0, 0))))
 have HB := Aside0.mk (below_alloc hB (.cells #[.int .i64 2, .int .i64 0, .int .i64 a, .int .i64 b, .int .i64 tp, .int .i64 c, .int .i64 s] 39 (0, 0)))
 clear hS hB
 go_enter Try.func105, Try.ntmps105
 go_wp2_with fail
 generalize w.alloc (.cells #[.int .i64 2, .int .i64 0, .int .i64 a, .int .i64 b, .int .i64 tp, .int .i64 c, .int .i64 s] 39) = W at HX HS HB ⊢
 replace HX := Aside0.mk (blk_drew HX.out)
 replace HS := Aside0.mk (HS.out.below (below_drew (Below.refl _ W)))
 replace HB := Aside0.mk (below_drew HB.out)
 refine start_ (n := 14) (S := fun w' => w'.cell? ⟨w.heap.size, 2, none⟩ = some (.int .i64 a) ∧ w'.cell? ⟨w.heap.size, 3, none⟩ = some (.int .i64 b) ∧ w'.cell? ⟨w.heap.size, 4, none⟩ = some (.int .i64 tp) ∧ w'.cell? ⟨w.heap.size, 5, none⟩ = some (.int .i64 c) ∧ w'.cell? ⟨w.heap.size, 6, none⟩ = some (.int .i64 s) ∧ w'.cell? ⟨g, 3, none⟩ = some (.int .i64 p)) (ds := []) walk10.mk0 (by kernel_rfl) rfl rfl ⟨(blk_cell HX.out 2).trans rfl, (blk_cell HX.out 3).trans rfl, (blk_cell HX.out 4).trans rfl, (blk_cell HX.out 5).trans rfl, (blk_cell HX.out 6).trans rfl, (blk_cell HS.out.blk 3).trans rfl⟩ (fun hHeld => ?_); refine with_tabW walk10.tab walk10.bits (fun HT_ HW_ => ?_)
 generalize W.drew = W1 at HX HS HB hHeld ⊢
 refine pz_ HT_ 0 (some 87) walk10.mk1 ?_
 refine tk_ HT_ HW_ hHeld 1 (some 88) walk10.mk2 ?_
 refine one_ (i := 2) (N := some 89) walk10.mk3 rfl rfl (one_of HT_.out (by kernel_rfl)) (by decide) (fun K hK => ?_)
 refine gs_ Try.func102 #[.agg #[.int .i64 a, .int .i64 b, .int .i64 tp, .int .i64 c, .int .i64 s]] ?_
 refine (impl_IsLeg.calls a b tp c s false _ hok).mono ?_
 rintro e w1 ⟨rfl, hb⟩
 refine ⟨_, rfl, ?_⟩
 replace HX := Aside0.mk (bb_ HX.out hb)
 replace HS := Aside0.mk (HS.out.below hb)
 replace HB := Aside0.mk (below_step HB.out hb)
 clear hb
 refine hK.out _ _ ⟨(blk_cell HX.out 2).trans rfl, (blk_cell HX.out 3).trans rfl, (blk_cell HX.out 4).trans rfl, (blk_cell HX.out 5).trans rfl, (blk_cell HX.out 6).trans rfl, (blk_cell HS.out.blk 3).trans rfl⟩ (fun hHeld => ?_)
 clear hK K
 refine na_ ?_
 refine pz_ HT_ 3 (some 90) walk10.mk4 ?_
 refine pz_ HT_ 4 (some 91) walk10.mk5 ?_
 refine pu_ HT_ 5 (some 92) walk10.mk6 ?_
 refine pu_ HT_ 6 (some 93) walk10.mk7 ?_
 refine pu_ HT_ 8 (some 95) walk10.mk8 ?_
 refine pu_ HT_ 9 (some 96) walk10.mk9 ?_
 refine pu_ HT_ 10 (some 97) walk10.mk10 ?_
 refine pu_ HT_ 7 (some 94) walk10.mk11 ?_
 refine pu_ HT_ 11 (some 98) walk10.mk12 ?_
 refine pu_ HT_ 12 (some 99) walk10.mk13 ?_
 refine pz_ HT_ 13 (some 100) walk10.mk14 ?_
 refine done_ (done_of HT_.out (by kernel_rfl)) ?_
 go_wp2_with fail
 go_ret
 exact ⟨rfl, HS.out, HB.out⟩
theorem walk_k2N (g : Nat) (vL vV vD : Value) (L : List S37) (V D : List Bool) (p t a b tp c s : Int) (w0 w : World) (hS : ExS w w0.heap.size g vL vV vD L V D p t) (hB : Below w0.heap.size w0 w) (hok : impl_IsLeg.f a b tp c s = some true) (hap : a ≠ p) :
  Calls Try.prog 105 #[.pointer (some ⟨g, 0, none⟩), .agg #[.int .i64 2, .int .i64 0, .int .i64 a, .int .i64 b, .int .i64 tp, .int .i64 c, .int .i64 s]] w fun e w' => e = .returned (.bool false) ∧ ExS w' w0.heap.size g vL vV vD L V D p t ∧ Below w0.heap.size w0 w' := by
 have hgw : g < w.heap.size := blk_lt hS.blk
 have hne : w.heap.size ≠ g := by omega
 have hu1 := Try.underlying39
 have hu2 := Try.underlying30
 have hu3 := Try.underlying37
 have hu4 := Try.underlying28
 obtain ⟨A0, c0, rfl⟩ := Kd.R_slice hS.rL
 have n0 : (a != p) = true := bne_iff_ne.mpr hap
 clear hap
 have HX := Aside0.mk (blk_new w (.cells #[.int .i64 2, .int .i64 0, .int .i64 a, .int .i64 b, .int .i64 tp, .int .i64 c, .int .i64 s] 39 (0, 0)))
 have HS := Aside0.mk (hS.below (below_alloc (Below.refl _ w) (.cells #[.int .i64 2, .int .i64 0, .int .i64 a, .int .i64 b, .int .i64 tp, .int .i64 c, .int .i64 s] 39 (0, 0))))
 have HB := Aside0.mk (below_alloc hB (.cells #[.int .i64 2, .int .i64 0, .int .i64 a, .int .i64 b, .int .i64 tp, .int .i64 c, .int .i64 s] 39 (0, 0)))
 clear hS hB
 go_enter Try.func105, Try.ntmps105
 go_wp2_with fail
 generalize w.alloc (.cells #[.int .i64 2, .int .i64 0, .int .i64 a, .int .i64 b, .int .i64 tp, .int .i64 c, .int .i64 s] 39) = W at HX HS HB ⊢
 replace HX := Aside0.mk (blk_drew HX.out)
 replace HS := Aside0.mk (HS.out.below (below_drew (Below.refl _ W)))
 replace HB := Aside0.mk (below_drew HB.out)
 refine start_ (n := 14) (S := fun w' => w'.cell? ⟨w.heap.size, 2, none⟩ = some (.int .i64 a) ∧ w'.cell? ⟨w.heap.size, 3, none⟩ = some (.int .i64 b) ∧ w'.cell? ⟨w.heap.size, 4, none⟩ = some (.int .i64 tp) ∧ w'.cell? ⟨w.heap.size, 5, none⟩ = some (.int .i64 c) ∧ w'.cell? ⟨w.heap.size, 6, none⟩ = some (.int .i64 s) ∧ w'.cell? ⟨g, 3, none⟩ = some (.int .i64 p)) (ds := []) walk10.mk0 (by kernel_rfl) rfl rfl ⟨(blk_cell HX.out 2).trans rfl, (blk_cell HX.out 3).trans rfl, (blk_cell HX.out 4).trans rfl, (blk_cell HX.out 5).trans rfl, (blk_cell HX.out 6).trans rfl, (blk_cell HS.out.blk 3).trans rfl⟩ (fun hHeld => ?_); refine with_tabW walk10.tab walk10.bits (fun HT_ HW_ => ?_)
 generalize W.drew = W1 at HX HS HB hHeld ⊢
 refine pz_ HT_ 0 (some 87) walk10.mk1 ?_
 refine tk_ HT_ HW_ hHeld 1 (some 88) walk10.mk2 ?_
 refine one_ (i := 2) (N := some 89) walk10.mk3 rfl rfl (one_of HT_.out (by kernel_rfl)) (by decide) (fun K hK => ?_)
 refine gs_ Try.func102 #[.agg #[.int .i64 a, .int .i64 b, .int .i64 tp, .int .i64 c, .int .i64 s]] ?_
 refine (impl_IsLeg.calls a b tp c s true _ hok).mono ?_
 rintro e w1 ⟨rfl, hb⟩
 refine ⟨_, rfl, ?_⟩
 replace HX := Aside0.mk (bb_ HX.out hb)
 replace HS := Aside0.mk (HS.out.below hb)
 replace HB := Aside0.mk (below_step HB.out hb)
 clear hb
 refine hK.out _ _ ⟨(blk_cell HX.out 2).trans rfl, (blk_cell HX.out 3).trans rfl, (blk_cell HX.out 4).trans rfl, (blk_cell HX.out 5).trans rfl, (blk_cell HX.out 6).trans rfl, (blk_cell HS.out.blk 3).trans rfl⟩ (fun hHeld => ?_)
 clear hK K
 refine na_ ?_
 refine pz_ HT_ 3 (some 90) walk10.mk4 ?_
 refine pz_ HT_ 4 (some 91) walk10.mk5 ?_
 refine pz_ HT_ 5 (some 92) walk10.mk6 ?_
 refine pz_ HT_ 6 (some 93) walk10.mk7 ?_
 refine pz_ HT_ 8 (some 95) walk10.mk8 ?_
 refine pz_ HT_ 9 (some 96) walk10.mk9 ?_
 refine pz_ HT_ 10 (some 97) walk10.mk10 ?_
 refine tk_ HT_ HW_ hHeld 7 (some 94) walk10.mk11 ?_
 refine tk_ HT_ HW_ hHeld 11 (some 98) walk10.mk12 ?_
 refine pz_ HT_ 12 (some 99) walk10.mk13 ?_
 refine pz_ HT_ 13 (some 100) walk10.mk14 ?_
 refine done_ (done_of HT_.out (by kernel_rfl)) ?_
 go_wp2_with fail
 go_ret
 exact ⟨rfl, HS.out, HB.out⟩
theorem walk_k2T (g : Nat) (vL vV vD : Value) (L : List S37) (V D : List Bool) (t a b tp c s : Int) (w0 w : World) (hS : ExS w w0.heap.size g vL vV vD L V D a t) (hB : Below w0.heap.size w0 w) (hok : impl_IsLeg.f a b tp c s = some true) (hl : L.length < 1000000) (h0 : 0 ≤ wrap64 (wrap64 (a + b) - a)) (h1 : wrap64 (wrap64 (a + b) - a) < (V.length : Int)) :
  Calls Try.prog 105 #[.pointer (some ⟨g, 0, none⟩), .agg #[.int .i64 2, .int .i64 0, .int .i64 a, .int .i64 b, .int .i64 tp, .int .i64 c, .int .i64 s]] w fun e w' => ∃ vL', e = .returned (.bool true) ∧ ExS w' w0.heap.size g vL' vV vD (L ++ [⟨a, b, tp, c, s⟩]) (V.set (wrap64 (wrap64 (a + b) - a)).toNat true) D (wrap64 (wrap64 (a + b) - a)) (wrap64 (t - wrap64 (3 * tp))) ∧ Below w0.heap.size w0 w' := by
 have hgw : g < w.heap.size := blk_lt hS.blk
 have hne : w.heap.size ≠ g := by omega
 have hu1 := Try.underlying39
 have hu2 := Try.underlying30
 have hu3 := Try.underlying37
 have hu4 := Try.underlying28
 obtain ⟨A0, c0, rfl⟩ := Kd.R_slice hS.rL
 have n0 : (a != a) = false := bne_eq_false_iff_eq.mpr rfl
 have HX := Aside0.mk (blk_new w (.cells #[.int .i64 2, .int .i64 0, .int .i64 a, .int .i64 b, .int .i64 tp, .int .i64 c, .int .i64 s] 39 (0, 0)))
 have HS := Aside0.mk (hS.below (below_alloc (Below.refl _ w) (.cells #[.int .i64 2, .int .i64 0, .int .i64 a, .int .i64 b, .int .i64 tp, .int .i64 c, .int .i64 s] 39 (0, 0))))
 have HB := Aside0.mk (below_alloc hB (.cells #[.int .i64 2, .int .i64 0, .int .i64 a, .int .i64 b, .int .i64 tp, .int .i64 c, .int .i64 s] 39 (0, 0)))
 clear hS hB
 go_enter Try.func105, Try.ntmps105
 go_wp2_with fail
 generalize w.alloc (.cells #[.int .i64 2, .int .i64 0, .int .i64 a, .int .i64 b, .int .i64 tp, .int .i64 c, .int .i64 s] 39) = W at HX HS HB ⊢
 replace HX := Aside0.mk (blk_drew HX.out)
 replace HS := Aside0.mk (HS.out.below (below_drew (Below.refl _ W)))
 replace HB := Aside0.mk (below_drew HB.out)
 refine start_ (n := 14) (S := fun w' => w'.cell? ⟨w.heap.size, 2, none⟩ = some (.int .i64 a) ∧ w'.cell? ⟨w.heap.size, 3, none⟩ = some (.int .i64 b) ∧ w'.cell? ⟨w.heap.size, 4, none⟩ = some (.int .i64 tp) ∧ w'.cell? ⟨w.heap.size, 5, none⟩ = some (.int .i64 c) ∧ w'.cell? ⟨w.heap.size, 6, none⟩ = some (.int .i64 s) ∧ w'.cell? ⟨g, 3, none⟩ = some (.int .i64 a)) (ds := []) walk10.mk0 (by kernel_rfl) rfl rfl ⟨(blk_cell HX.out 2).trans rfl, (blk_cell HX.out 3).trans rfl, (blk_cell HX.out 4).trans rfl, (blk_cell HX.out 5).trans rfl, (blk_cell HX.out 6).trans rfl, (blk_cell HS.out.blk 3).trans rfl⟩ (fun hHeld => ?_); refine with_tabW walk10.tab walk10.bits (fun HT_ HW_ => ?_)
 generalize W.drew = W1 at HX HS HB hHeld ⊢
 refine pz_ HT_ 0 (some 87) walk10.mk1 ?_
 refine tk_ HT_ HW_ hHeld 1 (some 88) walk10.mk2 ?_
 refine one_ (i := 2) (N := some 89) walk10.mk3 rfl rfl (one_of HT_.out (by kernel_rfl)) (by decide) (fun K hK => ?_)
 refine gs_ Try.func102 #[.agg #[.int .i64 a, .int .i64 b, .int .i64 tp, .int .i64 c, .int .i64 s]] ?_
 refine (impl_IsLeg.calls a b tp c s true _ hok).mono ?_
 rintro e w1 ⟨rfl, hb⟩
 refine ⟨_, rfl, ?_⟩
 replace HX := Aside0.mk (bb_ HX.out hb)
 replace HS := Aside0.mk (HS.out.below hb)
 replace HB := Aside0.mk (below_step HB.out hb)
 clear hb
 refine hK.out _ _ ⟨(blk_cell HX.out 2).trans rfl, (blk_cell HX.out 3).trans rfl, (blk_cell HX.out 4).trans rfl, (blk_cell HX.out 5).trans rfl, (blk_cell HX.out 6).trans rfl, (blk_cell HS.out.blk 3).trans rfl⟩ (fun hHeld => ?_)
 clear hK K
 refine na_ ?_
 refine pz_ HT_ 3 (some 90) walk10.mk4 ?_
 refine pz_ HT_ 4 (some 91) walk10.mk5 ?_
 refine pz_ HT_ 5 (some 92) walk10.mk6 ?_
 refine pz_ HT_ 6 (some 93) walk10.mk7 ?_
 refine pz_ HT_ 8 (some 95) walk10.mk8 ?_
 refine pz_ HT_ 9 (some 96) walk10.mk9 ?_
 refine pz_ HT_ 10 (some 97) walk10.mk10 ?_
 refine tk_ HT_ HW_ hHeld 7 (some 94) walk10.mk11 ?_
 refine tk_ HT_ HW_ hHeld 11 (some 98) walk10.mk12 ?_
 refine pz_ HT_ 12 (some 99) walk10.mk13 ?_
 refine pz_ HT_ 13 (some 100) walk10.mk14 ?_
 refine done_ (done_of HT_.out (by kernel_rfl)) ?_
 go_wp2_with fail
 replace HX := Aside0.mk (blk_drew HX.out)
 replace HS := Aside0.mk (HS.out.below (below_drew (Below.refl _ w1)))
 replace HB := Aside0.mk (below_drew HB.out)
 refine start_ (n := 12) (S := fun w' => w'.cell? ⟨w.heap.size, 2, none⟩ = some (.int .i64 a) ∧ w'.cell? ⟨w.heap.size, 3, none⟩ = some (.int .i64 b) ∧ w'.cell? ⟨w.heap.size, 4, none⟩ = some (.int .i64 tp) ∧ w'.cell? ⟨w.heap.size, 5, none⟩ = some (.int .i64 c) ∧ w'.cell? ⟨w.heap.size, 6, none⟩ = some (.int .i64 s) ∧ w'.cell? ⟨g, 0, none⟩ = some (.slice A0 L.length c0)) (ds := [8, 11]) walk12.mk0 (by kernel_rfl) rfl rfl ⟨(blk_cell HX.out 2).trans rfl, (blk_cell HX.out 3).trans rfl, (blk_cell HX.out 4).trans rfl, (blk_cell HX.out 5).trans rfl, (blk_cell HX.out 6).trans rfl, (blk_cell HS.out.blk 0).trans rfl⟩ (fun hHeld => ?_); refine with_tabW walk12.tab walk12.bits (fun HT_ HW_ => ?_)
 generalize w1.drew = W3 at HX HS HB hHeld ⊢
 refine pz_ HT_ 0 (some 101) walk12.mk1 ?_
 refine pz_ HT_ 1 (some 102) walk12.mk2 ?_
 refine pz_ HT_ 2 (some 103) walk12.mk3 ?_
 refine pz_ HT_ 3 (some 104) walk12.mk4 ?_
 refine pz_ HT_ 5 (some 106) walk12.mk5 ?_
 refine tk_ HT_ HW_ hHeld 4 (some 105) walk12.mk6 ?_
 refine tk_ HT_ HW_ hHeld 6 (some 107) walk12.mk7 ?_
 refine one_ (i := 7) (N := some 108) walk12.mk8 rfl rfl (one_of HT_.out (by kernel_rfl)) (by decide) (fun K hK => ?_)
 refine value_ (w1 := ?_) (v := ?_) (by rfl) rfl ?_ ?_
 rotate_left 2
 ·
  go_simp
  constructor
  ·
   rfl
  ·
   rfl
 refine hK.out _ _ ⟨(blk_cell (blk_alloc HX.out _) 2).trans rfl, (blk_cell (blk_alloc HX.out _) 3).trans rfl, (blk_cell (blk_alloc HX.out _) 4).trans rfl, (blk_cell (blk_alloc HX.out _) 5).trans rfl, (blk_cell (blk_alloc HX.out _) 6).trans rfl, (blk_cell (blk_alloc HS.out.blk _) 0).trans rfl⟩ (fun hHeld => ?_)
 clear hK K
 refine na_ ?_
 refine last_ (i := 8) (N := some 109) walk12.mk9 rfl rfl (one_of HT_.out (by kernel_rfl)) (by decide) (fun K hK => ?_)
 refine Kd.R_append_step k37 w0.heap.size (by rfl) (.tmp 105) (.tmp 108) 28 37 (.agg #[(.int .i64 0), (.int .i64 0), (.int .i64 0), (.int .i64 0), (.int .i64 0)]) 40 rfl Try.underlying28 info37 rfl (by decide) (by omega) (.slice A0 L.length c0) L (⟨a, b, tp, c, s⟩ : S37) [.int .i64 a, .int .i64 b, .int .i64 tp, .int .i64 c, .int .i64 s] (fun _ => True) (fun _ => False) rfl rfl ?aP (fun _ hk => hk.elim) ?aF ?aO HB.out ?aS ?aL ?_
 (case aP => exact k37_mkM _ _ _ (⟨a, b, tp, c, s⟩ : S37))
 (case aF => exact (fun _ _ => trivial))
 (case aO => exact HS.out.rL)
 (case aS => exact HB.out.size)
 (case aL => omega)
 intro v9 w5 ho hb hg hat
 replace HX := Aside0.mk (blk_grown HX.out hg (Kd.R_ne HS.out.rL HX.out (by decide)))
 have HBK := Aside0.mk (blk_grown HS.out.blk hg (Kd.R_ne HS.out.rL HS.out.blk (by decide)))
 have HRV := Aside0.mk (Kd.R_over' HS.out.rV (Kd.R_typed HS.out.rL) (by decide) hg)
 have HRD := Aside0.mk (Kd.R_over' HS.out.rD (Kd.R_typed HS.out.rL) (by decide) hg)
 have HGB := Aside0.mk HS.out.gb
 replace HB := Aside0.mk hb
 clear HS hb hg hat
 obtain ⟨A9, c9, e9⟩ := Kd.R_slice ho
 rw [show (L ++ [(⟨a, b, tp, c, s⟩ : S37)]).length = L.length + 1 from List.length_append] at e9
 subst e9
 have HRL := Aside0.mk ho
 clear ho
 refine hK.out _ _ ?_
 clear hK K
 refine na_ ?_
 refine pz_ HT_ 9 (some 110) walk12.mk10 ?_
 refine pz_ HT_ 10 (some 111) walk12.mk11 ?_
 refine last_ (i := 11) (N := none) walk12.mk12 rfl rfl (one_of HT_.out (by kernel_rfl)) (by decide) (fun K hK => ?_)
 have hs9 : w5.cell? ⟨g, 0, none⟩ = some (.slice A0 L.length c0) := (blk_cell HBK.out 0).trans rfl
 have hfs9 := blk_frozen HBK.out 0
 refine skip_ (w1 := ?_) (by rfl) rfl ?_ ?_
 rotate_left
 ·
  go_simp
  rfl
 refine hK.out _ _ ?_
 clear hK K hs9 hfs9
 refine done_ (done_of HT_.out (by kernel_rfl)) ?_
 have HS := Aside0.mk (ExS.putL HBK.out HGB.out HRL.out HRV.out HRD.out)
 replace HX := Aside0.mk (blk_far (p := ⟨g, 0, none⟩) HX.out hne (.slice A9 (L.length + 1) c9))
 replace HB := Aside0.mk (below_set (j := 0) (v := .slice A9 (L.length + 1) c9) HB.out HGB.out)
 clear HBK HGB HRL HRV HRD
 generalize w5.setCell ⟨g, 0, none⟩ (.slice A9 (L.length + 1) c9) = W5 at HX HS HB ⊢
 have x2 : W5.cell? ⟨w.heap.size, 2, none⟩ = some (.int .i64 a) := (blk_cell HX.out 2).trans rfl
 have x3 : W5.cell? ⟨w.heap.size, 3, none⟩ = some (.int .i64 b) := (blk_cell HX.out 3).trans rfl
 have x4 : W5.cell? ⟨w.heap.size, 4, none⟩ = some (.int .i64 tp) := (blk_cell HX.out 4).trans rfl
 have x5 : W5.cell? ⟨w.heap.size, 5, none⟩ = some (.int .i64 c) := (blk_cell HX.out 5).trans rfl
 have x6 : W5.cell? ⟨w.heap.size, 6, none⟩ = some (.int .i64 s) := (blk_cell HX.out 6).trans rfl
 go_wp2_with (go_at_call 119; refine (goAlong_calls g _ vV vD _ V D a t a b tp c s 3 w0 _ HS.out HB.out h0 h1).mono ?_; rintro e w9 ⟨rfl, hS9, hB9⟩)
 go_ret
 exact ⟨_, rfl, hS9, hB9⟩
theorem walk_c0 (g : Nat) (vL vV vD : Value) (L : List S37) (V D : List Bool) (p t k i a b tp c s : Int) (w0 w : World) (hS : ExS w w0.heap.size g vL vV vD L V D p t) (hB : Below w0.heap.size w0 w) (c0 : (k ≠ 2 ∧ ¬ (a = 0 ∧ b = 0 ∧ tp = 0 ∧ c = 0 ∧ s = 0)) ∨ ((k = 2 ∨ k = 3) ∧ i ≠ 0)) :
  Calls Try.prog 105 #[.pointer (some ⟨g, 0, none⟩), .agg #[.int .i64 k, .int .i64 i, .int .i64 a, .int .i64 b, .int .i64 tp, .int .i64 c, .int .i64 s]] w fun e w' => ∃ vL', e = .returned (.bool false) ∧ ExS w' w0.heap.size g vL' vV vD L V D p t ∧ Below w0.heap.size w0 w' := by
 have hgw : g < w.heap.size := blk_lt hS.blk
 have HX := Aside0.mk (blk_new w (.cells #[.int .i64 k, .int .i64 i, .int .i64 a, .int .i64 b, .int .i64 tp, .int .i64 c, .int .i64 s] 39 (0, 0)))
 have HS := Aside0.mk (hS.below (below_alloc (Below.refl _ w) (.cells #[.int .i64 k, .int .i64 i, .int .i64 a, .int .i64 b, .int .i64 tp, .int .i64 c, .int .i64 s] 39 (0, 0))))
 have HB := Aside0.mk (below_alloc hB (.cells #[.int .i64 k, .int .i64 i, .int .i64 a, .int .i64 b, .int .i64 tp, .int .i64 c, .int .i64 s] 39 (0, 0)))
 have hne : w.heap.size ≠ g := by omega
 clear hS hB
 go_enter Try.func105, Try.ntmps105
 go_wp2_with fail
 all_goals first | (go_ret; exact ⟨_, rfl, HS.out, HB.out⟩) | (go_ret; subst_vars; exact ⟨_, rfl, HS.out, HB.out⟩) | (go_ret; exact ⟨rfl, ⟨_, HS.out⟩, HB.out⟩) | (exfalso; rcases c0 with ⟨h1, h2⟩ | ⟨h1 | h1, h2⟩ <;> first | omega | exact h2 ⟨rfl, rfl, rfl, rfl, rfl⟩ | (simp_all; done)) | go_outline
theorem walk_k3 (g : Nat) (vL vV vD : Value) (L : List S37) (V D : List Bool) (p t k i : Int) (L' : List S37) (V' D' : List Bool) (p' t' : Int) (r : Bool) (w0 w : World) (hS : ExS w w0.heap.size g vL vV vD L V D p t) (hB : Below w0.heap.size w0 w) (c0 : ¬ ((k ≠ 2 ∧ ¬ ((0 : Int) = 0 ∧ (0 : Int) = 0 ∧ (0 : Int) = 0 ∧ (0 : Int) = 0 ∧ (0 : Int) = 0)) ∨ ((k = 2 ∨ k = 3) ∧ i ≠ 0))) (k1 : ¬ k = 1) (k2 : ¬ k = 2) (h : (if k = 3 then (if 0 ≤ p ∧ p < (D.length : Int) then (if rdOf false D p = true then some (L, V, D, p, t, false) else some (L, V, D.set p.toNat true, p, t, true)) else none) else if k = 4 then (if p = 0 ∧ 1 ≤ i ∧ i ≤ 1000 then some (L, V, D, p, wrap64 (t + i), true) else some (L, V, D, p, t, false)) else some (L, V, D, p, t, false)) = some (L', V', D', p', t', r)) :
  Calls Try.prog 105 #[.pointer (some ⟨g, 0, none⟩), .agg #[.int .i64 k, .int .i64 i, .int .i64 0, .int .i64 0, .int .i64 0, .int .i64 0, .int .i64 0]] w fun e w' => ∃ vL', e = .returned (.bool r) ∧ ExS w' w0.heap.size g vL' vV vD L' V' D' p' t' ∧ Below w0.heap.size w0 w' := by
 have hgw : g < w.heap.size := blk_lt hS.blk
 have HX := Aside0.mk (blk_new w (.cells #[.int .i64 k, .int .i64 i, .int .i64 0, .int .i64 0, .int .i64 0, .int .i64 0, .int .i64 0] 39 (0, 0)))
 have HS := Aside0.mk (hS.below (below_alloc (Below.refl _ w) (.cells #[.int .i64 k, .int .i64 i, .int .i64 0, .int .i64 0, .int .i64 0, .int .i64 0, .int .i64 0] 39 (0, 0))))
 have HB := Aside0.mk (below_alloc hB (.cells #[.int .i64 k, .int .i64 i, .int .i64 0, .int .i64 0, .int .i64 0, .int .i64 0, .int .i64 0] 39 (0, 0)))
 have hne : w.heap.size ≠ g := by omega
 clear hS hB
 by_cases k3 : k = 3
 ·
  subst k3
  obtain rfl : i = 0 := Classical.byContradiction fun z => c0 (.inr ⟨.inr rfl, z⟩)
  rw [if_pos rfl] at h
  by_cases hpp : 0 ≤ p ∧ p < (D.length : Int)
  ·
   rw [if_pos hpp] at h
   obtain ⟨hp0, hp1⟩ := hpp
   obtain ⟨gv, cap, rfl, hgv, hcap, _⟩ := own_block_ HS.out.rD (by omega)
   have g2 : (w.alloc (.cells #[.int .i64 3, .int .i64 0, .int .i64 0, .int .i64 0, .int .i64 0, .int .i64 0, .int .i64 0] 39)).cell? ⟨g, 2, none⟩ = some (.slice (some ⟨gv, 0, none⟩) D.length cap) := (blk_cell HS.out.blk 2).trans rfl
   have g3 : (w.alloc (.cells #[.int .i64 3, .int .i64 0, .int .i64 0, .int .i64 0, .int .i64 0, .int .i64 0, .int .i64 0] 39)).cell? ⟨g, 3, none⟩ = some (.int .i64 p) := (blk_cell HS.out.blk 3).trans rfl
   obtain ⟨yv, zv⟩ := Kd.R_celln false HS.out.rD p hp0 hp1
   cases hd : rdOf false D p with
   | true =>
    rw [hd] at h yv
    rw [if_pos rfl] at h
    simp only [Option.some.injEq, Prod.mk.injEq] at h
    obtain ⟨rfl, rfl, rfl, rfl, rfl, rfl⟩ := h
    go_enter Try.func105, Try.ntmps105
    go_wp2_with fail
    go_quiet (fail)
    go_wp2_with fail
    go_ret
    first | exact ⟨_, rfl, HS.out.below (pw_below_drewN (Below.refl _ _) _), pw_below_drewN HB.out _⟩ | exact ⟨rfl, ⟨_, HS.out.below (pw_below_drewN (Below.refl _ _) _)⟩, pw_below_drewN HB.out _⟩
   | false =>
    rw [hd] at h yv
    rw [if_neg (by decide)] at h
    simp only [Option.some.injEq, Prod.mk.injEq] at h
    obtain ⟨rfl, rfl, rfl, rfl, rfl, rfl⟩ := h
    go_enter Try.func105, Try.ntmps105
    go_wp2_with fail
    go_quiet (fail)
    go_wp2_with fail
    generalize hq_ : World.drewN (w.alloc (.cells #[.int .i64 3, .int .i64 0, .int .i64 0, .int .i64 0, .int .i64 0, .int .i64 0, .int .i64 0] 39)) _ = W
    have n2_ := Aside0.mk (HS.out.below (hq_ ▸ pw_below_drewN (Below.refl _ _) _))
    have n3_ := Aside0.mk (hq_ ▸ pw_below_drewN HB.out _ : Below w0.heap.size w0 W)
    clear HX HS HB g2 g3 yv zv hq_
    have HS := n2_
    have HB := n3_
    clear n2_ n3_
    have g2 : W.cell? ⟨g, 2, none⟩ = some (.slice (some ⟨gv, 0, none⟩) D.length cap) := (blk_cell HS.out.blk 2).trans rfl
    have g3 : W.cell? ⟨g, 3, none⟩ = some (.int .i64 p) := (blk_cell HS.out.blk 3).trans rfl
    obtain ⟨yv, zv⟩ := Kd.R_celln false HS.out.rD p hp0 hp1
    go_still_tail 9, (by kernel_rfl)
    go_wp2_with fail
    go_ret
    have n2_ := (HS.out.putD p true).below (below_drew (Below.refl _ _))
    have n3_ := below_drew (below_set (j := p.toNat) (v := .bool true) HB.out hgv)
    first | exact ⟨_, rfl, n2_, n3_⟩ | exact ⟨rfl, ⟨_, n2_⟩, n3_⟩
  ·
   rw [if_neg hpp] at h
   cases h
 ·
  rw [if_neg k3] at h
  by_cases k4 : k = 4
  ·
   subst k4
   rw [if_pos rfl] at h
   have hwi : impl_within.f i 1 1000 = some (decide (1 ≤ i ∧ i ≤ 1000)) := by
    unfold impl_within.f
    by_cases z : i ≥ 1
    ·
     rw [if_pos z]
     simp [show 1 ≤ i from z]
    ·
     rw [if_neg z]
     simp [show ¬ 1 ≤ i from z]
   have g3 : (w.alloc (.cells #[.int .i64 4, .int .i64 i, .int .i64 0, .int .i64 0, .int .i64 0, .int .i64 0, .int .i64 0] 39)).cell? ⟨g, 3, none⟩ = some (.int .i64 p) := (blk_cell HS.out.blk 3).trans rfl
   by_cases hp : p = 0
   ·
    subst hp
    by_cases hi : 1 ≤ i ∧ i ≤ 1000
    ·
     rw [if_pos ⟨rfl, hi⟩] at h
     rw [decide_eq_true hi] at hwi
     simp only [Option.some.injEq, Prod.mk.injEq] at h
     obtain ⟨rfl, rfl, rfl, rfl, rfl, rfl⟩ := h
     go_enter Try.func105, Try.ntmps105
     go_wp2_with (go_at_call 71; refine (impl_within.calls i 1 1000 true _ hwi).mono ?_; rintro e w1 ⟨rfl, ⟨n1, rfl⟩⟩)
     have n1_ := Aside0.mk (blk_drewN HX.out n1)
     have n2_ := Aside0.mk (HS.out.below (pw_below_drewN (Below.refl _ _) n1))
     have n3_ := Aside0.mk (pw_below_drewN HB.out n1)
     clear HX HS HB g3
     have HX := n1_
     have HS := n2_
     have HB := n3_
     clear n1_ n2_ n3_
     generalize (w.alloc (.cells #[.int .i64 4, .int .i64 i, .int .i64 0, .int .i64 0, .int .i64 0, .int .i64 0, .int .i64 0] 39)).drewN n1 = W at HX HS HB ⊢
     have x1 : W.cell? ⟨w.heap.size, 1, none⟩ = some (.int .i64 i) := (blk_cell HX.out 1).trans rfl
     have g4 : W.cell? ⟨g, 4, none⟩ = some (.int .i64 t) := (blk_cell HS.out.blk 4).trans rfl
     have z4 := blk_frozen HS.out.blk 4
     go_still_tail 9, (by kernel_rfl)
     go_wp2_with fail
     go_ret
     exact ⟨_, rfl, (HS.out.put4 (wrap64 (t + i))).below (below_drew (Below.refl _ _)), below_drew (below_set (j := 4) (v := .int .i64 (wrap64 (t + i))) HB.out HS.out.gb)⟩
    ·
     rw [if_neg (fun z => hi z.2)] at h
     rw [decide_eq_false hi] at hwi
     simp only [Option.some.injEq, Prod.mk.injEq] at h
     obtain ⟨rfl, rfl, rfl, rfl, rfl, rfl⟩ := h
     go_enter Try.func105, Try.ntmps105
     go_wp2_with (go_at_call 71; refine (impl_within.calls i 1 1000 false _ hwi).mono ?_; rintro e w1 ⟨rfl, ⟨n1, rfl⟩⟩)
     go_ret
     exact ⟨_, rfl, HS.out.below (pw_below_drewN (Below.refl _ _) n1), pw_below_drewN HB.out n1⟩
   ·
    rw [if_neg (fun z => hp z.1)] at h
    simp only [Option.some.injEq, Prod.mk.injEq] at h
    obtain ⟨rfl, rfl, rfl, rfl, rfl, rfl⟩ := h
    go_enter Try.func105, Try.ntmps105
    go_wp2_with fail
    go_ret
    first | exact ⟨_, rfl, HS.out, HB.out⟩ | exact ⟨rfl, ⟨_, HS.out⟩, HB.out⟩ | trace_state
  ·
   rw [if_neg k4] at h
   simp only [Option.some.injEq, Prod.mk.injEq] at h
   obtain ⟨rfl, rfl, rfl, rfl, rfl, rfl⟩ := h
   go_enter Try.func105, Try.ntmps105
   go_wp2_with fail
   all_goals first | (go_ret; exact ⟨_, rfl, HS.out, HB.out⟩) | (go_ret; subst_vars; exact ⟨_, rfl, HS.out, HB.out⟩) | (go_ret; exact ⟨rfl, ⟨_, HS.out⟩, HB.out⟩) | (exfalso; omega) | (go_ret; trace_state)
theorem walk_calls (g : Nat) (vL vV vD : Value) (L : List S37) (V D : List Bool) (p t k i a b tp c s : Int) (L' : List S37) (V' D' : List Bool) (p' t' : Int) (r : Bool) (w0 w : World) (hS : ExS w w0.heap.size g vL vV vD L V D p t) (hB : Below w0.heap.size w0 w) (h : walk_f L V D p t k i a b tp c s = some (L', V', D', p', t', r)) :
  Calls Try.prog 105 #[.pointer (some ⟨g, 0, none⟩), .agg #[.int .i64 k, .int .i64 i, .int .i64 a, .int .i64 b, .int .i64 tp, .int .i64 c, .int .i64 s]] w fun e w' => ∃ vL', e = .returned (.bool r) ∧ ExS w' w0.heap.size g vL' vV vD L' V' D' p' t' ∧ Below w0.heap.size w0 w' := by
 unfold walk_f at h
 by_cases c0 : (k ≠ 2 ∧ ¬ (a = 0 ∧ b = 0 ∧ tp = 0 ∧ c = 0 ∧ s = 0)) ∨ ((k = 2 ∨ k = 3) ∧ i ≠ 0)
 ·
  rw [if_pos c0] at h
  simp only [Option.some.injEq, Prod.mk.injEq] at h
  obtain ⟨rfl, rfl, rfl, rfl, rfl, rfl⟩ := h
  exact walk_c0 g vL vV vD L V D p t k i a b tp c s w0 w hS hB c0
 ·
  rw [if_neg c0] at h
  by_cases k1 : k = 1
  ·
   subst k1
   obtain ⟨rfl, rfl, rfl, rfl, rfl⟩ : a = 0 ∧ b = 0 ∧ tp = 0 ∧ c = 0 ∧ s = 0 := Classical.byContradiction fun z => c0 (.inl ⟨by decide, z⟩)
   rw [if_pos rfl] at h
   have hL : L.length ≤ 9223372036854775807 := by
    obtain ⟨A0, c0, rfl⟩ := Kd.R_slice hS.rL
    exact (Kd.R_reads' hS.rL).2.2.2.1
   by_cases hin : 0 ≤ i ∧ i ≤ wrap64 ((L.length : Int) - 1)
   ·
    rw [if_pos hin] at h
    have hwi : impl_within.f i 0 (wrap64 ((L.length : Int) - 1)) = some true := by
     unfold impl_within.f
     rw [if_pos hin.1, decide_eq_true hin.2]
    have hi1 : i < (L.length : Int) := by
     obtain ⟨z1, z2⟩ := hin
     unfold wrap64 at z2
     omega
    by_cases hn : (rd_T37 L i).f0 ≠ p ∧ (rd_T37 L i).f1 ≠ p
    ·
     rw [if_pos hn] at h
     simp only [Option.some.injEq, Prod.mk.injEq] at h
     obtain ⟨rfl, rfl, rfl, rfl, rfl, rfl⟩ := h
     exact (walk_k1D g vL vV vD L V D p t i w0 w hS hB hwi hin.1 hi1 hn.1 hn.2).mono (fun e w' h => ⟨vL, h⟩)
    ·
     rw [if_neg hn] at h
     by_cases hv : 0 ≤ wrap64 (wrap64 ((rd_T37 L i).f0 + (rd_T37 L i).f1) - p) ∧ wrap64 (wrap64 ((rd_T37 L i).f0 + (rd_T37 L i).f1) - p) < (V.length : Int)
     ·
      rw [if_pos hv] at h
      simp only [Option.some.injEq, Prod.mk.injEq] at h
      obtain ⟨rfl, rfl, rfl, rfl, rfl, rfl⟩ := h
      by_cases hf0 : (rd_T37 L i).f0 = p
      ·
       exact (walk_k1B g vL vV vD L V D p t i w0 w hS hB hwi hin.1 hi1 hf0 hv.1 hv.2).mono (fun e w' h => ⟨vL, h⟩)
      ·
       exact (walk_k1C g vL vV vD L V D p t i w0 w hS hB hwi hin.1 hi1 hf0 (Classical.byContradiction fun z => hn ⟨hf0, z⟩) hv.1 hv.2).mono (fun e w' h => ⟨vL, h⟩)
     ·
      rw [if_neg hv] at h
      cases h
   ·
    rw [if_neg hin] at h
    simp only [Option.some.injEq, Prod.mk.injEq] at h
    obtain ⟨rfl, rfl, rfl, rfl, rfl, rfl⟩ := h
    have hwi : impl_within.f i 0 (wrap64 ((L.length : Int) - 1)) = some false := by
     unfold impl_within.f
     by_cases z : i ≥ 0
     ·
      rw [if_pos z, decide_eq_false (fun y => hin ⟨z, y⟩)]
     ·
      rw [if_neg z]
    exact (walk_k1A g vL vV vD L V D p t i w0 w hS hB hwi).mono (fun e w' h => ⟨vL, h⟩)
  ·
   rw [if_neg k1] at h
   by_cases k2 : k = 2
   ·
    subst k2
    obtain rfl : i = 0 := Classical.byContradiction fun z => c0 (.inr ⟨.inl rfl, z⟩)
    rw [if_pos rfl] at h
    obtain ⟨ok, hok, h⟩ := Option.bind_eq_some_iff.mp h
    cases ok with
    | false =>
     rw [if_neg (fun z => by cases z.1)] at h
     simp only [Option.some.injEq, Prod.mk.injEq] at h
     obtain ⟨rfl, rfl, rfl, rfl, rfl, rfl⟩ := h
     exact (walk_k2F g vL vV vD L V D p t a b tp c s w0 w hS hB hok).mono (fun e w' h => ⟨vL, h⟩)
    | true =>
     by_cases hap : a = p
     ·
      subst hap
      rw [if_pos ⟨rfl, rfl⟩] at h
      by_cases hv : L.length < 1000000 ∧ 0 ≤ wrap64 (wrap64 (a + b) - a) ∧ wrap64 (wrap64 (a + b) - a) < (V.length : Int)
      ·
       rw [if_pos hv] at h
       simp only [Option.some.injEq, Prod.mk.injEq] at h
       obtain ⟨rfl, rfl, rfl, rfl, rfl, rfl⟩ := h
       exact walk_k2T g vL vV vD L V D t a b tp c s w0 w hS hB hok hv.1 hv.2.1 hv.2.2
      ·
       rw [if_neg hv] at h
       cases h
     ·
      rw [if_neg (fun z => hap z.2)] at h
      simp only [Option.some.injEq, Prod.mk.injEq] at h
      obtain ⟨rfl, rfl, rfl, rfl, rfl, rfl⟩ := h
      exact (walk_k2N g vL vV vD L V D p t a b tp c s w0 w hS hB hok hap).mono (fun e w' h => ⟨vL, h⟩)
   ·
    rw [if_neg k2] at h
    obtain ⟨rfl, rfl, rfl, rfl, rfl⟩ : a = 0 ∧ b = 0 ∧ tp = 0 ∧ c = 0 ∧ s = 0 := Classical.byContradiction fun z => c0 (.inl ⟨k2, z⟩)
    exact walk_k3 g vL vV vD L V D p t k i L' V' D' p' t' r w0 w hS hB c0 k1 k2 h
end Go.Proofs.Ythmjimboajmhmaa.Pr

