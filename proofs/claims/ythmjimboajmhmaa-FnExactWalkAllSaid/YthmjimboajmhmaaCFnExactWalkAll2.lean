/-
What is proved: parts of the law FnExactWalkAll: what the functions that it reaches compute, and the plain law.
Conditions: those of each theorem.
-/
import Derived.Test.YthmjimboajmhmaaCFnExactWalkAll1
set_option maxHeartbeats 8000000
set_option maxRecDepth 100000
namespace Go.Proofs.Ythmjimboajmhmaa.Pr
open Go.RowKit Go.Proofs.YthmjimboajmhmaaW.PrintWords Go.Proofs.YthmjimboajmhmaaW.PrintLast Go.Proofs.YthmjimboajmhmaaW.PrintMore
attribute [local go_sem] max2_int min2_int max_two min_two max_three min_three max_four min_four   -- for this text's walks alone
set_option linter.unusedVariables false
set_option linter.unusedSimpArgs false
def impl_IsExploration.j0 : Nat → Bool → List (S37) → List Bool → List Bool → Int → Int → Option (Bool)
 | 0, _, _, _, _, _, _ => none
 | k + 1, x32, x220000, x220001, x220002, x220003, x220004 => if x32 = true then (some false) else (if 0 < (x220001.length : Int) then (if rdOf false x220001 0 = true then (if 0 ≤ x220003 then (if x220003 < (x220001.length : Int) then (if rdOf false x220001 x220003 = true then ((impl_Exploration_wayOut.f k x220000 x220001 x220002 x220003 x220004).bind fun bt225 => (if bt225.2 = true then (some (decide (bt225.1 ≤ x220004))) else (some false))) else (some false)) else (none)) else (none)) else (some false)) else (none))
def impl_IsExploration.f (k : Nat) (l0_0 : List (S37)) (l0_1 : List Bool) (l0_2 : List Bool) (a0_3 : Int) (a0_4 : Int) : Option (Bool) := (impl_areLegs.f k l0_0).bind fun t220 => (if t220 = true then (if (l0_1.length : Int) = 8 then (if (l0_2.length : Int) = 8 then ((impl_isStation.f a0_3).bind fun t221 => (if t221 = true then ((impl_within.f a0_4 0 100000).bind fun t222 => (impl_IsExploration.j0 k (!t222) l0_0 l0_1 l0_2 a0_3 a0_4)) else (impl_IsExploration.j0 k true l0_0 l0_1 l0_2 a0_3 a0_4))) else (impl_IsExploration.j0 k true l0_0 l0_1 l0_2 a0_3 a0_4)) else (impl_IsExploration.j0 k true l0_0 l0_1 l0_2 a0_3 a0_4)) else (impl_IsExploration.j0 k true l0_0 l0_1 l0_2 a0_3 a0_4))
theorem impl_IsExploration.calls (k : Nat) (A0_0 : Option Addr) (c0_0 : Nat) (l0_0 : List (S37)) (A0_1 : Option Addr) (c0_1 : Nat) (l0_1 : List Bool) (A0_2 : Option Addr) (c0_2 : Nat) (l0_2 : List Bool) (a0_3 : Int) (a0_4 : Int) (r : Bool) (w : World) (hr0_0 : Kd.C k37 w A0_0 l0_0.length l0_0) (hc0_0 : l0_0.length ≤ c0_0) (hr0_1 : Kd.C Kd.bool w A0_1 l0_1.length l0_1) (hc0_1 : l0_1.length ≤ c0_1) (hr0_2 : Kd.C Kd.bool w A0_2 l0_2.length l0_2) (hc0_2 : l0_2.length ≤ c0_2) (h : impl_IsExploration.f k l0_0 l0_1 l0_2 a0_3 a0_4 = some r) :
  Calls Try.prog 18 #[.agg #[.slice A0_0 l0_0.length c0_0, .slice A0_1 l0_1.length c0_1, .slice A0_2 l0_2.length c0_2, .int .i64 a0_3, .int .i64 a0_4]] w fun e w' => e = .returned (.bool r) ∧ Below w.heap.size w w' := by
 have hu30 := Try.underlying30
 have HR0_0 := Aside0.mk hr0_0
 have HC0_0 := Aside0.mk hc0_0
 clear hr0_0 hc0_0
 have HR0_1 := Aside0.mk hr0_1
 have HC0_1 := Aside0.mk hc0_1
 clear hr0_1 hc0_1
 have HR0_2 := Aside0.mk hr0_2
 have HC0_2 := Aside0.mk hc0_2
 clear hr0_2 hc0_2
 have HB := Aside0.mk (Below.refl w.heap.size w)
 have H : ((impl_areLegs.f k l0_0).bind fun t220 => (if t220 = true then (if (l0_1.length : Int) = 8 then (if (l0_2.length : Int) = 8 then ((impl_isStation.f a0_3).bind fun t221 => (if t221 = true then ((impl_within.f a0_4 0 100000).bind fun t222 => (impl_IsExploration.j0 k (!t222) l0_0 l0_1 l0_2 a0_3 a0_4)) else (impl_IsExploration.j0 k true l0_0 l0_1 l0_2 a0_3 a0_4))) else (impl_IsExploration.j0 k true l0_0 l0_1 l0_2 a0_3 a0_4)) else (impl_IsExploration.j0 k true l0_0 l0_1 l0_2 a0_3 a0_4)) else (impl_IsExploration.j0 k true l0_0 l0_1 l0_2 a0_3 a0_4))) = some r := h
 clear h
 have HC2 := Aside0.mk H
 clear H
 go_enter Try.func18, Try.ntmps18
 go_upto_region 1 with (first | ((with_reducible refine gate_dst (N := 1) rfl ?_); (try (refine gate_guard (by rfl) ?_; dsimp only)); refine box_event ?hg (N := 1) ?hd (cs := #[.slice A0_0 l0_0.length c0_0, .slice A0_1 l0_1.length c0_1, .slice A0_2 l0_2.length c0_2, .int .i64 a0_3, .int .i64 a0_4]) (t := 30) ?hr ?_; (case hd => rfl); (case hg => rfl); (case hr => first | (go_simp; done) | (go_simp; rfl)); intro gb219 hg w3 hbox hb; have BK219 := Aside0.mk (hbox); have GW219 := Aside0.mk ((bz_ hg (lb0_ HB.out))); have GE219 := Aside0.mk ((bz_ hg (lb0_ HB.out))); replace HB := Aside0.mk (below_step (lb0_ HB.out) hb); clear hb hbox hg))
 (try simp only [Act.put, List.setIfInBounds_toArray, List.set_cons_zero, List.set_cons_succ])
 go_cut [32] (fun v32 wc => ∃ (kq : Nat) (x32_1 : Bool), v32 = .bool x32_1 ∧ Aside0 (impl_IsExploration.j0 kq x32_1 l0_0 l0_1 l0_2 a0_3 a0_4 = some r) ∧ Aside0 (kq ≤ k) ∧ Aside0 (wc.heap[gb219]? = some (.cells #[(.slice A0_0 l0_0.length c0_0), (.slice A0_1 l0_1.length c0_1), (.slice A0_2 l0_2.length c0_2), .int .i64 a0_3, .int .i64 a0_4] 30 (0, 0))) ∧ Aside0 (Below w.heap.size w wc))
 case first =>
  have H := HC2.out
  clear HC2
  replace H := Option.bind_eq_some_iff.mp H
  obtain ⟨t220, A40, H⟩ := H
  replace H : (if t220 = true then (if (l0_1.length : Int) = 8 then (if (l0_2.length : Int) = 8 then ((impl_isStation.f a0_3).bind fun t221 => (if t221 = true then ((impl_within.f a0_4 0 100000).bind fun t222 => (impl_IsExploration.j0 k (!t222) l0_0 l0_1 l0_2 a0_3 a0_4)) else (impl_IsExploration.j0 k true l0_0 l0_1 l0_2 a0_3 a0_4))) else (impl_IsExploration.j0 k true l0_0 l0_1 l0_2 a0_3 a0_4)) else (impl_IsExploration.j0 k true l0_0 l0_1 l0_2 a0_3 a0_4)) else (impl_IsExploration.j0 k true l0_0 l0_1 l0_2 a0_3 a0_4)) = some r := H
  have A4 := Aside0.mk A40
  clear A40
  by_cases c5 : t220 = true
  ·
   subst c5
   have H1 : (if (l0_1.length : Int) = 8 then (if (l0_2.length : Int) = 8 then ((impl_isStation.f a0_3).bind fun t221 => (if t221 = true then ((impl_within.f a0_4 0 100000).bind fun t222 => (impl_IsExploration.j0 k (!t222) l0_0 l0_1 l0_2 a0_3 a0_4)) else (impl_IsExploration.j0 k true l0_0 l0_1 l0_2 a0_3 a0_4))) else (impl_IsExploration.j0 k true l0_0 l0_1 l0_2 a0_3 a0_4)) else (impl_IsExploration.j0 k true l0_0 l0_1 l0_2 a0_3 a0_4)) = some r := by rw [if_pos rfl] at H; exact H
   clear H
   have H := H1
   clear H1
   by_cases c6 : (l0_1.length : Int) = 8
   ·
    rw [if_pos c6] at H
    have c6b0 : ((l0_1.length : Int) == 8) = true := beq_iff_eq.mpr c6
    have c6b1 : ((l0_1.length : Int) != 8) = false := bne_eq_false_iff_eq.mpr c6
    clear c6
    (first | rw [c6b0] | (simp only [i64_w, i32_w]; rw [c6b0]) | skip)
    by_cases c7 : (l0_2.length : Int) = 8
    ·
     rw [if_pos c7] at H
     have c7b0 : ((l0_2.length : Int) == 8) = true := beq_iff_eq.mpr c7
     have c7b1 : ((l0_2.length : Int) != 8) = false := bne_eq_false_iff_eq.mpr c7
     clear c7
     replace H := Option.bind_eq_some_iff.mp H
     obtain ⟨t221, A80, H⟩ := H
     replace H : (if t221 = true then ((impl_within.f a0_4 0 100000).bind fun t222 => (impl_IsExploration.j0 k (!t222) l0_0 l0_1 l0_2 a0_3 a0_4)) else (impl_IsExploration.j0 k true l0_0 l0_1 l0_2 a0_3 a0_4)) = some r := H
     have A8 := Aside0.mk A80
     clear A80
     by_cases c9 : t221 = true
     ·
      subst c9
      have H1 : ((impl_within.f a0_4 0 100000).bind fun t222 => (impl_IsExploration.j0 k (!t222) l0_0 l0_1 l0_2 a0_3 a0_4)) = some r := by rw [if_pos rfl] at H; exact H
      clear H
      have H := H1
      clear H1
      replace H := Option.bind_eq_some_iff.mp H
      obtain ⟨t222, A100, H⟩ := H
      replace H : (impl_IsExploration.j0 k (!t222) l0_0 l0_1 l0_2 a0_3 a0_4) = some r := H
      have A10 := Aside0.mk A100
      clear A100
      have H' := Aside0.mk H
      clear H
      obtain ⟨hcz11_0, hcz11_1, hcz11_2, hcz11_3, hcz11_4⟩ := cz5_ BK219.out
      obtain ⟨hfz11_0, hfz11_1, hfz11_2, hfz11_3, hfz11_4⟩ := fz5_ BK219.out
      go_wp2_with (first | ((with_reducible refine gate_callee (f := 69) rfl ?_); refine ga_ (some 7) Try.func69 #[.slice A0_0 l0_0.length c0_0] ?_; (with_reducible refine (impl_areLegs.calls k _ _ l0_0 true _ ?side1 ?side2 A4.out).mono ?_); (case side1 => exact kc_ (Kd.C_below HR0_0.out HB.out)); (case side2 => exact HC0_0.out); rintro e w12 ⟨rfl, hb⟩; refine ⟨_, rfl, ?_⟩; replace BK219 := Aside0.mk (bb_ (bk_ BK219.out) hb); replace HB := Aside0.mk (below_step (lb1_ HB.out GE219.out) hb); (try clear hb); (try clear hb2); (try clear hk); (try clear hi); obtain ⟨hcz13_0, hcz13_1, hcz13_2, hcz13_3, hcz13_4⟩ := cz5_ BK219.out; obtain ⟨hfz13_0, hfz13_1, hfz13_2, hfz13_3, hfz13_4⟩ := fz5_ BK219.out) | (go_at_call 70; (with_reducible refine (impl_isStation.calls a0_3 true _ A8.out).mono ?_); rintro e w' ⟨rfl, ⟨nd, rfl⟩⟩) | (go_at_call 71; (with_reducible refine (impl_within.calls a0_4 0 100000 t222 _ A10.out).mono ?_); rintro e w' ⟨rfl, ⟨nd, rfl⟩⟩))
      go_meet
      case rel => exact ⟨_, (!t222), (by first | rfl | (simp; done) | (simp [*]; done)), H', ⟨by first | omega | exact Nat.le_refl _⟩, ⟨bk_ BK219.out⟩, ⟨lb1_ HB.out GE219.out⟩⟩
     ·
      replace c9 := Bool.eq_false_iff.mpr c9
      subst c9
      have H1 : (impl_IsExploration.j0 k true l0_0 l0_1 l0_2 a0_3 a0_4) = some r := by rw [if_neg (show ¬ (false = true) by decide)] at H; exact H
      clear H
      have H := H1
      clear H1
      have H' := Aside0.mk H
      clear H
      obtain ⟨hcz14_0, hcz14_1, hcz14_2, hcz14_3, hcz14_4⟩ := cz5_ BK219.out
      obtain ⟨hfz14_0, hfz14_1, hfz14_2, hfz14_3, hfz14_4⟩ := fz5_ BK219.out
      go_wp2_with (first | ((with_reducible refine gate_callee (f := 69) rfl ?_); refine ga_ (some 7) Try.func69 #[.slice A0_0 l0_0.length c0_0] ?_; (with_reducible refine (impl_areLegs.calls k _ _ l0_0 true _ ?side1 ?side2 A4.out).mono ?_); (case side1 => exact kc_ (Kd.C_below HR0_0.out HB.out)); (case side2 => exact HC0_0.out); rintro e w15 ⟨rfl, hb⟩; refine ⟨_, rfl, ?_⟩; replace BK219 := Aside0.mk (bb_ (bk_ BK219.out) hb); replace HB := Aside0.mk (below_step (lb1_ HB.out GE219.out) hb); (try clear hb); (try clear hb2); (try clear hk); (try clear hi); obtain ⟨hcz16_0, hcz16_1, hcz16_2, hcz16_3, hcz16_4⟩ := cz5_ BK219.out; obtain ⟨hfz16_0, hfz16_1, hfz16_2, hfz16_3, hfz16_4⟩ := fz5_ BK219.out) | (go_at_call 70; (with_reducible refine (impl_isStation.calls a0_3 false _ A8.out).mono ?_); rintro e w' ⟨rfl, ⟨nd, rfl⟩⟩))
      go_meet
      case rel => exact ⟨_, (true), (by first | rfl | (simp; done) | (simp [*]; done)), H', ⟨by first | omega | exact Nat.le_refl _⟩, ⟨bk_ BK219.out⟩, ⟨lb1_ HB.out GE219.out⟩⟩
    ·
     rw [if_neg c7] at H
     have c7b0 : ((l0_2.length : Int) == 8) = false := beq_eq_false_iff_ne.mpr c7
     have c7b1 : ((l0_2.length : Int) != 8) = true := bne_iff_ne.mpr c7
     have H' := Aside0.mk H
     clear H
     obtain ⟨hcz17_0, hcz17_1, hcz17_2, hcz17_3, hcz17_4⟩ := cz5_ BK219.out
     obtain ⟨hfz17_0, hfz17_1, hfz17_2, hfz17_3, hfz17_4⟩ := fz5_ BK219.out
     go_wp2_with (first | ((with_reducible refine gate_callee (f := 69) rfl ?_); refine ga_ (some 7) Try.func69 #[.slice A0_0 l0_0.length c0_0] ?_; (with_reducible refine (impl_areLegs.calls k _ _ l0_0 true _ ?side1 ?side2 A4.out).mono ?_); (case side1 => exact kc_ (Kd.C_below HR0_0.out HB.out)); (case side2 => exact HC0_0.out); rintro e w18 ⟨rfl, hb⟩; refine ⟨_, rfl, ?_⟩; replace BK219 := Aside0.mk (bb_ (bk_ BK219.out) hb); replace HB := Aside0.mk (below_step (lb1_ HB.out GE219.out) hb); (try clear hb); (try clear hb2); (try clear hk); (try clear hi); obtain ⟨hcz19_0, hcz19_1, hcz19_2, hcz19_3, hcz19_4⟩ := cz5_ BK219.out; obtain ⟨hfz19_0, hfz19_1, hfz19_2, hfz19_3, hfz19_4⟩ := fz5_ BK219.out))
     go_meet
     case rel => exact ⟨_, (true), (by first | rfl | (simp; done) | (simp [*]; done)), H', ⟨by first | omega | exact Nat.le_refl _⟩, ⟨bk_ BK219.out⟩, ⟨lb1_ HB.out GE219.out⟩⟩
   ·
    rw [if_neg c6] at H
    have c6b0 : ((l0_1.length : Int) == 8) = false := beq_eq_false_iff_ne.mpr c6
    have c6b1 : ((l0_1.length : Int) != 8) = true := bne_iff_ne.mpr c6
    (first | rw [c6b0] | (simp only [i64_w, i32_w]; rw [c6b0]) | skip)
    have H' := Aside0.mk H
    clear H
    obtain ⟨hcz20_0, hcz20_1, hcz20_2, hcz20_3, hcz20_4⟩ := cz5_ BK219.out
    obtain ⟨hfz20_0, hfz20_1, hfz20_2, hfz20_3, hfz20_4⟩ := fz5_ BK219.out
    go_wp2_with (first | ((with_reducible refine gate_callee (f := 69) rfl ?_); refine ga_ (some 7) Try.func69 #[.slice A0_0 l0_0.length c0_0] ?_; (with_reducible refine (impl_areLegs.calls k _ _ l0_0 true _ ?side1 ?side2 A4.out).mono ?_); (case side1 => exact kc_ (Kd.C_below HR0_0.out HB.out)); (case side2 => exact HC0_0.out); rintro e w21 ⟨rfl, hb⟩; refine ⟨_, rfl, ?_⟩; replace BK219 := Aside0.mk (bb_ (bk_ BK219.out) hb); replace HB := Aside0.mk (below_step (lb1_ HB.out GE219.out) hb); (try clear hb); (try clear hb2); (try clear hk); (try clear hi); obtain ⟨hcz22_0, hcz22_1, hcz22_2, hcz22_3, hcz22_4⟩ := cz5_ BK219.out; obtain ⟨hfz22_0, hfz22_1, hfz22_2, hfz22_3, hfz22_4⟩ := fz5_ BK219.out))
    go_meet
    case rel => exact ⟨_, (true), (by first | rfl | (simp; done) | (simp [*]; done)), H', ⟨by first | omega | exact Nat.le_refl _⟩, ⟨bk_ BK219.out⟩, ⟨lb1_ HB.out GE219.out⟩⟩
  ·
   replace c5 := Bool.eq_false_iff.mpr c5
   subst c5
   have H1 : (impl_IsExploration.j0 k true l0_0 l0_1 l0_2 a0_3 a0_4) = some r := by rw [if_neg (show ¬ (false = true) by decide)] at H; exact H
   clear H
   have H := H1
   clear H1
   have H' := Aside0.mk H
   clear H
   obtain ⟨hcz23_0, hcz23_1, hcz23_2, hcz23_3, hcz23_4⟩ := cz5_ BK219.out
   obtain ⟨hfz23_0, hfz23_1, hfz23_2, hfz23_3, hfz23_4⟩ := fz5_ BK219.out
   go_wp2_with (first | ((with_reducible refine gate_callee (f := 69) rfl ?_); refine ga_ (some 7) Try.func69 #[.slice A0_0 l0_0.length c0_0] ?_; (with_reducible refine (impl_areLegs.calls k _ _ l0_0 false _ ?side1 ?side2 A4.out).mono ?_); (case side1 => exact kc_ (Kd.C_below HR0_0.out HB.out)); (case side2 => exact HC0_0.out); rintro e w24 ⟨rfl, hb⟩; refine ⟨_, rfl, ?_⟩; replace BK219 := Aside0.mk (bb_ (bk_ BK219.out) hb); replace HB := Aside0.mk (below_step (lb1_ HB.out GE219.out) hb); (try clear hb); (try clear hb2); (try clear hk); (try clear hi)))
   go_meet
   case rel => exact ⟨_, (true), (by first | rfl | (simp; done) | (simp [*]; done)), H', ⟨by first | omega | exact Nat.le_refl _⟩, ⟨bk_ BK219.out⟩, ⟨lb1_ HB.out GE219.out⟩⟩
 case rest =>
  clear HC2
  try clear c1
  try clear p2
  try clear c5
  try clear c6
  try clear c6b0
  try clear c6b1
  try clear c7
  try clear c7b0
  try clear c7b1
  try clear c9
  try clear c18
  try clear hcz11_0 hcz11_1 hcz11_2 hcz11_3 hcz11_4
  try clear hcz13_0 hcz13_1 hcz13_2 hcz13_3 hcz13_4
  try clear hcz14_0 hcz14_1 hcz14_2 hcz14_3 hcz14_4
  try clear hcz16_0 hcz16_1 hcz16_2 hcz16_3 hcz16_4
  try clear hcz17_0 hcz17_1 hcz17_2 hcz17_3 hcz17_4
  try clear hcz19_0 hcz19_1 hcz19_2 hcz19_3 hcz19_4
  try clear hcz20_0 hcz20_1 hcz20_2 hcz20_3 hcz20_4
  try clear hcz22_0 hcz22_1 hcz22_2 hcz22_3 hcz22_4
  try clear hcz23_0 hcz23_1 hcz23_2 hcz23_3 hcz23_4
  try clear hfz11_0 hfz11_1 hfz11_2 hfz11_3 hfz11_4
  try clear hfz13_0 hfz13_1 hfz13_2 hfz13_3 hfz13_4
  try clear hfz14_0 hfz14_1 hfz14_2 hfz14_3 hfz14_4
  try clear hfz16_0 hfz16_1 hfz16_2 hfz16_3 hfz16_4
  try clear hfz17_0 hfz17_1 hfz17_2 hfz17_3 hfz17_4
  try clear hfz19_0 hfz19_1 hfz19_2 hfz19_3 hfz19_4
  try clear hfz20_0 hfz20_1 hfz20_2 hfz20_3 hfz20_4
  try clear hfz22_0 hfz22_1 hfz22_2 hfz22_3 hfz22_4
  try clear hfz23_0 hfz23_1 hfz23_2 hfz23_3 hfz23_4
  obtain ⟨kq, x32_1, rfl, HA, HJ1, BK219, HB⟩ := hcut
  cases kq with
  | zero => exact absurd HA.out (by simp [impl_IsExploration.j0])
  | succ kj1 =>
   have H := HA.out
   clear HA
   simp only [impl_IsExploration.j0] at H
   by_cases c25 : x32_1 = true
   ·
    subst c25
    have H1 : (some false) = some r := by rw [if_pos rfl] at H; exact H
    clear H
    have H := H1
    clear H1
    obtain rfl := Option.some.inj H
    go_wp2
    go_ret
    exact ⟨rr_, lb1_ HB.out GE219.out⟩
   ·
    replace c25 := Bool.eq_false_iff.mpr c25
    subst c25
    have H1 : (if 0 < (l0_1.length : Int) then (if rdOf false l0_1 0 = true then (if 0 ≤ a0_3 then (if a0_3 < (l0_1.length : Int) then (if rdOf false l0_1 a0_3 = true then ((impl_Exploration_wayOut.f kj1 l0_0 l0_1 l0_2 a0_3 a0_4).bind fun bt225 => (if bt225.2 = true then (some (decide (bt225.1 ≤ a0_4))) else (some false))) else (some false)) else (none)) else (none)) else (some false)) else (none)) = some r := by rw [if_neg (show ¬ (false = true) by decide)] at H; exact H
    clear H
    have H := H1
    clear H1
    by_cases c26 : 0 < (l0_1.length : Int)
    ·
     rw [if_pos c26] at H
     have c26b0 : decide (0 < (l0_1.length : Int)) = true := decide_eq_true c26
     have c26b1 : decide (0 < l0_1.length) = true := decide_eq_true (by omega)
     clear c26
     obtain ⟨bq27, hbq27⟩ : ∃ b_ : Bool, b_ = (rdOf false l0_1 0) := ⟨_, rfl⟩
     replace H : (if bq27 = true then (if 0 ≤ a0_3 then (if a0_3 < (l0_1.length : Int) then (if rdOf false l0_1 a0_3 = true then ((impl_Exploration_wayOut.f kj1 l0_0 l0_1 l0_2 a0_3 a0_4).bind fun bt225 => (if bt225.2 = true then (some (decide (bt225.1 ≤ a0_4))) else (some false))) else (some false)) else (none)) else (none)) else (some false)) = some r := by rw [← hbq27] at H; exact H
     have Nbq27 := Aside0.mk hbq27
     clear hbq27
     by_cases c28 : bq27 = true
     ·
      subst c28
      have H1 : (if 0 ≤ a0_3 then (if a0_3 < (l0_1.length : Int) then (if rdOf false l0_1 a0_3 = true then ((impl_Exploration_wayOut.f kj1 l0_0 l0_1 l0_2 a0_3 a0_4).bind fun bt225 => (if bt225.2 = true then (some (decide (bt225.1 ≤ a0_4))) else (some false))) else (some false)) else (none)) else (none)) = some r := by rw [if_pos rfl] at H; exact H
      clear H
      have H := H1
      clear H1
      by_cases c29 : 0 ≤ a0_3
      ·
       rw [if_pos c29] at H
       have c29b0 : decide (0 ≤ a0_3) = true := decide_eq_true c29
       clear c29
       by_cases c30 : a0_3 < (l0_1.length : Int)
       ·
        rw [if_pos c30] at H
        have c30b0 : decide (a0_3 < (l0_1.length : Int)) = true := decide_eq_true c30; clear c30
        obtain ⟨bq31, hbq31⟩ : ∃ b_ : Bool, b_ = (rdOf false l0_1 a0_3) := ⟨_, rfl⟩
        replace H : (if bq31 = true then ((impl_Exploration_wayOut.f kj1 l0_0 l0_1 l0_2 a0_3 a0_4).bind fun bt225 => (if bt225.2 = true then (some (decide (bt225.1 ≤ a0_4))) else (some false))) else (some false)) = some r := by rw [← hbq31] at H; exact H
        have Nbq31 := Aside0.mk hbq31; clear hbq31
        by_cases c32 : bq31 = true
        ·
         subst c32
         have H1 : ((impl_Exploration_wayOut.f kj1 l0_0 l0_1 l0_2 a0_3 a0_4).bind fun bt225 => (if bt225.2 = true then (some (decide (bt225.1 ≤ a0_4))) else (some false))) = some r := by rw [if_pos rfl] at H; exact H
         clear H; have H := H1; clear H1; replace H := Option.bind_eq_some_iff.mp H; obtain ⟨⟨t225, t226⟩, A330, H⟩ := H; replace H : (if t226 = true then (some (decide (t225 ≤ a0_4))) else (some false)) = some r := H; have A33 := Aside0.mk A330; clear A330
         by_cases c34 : t226 = true
         ·
          subst c34
          have H1 : (some (decide (t225 ≤ a0_4))) = some r := by rw [if_pos rfl] at H; exact H
          clear H; have H := H1; clear H1; obtain rfl := Option.some.inj H; obtain ⟨hcz35_0, hcz35_1, hcz35_2, hcz35_3, hcz35_4⟩ := cz5_ BK219.out; obtain ⟨hfz35_0, hfz35_1, hfz35_2, hfz35_3, hfz35_4⟩ := fz5_ BK219.out
          have p223 : 0 ≤ (0 : Int) := (by omega)
          have q223 : 0 < (l0_1.length : Int) := dt_; obtain ⟨ad223, e223, hx223_0⟩ := Kd.at_bool HR0_1.out 0 p223 q223; (try rw [← Nbq27.out] at hx223_0); (try rw [← Nbq31.out] at hx223_0)
          cases e223
          have qi223 : (0 < l0_1.length) = True := eq_true (by omega); (try rw [show ((0 : Int)).toNat = 0 from rfl] at hx223_0); (try rw [Addr.add_zero'] at hx223_0); replace hx223_0 := bc_ HB.out hx223_0; replace p223 := eq_true p223; replace q223 := eq_true q223; have p224 : 0 ≤ (a0_3 : Int) := dt_; have q224 : a0_3 < (l0_1.length : Int) := dt_; obtain ⟨ad224, e224, hx224_0⟩ := Kd.at_bool HR0_1.out a0_3 p224 q224; (try rw [← Nbq27.out] at hx224_0); (try rw [← Nbq31.out] at hx224_0)
          obtain rfl : ad223 = ad224 := (by injection e224)
          replace hx224_0 := bc_ HB.out hx224_0; replace p224 := eq_true p224; replace q224 := eq_true q224
          go_wp2_with (first | ((with_reducible refine gate_callee (f := 72) rfl ?_); refine ga_ (some 49) Try.func72 #[.agg #[.slice A0_0 l0_0.length c0_0, .slice (some ad223) l0_1.length c0_1, .slice A0_2 l0_2.length c0_2, .int .i64 a0_3, .int .i64 a0_4]] ?_; (with_reducible refine (impl_Exploration_wayOut.calls kj1 _ _ l0_0 _ _ l0_1 _ _ l0_2 a0_3 a0_4 t225 true _ ?side1 ?side2 ?side3 ?side4 ?side5 ?side6 A33.out).mono ?_); (case side1 => exact kc_ (Kd.C_below HR0_0.out HB.out)); (case side2 => exact HC0_0.out); (case side3 => exact kc_ (Kd.C_below HR0_1.out HB.out)); (case side4 => exact HC0_1.out); (case side5 => exact kc_ (Kd.C_below HR0_2.out HB.out)); (case side6 => exact HC0_2.out); rintro e w36 ⟨rfl, hb⟩; refine ⟨_, rfl, ?_⟩; replace BK219 := Aside0.mk (bb_ (bk_ BK219.out) hb); replace HB := Aside0.mk (below_step (lb1_ HB.out GE219.out) hb); (try clear hb); (try clear hb2); (try clear hk); (try clear hi); obtain ⟨hcz37_0, hcz37_1, hcz37_2, hcz37_3, hcz37_4⟩ := cz5_ BK219.out; obtain ⟨hfz37_0, hfz37_1, hfz37_2, hfz37_3, hfz37_4⟩ := fz5_ BK219.out))
          go_ret
          exact ⟨rr_, lb1_ HB.out GE219.out⟩
         ·
          replace c34 := Bool.eq_false_iff.mpr c34; subst c34
          have H1 : (some false) = some r := by rw [if_neg (show ¬ (false = true) by decide)] at H; exact H
          clear H; have H := H1; clear H1; obtain rfl := Option.some.inj H; obtain ⟨hcz38_0, hcz38_1, hcz38_2, hcz38_3, hcz38_4⟩ := cz5_ BK219.out; obtain ⟨hfz38_0, hfz38_1, hfz38_2, hfz38_3, hfz38_4⟩ := fz5_ BK219.out
          have p223 : 0 ≤ (0 : Int) := (by omega)
          have q223 : 0 < (l0_1.length : Int) := dt_; obtain ⟨ad223, e223, hx223_0⟩ := Kd.at_bool HR0_1.out 0 p223 q223; (try rw [← Nbq27.out] at hx223_0); (try rw [← Nbq31.out] at hx223_0)
          cases e223
          have qi223 : (0 < l0_1.length) = True := eq_true (by omega); (try rw [show ((0 : Int)).toNat = 0 from rfl] at hx223_0); (try rw [Addr.add_zero'] at hx223_0); replace hx223_0 := bc_ HB.out hx223_0; replace p223 := eq_true p223; replace q223 := eq_true q223; have p224 : 0 ≤ (a0_3 : Int) := dt_; have q224 : a0_3 < (l0_1.length : Int) := dt_; obtain ⟨ad224, e224, hx224_0⟩ := Kd.at_bool HR0_1.out a0_3 p224 q224; (try rw [← Nbq27.out] at hx224_0); (try rw [← Nbq31.out] at hx224_0)
          obtain rfl : ad223 = ad224 := (by injection e224)
          replace hx224_0 := bc_ HB.out hx224_0; replace p224 := eq_true p224; replace q224 := eq_true q224
          go_wp2_with (first | ((with_reducible refine gate_callee (f := 72) rfl ?_); refine ga_ (some 49) Try.func72 #[.agg #[.slice A0_0 l0_0.length c0_0, .slice (some ad223) l0_1.length c0_1, .slice A0_2 l0_2.length c0_2, .int .i64 a0_3, .int .i64 a0_4]] ?_; (with_reducible refine (impl_Exploration_wayOut.calls kj1 _ _ l0_0 _ _ l0_1 _ _ l0_2 a0_3 a0_4 t225 false _ ?side1 ?side2 ?side3 ?side4 ?side5 ?side6 A33.out).mono ?_); (case side1 => exact kc_ (Kd.C_below HR0_0.out HB.out)); (case side2 => exact HC0_0.out); (case side3 => exact kc_ (Kd.C_below HR0_1.out HB.out)); (case side4 => exact HC0_1.out); (case side5 => exact kc_ (Kd.C_below HR0_2.out HB.out)); (case side6 => exact HC0_2.out); rintro e w39 ⟨rfl, hb⟩; refine ⟨_, rfl, ?_⟩; replace BK219 := Aside0.mk (bb_ (bk_ BK219.out) hb); replace HB := Aside0.mk (below_step (lb1_ HB.out GE219.out) hb); (try clear hb); (try clear hb2); (try clear hk); (try clear hi)))
          go_ret
          exact ⟨rr_, lb1_ HB.out GE219.out⟩
        ·
         replace c32 := Bool.eq_false_iff.mpr c32; subst c32
         have H1 : (some false) = some r := by rw [if_neg (show ¬ (false = true) by decide)] at H; exact H
         clear H; have H := H1; clear H1; obtain rfl := Option.some.inj H; obtain ⟨hcz40_0, hcz40_1, hcz40_2, hcz40_3, hcz40_4⟩ := cz5_ BK219.out; obtain ⟨hfz40_0, hfz40_1, hfz40_2, hfz40_3, hfz40_4⟩ := fz5_ BK219.out
         have p223 : 0 ≤ (0 : Int) := (by omega)
         have q223 : 0 < (l0_1.length : Int) := dt_; obtain ⟨ad223, e223, hx223_0⟩ := Kd.at_bool HR0_1.out 0 p223 q223; (try rw [← Nbq27.out] at hx223_0); (try rw [← Nbq31.out] at hx223_0)
         cases e223
         have qi223 : (0 < l0_1.length) = True := eq_true (by omega); (try rw [show ((0 : Int)).toNat = 0 from rfl] at hx223_0); (try rw [Addr.add_zero'] at hx223_0); replace hx223_0 := bc_ HB.out hx223_0; replace p223 := eq_true p223; replace q223 := eq_true q223; have p224 : 0 ≤ (a0_3 : Int) := dt_; have q224 : a0_3 < (l0_1.length : Int) := dt_; obtain ⟨ad224, e224, hx224_0⟩ := Kd.at_bool HR0_1.out a0_3 p224 q224; (try rw [← Nbq27.out] at hx224_0); (try rw [← Nbq31.out] at hx224_0)
         obtain rfl : ad223 = ad224 := (by injection e224)
         replace hx224_0 := bc_ HB.out hx224_0; replace p224 := eq_true p224; replace q224 := eq_true q224
         go_wp2
         go_ret
         exact ⟨rr_, lb1_ HB.out GE219.out⟩
       ·
        rw [if_neg c30] at H
        exact absurd H (by simp)
      ·
       rw [if_neg c29] at H
       exact absurd H (by simp)
     ·
      replace c28 := Bool.eq_false_iff.mpr c28
      subst c28
      have H1 : (some false) = some r := by rw [if_neg (show ¬ (false = true) by decide)] at H; exact H
      clear H
      have H := H1
      clear H1
      obtain rfl := Option.some.inj H
      obtain ⟨hcz41_0, hcz41_1, hcz41_2, hcz41_3, hcz41_4⟩ := cz5_ BK219.out
      obtain ⟨hfz41_0, hfz41_1, hfz41_2, hfz41_3, hfz41_4⟩ := fz5_ BK219.out
      have p223 : 0 ≤ (0 : Int) := (by omega)
      have q223 : 0 < (l0_1.length : Int) := dt_
      obtain ⟨ad223, e223, hx223_0⟩ := Kd.at_bool HR0_1.out 0 p223 q223
      (try rw [← Nbq27.out] at hx223_0)
      cases e223
      have qi223 : (0 < l0_1.length) = True := eq_true (by omega)
      (try rw [show ((0 : Int)).toNat = 0 from rfl] at hx223_0)
      (try rw [Addr.add_zero'] at hx223_0)
      replace hx223_0 := bc_ HB.out hx223_0
      replace p223 := eq_true p223
      replace q223 := eq_true q223
      go_wp2
      go_ret
      exact ⟨rr_, lb1_ HB.out GE219.out⟩
    ·
     rw [if_neg c26] at H
     exact absurd H (by simp)
def impl_Leg_87.f (l0 : List S37) : Option (List S37) := if l0.length ≤ 3518437208883 then some l0 else none
set_option maxHeartbeats 4000000 in
set_option maxRecDepth 100000 in
theorem impl_Leg_87.calls (A0 : Option Addr) (c0 : Nat) (l0 : List S37) (r : List S37) (w : World) (hr0 : Kd.C k37 w A0 l0.length l0) (hc0 : l0.length ≤ c0) (h : impl_Leg_87.f l0 = some r) :
  Calls Try.prog 87 #[.slice A0 l0.length c0] w fun e w' => ∃ v0_ : Value, e = .returned (v0_) ∧ Kd.R k37 37 w' w.heap.size (fun _ => True) v0_ r ∧ Below w.heap.size w w' := by
 unfold impl_Leg_87.f at h
 by_cases hl : l0.length ≤ 3518437208883
 ·
  rw [if_pos hl] at h
  obtain rfl := Option.some.inj h
  have HR := Aside0.mk hr0
  clear hr0
  cases A0 with
  | none =>
   have hn : l0 = [] := by
    rcases Nat.eq_zero_or_pos l0.length with h0 | h0
    ·
     exact List.length_eq_zero_iff.1 h0
    ·
     obtain ⟨ad, e, _⟩ := HR.out.2.2 h0
     cases e
   subst hn
   have hq : ∀ w, Sem.run Try.prog (binOp .eql 28 (.slice none 0 c0) (.slice none 0 0)) w = .ok (.bool true) w := fun w => by rfl
   go_enter Try.func87, Try.ntmps87
   go_wp2
   go_ret
   exact ⟨_, rfl, Kd.R_nil _ _ _ _ _, Below.refl _ _⟩
  | some ad =>
   have hq : ∀ w, Sem.run Try.prog (binOp .eql 28 (.slice (some ad) l0.length c0) (.slice none 0 0)) w = .ok (.bool false) w := fun w => by rfl
   go_enter Try.func87, Try.ntmps87
   go_wp2_with (first | ((with_reducible refine gate_dst (N := 5) rfl ?_); refine Kd.R_lit k37 _ 37 ?hg (N := 5) ?hd (xs := []) (inner := []) (ok := fun _ => True) (okp := fun _ => True) ?hr ?hp (fun _ hk => hk) trivial (Below.refl _ _) (Nat.le_refl _) (by simp) ?_; (case hd => rfl); (case hg => rfl); (case hr => first | (go_simp; done) | (go_simp; rfl)); (case hp => exact (Reps.none _ _)); intro v5 w4 ho5 hb5 hg_ hnew_; clear hg_ hnew_; have HO5 := Aside0.mk ho5; have HB5 := Aside0.mk hb5; clear ho5 hb5) | ((with_reducible refine gate_builtin (b := .append) (xs := #[.tmp 5, .tmp 6]) rfl ?_); at_builtin; refine Kd.R_append_rows k37 (w0 := w) w.heap.size rfl (.tmp 5) (.tmp 6) 28 37 (.agg #[(.int .i64 0), (.int .i64 0), (.int .i64 0), (.int .i64 0), (.int .i64 0)]) 40 rfl Try.underlying28 info37 rfl (by decide) (by omega) v5 [] l0 (some ad) _ _ (fun _ => True) (fun _ => False) rfl rfl HO5.out (Kd.C_below HR.out HB5.out) (fun _ _ h => h) (fun _ h => h.elim) (fun _ _ => trivial) HB5.out (below_size HB5.out) (by simp; omega) ?_; intro v7 w7 ho7 hb7 hg7 hat7; have HO7 := Aside0.mk ho7; have HB7 := Aside0.mk hb7; clear ho7 hb7 hg7 hat7))
   go_ret
   exact ⟨_, rfl, HO7.out, HB7.out⟩
 ·
  rw [if_neg hl] at h
  cases h
def slices_Clone_bool_bool.f (l0 : List Bool) : Option (List Bool) := if l0.length ≤ 140737488355328 then some l0 else none
set_option maxHeartbeats 4000000 in
set_option maxRecDepth 100000 in
theorem slices_Clone_bool_bool.calls (A0 : Option Addr) (c0 : Nat) (l0 : List Bool) (r : List Bool) (w : World) (hr0 : Kd.C Kd.bool w A0 l0.length l0) (hc0 : l0.length ≤ c0) (h : slices_Clone_bool_bool.f l0 = some r) :
  Calls Try.prog 109 #[.slice A0 l0.length c0] w fun e w' => ∃ v0_ : Value, e = .returned (v0_) ∧ Kd.R Kd.bool 4 w' w.heap.size (fun _ => True) v0_ r ∧ Below w.heap.size w w' := by
 unfold slices_Clone_bool_bool.f at h
 by_cases hl : l0.length ≤ 140737488355328
 ·
  rw [if_pos hl] at h
  obtain rfl := Option.some.inj h
  have HR := Aside0.mk hr0
  clear hr0
  cases A0 with
  | none =>
   have hn : l0 = [] := by
    rcases Nat.eq_zero_or_pos l0.length with h0 | h0
    ·
     exact List.length_eq_zero_iff.1 h0
    ·
     obtain ⟨ad, e, _⟩ := HR.out.2.2 h0
     cases e
   subst hn
   have hq : ∀ w, Sem.run Try.prog (binOp .eql 23 (.slice none 0 c0) (.slice none 0 0)) w = .ok (.bool true) w := fun w => by rfl
   go_enter Try.func109, Try.ntmps109
   go_wp2
   go_ret
   exact ⟨_, rfl, Kd.R_nil _ _ _ _ _, Below.refl _ _⟩
  | some ad =>
   have hq : ∀ w, Sem.run Try.prog (binOp .eql 23 (.slice (some ad) l0.length c0) (.slice none 0 0)) w = .ok (.bool false) w := fun w => by rfl
   go_enter Try.func109, Try.ntmps109
   go_wp2_with (first | ((with_reducible refine gate_dst (N := 5) rfl ?_); refine Kd.R_lit Kd.bool _ 4 ?hg (N := 5) ?hd (xs := []) (inner := []) (ok := fun _ => True) (okp := fun _ => True) ?hr ?hp (fun _ hk => hk) trivial (Below.refl _ _) (Nat.le_refl _) (by simp) ?_; (case hd => rfl); (case hg => rfl); (case hr => first | (go_simp; done) | (go_simp; rfl)); (case hp => exact (Reps.none _ _)); intro v5 w4 ho5 hb5 hg_ hnew_; clear hg_ hnew_; have HO5 := Aside0.mk ho5; have HB5 := Aside0.mk hb5; clear ho5 hb5) | ((with_reducible refine gate_builtin (b := .append) (xs := #[.tmp 5, .tmp 6]) rfl ?_); at_builtin; refine Kd.R_append_rows Kd.bool (w0 := w) w.heap.size rfl (.tmp 5) (.tmp 6) 23 4 (.bool false) 1 rfl Try.underlying23 info4 rfl (by decide) (by omega) v5 [] l0 (some ad) _ _ (fun _ => True) (fun _ => False) rfl rfl HO5.out (Kd.C_below HR.out HB5.out) (fun _ _ h => h) (fun _ h => h.elim) (fun _ _ => trivial) HB5.out (below_size HB5.out) (by simp; omega) ?_; intro v7 w7 ho7 hb7 hg7 hat7; have HO7 := Aside0.mk ho7; have HB7 := Aside0.mk hb7; clear ho7 hb7 hg7 hat7))
   go_ret
   exact ⟨_, rfl, HO7.out, HB7.out⟩
 ·
  rw [if_neg hl] at h
  cases h
def impl_Exploration_clone.f (l0_0 : List (S37)) (l0_1 : List Bool) (l0_2 : List Bool) (a0_3 : Int) (a0_4 : Int) : Option ((List (S37)) × List Bool × List Bool × Int × Int) := (impl_Leg_87.f l0_0).bind fun t712 => ((slices_Clone_bool_bool.f l0_1).bind fun t715 => ((slices_Clone_bool_bool.f l0_2).bind fun t718 => (some (t712, t715, t718, a0_3, a0_4))))
def impl_Exploration_clone.T1 : Bool × List (List Nat × List Nat) := (true, [([], []), ([0], [0]), ([1], [1]), ([], []), ([3], [3]), ([4, 2], [4]), ([], []), ([6], [6]), ([7, 5], [7]), ([0, 1, 2, 3, 4, 6, 7], []), ([9, 2, 8, 0, 1, 2, 3, 4, 6, 7], [2, 9]), ([0, 1, 2, 3, 4, 5, 6, 7, 9, 10], []), ([11, 5, 10, 0, 1, 2, 3, 4, 5, 6, 7, 9, 10], [5, 11]), ([0, 1, 2, 3, 4, 5, 6, 7, 8, 9, 10, 11, 12], []), ([13, 8, 12, 0, 1, 2, 3, 4, 5, 6, 7, 8, 9, 10, 11, 12], [8, 13])])
def impl_Exploration_clone.B1 : List Nat := [0, 1, 3, 0, 8, 31, 0, 64, 255, 223, 1023, 2047, 4095, 8191, 16383]
theorem impl_Exploration_clone.tab1 : rtab .any (opsOf Try.f83 1) = impl_Exploration_clone.T1 := by kernel_rfl
theorem impl_Exploration_clone.bits1 : waitsOk impl_Exploration_clone.T1.2 impl_Exploration_clone.B1 = true := by kernel_rfl
abbrev impl_Exploration_clone.mk0 : Array Bool := #[fF,fF,fF,fF,fF,fF,fF,fF,fF,fF,fF,fF,fF,fF,fF]
abbrev impl_Exploration_clone.mk1 : Array Bool := #[tT,fF,fF,fF,fF,fF,fF,fF,fF,fF,fF,fF,fF,fF,fF]
abbrev impl_Exploration_clone.mk2 : Array Bool := #[tT,fF,fF,tT,fF,fF,fF,fF,fF,fF,fF,fF,fF,fF,fF]
abbrev impl_Exploration_clone.mk3 : Array Bool := #[tT,fF,fF,tT,fF,fF,tT,fF,fF,fF,fF,fF,fF,fF,fF]
abbrev impl_Exploration_clone.mk4 : Array Bool := #[tT,tT,fF,tT,fF,fF,tT,fF,fF,fF,fF,fF,fF,fF,fF]
abbrev impl_Exploration_clone.mk5 : Array Bool := #[tT,tT,fF,tT,tT,fF,tT,fF,fF,fF,fF,fF,fF,fF,fF]
abbrev impl_Exploration_clone.mk6 : Array Bool := #[tT,tT,fF,tT,tT,fF,tT,tT,fF,fF,fF,fF,fF,fF,fF]
abbrev impl_Exploration_clone.mk7 : Array Bool := #[tT,tT,tT,tT,tT,fF,tT,tT,fF,fF,fF,fF,fF,fF,fF]
abbrev impl_Exploration_clone.mk8 : Array Bool := #[tT,tT,tT,tT,tT,fF,tT,tT,fF,tT,fF,fF,fF,fF,fF]
abbrev impl_Exploration_clone.mk9 : Array Bool := #[tT,tT,tT,tT,tT,tT,tT,tT,fF,tT,fF,fF,fF,fF,fF]
abbrev impl_Exploration_clone.mk10 : Array Bool := #[tT,tT,tT,tT,tT,tT,tT,tT,tT,tT,fF,fF,fF,fF,fF]
abbrev impl_Exploration_clone.mk11 : Array Bool := #[tT,tT,tT,tT,tT,tT,tT,tT,tT,tT,tT,fF,fF,fF,fF]
abbrev impl_Exploration_clone.mk12 : Array Bool := #[tT,tT,tT,tT,tT,tT,tT,tT,tT,tT,tT,tT,fF,fF,fF]
abbrev impl_Exploration_clone.mk13 : Array Bool := #[tT,tT,tT,tT,tT,tT,tT,tT,tT,tT,tT,tT,tT,fF,fF]
abbrev impl_Exploration_clone.mk14 : Array Bool := #[tT,tT,tT,tT,tT,tT,tT,tT,tT,tT,tT,tT,tT,tT,fF]
abbrev impl_Exploration_clone.mk15 : Array Bool := #[tT,tT,tT,tT,tT,tT,tT,tT,tT,tT,tT,tT,tT,tT,tT]
theorem impl_Exploration_clone.calls (A0_0 : Option Addr) (c0_0 : Nat) (l0_0 : List (S37)) (A0_1 : Option Addr) (c0_1 : Nat) (l0_1 : List Bool) (A0_2 : Option Addr) (c0_2 : Nat) (l0_2 : List Bool) (a0_3 : Int) (a0_4 : Int) (r1 : List (S37)) (r2 : List Bool) (r3 : List Bool) (r4 : Int) (r5 : Int) (w : World) (hr0_0 : Kd.C k37 w A0_0 l0_0.length l0_0) (hc0_0 : l0_0.length ≤ c0_0) (hr0_1 : Kd.C Kd.bool w A0_1 l0_1.length l0_1) (hc0_1 : l0_1.length ≤ c0_1) (hr0_2 : Kd.C Kd.bool w A0_2 l0_2.length l0_2) (hc0_2 : l0_2.length ≤ c0_2) (h : impl_Exploration_clone.f l0_0 l0_1 l0_2 a0_3 a0_4 = some (r1, r2, r3, r4, r5)) :
  Calls Try.prog 83 #[.agg #[.slice A0_0 l0_0.length c0_0, .slice A0_1 l0_1.length c0_1, .slice A0_2 l0_2.length c0_2, .int .i64 a0_3, .int .i64 a0_4]] w fun e w' => ∃ v0_ v1_ v2_ : Value, e = .returned (.agg #[v0_, v1_, v2_, .int .i64 r4, .int .i64 r5]) ∧ Kd.R k37 37 w' w.heap.size (fun _ => True) v0_ r1 ∧ Kd.R Kd.bool 4 w' w.heap.size (fun k_ => some k_ ≠ (v2_ : Value).ownBlock) v1_ r2 ∧ Kd.R Kd.bool 4 w' w.heap.size (fun k_ => some k_ ≠ (v1_ : Value).ownBlock) v2_ r3 ∧ Below w.heap.size w w' := by
 have hu30 := Try.underlying30
 have HR0_0 := Aside0.mk hr0_0
 have HC0_0 := Aside0.mk hc0_0
 clear hr0_0 hc0_0
 have HR0_1 := Aside0.mk hr0_1
 have HC0_1 := Aside0.mk hc0_1
 clear hr0_1 hc0_1
 have HR0_2 := Aside0.mk hr0_2
 have HC0_2 := Aside0.mk hc0_2
 clear hr0_2 hc0_2
 have HB := Aside0.mk (Below.refl w.heap.size w)
 have H : ((impl_Leg_87.f l0_0).bind fun t712 => ((slices_Clone_bool_bool.f l0_1).bind fun t715 => ((slices_Clone_bool_bool.f l0_2).bind fun t718 => (some (t712, t715, t718, a0_3, a0_4))))) = some (r1, r2, r3, r4, r5) := h
 clear h
 replace H := Option.bind_eq_some_iff.mp H
 obtain ⟨t712, A20, H⟩ := H
 replace H : ((slices_Clone_bool_bool.f l0_1).bind fun t715 => ((slices_Clone_bool_bool.f l0_2).bind fun t718 => (some (t712, t715, t718, a0_3, a0_4)))) = some (r1, r2, r3, r4, r5) := H
 have A2 := Aside0.mk A20
 clear A20
 replace H := Option.bind_eq_some_iff.mp H
 obtain ⟨t715, A30, H⟩ := H
 replace H : ((slices_Clone_bool_bool.f l0_2).bind fun t718 => (some (t712, t715, t718, a0_3, a0_4))) = some (r1, r2, r3, r4, r5) := H
 have A3 := Aside0.mk A30
 clear A30
 replace H := Option.bind_eq_some_iff.mp H
 obtain ⟨t718, A40, H⟩ := H
 replace H : (some (t712, t715, t718, a0_3, a0_4)) = some (r1, r2, r3, r4, r5) := H
 have A4 := Aside0.mk A40
 clear A40
 simp only [Option.some.injEq, Prod.mk.injEq] at H
 obtain ⟨rfl, rfl, rfl, rfl, rfl⟩ := H
 go_enter Try.func83, Try.ntmps83
 try go_wp2_with (first | ((with_reducible refine gate_dst (N := 1) rfl ?_); refine box_event ?hg (N := 1) ?hd (cs := #[.slice A0_0 l0_0.length c0_0, .slice A0_1 l0_1.length c0_1, .slice A0_2 l0_2.length c0_2, .int .i64 a0_3, .int .i64 a0_4]) (t := 30) ?hr ?_; (case hd => rfl); (case hg => rfl); (case hr => first | (go_simp; done) | (go_simp; rfl)); intro gb710 hg w5 hbox hb; have BK710 := Aside0.mk (hbox); have GW710 := Aside0.mk ((bz_ hg (lb0_ HB.out))); have GE710 := Aside0.mk ((bz_ hg (lb0_ HB.out))); replace HB := Aside0.mk (below_step (lb0_ HB.out) hb); clear hb hbox hg) | ((with_reducible refine gate_dst (N := 2) rfl ?_); refine box_event ?hg (N := 2) ?hd (cs := #[.slice none 0 0, .slice none 0 0, .slice none 0 0, .int .i64 0, .int .i64 0]) (t := 30) ?hr ?_; (case hd => rfl); (case hg => rfl); (case hr => first | (go_simp; done) | (go_simp; rfl)); intro gb711 hg w6 hbox hb; have BK711 := Aside0.mk (hbox); have GW711 := Aside0.mk ((bz_ hg (lb1_ HB.out GE710.out))); have GE711 := Aside0.mk ((bz_ hg (lb1_ HB.out GE710.out))); replace HB := Aside0.mk (below_step (lb1_ HB.out GE710.out) hb); have NB710_711 := Aside0.mk (nl_ hg BK710.out); have NB711_710 := Aside0.mk (ng_ hg BK710.out); replace BK710 := Aside0.mk (bb_ (bk_ BK710.out) hb); clear hb hbox hg))
 replace BK710 := Aside0.mk (blk_drew BK710.out)
 replace BK711 := Aside0.mk (blk_drew BK711.out)
 replace HB := Aside0.mk (below_drew1 HB.out)
 refine start_ (n := 15) (S := fun w' => w'.cell? ⟨gb710, 0, none⟩ = some (.slice A0_0 l0_0.length c0_0) ∧ w'.cell? ⟨gb710, 1, none⟩ = some (.slice A0_1 l0_1.length c0_1) ∧ w'.cell? ⟨gb710, 2, none⟩ = some (.slice A0_2 l0_2.length c0_2) ∧ w'.cell? ⟨gb710, 3, none⟩ = some (.int .i64 a0_3) ∧ w'.cell? ⟨gb710, 4, none⟩ = some (.int .i64 a0_4)) (ds := [10, 12, 14]) impl_Exploration_clone.mk0 (by kernel_rfl) rfl rfl ⟨(blk_cell BK710.out 0).trans rfl, (blk_cell BK710.out 1).trans rfl, (blk_cell BK710.out 2).trans rfl, (blk_cell BK710.out 3).trans rfl, (blk_cell BK710.out 4).trans rfl⟩ (fun hHeld => ?_); refine with_tabW impl_Exploration_clone.tab1 impl_Exploration_clone.bits1 (fun HT_ HW_ => ?_)
 generalize w6.drew = w7 at BK710 BK711 HB hHeld ⊢
 refine pz_ HT_ 0 (some 3) impl_Exploration_clone.mk1 ?_
 refine pz_ HT_ 3 (some 6) impl_Exploration_clone.mk2 ?_
 refine pz_ HT_ 6 (some 9) impl_Exploration_clone.mk3 ?_
 refine tk_ HT_ HW_ hHeld 1 (some 4) impl_Exploration_clone.mk4 ?_
 refine tk_ HT_ HW_ hHeld 4 (some 7) impl_Exploration_clone.mk5 ?_
 refine tk_ HT_ HW_ hHeld 7 (some 10) impl_Exploration_clone.mk6 ?_
 refine one_ (i := 2) (N := some 5) impl_Exploration_clone.mk7 rfl rfl (one_of HT_.out (by kernel_rfl)) (by decide) (fun K hK => ?_)
 refine gs_ Try.func87 #[.slice A0_0 l0_0.length c0_0] ?_
 with_reducible refine (impl_Leg_87.calls _ _ l0_0 t712 _ ?side1 ?side2 A2.out).mono ?_
 (case side1 => exact kc_ (Kd.C_below HR0_0.out HB.out))
 (case side2 => exact HC0_0.out)
 rintro e w8 ⟨v713, rfl, ho0, hb⟩
 refine ⟨_, rfl, ?_⟩
 have HO714 := Aside0.mk (Kd.R_lower ho0 (below_size (lb2_ HB.out GE710.out GE711.out)))
 replace BK710 := Aside0.mk (bb_ (bk_ BK710.out) hb)
 replace BK711 := Aside0.mk (bb_ (bk_ BK711.out) hb)
 replace HB := Aside0.mk (below_step (lb2_ HB.out GE710.out GE711.out) hb)
 (try clear hb)
 (try clear hb2)
 (try clear hk)
 (try clear hi)
 (try clear ho0)
 refine hK.out _ _ ⟨(blk_cell BK710.out 0).trans rfl, (blk_cell BK710.out 1).trans rfl, (blk_cell BK710.out 2).trans rfl, (blk_cell BK710.out 3).trans rfl, (blk_cell BK710.out 4).trans rfl⟩ (fun hHeld => ?_)
 clear hK K
 refine na_ ?_
 refine pz_ HT_ 9 (some 12) impl_Exploration_clone.mk8 ?_
 refine one_ (i := 5) (N := some 8) impl_Exploration_clone.mk9 rfl rfl (one_of HT_.out (by kernel_rfl)) (by decide) (fun K hK => ?_)
 refine gs_ Try.func109 #[.slice A0_1 l0_1.length c0_1] ?_
 with_reducible refine (slices_Clone_bool_bool.calls _ _ l0_1 t715 _ ?side1 ?side2 A3.out).mono ?_
 (case side1 => exact kc_ (Kd.C_below HR0_1.out HB.out))
 (case side2 => exact HC0_1.out)
 rintro e w9 ⟨v716, rfl, ho0, hb⟩
 refine ⟨_, rfl, ?_⟩
 replace HO714 := Aside0.mk (Kd.R_below (kr_ HO714.out) hb)
 have HO717 := Aside0.mk (Kd.R_lower ho0 (below_size (lb2_ HB.out GE710.out GE711.out)))
 replace BK710 := Aside0.mk (bb_ (bk_ BK710.out) hb)
 replace BK711 := Aside0.mk (bb_ (bk_ BK711.out) hb)
 replace HB := Aside0.mk (below_step (lb2_ HB.out GE710.out GE711.out) hb)
 (try clear hb)
 (try clear hb2)
 (try clear hk)
 (try clear hi)
 (try clear ho0)
 refine hK.out _ _ ⟨(blk_cell BK710.out 0).trans rfl, (blk_cell BK710.out 1).trans rfl, (blk_cell BK710.out 2).trans rfl, (blk_cell BK710.out 3).trans rfl, (blk_cell BK710.out 4).trans rfl⟩ (fun hHeld => ?_)
 clear hK K
 refine na_ ?_
 refine one_ (i := 8) (N := some 11) impl_Exploration_clone.mk10 rfl rfl (one_of HT_.out (by kernel_rfl)) (by decide) (fun K hK => ?_)
 refine gs_ Try.func109 #[.slice A0_2 l0_2.length c0_2] ?_
 with_reducible refine (slices_Clone_bool_bool.calls _ _ l0_2 t718 _ ?side1 ?side2 A4.out).mono ?_
 (case side1 => exact kc_ (Kd.C_below HR0_2.out HB.out))
 (case side2 => exact HC0_2.out)
 rintro e w10 ⟨v719, rfl, ho0, hb⟩
 refine ⟨_, rfl, ?_⟩
 replace HO714 := Aside0.mk (Kd.R_below (kr_ HO714.out) hb)
 have HO720 := Aside0.mk (Kd.R_lower (Kd.R_new' ho0 (Kd.R_lt (kr_ HO717.out))) (below_size (lb2_ HB.out GE710.out GE711.out)))
 replace HO717 := Aside0.mk (Kd.R_elder' (kr_ HO717.out) (Kd.R_base ho0) hb)
 replace BK710 := Aside0.mk (bb_ (bk_ BK710.out) hb)
 replace BK711 := Aside0.mk (bb_ (bk_ BK711.out) hb)
 replace HB := Aside0.mk (below_step (lb2_ HB.out GE710.out GE711.out) hb)
 (try clear hb)
 (try clear hb2)
 (try clear hk)
 (try clear hi)
 (try clear ho0)
 obtain ⟨Ao11, co11, eo11⟩ := Kd.R_slice HO714.out
 (first | subst eo11 | (injection eo11 with f1_ f2_ f3_; have f4_ := f1_.symm; have f5_ := f3_.symm; clear f1_ f2_ f3_; subst f4_; subst f5_))
 obtain ⟨Ao13, co13, eo13⟩ := Kd.R_slice HO717.out
 (first | subst eo13 | (injection eo13 with f1_ f2_ f3_; have f4_ := f1_.symm; have f5_ := f3_.symm; clear f1_ f2_ f3_; subst f4_; subst f5_))
 obtain ⟨Ao15, co15, eo15⟩ := Kd.R_slice HO720.out
 (first | subst eo15 | (injection eo15 with f1_ f2_ f3_; have f4_ := f1_.symm; have f5_ := f3_.symm; clear f1_ f2_ f3_; subst f4_; subst f5_))
 refine hK.out _ _ ⟨(blk_cell BK710.out 0).trans rfl, (blk_cell BK710.out 1).trans rfl, (blk_cell BK710.out 2).trans rfl, (blk_cell BK710.out 3).trans rfl, (blk_cell BK710.out 4).trans rfl⟩ (fun hHeld => ?_)
 clear hK K
 refine na_ ?_
 refine last_ (i := 10) (N := none) impl_Exploration_clone.mk11 rfl rfl (one_of HT_.out (by kernel_rfl)) (by decide) (fun K hK => ?_)
 have hs12 : w10.cell? ⟨gb710, 0, none⟩ = some (.slice A0_0 l0_0.length c0_0) := (blk_cell BK710.out 0).trans rfl
 have hfs12 := blk_frozen BK710.out 0
 have hns12_1 := NB711_710.out
 have hms12_1 := NB710_711.out
 refine skip_ (w1 := ?_) (by rfl) rfl ?_ ?_
 rotate_left
 ·
  go_simp
  rfl
 refine hK.out _ _ ?_
 clear hK K
 refine pz_ HT_ 11 (some 13) impl_Exploration_clone.mk12 ?_
 refine last_ (i := 12) (N := none) impl_Exploration_clone.mk13 rfl rfl (one_of HT_.out (by kernel_rfl)) (by decide) (fun K hK => ?_)
 have hs14 : w10.cell? ⟨gb710, 1, none⟩ = some (.slice A0_1 l0_1.length c0_1) := (blk_cell BK710.out 1).trans rfl
 have hfs14 := blk_frozen BK710.out 1
 have hns14_1 := NB711_710.out
 have hms14_1 := NB710_711.out
 refine skip_ (w1 := ?_) (by rfl) rfl ?_ ?_
 rotate_left
 ·
  go_simp
  rfl
 refine hK.out _ _ ?_
 clear hK K
 refine pz_ HT_ 13 (some 14) impl_Exploration_clone.mk14 ?_
 refine last_ (i := 14) (N := none) impl_Exploration_clone.mk15 rfl rfl (one_of HT_.out (by kernel_rfl)) (by decide) (fun K hK => ?_)
 have hs16 : w10.cell? ⟨gb710, 2, none⟩ = some (.slice A0_2 l0_2.length c0_2) := (blk_cell BK710.out 2).trans rfl
 have hfs16 := blk_frozen BK710.out 2
 have hns16_1 := NB711_710.out
 have hms16_1 := NB710_711.out
 refine skip_ (w1 := ?_) (by rfl) rfl ?_ ?_
 rotate_left
 ·
  go_simp
  rfl
 refine hK.out _ _ ?_
 clear hK K
 refine done_ (done_of HT_.out (by kernel_rfl)) ?_
 have hnb17 := NB710_711.out
 have hnc17 := NB711_710.out
 obtain ⟨hcz18_0, hcz18_1, hcz18_2, hcz18_3, hcz18_4⟩ := cz5_ BK710.out
 obtain ⟨hfz18_0, hfz18_1, hfz18_2, hfz18_3, hfz18_4⟩ := fz5_ BK710.out
 obtain ⟨hcz19_0, hcz19_1, hcz19_2, hcz19_3, hcz19_4⟩ := cz5_ BK711.out
 obtain ⟨hfz19_0, hfz19_1, hfz19_2, hfz19_3, hfz19_4⟩ := fz5_ BK711.out
 try go_wp2
 refine bodyPost_ret (results_cell_row rfl _ _ gb711 30 #[.slice Ao11 t712.length co11, .slice Ao13 t715.length co13, .slice Ao15 t718.length co15, .int .i64 a0_3, .int .i64 a0_4] (0, 0) _ rfl (by (with_reducible repeat (first | refine blk_drewN ?_ _ | refine blk_drew ?_ | refine blk_alloc ?_ _)); refine blk_put (cs := #[.slice Ao11 t712.length co11, .slice Ao13 t715.length co13, .slice Ao15 t718.length co15, .int .i64 a0_3, .int .i64 0]) ?_ 4 _ rfl; (with_reducible repeat (first | refine blk_drewN ?_ _ | refine blk_drew ?_ | refine blk_alloc ?_ _)); refine blk_put (cs := #[.slice Ao11 t712.length co11, .slice Ao13 t715.length co13, .slice Ao15 t718.length co15, .int .i64 0, .int .i64 0]) ?_ 3 _ rfl; (with_reducible repeat (first | refine blk_drewN ?_ _ | refine blk_drew ?_ | refine blk_alloc ?_ _)); refine blk_put (cs := #[.slice Ao11 t712.length co11, .slice Ao13 t715.length co13, .slice none 0 0, .int .i64 0, .int .i64 0]) ?_ 2 _ rfl; (with_reducible repeat (first | refine blk_drewN ?_ _ | refine blk_drew ?_ | refine blk_alloc ?_ _)); refine blk_put (cs := #[.slice Ao11 t712.length co11, .slice none 0 0, .slice none 0 0, .int .i64 0, .int .i64 0]) ?_ 1 _ rfl; (with_reducible repeat (first | refine blk_drewN ?_ _ | refine blk_drew ?_ | refine blk_alloc ?_ _)); refine blk_put (cs := #[.slice none 0 0, .slice none 0 0, .slice none 0 0, .int .i64 0, .int .i64 0]) ?_ 0 _ rfl; (with_reducible repeat (first | refine blk_drewN ?_ _ | refine blk_drew ?_ | refine blk_alloc ?_ _)); refine blk_far ?_ NB711_710.out _; (with_reducible repeat (first | refine blk_drewN ?_ _ | refine blk_drew ?_ | refine blk_alloc ?_ _)); refine blk_far ?_ NB711_710.out _; (with_reducible repeat (first | refine blk_drewN ?_ _ | refine blk_drew ?_ | refine blk_alloc ?_ _)); refine blk_far ?_ NB711_710.out _; (with_reducible repeat (first | refine blk_drewN ?_ _ | refine blk_drew ?_ | refine blk_alloc ?_ _)); exact BK711.out) Try.underlying30 rfl (by kernel_rfl)) rfl ?_
 exact ⟨_, _, _, rr_, by (with_reducible repeat (first | apply Kd.R_alloc | apply Kd.R_drewN | apply Kd.R_drew)); exact Kd.R_mono (Kd.R_far (p := ⟨gb711, 4, none⟩) (Kd.R_far (p := ⟨gb711, 3, none⟩) (Kd.R_far (p := ⟨gb711, 2, none⟩) (Kd.R_far (p := ⟨gb711, 1, none⟩) (Kd.R_far (p := ⟨gb711, 0, none⟩) (Kd.R_far (p := ⟨gb710, 2, none⟩) (Kd.R_far (p := ⟨gb710, 1, none⟩) (Kd.R_far (p := ⟨gb710, 0, none⟩) (Kd.R_types (Kd.R_types HO714.out BK710.out (by decide)) BK711.out (by decide)) (fun _ hk => hk.1.2) (.slice Ao11 t712.length co11)) (fun _ hk => hk.1.2) (.slice Ao13 t715.length co13)) (fun _ hk => hk.1.2) (.slice Ao15 t718.length co15)) (fun _ hk => hk.2) (.slice Ao11 t712.length co11)) (fun _ hk => hk.2) (.slice Ao13 t715.length co13)) (fun _ hk => hk.2) (.slice Ao15 t718.length co15)) (fun _ hk => hk.2) (.int .i64 a0_3)) (fun _ hk => hk.2) (.int .i64 a0_4)) (fun _ hk => trivial), by (with_reducible repeat (first | apply Kd.R_alloc | apply Kd.R_drewN | apply Kd.R_drew)); exact Kd.R_mono (Kd.R_far (p := ⟨gb711, 4, none⟩) (Kd.R_far (p := ⟨gb711, 3, none⟩) (Kd.R_far (p := ⟨gb711, 2, none⟩) (Kd.R_far (p := ⟨gb711, 1, none⟩) (Kd.R_far (p := ⟨gb711, 0, none⟩) (Kd.R_far (p := ⟨gb710, 2, none⟩) (Kd.R_far (p := ⟨gb710, 1, none⟩) (Kd.R_far (p := ⟨gb710, 0, none⟩) (Kd.R_types (Kd.R_types HO717.out BK710.out (by decide)) BK711.out (by decide)) (fun _ hk => hk.1.2) (.slice Ao11 t712.length co11)) (fun _ hk => hk.1.2) (.slice Ao13 t715.length co13)) (fun _ hk => hk.1.2) (.slice Ao15 t718.length co15)) (fun _ hk => hk.2) (.slice Ao11 t712.length co11)) (fun _ hk => hk.2) (.slice Ao13 t715.length co13)) (fun _ hk => hk.2) (.slice Ao15 t718.length co15)) (fun _ hk => hk.2) (.int .i64 a0_3)) (fun _ hk => hk.2) (.int .i64 a0_4)) (fun _ hk => hk.1.1.2), by (with_reducible repeat (first | apply Kd.R_alloc | apply Kd.R_drewN | apply Kd.R_drew)); exact Kd.R_mono (Kd.R_far (p := ⟨gb711, 4, none⟩) (Kd.R_far (p := ⟨gb711, 3, none⟩) (Kd.R_far (p := ⟨gb711, 2, none⟩) (Kd.R_far (p := ⟨gb711, 1, none⟩) (Kd.R_far (p := ⟨gb711, 0, none⟩) (Kd.R_far (p := ⟨gb710, 2, none⟩) (Kd.R_far (p := ⟨gb710, 1, none⟩) (Kd.R_far (p := ⟨gb710, 0, none⟩) (Kd.R_types (Kd.R_types HO720.out BK710.out (by decide)) BK711.out (by decide)) (fun _ hk => hk.1.2) (.slice Ao11 t712.length co11)) (fun _ hk => hk.1.2) (.slice Ao13 t715.length co13)) (fun _ hk => hk.1.2) (.slice Ao15 t718.length co15)) (fun _ hk => hk.2) (.slice Ao11 t712.length co11)) (fun _ hk => hk.2) (.slice Ao13 t715.length co13)) (fun _ hk => hk.2) (.slice Ao15 t718.length co15)) (fun _ hk => hk.2) (.int .i64 a0_3)) (fun _ hk => hk.2) (.int .i64 a0_4)) (fun _ hk => hk.1.1.2), lb2_ HB.out GE710.out GE711.out⟩
theorem goAlong_calls (g : Nat) (vL vV vD : Value) (L : List S37) (V D : List Bool) (p t a b tp c s m : Int) (w0 w : World) (hS : ExS w w0.heap.size g vL vV vD L V D p t) (hB : Below w0.heap.size w0 w) (h0 : 0 ≤ wrap64 (wrap64 (a + b) - p)) (h1 : wrap64 (wrap64 (a + b) - p) < (V.length : Int)) :
  Calls Try.prog 119 #[.pointer (some ⟨g, 0, none⟩), .agg #[.int .i64 a, .int .i64 b, .int .i64 tp, .int .i64 c, .int .i64 s], .int .i64 m] w fun e w' => e = .returned (.tuple #[]) ∧ ExS w' w0.heap.size g vL vV vD L (V.set (wrap64 (wrap64 (a + b) - p)).toNat true) D (wrap64 (wrap64 (a + b) - p)) (wrap64 (t - wrap64 (m * tp))) ∧ Below w0.heap.size w0 w' := by
 have hgw : g < w.heap.size := blk_lt hS.blk
 obtain ⟨gv, cap, rfl, hgv, hcap, _⟩ := own_block_ hS.rV (by omega)
 have hx0 := blk_new w (.cells #[.int .i64 a, .int .i64 b, .int .i64 tp, .int .i64 c, .int .i64 s] 37 (0, 0))
 have hS1 := hS.below (below_alloc (Below.refl _ w) (.cells #[.int .i64 a, .int .i64 b, .int .i64 tp, .int .i64 c, .int .i64 s] 37 (0, 0)))
 have hB1 := below_alloc hB (.cells #[.int .i64 a, .int .i64 b, .int .i64 tp, .int .i64 c, .int .i64 s] 37 (0, 0))
 have HX := Aside0.mk hx0
 have HS := Aside0.mk hS1
 have HB := Aside0.mk hB1
 have hne : w.heap.size ≠ g := by omega
 have hgv' : Aside0 (gv < w.heap.size) := ⟨((Kd.R_bound hS.rV).1 gv rfl).2.2.1⟩
 clear hS hx0 hS1 hB1 hB
 go_enter Try.func119, Try.ntmps119
 go_wp2_with fail
 have hW : Aside0 ((w.alloc (.cells #[.int .i64 a, .int .i64 b, .int .i64 tp, .int .i64 c, .int .i64 s] 37)).heap.size = w.heap.size + 1) := ⟨heap_size_ _ _⟩
 generalize w.alloc (.cells #[.int .i64 a, .int .i64 b, .int .i64 tp, .int .i64 c, .int .i64 s] 37) = W at HX HS HB hW ⊢
 have x0 : W.cell? ⟨w.heap.size, 0, none⟩ = some (.int .i64 a) := (blk_cell HX.out 0).trans rfl
 have x1 : W.cell? ⟨w.heap.size, 1, none⟩ = some (.int .i64 b) := (blk_cell HX.out 1).trans rfl
 have g3 : W.cell? ⟨g, 3, none⟩ = some (.int .i64 p) := (blk_cell HS.out.blk 3).trans rfl
 have z3 := blk_frozen HS.out.blk 3
 go_still_tail 13, (by kernel_rfl)
 go_wp2_with fail
 have n1 := Aside0.mk (blk_drew (blk_far (p := ⟨g, 3, none⟩) HX.out hne (.int .i64 (wrap64 (wrap64 (a + b) - p)))))
 have n2 := Aside0.mk ((HS.out.put3 (wrap64 (wrap64 (a + b) - p))).below (below_drew (Below.refl _ _)))
 have n3 := Aside0.mk (below_drew (below_set (j := 3) (v := .int .i64 (wrap64 (wrap64 (a + b) - p))) HB.out HS.out.gb))
 clear HX HS HB hW x0 x1 g3 z3
 have HX := n1
 have HS := n2
 have HB := n3
 clear n1 n2 n3
 generalize (W.setCell ⟨g, 3, none⟩ (.int .i64 (wrap64 (wrap64 (a + b) - p)))).drew = W2 at HX HS HB ⊢
 clear W
 have hpw : IntKind.i64.wrap (IntKind.i64.wrap (a + b) - p) = wrap64 (wrap64 (a + b) - p) := by rw [i64_w, i64_w]
 generalize hq : wrap64 (wrap64 (a + b) - p) = q at h0 h1 HS hpw ⊢
 have g1 : W2.cell? ⟨g, 1, none⟩ = some (.slice (some ⟨gv, 0, none⟩) V.length cap) := (blk_cell HS.out.blk 1).trans rfl
 have g3 : W2.cell? ⟨g, 3, none⟩ = some (.int .i64 q) := (blk_cell HS.out.blk 3).trans rfl
 obtain ⟨yv, zv⟩ := Kd.R_celln false HS.out.rV q h0 h1
 go_still_tail 9, (by kernel_rfl)
 go_wp2_with fail
 have hgvg : gv ≠ w.heap.size := by have := hgv'.out; omega
 have n1 := Aside0.mk (blk_drew (blk_far (p := ⟨gv, q.toNat, none⟩) HX.out hgvg.symm (.bool true)))
 have n2 := Aside0.mk ((HS.out.putV q true).below (below_drew (Below.refl _ _)))
 have n3 := Aside0.mk (below_drew (below_set (j := q.toNat) (v := .bool true) HB.out hgv))
 clear HX HS HB g1 g3 yv zv
 have HX := n1
 have HS := n2
 have HB := n3
 clear n1 n2 n3
 generalize (W2.setCell ⟨gv, q.toNat, none⟩ (.bool true)).drew = W3 at HX HS HB ⊢
 clear W2
 have x2 : W3.cell? ⟨w.heap.size, 2, none⟩ = some (.int .i64 tp) := (blk_cell HX.out 2).trans rfl
 have g4 : W3.cell? ⟨g, 4, none⟩ = some (.int .i64 t) := (blk_cell HS.out.blk 4).trans rfl
 have z4 := blk_frozen HS.out.blk 4
 go_still_tail 11, (by kernel_rfl)
 go_wp2_with fail

 go_end0
 rw [hq]
 exact ⟨rfl, (HS.out.put4 (wrap64 (t - wrap64 (m * tp)))).below (below_drew (Below.refl _ _)), below_drew (below_set (j := 4) (v := .int .i64 (wrap64 (t - wrap64 (m * tp)))) HB.out HS.out.gb)⟩
def walk_f (L : List S37) (V D : List Bool) (p t k i a b tp c s : Int) : Option (List S37 × List Bool × List Bool × Int × Int × Bool) :=
 if (k ≠ 2 ∧ ¬ (a = 0 ∧ b = 0 ∧ tp = 0 ∧ c = 0 ∧ s = 0)) ∨ ((k = 2 ∨ k = 3) ∧ i ≠ 0) then some (L, V, D, p, t, false)
 else if k = 1 then
  (if 0 ≤ i ∧ i ≤ wrap64 ((L.length : Int) - 1) then
   (if (rd_T37 L i).f0 ≠ p ∧ (rd_T37 L i).f1 ≠ p then some (L, V, D, p, t, false)
   else if 0 ≤ wrap64 (wrap64 ((rd_T37 L i).f0 + (rd_T37 L i).f1) - p) ∧ wrap64 (wrap64 ((rd_T37 L i).f0 + (rd_T37 L i).f1) - p) < (V.length : Int) then
    some (L, V.set (wrap64 (wrap64 ((rd_T37 L i).f0 + (rd_T37 L i).f1) - p)).toNat true, D, wrap64 (wrap64 ((rd_T37 L i).f0 + (rd_T37 L i).f1) - p), wrap64 (t - wrap64 (1 * (rd_T37 L i).f2)), true)
   else none)
  else some (L, V, D, p, t, false))
 else if k = 2 then
  (impl_IsLeg.f a b tp c s).bind fun ok => if ok = true ∧ a = p then
   (if L.length < 1000000 ∧ 0 ≤ wrap64 (wrap64 (a + b) - p) ∧ wrap64 (wrap64 (a + b) - p) < (V.length : Int) then
    some (L ++ [⟨a, b, tp, c, s⟩], V.set (wrap64 (wrap64 (a + b) - p)).toNat true, D, wrap64 (wrap64 (a + b) - p), wrap64 (t - wrap64 (3 * tp)), true)
   else none)
  else some (L, V, D, p, t, false)
 else if k = 3 then
  (if 0 ≤ p ∧ p < (D.length : Int) then (if rdOf false D p = true then some (L, V, D, p, t, false) else some (L, V, D.set p.toNat true, p, t, true)) else none)
 else if k = 4 then
  (if p = 0 ∧ 1 ≤ i ∧ i ≤ 1000 then some (L, V, D, p, wrap64 (t + i), true) else some (L, V, D, p, t, false))
 else some (L, V, D, p, t, false)
def walk6.T : Bool × List (List Nat × List Nat) := (true, [([], []), ([0], [0]), ([], []), ([2], [2]), ([3], [3]), ([4], [4]), ([5], [5]), ([6], [6]), ([1, 7], [1, 7]), ([8], [8]), ([9, 8], [9]), ([10], [10]), ([11, 10], [10, 11]), ([12, 10], [10, 12]), ([13, 10], [10, 13]), ([10], [10]), ([15, 10], [10, 15]), ([14, 16, 10], [10, 14, 16]), ([17, 10], [10, 17]), ([18, 10], [10, 18]), ([10], [10]), ([20, 10], [10, 20]), ([21, 10], [10, 21]), ([22, 10], [10, 22]), ([19, 23, 10], [10, 19, 23]), ([24, 10, 10], [10, 24]), ([25], [25]), ([26, 25], [25, 26]), ([27, 25], [25, 27]), ([28, 25], [25, 28]), ([25], [25]), ([30, 25], [25, 30]), ([29, 31, 25], [25, 29, 31]), ([32, 25], [25, 32]), ([33, 25], [25, 33]), ([25], [25]), ([35, 25], [25, 35]), ([36, 25], [25, 36]), ([37, 25], [25, 37]), ([34, 38, 25], [25, 34, 38]), ([25, 39, 10], [10, 25, 39]), ([10, 40], [10, 40])])
def walk6.B : List Nat := [0, 1, 0, 4, 12, 28, 60, 124, 255, 511, 1023, 2047, 4095, 8191, 16383, 2047, 34815, 131071, 262143, 524287, 2047, 1050623, 3147775, 7342079, 16777215, 33554431, 67108863, 134217727, 268435455, 536870911, 67108863, 1140850687, 4294967295, 8589934591, 17179869183, 67108863, 34426847231, 103146323967, 240585277439, 549755813887, 1099511627775, 2199023255551]
theorem walk6.tab : rtab .any (opsOf Try.f105 6) = walk6.T := by kernel_rfl
theorem walk6.bits : waitsOk walk6.T.2 walk6.B = true := by kernel_rfl
abbrev walk6.mk0 : Array Bool := #[fF,fF,fF,fF,fF,fF,fF,fF,fF,fF,fF,fF,fF,fF,fF,fF,fF,fF,fF,fF,fF,fF,fF,fF,fF,fF,fF,fF,fF,fF,fF,fF,fF,fF,fF,fF,fF,fF,fF,fF,fF,fF]
abbrev walk6.mk1 : Array Bool := #[tT,fF,fF,fF,fF,fF,fF,fF,fF,fF,fF,fF,fF,fF,fF,fF,fF,fF,fF,fF,fF,fF,fF,fF,fF,fF,fF,fF,fF,fF,fF,fF,fF,fF,fF,fF,fF,fF,fF,fF,fF,fF]
abbrev walk6.mk2 : Array Bool := #[tT,fF,tT,fF,fF,fF,fF,fF,fF,fF,fF,fF,fF,fF,fF,fF,fF,fF,fF,fF,fF,fF,fF,fF,fF,fF,fF,fF,fF,fF,fF,fF,fF,fF,fF,fF,fF,fF,fF,fF,fF,fF]
abbrev walk6.mk3 : Array Bool := #[tT,fF,tT,tT,fF,fF,fF,fF,fF,fF,fF,fF,fF,fF,fF,fF,fF,fF,fF,fF,fF,fF,fF,fF,fF,fF,fF,fF,fF,fF,fF,fF,fF,fF,fF,fF,fF,fF,fF,fF,fF,fF]
abbrev walk6.mk4 : Array Bool := #[tT,fF,tT,tT,tT,fF,fF,fF,fF,fF,fF,fF,fF,fF,fF,fF,fF,fF,fF,fF,fF,fF,fF,fF,fF,fF,fF,fF,fF,fF,fF,fF,fF,fF,fF,fF,fF,fF,fF,fF,fF,fF]
abbrev walk6.mk5 : Array Bool := #[tT,tT,tT,tT,tT,fF,fF,fF,fF,fF,fF,fF,fF,fF,fF,fF,fF,fF,fF,fF,fF,fF,fF,fF,fF,fF,fF,fF,fF,fF,fF,fF,fF,fF,fF,fF,fF,fF,fF,fF,fF,fF]
abbrev walk6.mk6 : Array Bool := #[tT,tT,tT,tT,tT,tT,fF,fF,fF,fF,fF,fF,fF,fF,fF,fF,fF,fF,fF,fF,fF,fF,fF,fF,fF,fF,fF,fF,fF,fF,fF,fF,fF,fF,fF,fF,fF,fF,fF,fF,fF,fF]
abbrev walk6.mk7 : Array Bool := #[tT,tT,tT,tT,tT,tT,tT,fF,fF,fF,fF,fF,fF,fF,fF,fF,fF,fF,fF,fF,fF,fF,fF,fF,fF,fF,fF,fF,fF,fF,fF,fF,fF,fF,fF,fF,fF,fF,fF,fF,fF,fF]
abbrev walk6.mk8 : Array Bool := #[tT,tT,tT,tT,tT,tT,tT,tT,fF,fF,fF,fF,fF,fF,fF,fF,fF,fF,fF,fF,fF,fF,fF,fF,fF,fF,fF,fF,fF,fF,fF,fF,fF,fF,fF,fF,fF,fF,fF,fF,fF,fF]
abbrev walk6.mk9 : Array Bool := #[tT,tT,tT,tT,tT,tT,tT,tT,tT,fF,fF,fF,fF,fF,fF,fF,fF,fF,fF,fF,fF,fF,fF,fF,fF,fF,fF,fF,fF,fF,fF,fF,fF,fF,fF,fF,fF,fF,fF,fF,fF,fF]
abbrev walk6.mk10 : Array Bool := #[tT,tT,tT,tT,tT,tT,tT,tT,tT,tT,fF,fF,fF,fF,fF,fF,fF,fF,fF,fF,fF,fF,fF,fF,fF,fF,fF,fF,fF,fF,fF,fF,fF,fF,fF,fF,fF,fF,fF,fF,fF,fF]
abbrev walk6.mk11 : Array Bool := #[tT,tT,tT,tT,tT,tT,tT,tT,tT,tT,tT,fF,fF,fF,fF,fF,fF,fF,fF,fF,fF,fF,fF,fF,fF,fF,fF,fF,fF,fF,fF,fF,fF,fF,fF,fF,fF,fF,fF,fF,fF,fF]
abbrev walk6.mk12 : Array Bool := #[tT,tT,tT,tT,tT,tT,tT,tT,tT,tT,tT,tT,fF,fF,fF,fF,fF,fF,fF,fF,fF,fF,fF,fF,fF,fF,fF,fF,fF,fF,fF,fF,fF,fF,fF,fF,fF,fF,fF,fF,fF,fF]
abbrev walk6.mk13 : Array Bool := #[tT,tT,tT,tT,tT,tT,tT,tT,tT,tT,tT,tT,tT,fF,fF,fF,fF,fF,fF,fF,fF,fF,fF,fF,fF,fF,fF,fF,fF,fF,fF,fF,fF,fF,fF,fF,fF,fF,fF,fF,fF,fF]
abbrev walk6.mk14 : Array Bool := #[tT,tT,tT,tT,tT,tT,tT,tT,tT,tT,tT,tT,tT,tT,fF,fF,fF,fF,fF,fF,fF,fF,fF,fF,fF,fF,fF,fF,fF,fF,fF,fF,fF,fF,fF,fF,fF,fF,fF,fF,fF,fF]
abbrev walk6.mk15 : Array Bool := #[tT,tT,tT,tT,tT,tT,tT,tT,tT,tT,tT,tT,tT,tT,fF,tT,fF,fF,fF,fF,fF,fF,fF,fF,fF,fF,fF,fF,fF,fF,fF,fF,fF,fF,fF,fF,fF,fF,fF,fF,fF,fF]
abbrev walk6.mk16 : Array Bool := #[tT,tT,tT,tT,tT,tT,tT,tT,tT,tT,tT,tT,tT,tT,fF,tT,fF,fF,fF,fF,tT,fF,fF,fF,fF,fF,fF,fF,fF,fF,fF,fF,fF,fF,fF,fF,fF,fF,fF,fF,fF,fF]
abbrev walk6.mk17 : Array Bool := #[tT,tT,tT,tT,tT,tT,tT,tT,tT,tT,tT,tT,tT,tT,fF,tT,fF,fF,fF,fF,tT,tT,fF,fF,fF,fF,fF,fF,fF,fF,fF,fF,fF,fF,fF,fF,fF,fF,fF,fF,fF,fF]
abbrev walk6.mk18 : Array Bool := #[tT,tT,tT,tT,tT,tT,tT,tT,tT,tT,tT,tT,tT,tT,fF,tT,fF,fF,fF,fF,tT,tT,tT,fF,fF,fF,fF,fF,fF,fF,fF,fF,fF,fF,fF,fF,fF,fF,fF,fF,fF,fF]
abbrev walk6.mk19 : Array Bool := #[tT,tT,tT,tT,tT,tT,tT,tT,tT,tT,tT,tT,tT,tT,tT,tT,fF,fF,fF,fF,tT,tT,tT,fF,fF,fF,fF,fF,fF,fF,fF,fF,fF,fF,fF,fF,fF,fF,fF,fF,fF,fF]
abbrev walk6.mk20 : Array Bool := #[tT,tT,tT,tT,tT,tT,tT,tT,tT,tT,tT,tT,tT,tT,tT,tT,tT,fF,fF,fF,tT,tT,tT,fF,fF,fF,fF,fF,fF,fF,fF,fF,fF,fF,fF,fF,fF,fF,fF,fF,fF,fF]
abbrev walk6.mk21 : Array Bool := #[tT,tT,tT,tT,tT,tT,tT,tT,tT,tT,tT,tT,tT,tT,tT,tT,tT,tT,fF,fF,tT,tT,tT,fF,fF,fF,fF,fF,fF,fF,fF,fF,fF,fF,fF,fF,fF,fF,fF,fF,fF,fF]
abbrev walk6.mk22 : Array Bool := #[tT,tT,tT,tT,tT,tT,tT,tT,tT,tT,tT,tT,tT,tT,tT,tT,tT,tT,tT,fF,tT,tT,tT,fF,fF,fF,fF,fF,fF,fF,fF,fF,fF,fF,fF,fF,fF,fF,fF,fF,fF,fF]
abbrev walk6.mk23 : Array Bool := #[tT,tT,tT,tT,tT,tT,tT,tT,tT,tT,tT,tT,tT,tT,tT,tT,tT,tT,tT,tT,tT,tT,tT,fF,fF,fF,fF,fF,fF,fF,fF,fF,fF,fF,fF,fF,fF,fF,fF,fF,fF,fF]
abbrev walk6.mk24 : Array Bool := #[tT,tT,tT,tT,tT,tT,tT,tT,tT,tT,tT,tT,tT,tT,tT,tT,tT,tT,tT,tT,tT,tT,tT,tT,fF,fF,fF,fF,fF,fF,fF,fF,fF,fF,fF,fF,fF,fF,fF,fF,fF,fF]
abbrev walk6.mk25 : Array Bool := #[tT,tT,tT,tT,tT,tT,tT,tT,tT,tT,tT,tT,tT,tT,tT,tT,tT,tT,tT,tT,tT,tT,tT,tT,tT,fF,fF,fF,fF,fF,fF,fF,fF,fF,fF,fF,fF,fF,fF,fF,fF,fF]
abbrev walk6.mk26 : Array Bool := #[tT,tT,tT,tT,tT,tT,tT,tT,tT,tT,tT,tT,tT,tT,tT,tT,tT,tT,tT,tT,tT,tT,tT,tT,tT,tT,fF,fF,fF,fF,fF,fF,fF,fF,fF,fF,fF,fF,fF,fF,fF,fF]
abbrev walk6.mk27 : Array Bool := #[tT,tT,tT,tT,tT,tT,tT,tT,tT,tT,tT,tT,tT,tT,tT,tT,tT,tT,tT,tT,tT,tT,tT,tT,tT,tT,tT,fF,fF,fF,fF,fF,fF,fF,fF,fF,fF,fF,fF,fF,fF,fF]
abbrev walk6.mk28 : Array Bool := #[tT,tT,tT,tT,tT,tT,tT,tT,tT,tT,tT,tT,tT,tT,tT,tT,tT,tT,tT,tT,tT,tT,tT,tT,tT,tT,tT,tT,fF,fF,fF,fF,fF,fF,fF,fF,fF,fF,fF,fF,fF,fF]
abbrev walk6.mk29 : Array Bool := #[tT,tT,tT,tT,tT,tT,tT,tT,tT,tT,tT,tT,tT,tT,tT,tT,tT,tT,tT,tT,tT,tT,tT,tT,tT,tT,tT,tT,tT,fF,fF,fF,fF,fF,fF,fF,fF,fF,fF,fF,fF,fF]
abbrev walk6.mk30 : Array Bool := #[tT,tT,tT,tT,tT,tT,tT,tT,tT,tT,tT,tT,tT,tT,tT,tT,tT,tT,tT,tT,tT,tT,tT,tT,tT,tT,tT,tT,tT,fF,tT,fF,fF,fF,fF,fF,fF,fF,fF,fF,fF,fF]
abbrev walk6.mk31 : Array Bool := #[tT,tT,tT,tT,tT,tT,tT,tT,tT,tT,tT,tT,tT,tT,tT,tT,tT,tT,tT,tT,tT,tT,tT,tT,tT,tT,tT,tT,tT,fF,tT,fF,fF,fF,fF,tT,fF,fF,fF,fF,fF,fF]
abbrev walk6.mk32 : Array Bool := #[tT,tT,tT,tT,tT,tT,tT,tT,tT,tT,tT,tT,tT,tT,tT,tT,tT,tT,tT,tT,tT,tT,tT,tT,tT,tT,tT,tT,tT,fF,tT,fF,fF,fF,fF,tT,tT,fF,fF,fF,fF,fF]
abbrev walk6.mk33 : Array Bool := #[tT,tT,tT,tT,tT,tT,tT,tT,tT,tT,tT,tT,tT,tT,tT,tT,tT,tT,tT,tT,tT,tT,tT,tT,tT,tT,tT,tT,tT,fF,tT,fF,fF,fF,fF,tT,tT,tT,fF,fF,fF,fF]
abbrev walk6.mk34 : Array Bool := #[tT,tT,tT,tT,tT,tT,tT,tT,tT,tT,tT,tT,tT,tT,tT,tT,tT,tT,tT,tT,tT,tT,tT,tT,tT,tT,tT,tT,tT,tT,tT,fF,fF,fF,fF,tT,tT,tT,fF,fF,fF,fF]
abbrev walk6.mk35 : Array Bool := #[tT,tT,tT,tT,tT,tT,tT,tT,tT,tT,tT,tT,tT,tT,tT,tT,tT,tT,tT,tT,tT,tT,tT,tT,tT,tT,tT,tT,tT,tT,tT,tT,fF,fF,fF,tT,tT,tT,fF,fF,fF,fF]
abbrev walk6.mk36 : Array Bool := #[tT,tT,tT,tT,tT,tT,tT,tT,tT,tT,tT,tT,tT,tT,tT,tT,tT,tT,tT,tT,tT,tT,tT,tT,tT,tT,tT,tT,tT,tT,tT,tT,tT,fF,fF,tT,tT,tT,fF,fF,fF,fF]
abbrev walk6.mk37 : Array Bool := #[tT,tT,tT,tT,tT,tT,tT,tT,tT,tT,tT,tT,tT,tT,tT,tT,tT,tT,tT,tT,tT,tT,tT,tT,tT,tT,tT,tT,tT,tT,tT,tT,tT,tT,fF,tT,tT,tT,fF,fF,fF,fF]
abbrev walk6.mk38 : Array Bool := #[tT,tT,tT,tT,tT,tT,tT,tT,tT,tT,tT,tT,tT,tT,tT,tT,tT,tT,tT,tT,tT,tT,tT,tT,tT,tT,tT,tT,tT,tT,tT,tT,tT,tT,tT,tT,tT,tT,fF,fF,fF,fF]
abbrev walk6.mk39 : Array Bool := #[tT,tT,tT,tT,tT,tT,tT,tT,tT,tT,tT,tT,tT,tT,tT,tT,tT,tT,tT,tT,tT,tT,tT,tT,tT,tT,tT,tT,tT,tT,tT,tT,tT,tT,tT,tT,tT,tT,tT,fF,fF,fF]
abbrev walk6.mk40 : Array Bool := #[tT,tT,tT,tT,tT,tT,tT,tT,tT,tT,tT,tT,tT,tT,tT,tT,tT,tT,tT,tT,tT,tT,tT,tT,tT,tT,tT,tT,tT,tT,tT,tT,tT,tT,tT,tT,tT,tT,tT,tT,fF,fF]
abbrev walk6.mk41 : Array Bool := #[tT,tT,tT,tT,tT,tT,tT,tT,tT,tT,tT,tT,tT,tT,tT,tT,tT,tT,tT,tT,tT,tT,tT,tT,tT,tT,tT,tT,tT,tT,tT,tT,tT,tT,tT,tT,tT,tT,tT,tT,tT,fF]
abbrev walk6.mk42 : Array Bool := #[tT,tT,tT,tT,tT,tT,tT,tT,tT,tT,tT,tT,tT,tT,tT,tT,tT,tT,tT,tT,tT,tT,tT,tT,tT,tT,tT,tT,tT,tT,tT,tT,tT,tT,tT,tT,tT,tT,tT,tT,tT,tT]
def walk8.T : Bool × List (List Nat × List Nat) := (true, [([], []), ([], []), ([1], [1]), ([2], [2]), ([3], [3]), ([], []), ([5], [5]), ([4, 6], [4, 6]), ([7], [7]), ([0, 8], [0, 8])])
def walk8.B : List Nat := [0, 0, 2, 6, 14, 0, 32, 126, 254, 511]
theorem walk8.tab : rtab .any (opsOf Try.f105 8) = walk8.T := by kernel_rfl
theorem walk8.bits : waitsOk walk8.T.2 walk8.B = true := by kernel_rfl
abbrev walk8.mk0 : Array Bool := #[fF,fF,fF,fF,fF,fF,fF,fF,fF,fF]
abbrev walk8.mk1 : Array Bool := #[tT,fF,fF,fF,fF,fF,fF,fF,fF,fF]
abbrev walk8.mk2 : Array Bool := #[tT,tT,fF,fF,fF,fF,fF,fF,fF,fF]
abbrev walk8.mk3 : Array Bool := #[tT,tT,tT,fF,fF,fF,fF,fF,fF,fF]
abbrev walk8.mk4 : Array Bool := #[tT,tT,tT,tT,fF,fF,fF,fF,fF,fF]
abbrev walk8.mk5 : Array Bool := #[tT,tT,tT,tT,fF,tT,fF,fF,fF,fF]
abbrev walk8.mk6 : Array Bool := #[tT,tT,tT,tT,tT,tT,fF,fF,fF,fF]
abbrev walk8.mk7 : Array Bool := #[tT,tT,tT,tT,tT,tT,tT,fF,fF,fF]
abbrev walk8.mk8 : Array Bool := #[tT,tT,tT,tT,tT,tT,tT,tT,fF,fF]
abbrev walk8.mk9 : Array Bool := #[tT,tT,tT,tT,tT,tT,tT,tT,tT,fF]
abbrev walk8.mk10 : Array Bool := #[tT,tT,tT,tT,tT,tT,tT,tT,tT,tT]
theorem walk_k1A (g : Nat) (vL vV vD : Value) (L : List S37) (V D : List Bool) (p t i : Int) (w0 w : World) (hS : ExS w w0.heap.size g vL vV vD L V D p t) (hB : Below w0.heap.size w0 w) (hwi : impl_within.f i 0 (wrap64 ((L.length : Int) - 1)) = some false) :
  Calls Try.prog 105 #[.pointer (some ⟨g, 0, none⟩), .agg #[.int .i64 1, .int .i64 i, .int .i64 0, .int .i64 0, .int .i64 0, .int .i64 0, .int .i64 0]] w fun e w' => e = .returned (.bool false) ∧ ExS w' w0.heap.size g vL vV vD L V D p t ∧ Below w0.heap.size w0 w' := by
 have hgw : g < w.heap.size := blk_lt hS.blk
 have hne : w.heap.size ≠ g := by omega
 have hu1 := Try.underlying39
 have hu2 := Try.underlying30
 have hu3 := Try.underlying37
 have hu4 := Try.underlying28
 obtain ⟨A0, c0, rfl⟩ := Kd.R_slice hS.rL
 have HX := Aside0.mk (blk_new w (.cells #[.int .i64 1, .int .i64 i, .int .i64 0, .int .i64 0, .int .i64 0, .int .i64 0, .int .i64 0] 39 (0, 0)))
 have HS := Aside0.mk (hS.below (below_alloc (Below.refl _ w) (.cells #[.int .i64 1, .int .i64 i, .int .i64 0, .int .i64 0, .int .i64 0, .int .i64 0, .int .i64 0] 39 (0, 0))))
 have HB := Aside0.mk (below_alloc hB (.cells #[.int .i64 1, .int .i64 i, .int .i64 0, .int .i64 0, .int .i64 0, .int .i64 0, .int .i64 0] 39 (0, 0)))
 clear hS hB
 go_enter Try.func105, Try.ntmps105
 go_wp2_with fail
 generalize w.alloc (.cells #[.int .i64 1, .int .i64 i, .int .i64 0, .int .i64 0, .int .i64 0, .int .i64 0, .int .i64 0] 39) = W at HX HS HB ⊢
 replace HX := Aside0.mk (blk_drew HX.out)
 replace HS := Aside0.mk (HS.out.below (below_drew (Below.refl _ W)))
 replace HB := Aside0.mk (below_drew HB.out)
 refine start_ (n := 42) (S := fun w' => w'.cell? ⟨w.heap.size, 1, none⟩ = some (.int .i64 i) ∧ w'.cell? ⟨g, 0, none⟩ = some (.slice A0 L.length c0) ∧ w'.cell? ⟨g, 3, none⟩ = some (.int .i64 p)) (ds := []) walk6.mk0 (by kernel_rfl) rfl rfl ⟨(blk_cell HX.out 1).trans rfl, (blk_cell HS.out.blk 0).trans rfl, (blk_cell HS.out.blk 3).trans rfl⟩ (fun hHeld => ?_); refine with_tabW walk6.tab walk6.bits (fun HT_ HW_ => ?_)
 generalize W.drew = W1 at HX HS HB hHeld ⊢
 refine pz_ HT_ 0 (some 33) walk6.mk1 ?_
 refine pz_ HT_ 2 (some 35) walk6.mk2 ?_
 refine pz_ HT_ 3 (some 36) walk6.mk3 ?_
 refine pz_ HT_ 4 (some 37) walk6.mk4 ?_
 refine tk_ HT_ HW_ hHeld 1 (some 34) walk6.mk5 ?_
 refine tk_ HT_ HW_ hHeld 5 (some 38) walk6.mk6 ?_
 refine pz_ HT_ 6 (some 39) walk6.mk7 ?_
 refine pz_ HT_ 7 (some 40) walk6.mk8 ?_
 refine one_ (i := 8) (N := some 41) walk6.mk9 rfl rfl (one_of HT_.out (by kernel_rfl)) (by decide) (fun K hK => ?_)
 refine gs_ Try.func71 #[.int .i64 i, .int .i64 0, .int .i64 (wrap64 ((L.length : Int) - 1))] ?_
 refine (impl_within.calls i 0 (wrap64 ((L.length : Int) - 1)) false _ hwi).mono ?_
 rintro e w1 ⟨rfl, ⟨n1_, rfl⟩⟩
 refine ⟨_, rfl, ?_⟩
 replace HX := Aside0.mk (blk_drewN HX.out n1_)
 replace HS := Aside0.mk (HS.out.below (pw_below_drewN (Below.refl _ _) n1_))
 replace HB := Aside0.mk (pw_below_drewN HB.out n1_)
 refine hK.out _ _ ⟨(blk_cell HX.out 1).trans rfl, (blk_cell HS.out.blk 0).trans rfl, (blk_cell HS.out.blk 3).trans rfl⟩ (fun hHeld => ?_)
 clear hK K
 refine na_ ?_
 generalize W1.drewN n1_ = W2 at HX HS HB hHeld ⊢
 refine pz_ HT_ 9 (some 42) walk6.mk10 ?_
 refine pz_ HT_ 10 (some 43) walk6.mk11 ?_
 refine pu_ HT_ 11 (some 44) walk6.mk12 ?_
 refine pu_ HT_ 12 (some 45) walk6.mk13 ?_
 refine pu_ HT_ 13 (some 46) walk6.mk14 ?_
 refine pu_ HT_ 15 (some 48) walk6.mk15 ?_
 refine pu_ HT_ 20 (some 53) walk6.mk16 ?_
 refine pu_ HT_ 21 (some 54) walk6.mk17 ?_
 refine pu_ HT_ 22 (some 55) walk6.mk18 ?_
 refine pu_ HT_ 14 (some 47) walk6.mk19 ?_
 refine pu_ HT_ 16 (some 49) walk6.mk20 ?_
 refine pu_ HT_ 17 (some 50) walk6.mk21 ?_
 refine pu_ HT_ 18 (some 51) walk6.mk22 ?_
 refine pu_ HT_ 19 (some 52) walk6.mk23 ?_
 refine pu_ HT_ 23 (some 56) walk6.mk24 ?_
 refine pu_ HT_ 24 (some 57) walk6.mk25 ?_
 refine pu_ HT_ 25 (some 58) walk6.mk26 ?_
 refine pu_ HT_ 26 (some 59) walk6.mk27 ?_
 refine pu_ HT_ 27 (some 60) walk6.mk28 ?_
 refine pu_ HT_ 28 (some 61) walk6.mk29 ?_
 refine pu_ HT_ 30 (some 63) walk6.mk30 ?_
 refine pu_ HT_ 35 (some 68) walk6.mk31 ?_
 refine pu_ HT_ 36 (some 69) walk6.mk32 ?_
 refine pu_ HT_ 37 (some 70) walk6.mk33 ?_
 refine pu_ HT_ 29 (some 62) walk6.mk34 ?_
 refine pu_ HT_ 31 (some 64) walk6.mk35 ?_
 refine pu_ HT_ 32 (some 65) walk6.mk36 ?_
 refine pu_ HT_ 33 (some 66) walk6.mk37 ?_
 refine pu_ HT_ 34 (some 67) walk6.mk38 ?_
 refine pu_ HT_ 38 (some 71) walk6.mk39 ?_
 refine pu_ HT_ 39 (some 72) walk6.mk40 ?_
 refine pu_ HT_ 40 (some 73) walk6.mk41 ?_
 refine pz_ HT_ 41 (some 74) walk6.mk42 ?_
 refine done_ (done_of HT_.out (by kernel_rfl)) ?_
 go_wp2_with fail
 go_ret
 exact ⟨rfl, HS.out, HB.out⟩
theorem walk_k1B (g : Nat) (vL vV vD : Value) (L : List S37) (V D : List Bool) (p t i : Int) (w0 w : World) (hS : ExS w w0.heap.size g vL vV vD L V D p t) (hB : Below w0.heap.size w0 w) (hwi : impl_within.f i 0 (wrap64 ((L.length : Int) - 1)) = some true) (hi0 : 0 ≤ i) (hi1 : i < (L.length : Int)) (hf0 : (rd_T37 L i).f0 = p) (h0 : 0 ≤ wrap64 (wrap64 ((rd_T37 L i).f0 + (rd_T37 L i).f1) - p)) (h1 : wrap64 (wrap64 ((rd_T37 L i).f0 + (rd_T37 L i).f1) - p) < (V.length : Int)) :
  Calls Try.prog 105 #[.pointer (some ⟨g, 0, none⟩), .agg #[.int .i64 1, .int .i64 i, .int .i64 0, .int .i64 0, .int .i64 0, .int .i64 0, .int .i64 0]] w fun e w' => e = .returned (.bool true) ∧ ExS w' w0.heap.size g vL vV vD L (V.set (wrap64 (wrap64 ((rd_T37 L i).f0 + (rd_T37 L i).f1) - p)).toNat true) D (wrap64 (wrap64 ((rd_T37 L i).f0 + (rd_T37 L i).f1) - p)) (wrap64 (t - wrap64 (1 * (rd_T37 L i).f2))) ∧ Below w0.heap.size w0 w' := by
 have hgw : g < w.heap.size := blk_lt hS.blk
 have hne : w.heap.size ≠ g := by omega
 have hu1 := Try.underlying39
 have hu2 := Try.underlying30
 have hu3 := Try.underlying37
 have hu4 := Try.underlying28
 obtain ⟨A0, c0, rfl⟩ := Kd.R_slice hS.rL
 obtain ⟨ad, e0, y0, y1, y2, y3, y4⟩ := at_T37 (Kd.R_reads' hS.rL).2.2 i hi0 hi1
 subst e0
 have q0 : (0 ≤ i) = True := eq_true hi0
 have q1 : (i < (L.length : Int)) = True := eq_true hi1
 have q0' : decide (0 ≤ i) = true := decide_eq_true hi0
 have q1' : decide (i < (L.length : Int)) = true := decide_eq_true hi1
 have n0 : ((rd_T37 L i).f0 != p) = false := bne_eq_false_iff_eq.mpr hf0
 clear hf0
 have HX := Aside0.mk (blk_new w (.cells #[.int .i64 1, .int .i64 i, .int .i64 0, .int .i64 0, .int .i64 0, .int .i64 0, .int .i64 0] 39 (0, 0)))
 have HS := Aside0.mk (hS.below (below_alloc (Below.refl _ w) (.cells #[.int .i64 1, .int .i64 i, .int .i64 0, .int .i64 0, .int .i64 0, .int .i64 0, .int .i64 0] 39 (0, 0))))
 have HB := Aside0.mk (below_alloc hB (.cells #[.int .i64 1, .int .i64 i, .int .i64 0, .int .i64 0, .int .i64 0, .int .i64 0, .int .i64 0] 39 (0, 0)))
 have Y0 := Aside0.mk (bc_ (below_alloc (Below.refl _ w) (.cells #[.int .i64 1, .int .i64 i, .int .i64 0, .int .i64 0, .int .i64 0, .int .i64 0, .int .i64 0] 39 (0, 0))) y0)
 have Y1 := Aside0.mk (bc_ (below_alloc (Below.refl _ w) (.cells #[.int .i64 1, .int .i64 i, .int .i64 0, .int .i64 0, .int .i64 0, .int .i64 0, .int .i64 0] 39 (0, 0))) y1)
 have Y2 := Aside0.mk (bc_ (below_alloc (Below.refl _ w) (.cells #[.int .i64 1, .int .i64 i, .int .i64 0, .int .i64 0, .int .i64 0, .int .i64 0, .int .i64 0] 39 (0, 0))) y2)
 have Y3 := Aside0.mk (bc_ (below_alloc (Below.refl _ w) (.cells #[.int .i64 1, .int .i64 i, .int .i64 0, .int .i64 0, .int .i64 0, .int .i64 0, .int .i64 0] 39 (0, 0))) y3)
 have Y4 := Aside0.mk (bc_ (below_alloc (Below.refl _ w) (.cells #[.int .i64 1, .int .i64 i, .int .i64 0, .int .i64 0, .int .i64 0, .int .i64 0, .int .i64 0] 39 (0, 0))) y4)
 clear y0 y1 y2 y3 y4
 clear hS hB
 go_enter Try.func105, Try.ntmps105
 go_wp2_with fail
 generalize w.alloc (.cells #[.int .i64 1, .int .i64 i, .int .i64 0, .int .i64 0, .int .i64 0, .int .i64 0, .int .i64 0] 39) = W at HX HS HB Y0 Y1 Y2 Y3 Y4 ⊢
 replace HX := Aside0.mk (blk_drew HX.out)
 replace HS := Aside0.mk (HS.out.below (below_drew (Below.refl _ W)))
 replace HB := Aside0.mk (below_drew HB.out)
 replace Y0 := Aside0.mk (bc_ (below_drew (Below.refl _ W)) Y0.out)
 replace Y1 := Aside0.mk (bc_ (below_drew (Below.refl _ W)) Y1.out)
 replace Y2 := Aside0.mk (bc_ (below_drew (Below.refl _ W)) Y2.out)
 replace Y3 := Aside0.mk (bc_ (below_drew (Below.refl _ W)) Y3.out)
 replace Y4 := Aside0.mk (bc_ (below_drew (Below.refl _ W)) Y4.out)
 refine start_ (n := 42) (S := fun w' => w'.cell? ⟨w.heap.size, 1, none⟩ = some (.int .i64 i) ∧ w'.cell? ⟨g, 0, none⟩ = some (.slice (some ad) L.length c0) ∧ w'.cell? ⟨g, 3, none⟩ = some (.int .i64 p) ∧ w'.cell? (ad.add (i.toNat * 5)) = some (.int .i64 (rd_T37 L i).f0) ∧ w'.cell? ⟨(ad.add (i.toNat * 5)).block, (ad.add (i.toNat * 5)).off + 1, none⟩ = some (.int .i64 (rd_T37 L i).f1) ∧ w'.cell? ⟨(ad.add (i.toNat * 5)).block, (ad.add (i.toNat * 5)).off + 2, none⟩ = some (.int .i64 (rd_T37 L i).f2) ∧ w'.cell? ⟨(ad.add (i.toNat * 5)).block, (ad.add (i.toNat * 5)).off + 3, none⟩ = some (.int .i64 (rd_T37 L i).f3) ∧ w'.cell? ⟨(ad.add (i.toNat * 5)).block, (ad.add (i.toNat * 5)).off + 4, none⟩ = some (.int .i64 (rd_T37 L i).f4)) (ds := []) walk6.mk0 (by kernel_rfl) rfl rfl ⟨(blk_cell HX.out 1).trans rfl, (blk_cell HS.out.blk 0).trans rfl, (blk_cell HS.out.blk 3).trans rfl, Y0.out, Y1.out, Y2.out, Y3.out, Y4.out⟩ (fun hHeld => ?_); refine with_tabW walk6.tab walk6.bits (fun HT_ HW_ => ?_)
 generalize W.drew = W1 at HX HS HB Y0 Y1 Y2 Y3 Y4 hHeld ⊢
 refine pz_ HT_ 0 (some 33) walk6.mk1 ?_
 refine pz_ HT_ 2 (some 35) walk6.mk2 ?_
 refine pz_ HT_ 3 (some 36) walk6.mk3 ?_
 refine pz_ HT_ 4 (some 37) walk6.mk4 ?_
 refine tk_ HT_ HW_ hHeld 1 (some 34) walk6.mk5 ?_
 refine tk_ HT_ HW_ hHeld 5 (some 38) walk6.mk6 ?_
 refine pz_ HT_ 6 (some 39) walk6.mk7 ?_
 refine pz_ HT_ 7 (some 40) walk6.mk8 ?_
 refine one_ (i := 8) (N := some 41) walk6.mk9 rfl rfl (one_of HT_.out (by kernel_rfl)) (by decide) (fun K hK => ?_)
 refine gs_ Try.func71 #[.int .i64 i, .int .i64 0, .int .i64 (wrap64 ((L.length : Int) - 1))] ?_
 refine (impl_within.calls i 0 (wrap64 ((L.length : Int) - 1)) true _ hwi).mono ?_
 rintro e w1 ⟨rfl, ⟨n1_, rfl⟩⟩
 refine ⟨_, rfl, ?_⟩
 replace HX := Aside0.mk (blk_drewN HX.out n1_)
 replace HS := Aside0.mk (HS.out.below (pw_below_drewN (Below.refl _ _) n1_))
 replace HB := Aside0.mk (pw_below_drewN HB.out n1_)
 replace Y0 := Aside0.mk (bc_ (pw_below_drewN (Below.refl _ _) n1_) Y0.out)
 replace Y1 := Aside0.mk (bc_ (pw_below_drewN (Below.refl _ _) n1_) Y1.out)
 replace Y2 := Aside0.mk (bc_ (pw_below_drewN (Below.refl _ _) n1_) Y2.out)
 replace Y3 := Aside0.mk (bc_ (pw_below_drewN (Below.refl _ _) n1_) Y3.out)
 replace Y4 := Aside0.mk (bc_ (pw_below_drewN (Below.refl _ _) n1_) Y4.out)
 refine hK.out _ _ ⟨(blk_cell HX.out 1).trans rfl, (blk_cell HS.out.blk 0).trans rfl, (blk_cell HS.out.blk 3).trans rfl, Y0.out, Y1.out, Y2.out, Y3.out, Y4.out⟩ (fun hHeld => ?_)
 clear hK K
 refine na_ ?_
 generalize W1.drewN n1_ = W2 at HX HS HB Y0 Y1 Y2 Y3 Y4 hHeld ⊢
 refine pz_ HT_ 9 (some 42) walk6.mk10 ?_
 refine pz_ HT_ 10 (some 43) walk6.mk11 ?_
 refine pz_ HT_ 11 (some 44) walk6.mk12 ?_
 refine pz_ HT_ 12 (some 45) walk6.mk13 ?_
 refine pz_ HT_ 13 (some 46) walk6.mk14 ?_
 refine pz_ HT_ 15 (some 48) walk6.mk15 ?_
 refine pz_ HT_ 20 (some 53) walk6.mk16 ?_
 refine pz_ HT_ 21 (some 54) walk6.mk17 ?_
 refine pz_ HT_ 22 (some 55) walk6.mk18 ?_
 refine tk_ HT_ HW_ hHeld 14 (some 47) walk6.mk19 ?_
 refine tk_ HT_ HW_ hHeld 16 (some 49) walk6.mk20 ?_
 refine pz_ HT_ 17 (some 50) walk6.mk21 ?_
 refine pz_ HT_ 18 (some 51) walk6.mk22 ?_
 refine tk_ HT_ HW_ hHeld 19 (some 52) walk6.mk23 ?_
 refine tk_ HT_ HW_ hHeld 23 (some 56) walk6.mk24 ?_
 refine pz_ HT_ 24 (some 57) walk6.mk25 ?_
 refine pz_ HT_ 25 (some 58) walk6.mk26 ?_
 refine pu_ HT_ 26 (some 59) walk6.mk27 ?_
 refine pu_ HT_ 27 (some 60) walk6.mk28 ?_
 refine pu_ HT_ 28 (some 61) walk6.mk29 ?_
 refine pu_ HT_ 30 (some 63) walk6.mk30 ?_
 refine pu_ HT_ 35 (some 68) walk6.mk31 ?_
 refine pu_ HT_ 36 (some 69) walk6.mk32 ?_
 refine pu_ HT_ 37 (some 70) walk6.mk33 ?_
 refine pu_ HT_ 29 (some 62) walk6.mk34 ?_
 refine pu_ HT_ 31 (some 64) walk6.mk35 ?_
 refine pu_ HT_ 32 (some 65) walk6.mk36 ?_
 refine pu_ HT_ 33 (some 66) walk6.mk37 ?_
 refine pu_ HT_ 34 (some 67) walk6.mk38 ?_
 refine pu_ HT_ 38 (some 71) walk6.mk39 ?_
 refine pu_ HT_ 39 (some 72) walk6.mk40 ?_
 refine pz_ HT_ 40 (some 73) walk6.mk41 ?_
 refine pz_ HT_ 41 (some 74) walk6.mk42 ?_
 refine done_ (done_of HT_.out (by kernel_rfl)) ?_
 go_wp2_with fail
 replace HX := Aside0.mk (blk_drew HX.out)
 replace HS := Aside0.mk (HS.out.below (below_drew (Below.refl _ W2)))
 replace HB := Aside0.mk (below_drew HB.out)
 replace Y0 := Aside0.mk (bc_ (below_drew (Below.refl _ W2)) Y0.out)
 replace Y1 := Aside0.mk (bc_ (below_drew (Below.refl _ W2)) Y1.out)
 replace Y2 := Aside0.mk (bc_ (below_drew (Below.refl _ W2)) Y2.out)
 replace Y3 := Aside0.mk (bc_ (below_drew (Below.refl _ W2)) Y3.out)
 replace Y4 := Aside0.mk (bc_ (below_drew (Below.refl _ W2)) Y4.out)
 refine start_ (n := 10) (S := fun w' => w'.cell? ⟨w.heap.size, 1, none⟩ = some (.int .i64 i) ∧ w'.cell? ⟨g, 0, none⟩ = some (.slice (some ad) L.length c0) ∧ w'.cell? ⟨g, 3, none⟩ = some (.int .i64 p) ∧ w'.cell? (ad.add (i.toNat * 5)) = some (.int .i64 (rd_T37 L i).f0) ∧ w'.cell? ⟨(ad.add (i.toNat * 5)).block, (ad.add (i.toNat * 5)).off + 1, none⟩ = some (.int .i64 (rd_T37 L i).f1) ∧ w'.cell? ⟨(ad.add (i.toNat * 5)).block, (ad.add (i.toNat * 5)).off + 2, none⟩ = some (.int .i64 (rd_T37 L i).f2) ∧ w'.cell? ⟨(ad.add (i.toNat * 5)).block, (ad.add (i.toNat * 5)).off + 3, none⟩ = some (.int .i64 (rd_T37 L i).f3) ∧ w'.cell? ⟨(ad.add (i.toNat * 5)).block, (ad.add (i.toNat * 5)).off + 4, none⟩ = some (.int .i64 (rd_T37 L i).f4)) (ds := [9]) walk8.mk0 (by kernel_rfl) rfl rfl ⟨(blk_cell HX.out 1).trans rfl, (blk_cell HS.out.blk 0).trans rfl, (blk_cell HS.out.blk 3).trans rfl, Y0.out, Y1.out, Y2.out, Y3.out, Y4.out⟩ (fun hHeld => ?_); refine with_tabW walk8.tab walk8.bits (fun HT_ HW_ => ?_)
 generalize W2.drew = W3 at HX HS HB Y0 Y1 Y2 Y3 Y4 hHeld ⊢
 refine pz_ HT_ 0 (some 75) walk8.mk1 ?_
 refine pz_ HT_ 1 (some 76) walk8.mk2 ?_
 refine pz_ HT_ 2 (some 77) walk8.mk3 ?_
 refine pz_ HT_ 3 (some 78) walk8.mk4 ?_
 refine pz_ HT_ 5 (some 80) walk8.mk5 ?_
 refine tk_ HT_ HW_ hHeld 4 (some 79) walk8.mk6 ?_
 refine tk_ HT_ HW_ hHeld 6 (some 81) walk8.mk7 ?_
 refine pz_ HT_ 7 (some 82) walk8.mk8 ?_
 refine tk_ HT_ HW_ hHeld 8 (some 83) walk8.mk9 ?_
 refine last_ (i := 9) (N := some 84) walk8.mk10 rfl rfl (one_of HT_.out (by kernel_rfl)) (by decide) (fun K hK => ?_)
 refine gs_ Try.func119 #[.pointer (some ⟨g, 0, none⟩), .agg #[.int .i64 (rd_T37 L i).f0, .int .i64 (rd_T37 L i).f1, .int .i64 (rd_T37 L i).f2, .int .i64 (rd_T37 L i).f3, .int .i64 (rd_T37 L i).f4], .int .i64 1] ?_
 refine (goAlong_calls g _ vV vD L V D p t (rd_T37 L i).f0 (rd_T37 L i).f1 (rd_T37 L i).f2 (rd_T37 L i).f3 (rd_T37 L i).f4 1 w0 _ HS.out HB.out h0 h1).mono ?_
 rintro e w9 ⟨rfl, hS9, hB9⟩
 refine ⟨_, rfl, ?_⟩
 refine hK.out _ _ ?_
 clear hK K
 refine na_ ?_
 refine done_ (done_of HT_.out (by kernel_rfl)) ?_
 go_wp2_with fail
 go_ret
 exact ⟨rfl, hS9, hB9⟩
theorem walk_k1C (g : Nat) (vL vV vD : Value) (L : List S37) (V D : List Bool) (p t i : Int) (w0 w : World) (hS : ExS w w0.heap.size g vL vV vD L V D p t) (hB : Below w0.heap.size w0 w) (hwi : impl_within.f i 0 (wrap64 ((L.length : Int) - 1)) = some true) (hi0 : 0 ≤ i) (hi1 : i < (L.length : Int)) (hf0 : (rd_T37 L i).f0 ≠ p) (hf1 : (rd_T37 L i).f1 = p) (h0 : 0 ≤ wrap64 (wrap64 ((rd_T37 L i).f0 + (rd_T37 L i).f1) - p)) (h1 : wrap64 (wrap64 ((rd_T37 L i).f0 + (rd_T37 L i).f1) - p) < (V.length : Int)) :
  Calls Try.prog 105 #[.pointer (some ⟨g, 0, none⟩), .agg #[.int .i64 1, .int .i64 i, .int .i64 0, .int .i64 0, .int .i64 0, .int .i64 0, .int .i64 0]] w fun e w' => e = .returned (.bool true) ∧ ExS w' w0.heap.size g vL vV vD L (V.set (wrap64 (wrap64 ((rd_T37 L i).f0 + (rd_T37 L i).f1) - p)).toNat true) D (wrap64 (wrap64 ((rd_T37 L i).f0 + (rd_T37 L i).f1) - p)) (wrap64 (t - wrap64 (1 * (rd_T37 L i).f2))) ∧ Below w0.heap.size w0 w' := by
 have hgw : g < w.heap.size := blk_lt hS.blk
 have hne : w.heap.size ≠ g := by omega
 have hu1 := Try.underlying39
 have hu2 := Try.underlying30
 have hu3 := Try.underlying37
 have hu4 := Try.underlying28
 obtain ⟨A0, c0, rfl⟩ := Kd.R_slice hS.rL
 obtain ⟨ad, e0, y0, y1, y2, y3, y4⟩ := at_T37 (Kd.R_reads' hS.rL).2.2 i hi0 hi1
 subst e0
 have q0 : (0 ≤ i) = True := eq_true hi0
 have q1 : (i < (L.length : Int)) = True := eq_true hi1
 have q0' : decide (0 ≤ i) = true := decide_eq_true hi0
 have q1' : decide (i < (L.length : Int)) = true := decide_eq_true hi1
 have n0 : ((rd_T37 L i).f0 != p) = true := bne_iff_ne.mpr hf0
 have n1 : ((rd_T37 L i).f1 != p) = false := bne_eq_false_iff_eq.mpr hf1
 clear hf0 hf1
 have HX := Aside0.mk (blk_new w (.cells #[.int .i64 1, .int .i64 i, .int .i64 0, .int .i64 0, .int .i64 0, .int .i64 0, .int .i64 0] 39 (0, 0)))
 have HS := Aside0.mk (hS.below (below_alloc (Below.refl _ w) (.cells #[.int .i64 1, .int .i64 i, .int .i64 0, .int .i64 0, .int .i64 0, .int .i64 0, .int .i64 0] 39 (0, 0))))
 have HB := Aside0.mk (below_alloc hB (.cells #[.int .i64 1, .int .i64 i, .int .i64 0, .int .i64 0, .int .i64 0, .int .i64 0, .int .i64 0] 39 (0, 0)))
 have Y0 := Aside0.mk (bc_ (below_alloc (Below.refl _ w) (.cells #[.int .i64 1, .int .i64 i, .int .i64 0, .int .i64 0, .int .i64 0, .int .i64 0, .int .i64 0] 39 (0, 0))) y0)
 have Y1 := Aside0.mk (bc_ (below_alloc (Below.refl _ w) (.cells #[.int .i64 1, .int .i64 i, .int .i64 0, .int .i64 0, .int .i64 0, .int .i64 0, .int .i64 0] 39 (0, 0))) y1)
 have Y2 := Aside0.mk (bc_ (below_alloc (Below.refl _ w) (.cells #[.int .i64 1, .int .i64 i, .int .i64 0, .int .i64 0, .int .i64 0, .int .i64 0, .int .i64 0] 39 (0, 0))) y2)
 have Y3 := Aside0.mk (bc_ (below_alloc (Below.refl _ w) (.cells #[.int .i64 1, .int .i64 i, .int .i64 0, .int .i64 0, .int .i64 0, .int .i64 0, .int .i64 0] 39 (0, 0))) y3)
 have Y4 := Aside0.mk (bc_ (below_alloc (Below.refl _ w) (.cells #[.int .i64 1, .int .i64 i, .int .i64 0, .int .i64 0, .int .i64 0, .int .i64 0, .int .i64 0] 39 (0, 0))) y4)
 clear y0 y1 y2 y3 y4
 clear hS hB
 go_enter Try.func105, Try.ntmps105
 go_wp2_with fail
 generalize w.alloc (.cells #[.int .i64 1, .int .i64 i, .int .i64 0, .int .i64 0, .int .i64 0, .int .i64 0, .int .i64 0] 39) = W at HX HS HB Y0 Y1 Y2 Y3 Y4 ⊢
 replace HX := Aside0.mk (blk_drew HX.out)
 replace HS := Aside0.mk (HS.out.below (below_drew (Below.refl _ W)))
 replace HB := Aside0.mk (below_drew HB.out)
 replace Y0 := Aside0.mk (bc_ (below_drew (Below.refl _ W)) Y0.out)
 replace Y1 := Aside0.mk (bc_ (below_drew (Below.refl _ W)) Y1.out)
 replace Y2 := Aside0.mk (bc_ (below_drew (Below.refl _ W)) Y2.out)
 replace Y3 := Aside0.mk (bc_ (below_drew (Below.refl _ W)) Y3.out)
 replace Y4 := Aside0.mk (bc_ (below_drew (Below.refl _ W)) Y4.out)
 refine start_ (n := 42) (S := fun w' => w'.cell? ⟨w.heap.size, 1, none⟩ = some (.int .i64 i) ∧ w'.cell? ⟨g, 0, none⟩ = some (.slice (some ad) L.length c0) ∧ w'.cell? ⟨g, 3, none⟩ = some (.int .i64 p) ∧ w'.cell? (ad.add (i.toNat * 5)) = some (.int .i64 (rd_T37 L i).f0) ∧ w'.cell? ⟨(ad.add (i.toNat * 5)).block, (ad.add (i.toNat * 5)).off + 1, none⟩ = some (.int .i64 (rd_T37 L i).f1) ∧ w'.cell? ⟨(ad.add (i.toNat * 5)).block, (ad.add (i.toNat * 5)).off + 2, none⟩ = some (.int .i64 (rd_T37 L i).f2) ∧ w'.cell? ⟨(ad.add (i.toNat * 5)).block, (ad.add (i.toNat * 5)).off + 3, none⟩ = some (.int .i64 (rd_T37 L i).f3) ∧ w'.cell? ⟨(ad.add (i.toNat * 5)).block, (ad.add (i.toNat * 5)).off + 4, none⟩ = some (.int .i64 (rd_T37 L i).f4)) (ds := []) walk6.mk0 (by kernel_rfl) rfl rfl ⟨(blk_cell HX.out 1).trans rfl, (blk_cell HS.out.blk 0).trans rfl, (blk_cell HS.out.blk 3).trans rfl, Y0.out, Y1.out, Y2.out, Y3.out, Y4.out⟩ (fun hHeld => ?_); refine with_tabW walk6.tab walk6.bits (fun HT_ HW_ => ?_)
 generalize W.drew = W1 at HX HS HB Y0 Y1 Y2 Y3 Y4 hHeld ⊢
 refine pz_ HT_ 0 (some 33) walk6.mk1 ?_
 refine pz_ HT_ 2 (some 35) walk6.mk2 ?_
 refine pz_ HT_ 3 (some 36) walk6.mk3 ?_
 refine pz_ HT_ 4 (some 37) walk6.mk4 ?_
 refine tk_ HT_ HW_ hHeld 1 (some 34) walk6.mk5 ?_
 refine tk_ HT_ HW_ hHeld 5 (some 38) walk6.mk6 ?_
 refine pz_ HT_ 6 (some 39) walk6.mk7 ?_
 refine pz_ HT_ 7 (some 40) walk6.mk8 ?_
 refine one_ (i := 8) (N := some 41) walk6.mk9 rfl rfl (one_of HT_.out (by kernel_rfl)) (by decide) (fun K hK => ?_)
 refine gs_ Try.func71 #[.int .i64 i, .int .i64 0, .int .i64 (wrap64 ((L.length : Int) - 1))] ?_
 refine (impl_within.calls i 0 (wrap64 ((L.length : Int) - 1)) true _ hwi).mono ?_
 rintro e w1 ⟨rfl, ⟨n1_, rfl⟩⟩
 refine ⟨_, rfl, ?_⟩
 replace HX := Aside0.mk (blk_drewN HX.out n1_)
 replace HS := Aside0.mk (HS.out.below (pw_below_drewN (Below.refl _ _) n1_))
 replace HB := Aside0.mk (pw_below_drewN HB.out n1_)
 replace Y0 := Aside0.mk (bc_ (pw_below_drewN (Below.refl _ _) n1_) Y0.out)
 replace Y1 := Aside0.mk (bc_ (pw_below_drewN (Below.refl _ _) n1_) Y1.out)
 replace Y2 := Aside0.mk (bc_ (pw_below_drewN (Below.refl _ _) n1_) Y2.out)
 replace Y3 := Aside0.mk (bc_ (pw_below_drewN (Below.refl _ _) n1_) Y3.out)
 replace Y4 := Aside0.mk (bc_ (pw_below_drewN (Below.refl _ _) n1_) Y4.out)
 refine hK.out _ _ ⟨(blk_cell HX.out 1).trans rfl, (blk_cell HS.out.blk 0).trans rfl, (blk_cell HS.out.blk 3).trans rfl, Y0.out, Y1.out, Y2.out, Y3.out, Y4.out⟩ (fun hHeld => ?_)
 clear hK K
 refine na_ ?_
 generalize W1.drewN n1_ = W2 at HX HS HB Y0 Y1 Y2 Y3 Y4 hHeld ⊢
 refine pz_ HT_ 9 (some 42) walk6.mk10 ?_
 refine pz_ HT_ 10 (some 43) walk6.mk11 ?_
 refine pz_ HT_ 11 (some 44) walk6.mk12 ?_
 refine pz_ HT_ 12 (some 45) walk6.mk13 ?_
 refine pz_ HT_ 13 (some 46) walk6.mk14 ?_
 refine pz_ HT_ 15 (some 48) walk6.mk15 ?_
 refine pz_ HT_ 20 (some 53) walk6.mk16 ?_
 refine pz_ HT_ 21 (some 54) walk6.mk17 ?_
 refine pz_ HT_ 22 (some 55) walk6.mk18 ?_
 refine tk_ HT_ HW_ hHeld 14 (some 47) walk6.mk19 ?_
 refine tk_ HT_ HW_ hHeld 16 (some 49) walk6.mk20 ?_
 refine pz_ HT_ 17 (some 50) walk6.mk21 ?_
 refine pz_ HT_ 18 (some 51) walk6.mk22 ?_
 refine tk_ HT_ HW_ hHeld 19 (some 52) walk6.mk23 ?_
 refine tk_ HT_ HW_ hHeld 23 (some 56) walk6.mk24 ?_
 refine pz_ HT_ 24 (some 57) walk6.mk25 ?_
 refine pz_ HT_ 25 (some 58) walk6.mk26 ?_
 refine pz_ HT_ 26 (some 59) walk6.mk27 ?_
 refine pz_ HT_ 27 (some 60) walk6.mk28 ?_
 refine pz_ HT_ 28 (some 61) walk6.mk29 ?_
 refine pz_ HT_ 30 (some 63) walk6.mk30 ?_
 refine pz_ HT_ 35 (some 68) walk6.mk31 ?_
 refine pz_ HT_ 36 (some 69) walk6.mk32 ?_
 refine pz_ HT_ 37 (some 70) walk6.mk33 ?_
 refine tk_ HT_ HW_ hHeld 29 (some 62) walk6.mk34 ?_
 refine tk_ HT_ HW_ hHeld 31 (some 64) walk6.mk35 ?_
 refine pz_ HT_ 32 (some 65) walk6.mk36 ?_
 refine pz_ HT_ 33 (some 66) walk6.mk37 ?_
 refine tk_ HT_ HW_ hHeld 34 (some 67) walk6.mk38 ?_
 refine tk_ HT_ HW_ hHeld 38 (some 71) walk6.mk39 ?_
 refine pz_ HT_ 39 (some 72) walk6.mk40 ?_
 refine pz_ HT_ 40 (some 73) walk6.mk41 ?_
 refine pz_ HT_ 41 (some 74) walk6.mk42 ?_
 refine done_ (done_of HT_.out (by kernel_rfl)) ?_
 go_wp2_with fail
 replace HX := Aside0.mk (blk_drew HX.out)
 replace HS := Aside0.mk (HS.out.below (below_drew (Below.refl _ W2)))
 replace HB := Aside0.mk (below_drew HB.out)
 replace Y0 := Aside0.mk (bc_ (below_drew (Below.refl _ W2)) Y0.out)
 replace Y1 := Aside0.mk (bc_ (below_drew (Below.refl _ W2)) Y1.out)
 replace Y2 := Aside0.mk (bc_ (below_drew (Below.refl _ W2)) Y2.out)
 replace Y3 := Aside0.mk (bc_ (below_drew (Below.refl _ W2)) Y3.out)
 replace Y4 := Aside0.mk (bc_ (below_drew (Below.refl _ W2)) Y4.out)
 refine start_ (n := 10) (S := fun w' => w'.cell? ⟨w.heap.size, 1, none⟩ = some (.int .i64 i) ∧ w'.cell? ⟨g, 0, none⟩ = some (.slice (some ad) L.length c0) ∧ w'.cell? ⟨g, 3, none⟩ = some (.int .i64 p) ∧ w'.cell? (ad.add (i.toNat * 5)) = some (.int .i64 (rd_T37 L i).f0) ∧ w'.cell? ⟨(ad.add (i.toNat * 5)).block, (ad.add (i.toNat * 5)).off + 1, none⟩ = some (.int .i64 (rd_T37 L i).f1) ∧ w'.cell? ⟨(ad.add (i.toNat * 5)).block, (ad.add (i.toNat * 5)).off + 2, none⟩ = some (.int .i64 (rd_T37 L i).f2) ∧ w'.cell? ⟨(ad.add (i.toNat * 5)).block, (ad.add (i.toNat * 5)).off + 3, none⟩ = some (.int .i64 (rd_T37 L i).f3) ∧ w'.cell? ⟨(ad.add (i.toNat * 5)).block, (ad.add (i.toNat * 5)).off + 4, none⟩ = some (.int .i64 (rd_T37 L i).f4)) (ds := [9]) walk8.mk0 (by kernel_rfl) rfl rfl ⟨(blk_cell HX.out 1).trans rfl, (blk_cell HS.out.blk 0).trans rfl, (blk_cell HS.out.blk 3).trans rfl, Y0.out, Y1.out, Y2.out, Y3.out, Y4.out⟩ (fun hHeld => ?_); refine with_tabW walk8.tab walk8.bits (fun HT_ HW_ => ?_)
 generalize W2.drew = W3 at HX HS HB Y0 Y1 Y2 Y3 Y4 hHeld ⊢
 refine pz_ HT_ 0 (some 75) walk8.mk1 ?_
 refine pz_ HT_ 1 (some 76) walk8.mk2 ?_
 refine pz_ HT_ 2 (some 77) walk8.mk3 ?_
 refine pz_ HT_ 3 (some 78) walk8.mk4 ?_
 refine pz_ HT_ 5 (some 80) walk8.mk5 ?_
 refine tk_ HT_ HW_ hHeld 4 (some 79) walk8.mk6 ?_
 refine tk_ HT_ HW_ hHeld 6 (some 81) walk8.mk7 ?_
 refine pz_ HT_ 7 (some 82) walk8.mk8 ?_
 refine tk_ HT_ HW_ hHeld 8 (some 83) walk8.mk9 ?_
 refine last_ (i := 9) (N := some 84) walk8.mk10 rfl rfl (one_of HT_.out (by kernel_rfl)) (by decide) (fun K hK => ?_)
 refine gs_ Try.func119 #[.pointer (some ⟨g, 0, none⟩), .agg #[.int .i64 (rd_T37 L i).f0, .int .i64 (rd_T37 L i).f1, .int .i64 (rd_T37 L i).f2, .int .i64 (rd_T37 L i).f3, .int .i64 (rd_T37 L i).f4], .int .i64 1] ?_
 refine (goAlong_calls g _ vV vD L V D p t (rd_T37 L i).f0 (rd_T37 L i).f1 (rd_T37 L i).f2 (rd_T37 L i).f3 (rd_T37 L i).f4 1 w0 _ HS.out HB.out h0 h1).mono ?_
 rintro e w9 ⟨rfl, hS9, hB9⟩
 refine ⟨_, rfl, ?_⟩
 refine hK.out _ _ ?_
 clear hK K
 refine na_ ?_
 refine done_ (done_of HT_.out (by kernel_rfl)) ?_
 go_wp2_with fail
 go_ret
 exact ⟨rfl, hS9, hB9⟩
theorem walk_k1D (g : Nat) (vL vV vD : Value) (L : List S37) (V D : List Bool) (p t i : Int) (w0 w : World) (hS : ExS w w0.heap.size g vL vV vD L V D p t) (hB : Below w0.heap.size w0 w) (hwi : impl_within.f i 0 (wrap64 ((L.length : Int) - 1)) = some true) (hi0 : 0 ≤ i) (hi1 : i < (L.length : Int)) (hf0 : (rd_T37 L i).f0 ≠ p) (hf1 : (rd_T37 L i).f1 ≠ p) :
  Calls Try.prog 105 #[.pointer (some ⟨g, 0, none⟩), .agg #[.int .i64 1, .int .i64 i, .int .i64 0, .int .i64 0, .int .i64 0, .int .i64 0, .int .i64 0]] w fun e w' => e = .returned (.bool false) ∧ ExS w' w0.heap.size g vL vV vD L V D p t ∧ Below w0.heap.size w0 w' := by
 have hgw : g < w.heap.size := blk_lt hS.blk
 have hne : w.heap.size ≠ g := by omega
 have hu1 := Try.underlying39
 have hu2 := Try.underlying30
 have hu3 := Try.underlying37
 have hu4 := Try.underlying28
 obtain ⟨A0, c0, rfl⟩ := Kd.R_slice hS.rL
 obtain ⟨ad, e0, y0, y1, y2, y3, y4⟩ := at_T37 (Kd.R_reads' hS.rL).2.2 i hi0 hi1
 subst e0
 have q0 : (0 ≤ i) = True := eq_true hi0
 have q1 : (i < (L.length : Int)) = True := eq_true hi1
 have q0' : decide (0 ≤ i) = true := decide_eq_true hi0
 have q1' : decide (i < (L.length : Int)) = true := decide_eq_true hi1
 have n0 : ((rd_T37 L i).f0 != p) = true := bne_iff_ne.mpr hf0
 have n1 : ((rd_T37 L i).f1 != p) = true := bne_iff_ne.mpr hf1
 clear hf0 hf1
 have HX := Aside0.mk (blk_new w (.cells #[.int .i64 1, .int .i64 i, .int .i64 0, .int .i64 0, .int .i64 0, .int .i64 0, .int .i64 0] 39 (0, 0)))
 have HS := Aside0.mk (hS.below (below_alloc (Below.refl _ w) (.cells #[.int .i64 1, .int .i64 i, .int .i64 0, .int .i64 0, .int .i64 0, .int .i64 0, .int .i64 0] 39 (0, 0))))
 have HB := Aside0.mk (below_alloc hB (.cells #[.int .i64 1, .int .i64 i, .int .i64 0, .int .i64 0, .int .i64 0, .int .i64 0, .int .i64 0] 39 (0, 0)))
 have Y0 := Aside0.mk (bc_ (below_alloc (Below.refl _ w) (.cells #[.int .i64 1, .int .i64 i, .int .i64 0, .int .i64 0, .int .i64 0, .int .i64 0, .int .i64 0] 39 (0, 0))) y0)
 have Y1 := Aside0.mk (bc_ (below_alloc (Below.refl _ w) (.cells #[.int .i64 1, .int .i64 i, .int .i64 0, .int .i64 0, .int .i64 0, .int .i64 0, .int .i64 0] 39 (0, 0))) y1)
 have Y2 := Aside0.mk (bc_ (below_alloc (Below.refl _ w) (.cells #[.int .i64 1, .int .i64 i, .int .i64 0, .int .i64 0, .int .i64 0, .int .i64 0, .int .i64 0] 39 (0, 0))) y2)
 have Y3 := Aside0.mk (bc_ (below_alloc (Below.refl _ w) (.cells #[.int .i64 1, .int .i64 i, .int .i64 0, .int .i64 0, .int .i64 0, .int .i64 0, .int .i64 0] 39 (0, 0))) y3)
 have Y4 := Aside0.mk (bc_ (below_alloc (Below.refl _ w) (.cells #[.int .i64 1, .int .i64 i, .int .i64 0, .int .i64 0, .int .i64 0, .int .i64 0, .int .i64 0] 39 (0, 0))) y4)
 clear y0 y1 y2 y3 y4
 clear hS hB
 go_enter Try.func105, Try.ntmps105
 go_wp2_with fail
 generalize w.alloc (.cells #[.int .i64 1, .int .i64 i, .int .i64 0, .int .i64 0, .int .i64 0, .int .i64 0, .int .i64 0] 39) = W at HX HS HB Y0 Y1 Y2 Y3 Y4 ⊢
 replace HX := Aside0.mk (blk_drew HX.out)
 replace HS := Aside0.mk (HS.out.below (below_drew (Below.refl _ W)))
 replace HB := Aside0.mk (below_drew HB.out)
 replace Y0 := Aside0.mk (bc_ (below_drew (Below.refl _ W)) Y0.out)
 replace Y1 := Aside0.mk (bc_ (below_drew (Below.refl _ W)) Y1.out)
 replace Y2 := Aside0.mk (bc_ (below_drew (Below.refl _ W)) Y2.out)
 replace Y3 := Aside0.mk (bc_ (below_drew (Below.refl _ W)) Y3.out)
 replace Y4 := Aside0.mk (bc_ (below_drew (Below.refl _ W)) Y4.out)
 refine start_ (n := 42) (S := fun w' => w'.cell? ⟨w.heap.size, 1, none⟩ = some (.int .i64 i) ∧ w'.cell? ⟨g, 0, none⟩ = some (.slice (some ad) L.length c0) ∧ w'.cell? ⟨g, 3, none⟩ = some (.int .i64 p) ∧ w'.cell? (ad.add (i.toNat * 5)) = some (.int .i64 (rd_T37 L i).f0) ∧ w'.cell? ⟨(ad.add (i.toNat * 5)).block, (ad.add (i.toNat * 5)).off + 1, none⟩ = some (.int .i64 (rd_T37 L i).f1) ∧ w'.cell? ⟨(ad.add (i.toNat * 5)).block, (ad.add (i.toNat * 5)).off + 2, none⟩ = some (.int .i64 (rd_T37 L i).f2) ∧ w'.cell? ⟨(ad.add (i.toNat * 5)).block, (ad.add (i.toNat * 5)).off + 3, none⟩ = some (.int .i64 (rd_T37 L i).f3) ∧ w'.cell? ⟨(ad.add (i.toNat * 5)).block, (ad.add (i.toNat * 5)).off + 4, none⟩ = some (.int .i64 (rd_T37 L i).f4)) (ds := []) walk6.mk0 (by kernel_rfl) rfl rfl ⟨(blk_cell HX.out 1).trans rfl, (blk_cell HS.out.blk 0).trans rfl, (blk_cell HS.out.blk 3).trans rfl, Y0.out, Y1.out, Y2.out, Y3.out, Y4.out⟩ (fun hHeld => ?_); refine with_tabW walk6.tab walk6.bits (fun HT_ HW_ => ?_)
 generalize W.drew = W1 at HX HS HB Y0 Y1 Y2 Y3 Y4 hHeld ⊢
 refine pz_ HT_ 0 (some 33) walk6.mk1 ?_
 refine pz_ HT_ 2 (some 35) walk6.mk2 ?_
 refine pz_ HT_ 3 (some 36) walk6.mk3 ?_
 refine pz_ HT_ 4 (some 37) walk6.mk4 ?_
 refine tk_ HT_ HW_ hHeld 1 (some 34) walk6.mk5 ?_
 refine tk_ HT_ HW_ hHeld 5 (some 38) walk6.mk6 ?_
 refine pz_ HT_ 6 (some 39) walk6.mk7 ?_
 refine pz_ HT_ 7 (some 40) walk6.mk8 ?_
 refine one_ (i := 8) (N := some 41) walk6.mk9 rfl rfl (one_of HT_.out (by kernel_rfl)) (by decide) (fun K hK => ?_)
 refine gs_ Try.func71 #[.int .i64 i, .int .i64 0, .int .i64 (wrap64 ((L.length : Int) - 1))] ?_
 refine (impl_within.calls i 0 (wrap64 ((L.length : Int) - 1)) true _ hwi).mono ?_
 rintro e w1 ⟨rfl, ⟨n1_, rfl⟩⟩
 refine ⟨_, rfl, ?_⟩
 replace HX := Aside0.mk (blk_drewN HX.out n1_)
 replace HS := Aside0.mk (HS.out.below (pw_below_drewN (Below.refl _ _) n1_))
 replace HB := Aside0.mk (pw_below_drewN HB.out n1_)
 replace Y0 := Aside0.mk (bc_ (pw_below_drewN (Below.refl _ _) n1_) Y0.out)
 replace Y1 := Aside0.mk (bc_ (pw_below_drewN (Below.refl _ _) n1_) Y1.out)
 replace Y2 := Aside0.mk (bc_ (pw_below_drewN (Below.refl _ _) n1_) Y2.out)
 replace Y3 := Aside0.mk (bc_ (pw_below_drewN (Below.refl _ _) n1_) Y3.out)
 replace Y4 := Aside0.mk (bc_ (pw_below_drewN (Below.refl _ _) n1_) Y4.out)
 refine hK.out _ _ ⟨(blk_cell HX.out 1).trans rfl, (blk_cell HS.out.blk 0).trans rfl, (blk_cell HS.out.blk 3).trans rfl, Y0.out, Y1.out, Y2.out, Y3.out, Y4.out⟩ (fun hHeld => ?_)
 clear hK K
 refine na_ ?_
 generalize W1.drewN n1_ = W2 at HX HS HB Y0 Y1 Y2 Y3 Y4 hHeld ⊢
 refine pz_ HT_ 9 (some 42) walk6.mk10 ?_
 refine pz_ HT_ 10 (some 43) walk6.mk11 ?_
 refine pz_ HT_ 11 (some 44) walk6.mk12 ?_
 refine pz_ HT_ 12 (some 45) walk6.mk13 ?_
 refine pz_ HT_ 13 (some 46) walk6.mk14 ?_
 refine pz_ HT_ 15 (some 48) walk6.mk15 ?_
 refine pz_ HT_ 20 (some 53) walk6.mk16 ?_
 refine pz_ HT_ 21 (some 54) walk6.mk17 ?_
 refine pz_ HT_ 22 (some 55) walk6.mk18 ?_
 refine tk_ HT_ HW_ hHeld 14 (some 47) walk6.mk19 ?_
 refine tk_ HT_ HW_ hHeld 16 (some 49) walk6.mk20 ?_
 refine pz_ HT_ 17 (some 50) walk6.mk21 ?_
 refine pz_ HT_ 18 (some 51) walk6.mk22 ?_
 refine tk_ HT_ HW_ hHeld 19 (some 52) walk6.mk23 ?_
 refine tk_ HT_ HW_ hHeld 23 (some 56) walk6.mk24 ?_
 refine pz_ HT_ 24 (some 57) walk6.mk25 ?_
 refine pz_ HT_ 25 (some 58) walk6.mk26 ?_
 refine pz_ HT_ 26 (some 59) walk6.mk27 ?_
 refine pz_ HT_ 27 (some 60) walk6.mk28 ?_
 refine pz_ HT_ 28 (some 61) walk6.mk29 ?_
 refine pz_ HT_ 30 (some 63) walk6.mk30 ?_
 refine pz_ HT_ 35 (some 68) walk6.mk31 ?_
 refine pz_ HT_ 36 (some 69) walk6.mk32 ?_
 refine pz_ HT_ 37 (some 70) walk6.mk33 ?_
 refine tk_ HT_ HW_ hHeld 29 (some 62) walk6.mk34 ?_
 refine tk_ HT_ HW_ hHeld 31 (some 64) walk6.mk35 ?_
 refine pz_ HT_ 32 (some 65) walk6.mk36 ?_
 refine pz_ HT_ 33 (some 66) walk6.mk37 ?_
 refine tk_ HT_ HW_ hHeld 34 (some 67) walk6.mk38 ?_
 refine tk_ HT_ HW_ hHeld 38 (some 71) walk6.mk39 ?_
 refine pz_ HT_ 39 (some 72) walk6.mk40 ?_
 refine pz_ HT_ 40 (some 73) walk6.mk41 ?_
 refine pz_ HT_ 41 (some 74) walk6.mk42 ?_
 refine done_ (done_of HT_.out (by kernel_rfl)) ?_
 go_wp2_with fail
 go_ret
 exact ⟨rfl, HS.out, HB.out⟩
def walk10.T : Bool × List (List Nat × List Nat) := (true, [([], []), ([0], [0]), ([1], [1]), ([2], [2]), ([3, 2], [3]), ([4], [4]), ([5, 4], [4, 5]), ([6, 4], [4, 6]), ([4], [4]), ([8, 4], [4, 8]), ([9, 4], [4, 9]), ([10, 4], [4, 10]), ([7, 11, 4], [4, 7, 11]), ([4, 12], [4, 12])])
def walk10.B : List Nat := [0, 1, 3, 7, 15, 31, 63, 127, 31, 287, 799, 1823, 4095, 8191]
theorem walk10.tab : rtab .any (opsOf Try.f105 10) = walk10.T := by kernel_rfl
theorem walk10.bits : waitsOk walk10.T.2 walk10.B = true := by kernel_rfl
abbrev walk10.mk0 : Array Bool := #[fF,fF,fF,fF,fF,fF,fF,fF,fF,fF,fF,fF,fF,fF]
abbrev walk10.mk1 : Array Bool := #[tT,fF,fF,fF,fF,fF,fF,fF,fF,fF,fF,fF,fF,fF]
abbrev walk10.mk2 : Array Bool := #[tT,tT,fF,fF,fF,fF,fF,fF,fF,fF,fF,fF,fF,fF]
abbrev walk10.mk3 : Array Bool := #[tT,tT,tT,fF,fF,fF,fF,fF,fF,fF,fF,fF,fF,fF]
abbrev walk10.mk4 : Array Bool := #[tT,tT,tT,tT,fF,fF,fF,fF,fF,fF,fF,fF,fF,fF]
abbrev walk10.mk5 : Array Bool := #[tT,tT,tT,tT,tT,fF,fF,fF,fF,fF,fF,fF,fF,fF]
abbrev walk10.mk6 : Array Bool := #[tT,tT,tT,tT,tT,tT,fF,fF,fF,fF,fF,fF,fF,fF]
abbrev walk10.mk7 : Array Bool := #[tT,tT,tT,tT,tT,tT,tT,fF,fF,fF,fF,fF,fF,fF]
abbrev walk10.mk8 : Array Bool := #[tT,tT,tT,tT,tT,tT,tT,fF,tT,fF,fF,fF,fF,fF]
abbrev walk10.mk9 : Array Bool := #[tT,tT,tT,tT,tT,tT,tT,fF,tT,tT,fF,fF,fF,fF]
abbrev walk10.mk10 : Array Bool := #[tT,tT,tT,tT,tT,tT,tT,fF,tT,tT,tT,fF,fF,fF]
abbrev walk10.mk11 : Array Bool := #[tT,tT,tT,tT,tT,tT,tT,tT,tT,tT,tT,fF,fF,fF]
abbrev walk10.mk12 : Array Bool := #[tT,tT,tT,tT,tT,tT,tT,tT,tT,tT,tT,tT,fF,fF]
abbrev walk10.mk13 : Array Bool := #[tT,tT,tT,tT,tT,tT,tT,tT,tT,tT,tT,tT,tT,fF]
abbrev walk10.mk14 : Array Bool := #[tT,tT,tT,tT,tT,tT,tT,tT,tT,tT,tT,tT,tT,tT]
def walk12.T : Bool × List (List Nat × List Nat) := (true, [([], []), ([], []), ([1], [1]), ([2], [2]), ([3], [3]), ([], []), ([5], [5]), ([6], [6]), ([4, 7], [4, 7]), ([0, 0, 1, 2, 3, 4, 5, 6, 7, 8], [0]), ([9, 0, 1, 2, 3, 4, 5, 6, 7, 8], [9]), ([10, 8, 8, 0, 1, 2, 3, 4, 5, 6, 7, 8], [8, 10])])
def walk12.B : List Nat := [0, 0, 2, 6, 14, 0, 32, 96, 254, 511, 1023, 2047]
theorem walk12.tab : rtab .any (opsOf Try.f105 12) = walk12.T := by kernel_rfl
theorem walk12.bits : waitsOk walk12.T.2 walk12.B = true := by kernel_rfl
abbrev walk12.mk0 : Array Bool := #[fF,fF,fF,fF,fF,fF,fF,fF,fF,fF,fF,fF]
abbrev walk12.mk1 : Array Bool := #[tT,fF,fF,fF,fF,fF,fF,fF,fF,fF,fF,fF]
abbrev walk12.mk2 : Array Bool := #[tT,tT,fF,fF,fF,fF,fF,fF,fF,fF,fF,fF]
abbrev walk12.mk3 : Array Bool := #[tT,tT,tT,fF,fF,fF,fF,fF,fF,fF,fF,fF]
abbrev walk12.mk4 : Array Bool := #[tT,tT,tT,tT,fF,fF,fF,fF,fF,fF,fF,fF]
abbrev walk12.mk5 : Array Bool := #[tT,tT,tT,tT,fF,tT,fF,fF,fF,fF,fF,fF]
abbrev walk12.mk6 : Array Bool := #[tT,tT,tT,tT,tT,tT,fF,fF,fF,fF,fF,fF]
abbrev walk12.mk7 : Array Bool := #[tT,tT,tT,tT,tT,tT,tT,fF,fF,fF,fF,fF]
abbrev walk12.mk8 : Array Bool := #[tT,tT,tT,tT,tT,tT,tT,tT,fF,fF,fF,fF]
abbrev walk12.mk9 : Array Bool := #[tT,tT,tT,tT,tT,tT,tT,tT,tT,fF,fF,fF]
abbrev walk12.mk10 : Array Bool := #[tT,tT,tT,tT,tT,tT,tT,tT,tT,tT,fF,fF]
abbrev walk12.mk11 : Array Bool := #[tT,tT,tT,tT,tT,tT,tT,tT,tT,tT,tT,fF]
abbrev walk12.mk12 : Array Bool := #[tT,tT,tT,tT,tT,tT,tT,tT,tT,tT,tT,tT]
theorem ExS.putL {w : World} {base g : Nat} {vL vV vD : Value} {L' : List S37} {V D : List Bool} {p t : Int} {vL' : Value} (hb : w.heap[g]? = some (.cells #[vL, vV, vD, .int .i64 p, .int .i64 t] 30 (0, 0))) (gb : base ≤ g) (rL : Kd.R k37 37 w base (fun _ => True) vL' L')
  (rV : Kd.R Kd.bool 4 w base (fun k => some k ≠ vD.ownBlock) vV V) (rD : Kd.R Kd.bool 4 w base (fun k => some k ≠ vV.ownBlock) vD D) : ExS (w.setCell ⟨g, 0, none⟩ vL') base g vL' vV vD L' V D p t := by
 have hk : KeepBut w (w.setCell ⟨g, 0, none⟩ vL') g none := KeepBut.set_ (KeepBut.refl _ _ _) 0 _
 exact ⟨blk_put hb 0 _ rfl, gb, Kd.R_mono (Kd.R_keep (own_ne_ rL rfl hb (by decide)) hk (fun _ hk => hk.2)) (fun _ hk => hk.1), Kd.R_mono (Kd.R_keep (own_ne_ rV rfl hb (by decide)) hk (fun _ hk => hk.2)) (fun _ hk => hk.1), Kd.R_mono (Kd.R_keep (own_ne_ rD rfl hb (by decide)) hk (fun _ hk => hk.2)) (fun _ hk => hk.1)⟩
theorem walk_k2F (g : Nat) (vL vV vD : Value) (L : List S37) (V D : List Bool) (p t a b tp c s : Int) (w0 w : World) (hS : ExS w w0.heap.size g vL vV vD L V D p t) (hB : Below w0.heap.size w0 w) (hok : impl_IsLeg.f a b tp c s = some false) :
  Calls Try.prog 105 #[.pointer (some ⟨g, 0, none⟩), .agg #[.int .i64 2, .int .i64 0, .int .i64 a, .int .i64 b, .int .i64 tp, .int .i64 c, .int .i64 s]] w fun e w' => e = .returned (.bool false) ∧ ExS w' w0.heap.size g vL vV vD L V D p t ∧ Below w0.heap.size w0 w' := by
 have hgw : g < w.heap.size := blk_lt hS.blk
 have hne : w.heap.size ≠ g := by omega
 have hu1 := Try.underlying39
 have hu2 := Try.underlying30
 have hu3 := Try.underlying37
 have hu4 := Try.underlying28
 obtain ⟨A0, c0, rfl⟩ := Kd.R_slice hS.rL
 have HX := Aside0.mk (blk_new w (.cells #[.int .i64 2, .int .i64 0, .int .i64 a, .int .i64 b, .int .i64 tp, .int .i64 c, .int .i64 s] 39 (0, 0)))
 have HS := Aside0.mk (hS.below (below_alloc (Below.refl _ w) (.cells #[.int .i64 2, .int .i64 0, .int .i64 a, .int .i64 b, .int .i64 tp, .int .i64 c, .int .i64 s] 39 (0, 0))))
 have HB := Aside0.mk (below_alloc hB (.cells #[.int .i64 2, .int .i64 0, .int .i64 a, .int .i64 b, .int .i64 tp, .int .i64 c, .int .i64 s] 39 (0, 0)))
 clear hS hB
 go_enter Try.func105, Try.ntmps105
 go_wp2_with fail
 generalize w.alloc (.cells #[.int .i64 2, .int .i64 0, .int .i64 a, .int .i64 b, .int .i64 tp, .int .i64 c, .int .i64 s] 39) = W at HX HS HB ⊢
 replace HX := Aside0.mk (blk_drew HX.out)
 replace HS := Aside0.mk (HS.out.below (below_drew (Below.refl _ W)))
 replace HB := Aside0.mk (below_drew HB.out)
 refine start_ (n := 14) (S := fun w' => w'.cell? ⟨w.heap.size, 2, none⟩ = some (.int .i64 a) ∧ w'.cell? ⟨w.heap.size, 3, none⟩ = some (.int .i64 b) ∧ w'.cell? ⟨w.heap.size, 4, none⟩ = some (.int .i64 tp) ∧ w'.cell? ⟨w.heap.size, 5, none⟩ = some (.int .i64 c) ∧ w'.cell? ⟨w.heap.size, 6, none⟩ = some (.int .i64 s) ∧ w'.cell? ⟨g, 3, none⟩ = some (.int .i64 p)) (ds := []) walk10.mk0 (by kernel_rfl) rfl rfl ⟨(blk_cell HX.out 2).trans rfl, (blk_cell HX.out 3).trans rfl, (blk_cell HX.out 4).trans rfl, (blk_cell HX.out 5).trans rfl, (blk_cell HX.out 6).trans rfl, (blk_cell HS.out.blk 3).trans rfl⟩ (fun hHeld => ?_); refine with_tabW walk10.tab walk10.bits (fun HT_ HW_ => ?_)
 generalize W.drew = W1 at HX HS HB hHeld ⊢
 refine pz_ HT_ 0 (some 87) walk10.mk1 ?_
 refine tk_ HT_ HW_ hHeld 1 (some 88) walk10.mk2 ?_
 refine one_ (i := 2) (N := some 89) walk10.mk3 rfl rfl (one_of HT_.out (by kernel_rfl)) (by decide) (fun K hK => ?_)
 refine gs_ Try.func102 #[.agg #[.int .i64 a, .int .i64 b, .int .i64 tp, .int .i64 c, .int .i64 s]] ?_
 refine (impl_IsLeg.calls a b tp c s false _ hok).mono ?_
 rintro e w1 ⟨rfl, hb⟩
 refine ⟨_, rfl, ?_⟩
 replace HX := Aside0.mk (bb_ HX.out hb)
 replace HS := Aside0.mk (HS.out.below hb)
 replace HB := Aside0.mk (below_step HB.out hb)
 clear hb
 refine hK.out _ _ ⟨(blk_cell HX.out 2).trans rfl, (blk_cell HX.out 3).trans rfl, (blk_cell HX.out 4).trans rfl, (blk_cell HX.out 5).trans rfl, (blk_cell HX.out 6).trans rfl, (blk_cell HS.out.blk 3).trans rfl⟩ (fun hHeld => ?_)
 clear hK K
 refine na_ ?_
 refine pz_ HT_ 3 (some 90) walk10.mk4 ?_
 refine pz_ HT_ 4 (some 91) walk10.mk5 ?_
 refine pu_ HT_ 5 (some 92) walk10.mk6 ?_
 refine pu_ HT_ 6 (some 93) walk10.mk7 ?_
 refine pu_ HT_ 8 (some 95) walk10.mk8 ?_
 refine pu_ HT_ 9 (some 96) walk10.mk9 ?_
 refine pu_ HT_ 10 (some 97) walk10.mk10 ?_
 refine pu_ HT_ 7 (some 94) walk10.mk11 ?_
 refine pu_ HT_ 11 (some 98) walk10.mk12 ?_
 refine pu_ HT_ 12 (some 99) walk10.mk13 ?_
 refine pz_ HT_ 13 (some 100) walk10.mk14 ?_
 refine done_ (done_of HT_.out (by kernel_rfl)) ?_
 go_wp2_with fail
 go_ret
 exact ⟨rfl, HS.out, HB.out⟩
theorem walk_k2N (g : Nat) (vL vV vD : Value) (L : List S37) (V D : List Bool) (p t a b tp c s : Int) (w0 w : World) (hS : ExS w w0.heap.size g vL vV vD L V D p t) (hB : Below w0.heap.size w0 w) (hok : impl_IsLeg.f a b tp c s = some true) (hap : a ≠ p) :
  Calls Try.prog 105 #[.pointer (some ⟨g, 0, none⟩), .agg #[.int .i64 2, .int .i64 0, .int .i64 a, .int .i64 b, .int .i64 tp, .int .i64 c, .int .i64 s]] w fun e w' => e = .returned (.bool false) ∧ ExS w' w0.heap.size g vL vV vD L V D p t ∧ Below w0.heap.size w0 w' := by
 have hgw : g < w.heap.size := blk_lt hS.blk
 have hne : w.heap.size ≠ g := by omega
 have hu1 := Try.underlying39
 have hu2 := Try.underlying30
 have hu3 := Try.underlying37
 have hu4 := Try.underlying28
 obtain ⟨A0, c0, rfl⟩ := Kd.R_slice hS.rL
 have n0 : (a != p) = true := bne_iff_ne.mpr hap
 clear hap
 have HX := Aside0.mk (blk_new w (.cells #[.int .i64 2, .int .i64 0, .int .i64 a, .int .i64 b, .int .i64 tp, .int .i64 c, .int .i64 s] 39 (0, 0)))
 have HS := Aside0.mk (hS.below (below_alloc (Below.refl _ w) (.cells #[.int .i64 2, .int .i64 0, .int .i64 a, .int .i64 b, .int .i64 tp, .int .i64 c, .int .i64 s] 39 (0, 0))))
 have HB := Aside0.mk (below_alloc hB (.cells #[.int .i64 2, .int .i64 0, .int .i64 a, .int .i64 b, .int .i64 tp, .int .i64 c, .int .i64 s] 39 (0, 0)))
 clear hS hB
 go_enter Try.func105, Try.ntmps105
 go_wp2_with fail
 generalize w.alloc (.cells #[.int .i64 2, .int .i64 0, .int .i64 a, .int .i64 b, .int .i64 tp, .int .i64 c, .int .i64 s] 39) = W at HX HS HB ⊢
 replace HX := Aside0.mk (blk_drew HX.out)
 replace HS := Aside0.mk (HS.out.below (below_drew (Below.refl _ W)))
 replace HB := Aside0.mk (below_drew HB.out)
 refine start_ (n := 14) (S := fun w' => w'.cell? ⟨w.heap.size, 2, none⟩ = some (.int .i64 a) ∧ w'.cell? ⟨w.heap.size, 3, none⟩ = some (.int .i64 b) ∧ w'.cell? ⟨w.heap.size, 4, none⟩ = some (.int .i64 tp) ∧ w'.cell? ⟨w.heap.size, 5, none⟩ = some (.int .i64 c) ∧ w'.cell? ⟨w.heap.size, 6, none⟩ = some (.int .i64 s) ∧ w'.cell? ⟨g, 3, none⟩ = some (.int .i64 p)) (ds := []) walk10.mk0 (by kernel_rfl) rfl rfl ⟨(blk_cell HX.out 2).trans rfl, (blk_cell HX.out 3).trans rfl, (blk_cell HX.out 4).trans rfl, (blk_cell HX.out 5).trans rfl, (blk_cell HX.out 6).trans rfl, (blk_cell HS.out.blk 3).trans rfl⟩ (fun hHeld => ?_); refine with_tabW walk10.tab walk10.bits (fun HT_ HW_ => ?_)
 generalize W.drew = W1 at HX HS HB hHeld ⊢
 refine pz_ HT_ 0 (some 87) walk10.mk1 ?_
 refine tk_ HT_ HW_ hHeld 1 (some 88) walk10.mk2 ?_
 refine one_ (i := 2) (N := some 89) walk10.mk3 rfl rfl (one_of HT_.out (by kernel_rfl)) (by decide) (fun K hK => ?_)
 refine gs_ Try.func102 #[.agg #[.int .i64 a, .int .i64 b, .int .i64 tp, .int .i64 c, .int .i64 s]] ?_
 refine (impl_IsLeg.calls a b tp c s true _ hok).mono ?_
 rintro e w1 ⟨rfl, hb⟩
 refine ⟨_, rfl, ?_⟩
 replace HX := Aside0.mk (bb_ HX.out hb)
 replace HS := Aside0.mk (HS.out.below hb)
 replace HB := Aside0.mk (below_step HB.out hb)
 clear hb
 refine hK.out _ _ ⟨(blk_cell HX.out 2).trans rfl, (blk_cell HX.out 3).trans rfl, (blk_cell HX.out 4).trans rfl, (blk_cell HX.out 5).trans rfl, (blk_cell HX.out 6).trans rfl, (blk_cell HS.out.blk 3).trans rfl⟩ (fun hHeld => ?_)
 clear hK K
 refine na_ ?_
 refine pz_ HT_ 3 (some 90) walk10.mk4 ?_
 refine pz_ HT_ 4 (some 91) walk10.mk5 ?_
 refine pz_ HT_ 5 (some 92) walk10.mk6 ?_
 refine pz_ HT_ 6 (some 93) walk10.mk7 ?_
 refine pz_ HT_ 8 (some 95) walk10.mk8 ?_
 refine pz_ HT_ 9 (some 96) walk10.mk9 ?_
 refine pz_ HT_ 10 (some 97) walk10.mk10 ?_
 refine tk_ HT_ HW_ hHeld 7 (some 94) walk10.mk11 ?_
 refine tk_ HT_ HW_ hHeld 11 (some 98) walk10.mk12 ?_
 refine pz_ HT_ 12 (some 99) walk10.mk13 ?_
 refine pz_ HT_ 13 (some 100) walk10.mk14 ?_
 refine done_ (done_of HT_.out (by kernel_rfl)) ?_
 go_wp2_with fail
 go_ret
 exact ⟨rfl, HS.out, HB.out⟩
theorem walk_k2T (g : Nat) (vL vV vD : Value) (L : List S37) (V D : List Bool) (t a b tp c s : Int) (w0 w : World) (hS : ExS w w0.heap.size g vL vV vD L V D a t) (hB : Below w0.heap.size w0 w) (hok : impl_IsLeg.f a b tp c s = some true) (hl : L.length < 1000000) (h0 : 0 ≤ wrap64 (wrap64 (a + b) - a)) (h1 : wrap64 (wrap64 (a + b) - a) < (V.length : Int)) :
  Calls Try.prog 105 #[.pointer (some ⟨g, 0, none⟩), .agg #[.int .i64 2, .int .i64 0, .int .i64 a, .int .i64 b, .int .i64 tp, .int .i64 c, .int .i64 s]] w fun e w' => ∃ vL', e = .returned (.bool true) ∧ ExS w' w0.heap.size g vL' vV vD (L ++ [⟨a, b, tp, c, s⟩]) (V.set (wrap64 (wrap64 (a + b) - a)).toNat true) D (wrap64 (wrap64 (a + b) - a)) (wrap64 (t - wrap64 (3 * tp))) ∧ Below w0.heap.size w0 w' := by
 have hgw : g < w.heap.size := blk_lt hS.blk
 have hne : w.heap.size ≠ g := by omega
 have hu1 := Try.underlying39
 have hu2 := Try.underlying30
 have hu3 := Try.underlying37
 have hu4 := Try.underlying28
 obtain ⟨A0, c0, rfl⟩ := Kd.R_slice hS.rL
 have n0 : (a != a) = false := bne_eq_false_iff_eq.mpr rfl
 have HX := Aside0.mk (blk_new w (.cells #[.int .i64 2, .int .i64 0, .int .i64 a, .int .i64 b, .int .i64 tp, .int .i64 c, .int .i64 s] 39 (0, 0)))
 have HS := Aside0.mk (hS.below (below_alloc (Below.refl _ w) (.cells #[.int .i64 2, .int .i64 0, .int .i64 a, .int .i64 b, .int .i64 tp, .int .i64 c, .int .i64 s] 39 (0, 0))))
 have HB := Aside0.mk (below_alloc hB (.cells #[.int .i64 2, .int .i64 0, .int .i64 a, .int .i64 b, .int .i64 tp, .int .i64 c, .int .i64 s] 39 (0, 0)))
 clear hS hB
 go_enter Try.func105, Try.ntmps105
 go_wp2_with fail
 generalize w.alloc (.cells #[.int .i64 2, .int .i64 0, .int .i64 a, .int .i64 b, .int .i64 tp, .int .i64 c, .int .i64 s] 39) = W at HX HS HB ⊢
 replace HX := Aside0.mk (blk_drew HX.out)
 replace HS := Aside0.mk (HS.out.below (below_drew (Below.refl _ W)))
 replace HB := Aside0.mk (below_drew HB.out)
 refine start_ (n := 14) (S := fun w' => w'.cell? ⟨w.heap.size, 2, none⟩ = some (.int .i64 a) ∧ w'.cell? ⟨w.heap.size, 3, none⟩ = some (.int .i64 b) ∧ w'.cell? ⟨w.heap.size, 4, none⟩ = some (.int .i64 tp) ∧ w'.cell? ⟨w.heap.size, 5, none⟩ = some (.int .i64 c) ∧ w'.cell? ⟨w.heap.size, 6, none⟩ = some (.int .i64 s) ∧ w'.cell? ⟨g, 3, none⟩ = some (.int .i64 a)) (ds := []) walk10.mk0 (by kernel_rfl) rfl rfl ⟨(blk_cell HX.out 2).trans rfl, (blk_cell HX.out 3).trans rfl, (blk_cell HX.out 4).trans rfl, (blk_cell HX.out 5).trans rfl, (blk_cell HX.out 6).trans rfl, (blk_cell HS.out.blk 3).trans rfl⟩ (fun hHeld => ?_); refine with_tabW walk10.tab walk10.bits (fun HT_ HW_ => ?_)
 generalize W.drew = W1 at HX HS HB hHeld ⊢
 refine pz_ HT_ 0 (some 87) walk10.mk1 ?_
 refine tk_ HT_ HW_ hHeld 1 (some 88) walk10.mk2 ?_
 refine one_ (i := 2) (N := some 89) walk10.mk3 rfl rfl (one_of HT_.out (by kernel_rfl)) (by decide) (fun K hK => ?_)
 refine gs_ Try.func102 #[.agg #[.int .i64 a, .int .i64 b, .int .i64 tp, .int .i64 c, .int .i64 s]] ?_
 refine (impl_IsLeg.calls a b tp c s true _ hok).mono ?_
 rintro e w1 ⟨rfl, hb⟩
 refine ⟨_, rfl, ?_⟩
 replace HX := Aside0.mk (bb_ HX.out hb)
 replace HS := Aside0.mk (HS.out.below hb)
 replace HB := Aside0.mk (below_step HB.out hb)
 clear hb
 refine hK.out _ _ ⟨(blk_cell HX.out 2).trans rfl, (blk_cell HX.out 3).trans rfl, (blk_cell HX.out 4).trans rfl, (blk_cell HX.out 5).trans rfl, (blk_cell HX.out 6).trans rfl, (blk_cell HS.out.blk 3).trans rfl⟩ (fun hHeld => ?_)
 clear hK K
 refine na_ ?_
 refine pz_ HT_ 3 (some 90) walk10.mk4 ?_
 refine pz_ HT_ 4 (some 91) walk10.mk5 ?_
 refine pz_ HT_ 5 (some 92) walk10.mk6 ?_
 refine pz_ HT_ 6 (some 93) walk10.mk7 ?_
 refine pz_ HT_ 8 (some 95) walk10.mk8 ?_
 refine pz_ HT_ 9 (some 96) walk10.mk9 ?_
 refine pz_ HT_ 10 (some 97) walk10.mk10 ?_
 refine tk_ HT_ HW_ hHeld 7 (some 94) walk10.mk11 ?_
 refine tk_ HT_ HW_ hHeld 11 (some 98) walk10.mk12 ?_
 refine pz_ HT_ 12 (some 99) walk10.mk13 ?_
 refine pz_ HT_ 13 (some 100) walk10.mk14 ?_
 refine done_ (done_of HT_.out (by kernel_rfl)) ?_
 go_wp2_with fail
 replace HX := Aside0.mk (blk_drew HX.out)
 replace HS := Aside0.mk (HS.out.below (below_drew (Below.refl _ w1)))
 replace HB := Aside0.mk (below_drew HB.out)
 refine start_ (n := 12) (S := fun w' => w'.cell? ⟨w.heap.size, 2, none⟩ = some (.int .i64 a) ∧ w'.cell? ⟨w.heap.size, 3, none⟩ = some (.int .i64 b) ∧ w'.cell? ⟨w.heap.size, 4, none⟩ = some (.int .i64 tp) ∧ w'.cell? ⟨w.heap.size, 5, none⟩ = some (.int .i64 c) ∧ w'.cell? ⟨w.heap.size, 6, none⟩ = some (.int .i64 s) ∧ w'.cell? ⟨g, 0, none⟩ = some (.slice A0 L.length c0)) (ds := [8, 11]) walk12.mk0 (by kernel_rfl) rfl rfl ⟨(blk_cell HX.out 2).trans rfl, (blk_cell HX.out 3).trans rfl, (blk_cell HX.out 4).trans rfl, (blk_cell HX.out 5).trans rfl, (blk_cell HX.out 6).trans rfl, (blk_cell HS.out.blk 0).trans rfl⟩ (fun hHeld => ?_); refine with_tabW walk12.tab walk12.bits (fun HT_ HW_ => ?_)
 generalize w1.drew = W3 at HX HS HB hHeld ⊢
 refine pz_ HT_ 0 (some 101) walk12.mk1 ?_
 refine pz_ HT_ 1 (some 102) walk12.mk2 ?_
 refine pz_ HT_ 2 (some 103) walk12.mk3 ?_
 refine pz_ HT_ 3 (some 104) walk12.mk4 ?_
 refine pz_ HT_ 5 (some 106) walk12.mk5 ?_
 refine tk_ HT_ HW_ hHeld 4 (some 105) walk12.mk6 ?_
 refine tk_ HT_ HW_ hHeld 6 (some 107) walk12.mk7 ?_
 refine one_ (i := 7) (N := some 108) walk12.mk8 rfl rfl (one_of HT_.out (by kernel_rfl)) (by decide) (fun K hK => ?_)
 refine value_ (w1 := ?_) (v := ?_) (by rfl) rfl ?_ ?_
 rotate_left 2
 ·
  go_simp
  constructor
  ·
   rfl
  ·
   rfl
 refine hK.out _ _ ⟨(blk_cell (blk_alloc HX.out _) 2).trans rfl, (blk_cell (blk_alloc HX.out _) 3).trans rfl, (blk_cell (blk_alloc HX.out _) 4).trans rfl, (blk_cell (blk_alloc HX.out _) 5).trans rfl, (blk_cell (blk_alloc HX.out _) 6).trans rfl, (blk_cell (blk_alloc HS.out.blk _) 0).trans rfl⟩ (fun hHeld => ?_)
 clear hK K
 refine na_ ?_
 refine last_ (i := 8) (N := some 109) walk12.mk9 rfl rfl (one_of HT_.out (by kernel_rfl)) (by decide) (fun K hK => ?_)
 refine Kd.R_append_step k37 w0.heap.size (by rfl) (.tmp 105) (.tmp 108) 28 37 (.agg #[(.int .i64 0), (.int .i64 0), (.int .i64 0), (.int .i64 0), (.int .i64 0)]) 40 rfl Try.underlying28 info37 rfl (by decide) (by omega) (.slice A0 L.length c0) L (⟨a, b, tp, c, s⟩ : S37) [.int .i64 a, .int .i64 b, .int .i64 tp, .int .i64 c, .int .i64 s] (fun _ => True) (fun _ => False) rfl rfl ?aP (fun _ hk => hk.elim) ?aF ?aO HB.out ?aS ?aL ?_
 (case aP => exact k37_mkM _ _ _ (⟨a, b, tp, c, s⟩ : S37))
 (case aF => exact (fun _ _ => trivial))
 (case aO => exact HS.out.rL)
 (case aS => exact HB.out.size)
 (case aL => omega)
 intro v9 w5 ho hb hg hat
 replace HX := Aside0.mk (blk_grown HX.out hg (Kd.R_ne HS.out.rL HX.out (by decide)))
 have HBK := Aside0.mk (blk_grown HS.out.blk hg (Kd.R_ne HS.out.rL HS.out.blk (by decide)))
 have HRV := Aside0.mk (Kd.R_over' HS.out.rV (Kd.R_typed HS.out.rL) (by decide) hg)
 have HRD := Aside0.mk (Kd.R_over' HS.out.rD (Kd.R_typed HS.out.rL) (by decide) hg)
 have HGB := Aside0.mk HS.out.gb
 replace HB := Aside0.mk hb
 clear HS hb hg hat
 obtain ⟨A9, c9, e9⟩ := Kd.R_slice ho
 rw [show (L ++ [(⟨a, b, tp, c, s⟩ : S37)]).length = L.length + 1 from List.length_append] at e9
 subst e9
 have HRL := Aside0.mk ho
 clear ho
 refine hK.out _ _ ?_
 clear hK K
 refine na_ ?_
 refine pz_ HT_ 9 (some 110) walk12.mk10 ?_
 refine pz_ HT_ 10 (some 111) walk12.mk11 ?_
 refine last_ (i := 11) (N := none) walk12.mk12 rfl rfl (one_of HT_.out (by kernel_rfl)) (by decide) (fun K hK => ?_)
 have hs9 : w5.cell? ⟨g, 0, none⟩ = some (.slice A0 L.length c0) := (blk_cell HBK.out 0).trans rfl
 have hfs9 := blk_frozen HBK.out 0
 refine skip_ (w1 := ?_) (by rfl) rfl ?_ ?_
 rotate_left
 ·
  go_simp
  rfl
 refine hK.out _ _ ?_
 clear hK K hs9 hfs9
 refine done_ (done_of HT_.out (by kernel_rfl)) ?_
 have HS := Aside0.mk (ExS.putL HBK.out HGB.out HRL.out HRV.out HRD.out)
 replace HX := Aside0.mk (blk_far (p := ⟨g, 0, none⟩) HX.out hne (.slice A9 (L.length + 1) c9))
 replace HB := Aside0.mk (below_set (j := 0) (v := .slice A9 (L.length + 1) c9) HB.out HGB.out)
 clear HBK HGB HRL HRV HRD
 generalize w5.setCell ⟨g, 0, none⟩ (.slice A9 (L.length + 1) c9) = W5 at HX HS HB ⊢
 have x2 : W5.cell? ⟨w.heap.size, 2, none⟩ = some (.int .i64 a) := (blk_cell HX.out 2).trans rfl
 have x3 : W5.cell? ⟨w.heap.size, 3, none⟩ = some (.int .i64 b) := (blk_cell HX.out 3).trans rfl
 have x4 : W5.cell? ⟨w.heap.size, 4, none⟩ = some (.int .i64 tp) := (blk_cell HX.out 4).trans rfl
 have x5 : W5.cell? ⟨w.heap.size, 5, none⟩ = some (.int .i64 c) := (blk_cell HX.out 5).trans rfl
 have x6 : W5.cell? ⟨w.heap.size, 6, none⟩ = some (.int .i64 s) := (blk_cell HX.out 6).trans rfl
 go_wp2_with (go_at_call 119; refine (goAlong_calls g _ vV vD _ V D a t a b tp c s 3 w0 _ HS.out HB.out h0 h1).mono ?_; rintro e w9 ⟨rfl, hS9, hB9⟩)
 go_ret
 exact ⟨_, rfl, hS9, hB9⟩
theorem walk_c0 (g : Nat) (vL vV vD : Value) (L : List S37) (V D : List Bool) (p t k i a b tp c s : Int) (w0 w : World) (hS : ExS w w0.heap.size g vL vV vD L V D p t) (hB : Below w0.heap.size w0 w) (c0 : (k ≠ 2 ∧ ¬ (a = 0 ∧ b = 0 ∧ tp = 0 ∧ c = 0 ∧ s = 0)) ∨ ((k = 2 ∨ k = 3) ∧ i ≠ 0)) :
  Calls Try.prog 105 #[.pointer (some ⟨g, 0, none⟩), .agg #[.int .i64 k, .int .i64 i, .int .i64 a, .int .i64 b, .int .i64 tp, .int .i64 c, .int .i64 s]] w fun e w' => ∃ vL', e = .returned (.bool false) ∧ ExS w' w0.heap.size g vL' vV vD L V D p t ∧ Below w0.heap.size w0 w' := by
 have hgw : g < w.heap.size := blk_lt hS.blk
 have HX := Aside0.mk (blk_new w (.cells #[.int .i64 k, .int .i64 i, .int .i64 a, .int .i64 b, .int .i64 tp, .int .i64 c, .int .i64 s] 39 (0, 0)))
 have HS := Aside0.mk (hS.below (below_alloc (Below.refl _ w) (.cells #[.int .i64 k, .int .i64 i, .int .i64 a, .int .i64 b, .int .i64 tp, .int .i64 c, .int .i64 s] 39 (0, 0))))
 have HB := Aside0.mk (below_alloc hB (.cells #[.int .i64 k, .int .i64 i, .int .i64 a, .int .i64 b, .int .i64 tp, .int .i64 c, .int .i64 s] 39 (0, 0)))
 have hne : w.heap.size ≠ g := by omega
 clear hS hB
 go_enter Try.func105, Try.ntmps105
 go_wp2_with fail
 all_goals first | (go_ret; exact ⟨_, rfl, HS.out, HB.out⟩) | (go_ret; subst_vars; exact ⟨_, rfl, HS.out, HB.out⟩) | (go_ret; exact ⟨rfl, ⟨_, HS.out⟩, HB.out⟩) | (exfalso; rcases c0 with ⟨h1, h2⟩ | ⟨h1 | h1, h2⟩ <;> first | omega | exact h2 ⟨rfl, rfl, rfl, rfl, rfl⟩ | (simp_all; done)) | go_outline
theorem walk_k3 (g : Nat) (vL vV vD : Value) (L : List S37) (V D : List Bool) (p t k i : Int) (L' : List S37) (V' D' : List Bool) (p' t' : Int) (r : Bool) (w0 w : World) (hS : ExS w w0.heap.size g vL vV vD L V D p t) (hB : Below w0.heap.size w0 w) (c0 : ¬ ((k ≠ 2 ∧ ¬ ((0 : Int) = 0 ∧ (0 : Int) = 0 ∧ (0 : Int) = 0 ∧ (0 : Int) = 0 ∧ (0 : Int) = 0)) ∨ ((k = 2 ∨ k = 3) ∧ i ≠ 0))) (k1 : ¬ k = 1) (k2 : ¬ k = 2) (h : (if k = 3 then (if 0 ≤ p ∧ p < (D.length : Int) then (if rdOf false D p = true then some (L, V, D, p, t, false) else some (L, V, D.set p.toNat true, p, t, true)) else none) else if k = 4 then (if p = 0 ∧ 1 ≤ i ∧ i ≤ 1000 then some (L, V, D, p, wrap64 (t + i), true) else some (L, V, D, p, t, false)) else some (L, V, D, p, t, false)) = some (L', V', D', p', t', r)) :
  Calls Try.prog 105 #[.pointer (some ⟨g, 0, none⟩), .agg #[.int .i64 k, .int .i64 i, .int .i64 0, .int .i64 0, .int .i64 0, .int .i64 0, .int .i64 0]] w fun e w' => ∃ vL', e = .returned (.bool r) ∧ ExS w' w0.heap.size g vL' vV vD L' V' D' p' t' ∧ Below w0.heap.size w0 w' := by
 have hgw : g < w.heap.size := blk_lt hS.blk
 have HX := Aside0.mk (blk_new w (.cells #[.int .i64 k, .int .i64 i, .int .i64 0, .int .i64 0, .int .i64 0, .int .i64 0, .int .i64 0] 39 (0, 0)))
 have HS := Aside0.mk (hS.below (below_alloc (Below.refl _ w) (.cells #[.int .i64 k, .int .i64 i, .int .i64 0, .int .i64 0, .int .i64 0, .int .i64 0, .int .i64 0] 39 (0, 0))))
 have HB := Aside0.mk (below_alloc hB (.cells #[.int .i64 k, .int .i64 i, .int .i64 0, .int .i64 0, .int .i64 0, .int .i64 0, .int .i64 0] 39 (0, 0)))
 have hne : w.heap.size ≠ g := by omega
 clear hS hB
 by_cases k3 : k = 3
 ·
  subst k3
  obtain rfl : i = 0 := Classical.byContradiction fun z => c0 (.inr ⟨.inr rfl, z⟩)
  rw [if_pos rfl] at h
  by_cases hpp : 0 ≤ p ∧ p < (D.length : Int)
  ·
   rw [if_pos hpp] at h
   obtain ⟨hp0, hp1⟩ := hpp
   obtain ⟨gv, cap, rfl, hgv, hcap, _⟩ := own_block_ HS.out.rD (by omega)
   have g2 : (w.alloc (.cells #[.int .i64 3, .int .i64 0, .int .i64 0, .int .i64 0, .int .i64 0, .int .i64 0, .int .i64 0] 39)).cell? ⟨g, 2, none⟩ = some (.slice (some ⟨gv, 0, none⟩) D.length cap) := (blk_cell HS.out.blk 2).trans rfl
   have g3 : (w.alloc (.cells #[.int .i64 3, .int .i64 0, .int .i64 0, .int .i64 0, .int .i64 0, .int .i64 0, .int .i64 0] 39)).cell? ⟨g, 3, none⟩ = some (.int .i64 p) := (blk_cell HS.out.blk 3).trans rfl
   obtain ⟨yv, zv⟩ := Kd.R_celln false HS.out.rD p hp0 hp1
   cases hd : rdOf false D p with
   | true =>
    rw [hd] at h yv
    rw [if_pos rfl] at h
    simp only [Option.some.injEq, Prod.mk.injEq] at h
    obtain ⟨rfl, rfl, rfl, rfl, rfl, rfl⟩ := h
    go_enter Try.func105, Try.ntmps105
    go_wp2_with fail
    go_quiet (fail)
    go_wp2_with fail
    go_ret
    first | exact ⟨_, rfl, HS.out.below (pw_below_drewN (Below.refl _ _) _), pw_below_drewN HB.out _⟩ | exact ⟨rfl, ⟨_, HS.out.below (pw_below_drewN (Below.refl _ _) _)⟩, pw_below_drewN HB.out _⟩
   | false =>
    rw [hd] at h yv
    rw [if_neg (by decide)] at h
    simp only [Option.some.injEq, Prod.mk.injEq] at h
    obtain ⟨rfl, rfl, rfl, rfl, rfl, rfl⟩ := h
    go_enter Try.func105, Try.ntmps105
    go_wp2_with fail
    go_quiet (fail)
    go_wp2_with fail
    generalize hq_ : World.drewN (w.alloc (.cells #[.int .i64 3, .int .i64 0, .int .i64 0, .int .i64 0, .int .i64 0, .int .i64 0, .int .i64 0] 39)) _ = W
    have n2_ := Aside0.mk (HS.out.below (hq_ ▸ pw_below_drewN (Below.refl _ _) _))
    have n3_ := Aside0.mk (hq_ ▸ pw_below_drewN HB.out _ : Below w0.heap.size w0 W)
    clear HX HS HB g2 g3 yv zv hq_
    have HS := n2_
    have HB := n3_
    clear n2_ n3_
    have g2 : W.cell? ⟨g, 2, none⟩ = some (.slice (some ⟨gv, 0, none⟩) D.length cap) := (blk_cell HS.out.blk 2).trans rfl
    have g3 : W.cell? ⟨g, 3, none⟩ = some (.int .i64 p) := (blk_cell HS.out.blk 3).trans rfl
    obtain ⟨yv, zv⟩ := Kd.R_celln false HS.out.rD p hp0 hp1
    go_still_tail 9, (by kernel_rfl)
    go_wp2_with fail
    go_ret
    have n2_ := (HS.out.putD p true).below (below_drew (Below.refl _ _))
    have n3_ := below_drew (below_set (j := p.toNat) (v := .bool true) HB.out hgv)
    first | exact ⟨_, rfl, n2_, n3_⟩ | exact ⟨rfl, ⟨_, n2_⟩, n3_⟩
  ·
   rw [if_neg hpp] at h
   cases h
 ·
  rw [if_neg k3] at h
  by_cases k4 : k = 4
  ·
   subst k4
   rw [if_pos rfl] at h
   have hwi : impl_within.f i 1 1000 = some (decide (1 ≤ i ∧ i ≤ 1000)) := by
    unfold impl_within.f
    by_cases z : i ≥ 1
    ·
     rw [if_pos z]
     simp [show 1 ≤ i from z]
    ·
     rw [if_neg z]
     simp [show ¬ 1 ≤ i from z]
   have g3 : (w.alloc (.cells #[.int .i64 4, .int .i64 i, .int .i64 0, .int .i64 0, .int .i64 0, .int .i64 0, .int .i64 0] 39)).cell? ⟨g, 3, none⟩ = some (.int .i64 p) := (blk_cell HS.out.blk 3).trans rfl
   by_cases hp : p = 0
   ·
    subst hp
    by_cases hi : 1 ≤ i ∧ i ≤ 1000
    ·
     rw [if_pos ⟨rfl, hi⟩] at h
     rw [decide_eq_true hi] at hwi
     simp only [Option.some.injEq, Prod.mk.injEq] at h
     obtain ⟨rfl, rfl, rfl, rfl, rfl, rfl⟩ := h
     go_enter Try.func105, Try.ntmps105
     go_wp2_with (go_at_call 71; refine (impl_within.calls i 1 1000 true _ hwi).mono ?_; rintro e w1 ⟨rfl, ⟨n1, rfl⟩⟩)
     have n1_ := Aside0.mk (blk_drewN HX.out n1)
     have n2_ := Aside0.mk (HS.out.below (pw_below_drewN (Below.refl _ _) n1))
     have n3_ := Aside0.mk (pw_below_drewN HB.out n1)
     clear HX HS HB g3
     have HX := n1_
     have HS := n2_
     have HB := n3_
     clear n1_ n2_ n3_
     generalize (w.alloc (.cells #[.int .i64 4, .int .i64 i, .int .i64 0, .int .i64 0, .int .i64 0, .int .i64 0, .int .i64 0] 39)).drewN n1 = W at HX HS HB ⊢
     have x1 : W.cell? ⟨w.heap.size, 1, none⟩ = some (.int .i64 i) := (blk_cell HX.out 1).trans rfl
     have g4 : W.cell? ⟨g, 4, none⟩ = some (.int .i64 t) := (blk_cell HS.out.blk 4).trans rfl
     have z4 := blk_frozen HS.out.blk 4
     go_still_tail 9, (by kernel_rfl)
     go_wp2_with fail
     go_ret
     exact ⟨_, rfl, (HS.out.put4 (wrap64 (t + i))).below (below_drew (Below.refl _ _)), below_drew (below_set (j := 4) (v := .int .i64 (wrap64 (t + i))) HB.out HS.out.gb)⟩
    ·
     rw [if_neg (fun z => hi z.2)] at h
     rw [decide_eq_false hi] at hwi
     simp only [Option.some.injEq, Prod.mk.injEq] at h
     obtain ⟨rfl, rfl, rfl, rfl, rfl, rfl⟩ := h
     go_enter Try.func105, Try.ntmps105
     go_wp2_with (go_at_call 71; refine (impl_within.calls i 1 1000 false _ hwi).mono ?_; rintro e w1 ⟨rfl, ⟨n1, rfl⟩⟩)
     go_ret
     exact ⟨_, rfl, HS.out.below (pw_below_drewN (Below.refl _ _) n1), pw_below_drewN HB.out n1⟩
   ·
    rw [if_neg (fun z => hp z.1)] at h
    simp only [Option.some.injEq, Prod.mk.injEq] at h
    obtain ⟨rfl, rfl, rfl, rfl, rfl, rfl⟩ := h
    go_enter Try.func105, Try.ntmps105
    go_wp2_with fail
    go_ret
    first | exact ⟨_, rfl, HS.out, HB.out⟩ | exact ⟨rfl, ⟨_, HS.out⟩, HB.out⟩ | trace_state
  ·
   rw [if_neg k4] at h
   simp only [Option.some.injEq, Prod.mk.injEq] at h
   obtain ⟨rfl, rfl, rfl, rfl, rfl, rfl⟩ := h
   go_enter Try.func105, Try.ntmps105
   go_wp2_with fail
   all_goals first | (go_ret; exact ⟨_, rfl, HS.out, HB.out⟩) | (go_ret; subst_vars; exact ⟨_, rfl, HS.out, HB.out⟩) | (go_ret; exact ⟨rfl, ⟨_, HS.out⟩, HB.out⟩) | (exfalso; omega) | (go_ret; trace_state)
theorem walk_calls (g : Nat) (vL vV vD : Value) (L : List S37) (V D : List Bool) (p t k i a b tp c s : Int) (L' : List S37) (V' D' : List Bool) (p' t' : Int) (r : Bool) (w0 w : World) (hS : ExS w w0.heap.size g vL vV vD L V D p t) (hB : Below w0.heap.size w0 w) (h : walk_f L V D p t k i a b tp c s = some (L', V', D', p', t', r)) :
  Calls Try.prog 105 #[.pointer (some ⟨g, 0, none⟩), .agg #[.int .i64 k, .int .i64 i, .int .i64 a, .int .i64 b, .int .i64 tp, .int .i64 c, .int .i64 s]] w fun e w' => ∃ vL', e = .returned (.bool r) ∧ ExS w' w0.heap.size g vL' vV vD L' V' D' p' t' ∧ Below w0.heap.size w0 w' := by
 unfold walk_f at h
 by_cases c0 : (k ≠ 2 ∧ ¬ (a = 0 ∧ b = 0 ∧ tp = 0 ∧ c = 0 ∧ s = 0)) ∨ ((k = 2 ∨ k = 3) ∧ i ≠ 0)
 ·
  rw [if_pos c0] at h
  simp only [Option.some.injEq, Prod.mk.injEq] at h
  obtain ⟨rfl, rfl, rfl, rfl, rfl, rfl⟩ := h
  exact walk_c0 g vL vV vD L V D p t k i a b tp c s w0 w hS hB c0
 ·
  rw [if_neg c0] at h
  by_cases k1 : k = 1
  ·
   subst k1
   obtain ⟨rfl, rfl, rfl, rfl, rfl⟩ : a = 0 ∧ b = 0 ∧ tp = 0 ∧ c = 0 ∧ s = 0 := Classical.byContradiction fun z => c0 (.inl ⟨by decide, z⟩)
   rw [if_pos rfl] at h
   have hL : L.length ≤ 9223372036854775807 := by
    obtain ⟨A0, c0, rfl⟩ := Kd.R_slice hS.rL
    exact (Kd.R_reads' hS.rL).2.2.2.1
   by_cases hin : 0 ≤ i ∧ i ≤ wrap64 ((L.length : Int) - 1)
   ·
    rw [if_pos hin] at h
    have hwi : impl_within.f i 0 (wrap64 ((L.length : Int) - 1)) = some true := by
     unfold impl_within.f
     rw [if_pos hin.1, decide_eq_true hin.2]
    have hi1 : i < (L.length : Int) := by
     obtain ⟨z1, z2⟩ := hin
     unfold wrap64 at z2
     omega
    by_cases hn : (rd_T37 L i).f0 ≠ p ∧ (rd_T37 L i).f1 ≠ p
    ·
     rw [if_pos hn] at h
     simp only [Option.some.injEq, Prod.mk.injEq] at h
     obtain ⟨rfl, rfl, rfl, rfl, rfl, rfl⟩ := h
     exact (walk_k1D g vL vV vD L V D p t i w0 w hS hB hwi hin.1 hi1 hn.1 hn.2).mono (fun e w' h => ⟨vL, h⟩)
    ·
     rw [if_neg hn] at h
     by_cases hv : 0 ≤ wrap64 (wrap64 ((rd_T37 L i).f0 + (rd_T37 L i).f1) - p) ∧ wrap64 (wrap64 ((rd_T37 L i).f0 + (rd_T37 L i).f1) - p) < (V.length : Int)
     ·
      rw [if_pos hv] at h
      simp only [Option.some.injEq, Prod.mk.injEq] at h
      obtain ⟨rfl, rfl, rfl, rfl, rfl, rfl⟩ := h
      by_cases hf0 : (rd_T37 L i).f0 = p
      ·
       exact (walk_k1B g vL vV vD L V D p t i w0 w hS hB hwi hin.1 hi1 hf0 hv.1 hv.2).mono (fun e w' h => ⟨vL, h⟩)
      ·
       exact (walk_k1C g vL vV vD L V D p t i w0 w hS hB hwi hin.1 hi1 hf0 (Classical.byContradiction fun z => hn ⟨hf0, z⟩) hv.1 hv.2).mono (fun e w' h => ⟨vL, h⟩)
     ·
      rw [if_neg hv] at h
      cases h
   ·
    rw [if_neg hin] at h
    simp only [Option.some.injEq, Prod.mk.injEq] at h
    obtain ⟨rfl, rfl, rfl, rfl, rfl, rfl⟩ := h
    have hwi : impl_within.f i 0 (wrap64 ((L.length : Int) - 1)) = some false := by
     unfold impl_within.f
     by_cases z : i ≥ 0
     ·
      rw [if_pos z, decide_eq_false (fun y => hin ⟨z, y⟩)]
     ·
      rw [if_neg z]
    exact (walk_k1A g vL vV vD L V D p t i w0 w hS hB hwi).mono (fun e w' h => ⟨vL, h⟩)
  ·
   rw [if_neg k1] at h
   by_cases k2 : k = 2
   ·
    subst k2
    obtain rfl : i = 0 := Classical.byContradiction fun z => c0 (.inr ⟨.inl rfl, z⟩)
    rw [if_pos rfl] at h
    obtain ⟨ok, hok, h⟩ := Option.bind_eq_some_iff.mp h
    cases ok with
    | false =>
     rw [if_neg (fun z => by cases z.1)] at h
     simp only [Option.some.injEq, Prod.mk.injEq] at h
     obtain ⟨rfl, rfl, rfl, rfl, rfl, rfl⟩ := h
     exact (walk_k2F g vL vV vD L V D p t a b tp c s w0 w hS hB hok).mono (fun e w' h => ⟨vL, h⟩)
    | true =>
     by_cases hap : a = p
     ·
      subst hap
      rw [if_pos ⟨rfl, rfl⟩] at h
      by_cases hv : L.length < 1000000 ∧ 0 ≤ wrap64 (wrap64 (a + b) - a) ∧ wrap64 (wrap64 (a + b) - a) < (V.length : Int)
      ·
       rw [if_pos hv] at h
       simp only [Option.some.injEq, Prod.mk.injEq] at h
       obtain ⟨rfl, rfl, rfl, rfl, rfl, rfl⟩ := h
       exact walk_k2T g vL vV vD L V D t a b tp c s w0 w hS hB hok hv.1 hv.2.1 hv.2.2
      ·
       rw [if_neg hv] at h
       cases h
     ·
      rw [if_neg (fun z => hap z.2)] at h
      simp only [Option.some.injEq, Prod.mk.injEq] at h
      obtain ⟨rfl, rfl, rfl, rfl, rfl, rfl⟩ := h
      exact (walk_k2N g vL vV vD L V D p t a b tp c s w0 w hS hB hok hap).mono (fun e w' h => ⟨vL, h⟩)
   ·
    rw [if_neg k2] at h
    obtain ⟨rfl, rfl, rfl, rfl, rfl⟩ : a = 0 ∧ b = 0 ∧ tp = 0 ∧ c = 0 ∧ s = 0 := Classical.byContradiction fun z => c0 (.inl ⟨k2, z⟩)
    exact walk_k3 g vL vV vD L V D p t k i L' V' D' p' t' r w0 w hS hB c0 k1 k2 h
section
variable {w w0 : World} {g base : Nat} {t : TypeId}
theorem set5_R {α : Type} {d : Kd α} {e : Nat} {ok : Nat → Prop} {v : Value} {xs : List α} {cs : Array Value} (h : d.R e w base ok v xs) (hb : w.heap[g]? = some (.cells cs t (0, 0))) (ht : ∀ q, q ∈ e :: d.E → q ≠ t) (a0 a1 a2 a3 a4 : Value) :
  d.R e (((((w.setCell ⟨g, 0, none⟩ a0).setCell ⟨g, 1, none⟩ a1).setCell ⟨g, 2, none⟩ a2).setCell ⟨g, 3, none⟩ a3).setCell ⟨g, 4, none⟩ a4) base ok v xs :=
 Kd.R_mono (Kd.R_far (p := ⟨g, 4, none⟩) (Kd.R_far (p := ⟨g, 3, none⟩) (Kd.R_far (p := ⟨g, 2, none⟩) (Kd.R_far (p := ⟨g, 1, none⟩) (Kd.R_far (p := ⟨g, 0, none⟩) (Kd.R_types h hb ht) (fun _ hk => hk.2) a0) (fun _ hk => hk.2) a1) (fun _ hk => hk.2) a2) (fun _ hk => hk.2) a3) (fun _ hk => hk.2) a4) (fun _ hk => hk.1)
theorem set5_blk {b0 b1 b2 b3 b4 : Value} (h : w.heap[g]? = some (.cells #[b0, b1, b2, b3, b4] t (0, 0))) (a0 a1 a2 a3 a4 : Value) :
  (((((w.setCell ⟨g, 0, none⟩ a0).setCell ⟨g, 1, none⟩ a1).setCell ⟨g, 2, none⟩ a2).setCell ⟨g, 3, none⟩ a3).setCell ⟨g, 4, none⟩ a4).heap[g]? = some (.cells #[a0, a1, a2, a3, a4] t (0, 0)) :=
 blk_put (cs := #[a0, a1, a2, a3, b4]) (blk_put (cs := #[a0, a1, a2, b3, b4]) (blk_put (cs := #[a0, a1, b2, b3, b4]) (blk_put (cs := #[a0, b1, b2, b3, b4]) (blk_put (cs := #[b0, b1, b2, b3, b4]) h 0 _ rfl) 1 _ rfl) 2 _ rfl) 3 _ rfl) 4 _ rfl
theorem set5_below (h : Below w0.heap.size w0 w) (hg : w0.heap.size ≤ g) (a0 a1 a2 a3 a4 : Value) :
  Below w0.heap.size w0 (((((w.setCell ⟨g, 0, none⟩ a0).setCell ⟨g, 1, none⟩ a1).setCell ⟨g, 2, none⟩ a2).setCell ⟨g, 3, none⟩ a3).setCell ⟨g, 4, none⟩ a4) :=
 below_set (below_set (below_set (below_set (below_set h hg) hg) hg) hg) hg
end
def impl_walkOn.f (k : Nat) (l0_0 : List S37) (l0_1 : List Bool) (l0_2 : List Bool) (a0_3 : Int) (a0_4 : Int) (a1_0 : Int) (a1_1 : Int) (a1_2 : Int) (a1_3 : Int) (a1_4 : Int) (a1_5 : Int) (a1_6 : Int) : Option (List S37 × List Bool × List Bool × Int × Int × Bool) :=
 (impl_Exploration_clone.f l0_0 l0_1 l0_2 a0_3 a0_4).bind fun x => (walk_f x.1 x.2.1 x.2.2.1 x.2.2.2.1 x.2.2.2.2 a1_0 a1_1 a1_2 a1_3 a1_4 a1_5 a1_6).bind fun y => if y.2.2.2.2.2 = true then (impl_IsExploration.f k y.1 y.2.1 y.2.2.1 y.2.2.2.1 y.2.2.2.2.1).bind fun q => if q = true then some (y.1, y.2.1, y.2.2.1, y.2.2.2.1, y.2.2.2.2.1, true) else some ([], [], [], 0, 0, false) else some ([], [], [], 0, 0, false)
theorem walkOn_a (k : Nat) (A0_0 : Option Addr) (c0_0 : Nat) (l0_0 : List (S37)) (A0_1 : Option Addr) (c0_1 : Nat) (l0_1 : List Bool) (A0_2 : Option Addr) (c0_2 : Nat) (l0_2 : List Bool) (a0_3 : Int) (a0_4 : Int) (a1_0 : Int) (a1_1 : Int) (a1_2 : Int) (a1_3 : Int) (a1_4 : Int) (a1_5 : Int) (a1_6 : Int) (L : List S37) (V D : List Bool) (p t : Int) (L' : List S37) (V' D' : List Bool) (p' t' : Int) (w : World) (hr0_0 : Kd.C k37 w A0_0 l0_0.length l0_0) (hc0_0 : l0_0.length ≤ c0_0) (hr0_1 : Kd.C Kd.bool w A0_1 l0_1.length l0_1) (hc0_1 : l0_1.length ≤ c0_1) (hr0_2 : Kd.C Kd.bool w A0_2 l0_2.length l0_2) (hc0_2 : l0_2.length ≤ c0_2) (hcl : impl_Exploration_clone.f l0_0 l0_1 l0_2 a0_3 a0_4 = some (L, V, D, p, t)) (hwf : walk_f L V D p t a1_0 a1_1 a1_2 a1_3 a1_4 a1_5 a1_6 = some (L', V', D', p', t', false)) :
  Calls Try.prog 76 #[.agg #[.slice A0_0 l0_0.length c0_0, .slice A0_1 l0_1.length c0_1, .slice A0_2 l0_2.length c0_2, .int .i64 a0_3, .int .i64 a0_4], .agg #[.int .i64 a1_0, .int .i64 a1_1, .int .i64 a1_2, .int .i64 a1_3, .int .i64 a1_4, .int .i64 a1_5, .int .i64 a1_6]] w fun e w' => ∃ v0_ v1_ v2_ : Value, e = .returned (.tuple #[.agg #[v0_, v1_, v2_, .int .i64 0, .int .i64 0], .bool false]) ∧ Kd.R k37 37 w' w.heap.size (fun _ => True) v0_ [] ∧ Kd.R Kd.bool 4 w' w.heap.size (fun k_ => some k_ ≠ (v2_ : Value).ownBlock) v1_ [] ∧ Kd.R Kd.bool 4 w' w.heap.size (fun k_ => some k_ ≠ (v1_ : Value).ownBlock) v2_ [] ∧ Below w.heap.size w w' := by
 have hu1 := Try.underlying39
 have hu2 := Try.underlying30
 have HB := Aside0.mk (Below.refl w.heap.size w)
 have HR0 := Aside0.mk hr0_0
 have HC0 := Aside0.mk hc0_0
 have HR1 := Aside0.mk hr0_1
 have HC1 := Aside0.mk hc0_1
 have HR2 := Aside0.mk hr0_2
 have HC2 := Aside0.mk hc0_2
 clear hr0_0 hc0_0 hr0_1 hc0_1 hr0_2 hc0_2
 go_enter Try.func76, Try.ntmps76
 go_upto_region 2 with (first | ((with_reducible refine gate_dst (N := 2) rfl ?_); refine box_event ?hg (N := 2) ?hd (cs := #[.slice A0_0 l0_0.length c0_0, .slice A0_1 l0_1.length c0_1, .slice A0_2 l0_2.length c0_2, .int .i64 a0_3, .int .i64 a0_4]) (t := 30) ?hr ?_; (case hd => rfl); (case hg => rfl); (case hr => first | (go_simp; done) | (go_simp; rfl)); intro gb2 hg w2 hbox hb; have BKb2 := Aside0.mk hbox; replace HB := Aside0.mk (below_step (lb0_ HB.out) hb); clear hb hbox hg) | ((with_reducible refine gate_dst (N := 3) rfl ?_); refine box_event ?hg (N := 3) ?hd (cs := #[.int .i64 a1_0, .int .i64 a1_1, .int .i64 a1_2, .int .i64 a1_3, .int .i64 a1_4, .int .i64 a1_5, .int .i64 a1_6]) (t := 39) ?hr ?_; (case hd => rfl); (case hg => rfl); (case hr => first | (go_simp; done) | (go_simp; rfl)); intro gb3 hg w3 hbox hb; have BKb3 := Aside0.mk hbox; replace BKb2 := Aside0.mk (bb_ BKb2.out hb); replace HB := Aside0.mk (below_step (lb0_ HB.out) hb); clear hb hbox hg) | ((with_reducible refine gate_dst (N := 4) rfl ?_); refine box_event ?hg (N := 4) ?hd (cs := #[.slice none 0 0, .slice none 0 0, .slice none 0 0, .int .i64 0, .int .i64 0]) (t := 30) ?hr ?_; (case hd => rfl); (case hg => rfl); (case hr => first | (go_simp; done) | (go_simp; rfl)); intro gb4 hg w4 hbox hb; have BKb4 := Aside0.mk hbox; have GE4 := Aside0.mk (bz_ hg (lb0_ HB.out)); replace BKb2 := Aside0.mk (bb_ BKb2.out hb); replace BKb3 := Aside0.mk (bb_ BKb3.out hb); have HA := Aside0.mk (below_step (lb0_ HB.out) hb); clear HB hb hbox hg; have HB := Aside0.mk (Below.refl w4.heap.size w4); obtain ⟨hcz0, hcz1, hcz2, hcz3, hcz4⟩ := cz5_ BKb2.out; obtain ⟨hfz0, hfz1, hfz2, hfz3, hfz4⟩ := fz5_ BKb2.out) | ((with_reducible refine gate_callee (f := 83) rfl ?_); refine ga_ (some 8) Try.func83 #[.agg #[.slice A0_0 l0_0.length c0_0, .slice A0_1 l0_1.length c0_1, .slice A0_2 l0_2.length c0_2, .int .i64 a0_3, .int .i64 a0_4]] ?_; refine (impl_Exploration_clone.calls _ _ l0_0 _ _ l0_1 _ _ l0_2 a0_3 a0_4 L V D p t _ (Kd.C_below HR0.out HA.out) HC0.out (Kd.C_below HR1.out HA.out) HC1.out (Kd.C_below HR2.out HA.out) HC2.out hcl).mono ?_; rintro e w5 ⟨v0, v1, v2, rfl, ho0, ho1, ho2, hb⟩; refine ⟨_, rfl, ?_⟩; clear hcz0 hcz1 hcz2 hcz3 hcz4 hfz0 hfz1 hfz2 hfz3 hfz4; obtain ⟨Ad, cd, rfl⟩ := Kd.R_slice ho0; obtain ⟨Ae, ce, rfl⟩ := Kd.R_slice ho1; obtain ⟨Af, cf, rfl⟩ := Kd.R_slice ho2; replace HB := Aside0.mk hb; have HO0 := Aside0.mk ho0; have HO1 := Aside0.mk ho1; have HO2 := Aside0.mk ho2; clear hb ho0 ho1 ho2) | ((with_reducible refine gate_dst (N := 6) rfl ?_); refine box_event ?hg (N := 6) ?hd (cs := #[.slice none 0 0, .slice none 0 0, .slice none 0 0, .int .i64 0, .int .i64 0]) (t := 30) ?hr ?_; (case hd => rfl); (case hg => rfl); (case hr => first | (go_simp; done) | (go_simp; rfl)); intro gb6 hg w6 hbox hb; have BKb6 := Aside0.mk hbox; have GE6 := Aside0.mk (bz_ hg HB.out); replace HO0 := Aside0.mk (Kd.R_below HO0.out hb); replace HO1 := Aside0.mk (Kd.R_below HO1.out hb); replace HO2 := Aside0.mk (Kd.R_below HO2.out hb); replace HB := Aside0.mk (below_step HB.out hb); clear hb hbox hg; obtain ⟨hcz0, hcz1, hcz2, hcz3, hcz4⟩ := cz5_ BKb6.out; obtain ⟨hfz0, hfz1, hfz2, hfz3, hfz4⟩ := fz5_ BKb6.out))
 clear hcz0 hcz1 hcz2 hcz3 hcz4 hfz0 hfz1 hfz2 hfz3 hfz4
 have HS : Aside0 (ExS (((((w6.setCell ⟨gb6, 0, none⟩ (.slice Ad L.length cd)).setCell ⟨gb6, 1, none⟩ (.slice Ae V.length ce)).setCell ⟨gb6, 2, none⟩ (.slice Af D.length cf)).setCell ⟨gb6, 3, none⟩ (.int .i64 p)).setCell ⟨gb6, 4, none⟩ (.int .i64 t)) w4.heap.size gb6 (.slice Ad L.length cd) (.slice Ae V.length ce) (.slice Af D.length cf) L V D p t) := ⟨⟨set5_blk BKb6.out (.slice Ad L.length cd) (.slice Ae V.length ce) (.slice Af D.length cf) (.int .i64 p) (.int .i64 t), GE6.out, set5_R HO0.out BKb6.out (by decide) (.slice Ad L.length cd) (.slice Ae V.length ce) (.slice Af D.length cf) (.int .i64 p) (.int .i64 t), set5_R HO1.out BKb6.out (by decide) (.slice Ad L.length cd) (.slice Ae V.length ce) (.slice Af D.length cf) (.int .i64 p) (.int .i64 t), set5_R HO2.out BKb6.out (by decide) (.slice Ad L.length cd) (.slice Ae V.length ce) (.slice Af D.length cf) (.int .i64 p) (.int .i64 t)⟩⟩
 replace HB : Aside0 (Below w4.heap.size w4 (((((w6.setCell ⟨gb6, 0, none⟩ (.slice Ad L.length cd)).setCell ⟨gb6, 1, none⟩ (.slice Ae V.length ce)).setCell ⟨gb6, 2, none⟩ (.slice Af D.length cf)).setCell ⟨gb6, 3, none⟩ (.int .i64 p)).setCell ⟨gb6, 4, none⟩ (.int .i64 t))) := ⟨set5_below HB.out GE6.out (.slice Ad L.length cd) (.slice Ae V.length ce) (.slice Af D.length cf) (.int .i64 p) (.int .i64 t)⟩
 clear HO0 HO1 HO2 BKb6
 generalize (((((w6.setCell ⟨gb6, 0, none⟩ (.slice Ad L.length cd)).setCell ⟨gb6, 1, none⟩ (.slice Ae V.length ce)).setCell ⟨gb6, 2, none⟩ (.slice Af D.length cf)).setCell ⟨gb6, 3, none⟩ (.int .i64 p)).setCell ⟨gb6, 4, none⟩ (.int .i64 t)) = w7 at HS HB ⊢
 obtain ⟨hcz0, hcz1, hcz2, hcz3, hcz4, hcz5, hcz6⟩ := cz7_ (blk_below BKb3.out HB.out)
 go_wp2_with ((go_at_call 105; refine (walk_calls gb6 _ _ _ L V D p t a1_0 a1_1 a1_2 a1_3 a1_4 a1_5 a1_6 L' V' D' p' t' false w4 _ HS.out HB.out hwf).mono ?_; rintro e w9 ⟨vL', rfl, hS9, hB9⟩; clear hcz0 hcz1 hcz2 hcz3 hcz4 hcz5 hcz6; obtain ⟨Aa, ca, rfl⟩ := Kd.R_slice hS9.rL; have eV : V.length = V'.length := (Kd.R_reads' hS9.rV).1; have eD : D.length = D'.length := (Kd.R_reads' hS9.rD).1; rw [eV, eD] at hS9; clear eV eD; obtain ⟨hcz0, hcz1, hcz2, hcz3, hcz4⟩ := cz5_ hS9.blk; have HS9 := Aside0.mk hS9; have HB9 := Aside0.mk hB9; clear hS9 hB9; obtain ⟨hdz0, hdz1, hdz2, hdz3, hdz4⟩ := cz5_ (blk_below BKb4.out HB9.out); obtain ⟨hfz0, hfz1, hfz2, hfz3, hfz4⟩ := fz5_ (blk_below BKb4.out HB9.out)))
 refine bodyPost_ret (results_ct rfl _ _ gb4 30 #[(.slice none 0 0), (.slice none 0 0), (.slice none 0 0), (.int .i64 0), (.int .i64 0)] (0, 0) _ rfl (set5_blk (blk_below BKb4.out HB9.out) (.slice none 0 0) (.slice none 0 0) (.slice none 0 0) (.int .i64 0) (.int .i64 0)) Try.underlying30 rfl (by kernel_rfl)) rfl ?_
 exact ⟨_, _, _, rr_, Kd.R_nil _ _ _ _ _, Kd.R_nil _ _ _ _ _, Kd.R_nil _ _ _ _ _, set5_below (below_step HA.out HB9.out) GE4.out (.slice none 0 0) (.slice none 0 0) (.slice none 0 0) (.int .i64 0) (.int .i64 0)⟩
theorem walkOn_b (k : Nat) (A0_0 : Option Addr) (c0_0 : Nat) (l0_0 : List (S37)) (A0_1 : Option Addr) (c0_1 : Nat) (l0_1 : List Bool) (A0_2 : Option Addr) (c0_2 : Nat) (l0_2 : List Bool) (a0_3 : Int) (a0_4 : Int) (a1_0 : Int) (a1_1 : Int) (a1_2 : Int) (a1_3 : Int) (a1_4 : Int) (a1_5 : Int) (a1_6 : Int) (L : List S37) (V D : List Bool) (p t : Int) (L' : List S37) (V' D' : List Bool) (p' t' : Int) (w : World) (hr0_0 : Kd.C k37 w A0_0 l0_0.length l0_0) (hc0_0 : l0_0.length ≤ c0_0) (hr0_1 : Kd.C Kd.bool w A0_1 l0_1.length l0_1) (hc0_1 : l0_1.length ≤ c0_1) (hr0_2 : Kd.C Kd.bool w A0_2 l0_2.length l0_2) (hc0_2 : l0_2.length ≤ c0_2) (hcl : impl_Exploration_clone.f l0_0 l0_1 l0_2 a0_3 a0_4 = some (L, V, D, p, t)) (hwf : walk_f L V D p t a1_0 a1_1 a1_2 a1_3 a1_4 a1_5 a1_6 = some (L', V', D', p', t', true)) (hie : impl_IsExploration.f k L' V' D' p' t' = some false) :
  Calls Try.prog 76 #[.agg #[.slice A0_0 l0_0.length c0_0, .slice A0_1 l0_1.length c0_1, .slice A0_2 l0_2.length c0_2, .int .i64 a0_3, .int .i64 a0_4], .agg #[.int .i64 a1_0, .int .i64 a1_1, .int .i64 a1_2, .int .i64 a1_3, .int .i64 a1_4, .int .i64 a1_5, .int .i64 a1_6]] w fun e w' => ∃ v0_ v1_ v2_ : Value, e = .returned (.tuple #[.agg #[v0_, v1_, v2_, .int .i64 0, .int .i64 0], .bool false]) ∧ Kd.R k37 37 w' w.heap.size (fun _ => True) v0_ [] ∧ Kd.R Kd.bool 4 w' w.heap.size (fun k_ => some k_ ≠ (v2_ : Value).ownBlock) v1_ [] ∧ Kd.R Kd.bool 4 w' w.heap.size (fun k_ => some k_ ≠ (v1_ : Value).ownBlock) v2_ [] ∧ Below w.heap.size w w' := by
 have hu1 := Try.underlying39
 have hu2 := Try.underlying30
 have HB := Aside0.mk (Below.refl w.heap.size w)
 have HR0 := Aside0.mk hr0_0
 have HC0 := Aside0.mk hc0_0
 have HR1 := Aside0.mk hr0_1
 have HC1 := Aside0.mk hc0_1
 have HR2 := Aside0.mk hr0_2
 have HC2 := Aside0.mk hc0_2
 clear hr0_0 hc0_0 hr0_1 hc0_1 hr0_2 hc0_2
 go_enter Try.func76, Try.ntmps76
 go_upto_region 2 with (first | ((with_reducible refine gate_dst (N := 2) rfl ?_); refine box_event ?hg (N := 2) ?hd (cs := #[.slice A0_0 l0_0.length c0_0, .slice A0_1 l0_1.length c0_1, .slice A0_2 l0_2.length c0_2, .int .i64 a0_3, .int .i64 a0_4]) (t := 30) ?hr ?_; (case hd => rfl); (case hg => rfl); (case hr => first | (go_simp; done) | (go_simp; rfl)); intro gb2 hg w2 hbox hb; have BKb2 := Aside0.mk hbox; replace HB := Aside0.mk (below_step (lb0_ HB.out) hb); clear hb hbox hg) | ((with_reducible refine gate_dst (N := 3) rfl ?_); refine box_event ?hg (N := 3) ?hd (cs := #[.int .i64 a1_0, .int .i64 a1_1, .int .i64 a1_2, .int .i64 a1_3, .int .i64 a1_4, .int .i64 a1_5, .int .i64 a1_6]) (t := 39) ?hr ?_; (case hd => rfl); (case hg => rfl); (case hr => first | (go_simp; done) | (go_simp; rfl)); intro gb3 hg w3 hbox hb; have BKb3 := Aside0.mk hbox; replace BKb2 := Aside0.mk (bb_ BKb2.out hb); replace HB := Aside0.mk (below_step (lb0_ HB.out) hb); clear hb hbox hg) | ((with_reducible refine gate_dst (N := 4) rfl ?_); refine box_event ?hg (N := 4) ?hd (cs := #[.slice none 0 0, .slice none 0 0, .slice none 0 0, .int .i64 0, .int .i64 0]) (t := 30) ?hr ?_; (case hd => rfl); (case hg => rfl); (case hr => first | (go_simp; done) | (go_simp; rfl)); intro gb4 hg w4 hbox hb; have BKb4 := Aside0.mk hbox; have GE4 := Aside0.mk (bz_ hg (lb0_ HB.out)); replace BKb2 := Aside0.mk (bb_ BKb2.out hb); replace BKb3 := Aside0.mk (bb_ BKb3.out hb); have HA := Aside0.mk (below_step (lb0_ HB.out) hb); clear HB hb hbox hg; have HB := Aside0.mk (Below.refl w4.heap.size w4); obtain ⟨hcz0, hcz1, hcz2, hcz3, hcz4⟩ := cz5_ BKb2.out; obtain ⟨hfz0, hfz1, hfz2, hfz3, hfz4⟩ := fz5_ BKb2.out) | ((with_reducible refine gate_callee (f := 83) rfl ?_); refine ga_ (some 8) Try.func83 #[.agg #[.slice A0_0 l0_0.length c0_0, .slice A0_1 l0_1.length c0_1, .slice A0_2 l0_2.length c0_2, .int .i64 a0_3, .int .i64 a0_4]] ?_; refine (impl_Exploration_clone.calls _ _ l0_0 _ _ l0_1 _ _ l0_2 a0_3 a0_4 L V D p t _ (Kd.C_below HR0.out HA.out) HC0.out (Kd.C_below HR1.out HA.out) HC1.out (Kd.C_below HR2.out HA.out) HC2.out hcl).mono ?_; rintro e w5 ⟨v0, v1, v2, rfl, ho0, ho1, ho2, hb⟩; refine ⟨_, rfl, ?_⟩; clear hcz0 hcz1 hcz2 hcz3 hcz4 hfz0 hfz1 hfz2 hfz3 hfz4; obtain ⟨Ad, cd, rfl⟩ := Kd.R_slice ho0; obtain ⟨Ae, ce, rfl⟩ := Kd.R_slice ho1; obtain ⟨Af, cf, rfl⟩ := Kd.R_slice ho2; replace HB := Aside0.mk hb; have HO0 := Aside0.mk ho0; have HO1 := Aside0.mk ho1; have HO2 := Aside0.mk ho2; clear hb ho0 ho1 ho2) | ((with_reducible refine gate_dst (N := 6) rfl ?_); refine box_event ?hg (N := 6) ?hd (cs := #[.slice none 0 0, .slice none 0 0, .slice none 0 0, .int .i64 0, .int .i64 0]) (t := 30) ?hr ?_; (case hd => rfl); (case hg => rfl); (case hr => first | (go_simp; done) | (go_simp; rfl)); intro gb6 hg w6 hbox hb; have BKb6 := Aside0.mk hbox; have GE6 := Aside0.mk (bz_ hg HB.out); replace HO0 := Aside0.mk (Kd.R_below HO0.out hb); replace HO1 := Aside0.mk (Kd.R_below HO1.out hb); replace HO2 := Aside0.mk (Kd.R_below HO2.out hb); replace HB := Aside0.mk (below_step HB.out hb); clear hb hbox hg; obtain ⟨hcz0, hcz1, hcz2, hcz3, hcz4⟩ := cz5_ BKb6.out; obtain ⟨hfz0, hfz1, hfz2, hfz3, hfz4⟩ := fz5_ BKb6.out))
 clear hcz0 hcz1 hcz2 hcz3 hcz4 hfz0 hfz1 hfz2 hfz3 hfz4
 have HS : Aside0 (ExS (((((w6.setCell ⟨gb6, 0, none⟩ (.slice Ad L.length cd)).setCell ⟨gb6, 1, none⟩ (.slice Ae V.length ce)).setCell ⟨gb6, 2, none⟩ (.slice Af D.length cf)).setCell ⟨gb6, 3, none⟩ (.int .i64 p)).setCell ⟨gb6, 4, none⟩ (.int .i64 t)) w4.heap.size gb6 (.slice Ad L.length cd) (.slice Ae V.length ce) (.slice Af D.length cf) L V D p t) := ⟨⟨set5_blk BKb6.out (.slice Ad L.length cd) (.slice Ae V.length ce) (.slice Af D.length cf) (.int .i64 p) (.int .i64 t), GE6.out, set5_R HO0.out BKb6.out (by decide) (.slice Ad L.length cd) (.slice Ae V.length ce) (.slice Af D.length cf) (.int .i64 p) (.int .i64 t), set5_R HO1.out BKb6.out (by decide) (.slice Ad L.length cd) (.slice Ae V.length ce) (.slice Af D.length cf) (.int .i64 p) (.int .i64 t), set5_R HO2.out BKb6.out (by decide) (.slice Ad L.length cd) (.slice Ae V.length ce) (.slice Af D.length cf) (.int .i64 p) (.int .i64 t)⟩⟩
 replace HB : Aside0 (Below w4.heap.size w4 (((((w6.setCell ⟨gb6, 0, none⟩ (.slice Ad L.length cd)).setCell ⟨gb6, 1, none⟩ (.slice Ae V.length ce)).setCell ⟨gb6, 2, none⟩ (.slice Af D.length cf)).setCell ⟨gb6, 3, none⟩ (.int .i64 p)).setCell ⟨gb6, 4, none⟩ (.int .i64 t))) := ⟨set5_below HB.out GE6.out (.slice Ad L.length cd) (.slice Ae V.length ce) (.slice Af D.length cf) (.int .i64 p) (.int .i64 t)⟩
 clear HO0 HO1 HO2 BKb6
 generalize (((((w6.setCell ⟨gb6, 0, none⟩ (.slice Ad L.length cd)).setCell ⟨gb6, 1, none⟩ (.slice Ae V.length ce)).setCell ⟨gb6, 2, none⟩ (.slice Af D.length cf)).setCell ⟨gb6, 3, none⟩ (.int .i64 p)).setCell ⟨gb6, 4, none⟩ (.int .i64 t)) = w7 at HS HB ⊢
 obtain ⟨hcz0, hcz1, hcz2, hcz3, hcz4, hcz5, hcz6⟩ := cz7_ (blk_below BKb3.out HB.out)
 go_wp2_with (first | (go_at_call 105; refine (walk_calls gb6 _ _ _ L V D p t a1_0 a1_1 a1_2 a1_3 a1_4 a1_5 a1_6 L' V' D' p' t' true w4 _ HS.out HB.out hwf).mono ?_; rintro e w9 ⟨vL', rfl, hS9, hB9⟩; clear hcz0 hcz1 hcz2 hcz3 hcz4 hcz5 hcz6; obtain ⟨Aa, ca, rfl⟩ := Kd.R_slice hS9.rL; have eV : V.length = V'.length := (Kd.R_reads' hS9.rV).1; have eD : D.length = D'.length := (Kd.R_reads' hS9.rD).1; rw [eV, eD] at hS9; clear eV eD; obtain ⟨hcz0, hcz1, hcz2, hcz3, hcz4⟩ := cz5_ hS9.blk; have HS9 := Aside0.mk hS9; have HB9 := Aside0.mk hB9; clear hS9 hB9) | (go_at_call 18; refine (impl_IsExploration.calls k _ _ L' _ _ V' _ _ D' p' t' false _ (Kd.R_reads' HS9.out.rL).2.2 (Kd.R_reads' HS9.out.rL).2.1 (Kd.R_reads' HS9.out.rV).2.2 (Kd.R_reads' HS9.out.rV).2.1 (Kd.R_reads' HS9.out.rD).2.2 (Kd.R_reads' HS9.out.rD).2.1 hie).mono ?_; rintro e w10 ⟨rfl, hb⟩; clear hcz0 hcz1 hcz2 hcz3 hcz4; replace HS9 := Aside0.mk (HS9.out.below hb); replace HB9 := Aside0.mk (below_step HB9.out hb); clear hb; obtain ⟨hcz0, hcz1, hcz2, hcz3, hcz4⟩ := cz5_ HS9.out.blk; obtain ⟨hdz0, hdz1, hdz2, hdz3, hdz4⟩ := cz5_ (blk_below BKb4.out HB9.out); obtain ⟨hfz0, hfz1, hfz2, hfz3, hfz4⟩ := fz5_ (blk_below BKb4.out HB9.out)))
 refine bodyPost_ret (results_ct rfl _ _ gb4 30 #[(.slice none 0 0), (.slice none 0 0), (.slice none 0 0), (.int .i64 0), (.int .i64 0)] (0, 0) _ rfl (set5_blk (blk_below BKb4.out HB9.out) (.slice none 0 0) (.slice none 0 0) (.slice none 0 0) (.int .i64 0) (.int .i64 0)) Try.underlying30 rfl (by kernel_rfl)) rfl ?_
 exact ⟨_, _, _, rr_, Kd.R_nil _ _ _ _ _, Kd.R_nil _ _ _ _ _, Kd.R_nil _ _ _ _ _, set5_below (below_step HA.out HB9.out) GE4.out (.slice none 0 0) (.slice none 0 0) (.slice none 0 0) (.int .i64 0) (.int .i64 0)⟩
theorem walkOn_c (k : Nat) (A0_0 : Option Addr) (c0_0 : Nat) (l0_0 : List (S37)) (A0_1 : Option Addr) (c0_1 : Nat) (l0_1 : List Bool) (A0_2 : Option Addr) (c0_2 : Nat) (l0_2 : List Bool) (a0_3 : Int) (a0_4 : Int) (a1_0 : Int) (a1_1 : Int) (a1_2 : Int) (a1_3 : Int) (a1_4 : Int) (a1_5 : Int) (a1_6 : Int) (L : List S37) (V D : List Bool) (p t : Int) (L' : List S37) (V' D' : List Bool) (p' t' : Int) (w : World) (hr0_0 : Kd.C k37 w A0_0 l0_0.length l0_0) (hc0_0 : l0_0.length ≤ c0_0) (hr0_1 : Kd.C Kd.bool w A0_1 l0_1.length l0_1) (hc0_1 : l0_1.length ≤ c0_1) (hr0_2 : Kd.C Kd.bool w A0_2 l0_2.length l0_2) (hc0_2 : l0_2.length ≤ c0_2) (hcl : impl_Exploration_clone.f l0_0 l0_1 l0_2 a0_3 a0_4 = some (L, V, D, p, t)) (hwf : walk_f L V D p t a1_0 a1_1 a1_2 a1_3 a1_4 a1_5 a1_6 = some (L', V', D', p', t', true)) (hie : impl_IsExploration.f k L' V' D' p' t' = some true) :
  Calls Try.prog 76 #[.agg #[.slice A0_0 l0_0.length c0_0, .slice A0_1 l0_1.length c0_1, .slice A0_2 l0_2.length c0_2, .int .i64 a0_3, .int .i64 a0_4], .agg #[.int .i64 a1_0, .int .i64 a1_1, .int .i64 a1_2, .int .i64 a1_3, .int .i64 a1_4, .int .i64 a1_5, .int .i64 a1_6]] w fun e w' => ∃ v0_ v1_ v2_ : Value, e = .returned (.tuple #[.agg #[v0_, v1_, v2_, .int .i64 p', .int .i64 t'], .bool true]) ∧ Kd.R k37 37 w' w.heap.size (fun _ => True) v0_ L' ∧ Kd.R Kd.bool 4 w' w.heap.size (fun k_ => some k_ ≠ (v2_ : Value).ownBlock) v1_ V' ∧ Kd.R Kd.bool 4 w' w.heap.size (fun k_ => some k_ ≠ (v1_ : Value).ownBlock) v2_ D' ∧ Below w.heap.size w w' := by
 have hu1 := Try.underlying39
 have hu2 := Try.underlying30
 have HB := Aside0.mk (Below.refl w.heap.size w)
 have HR0 := Aside0.mk hr0_0
 have HC0 := Aside0.mk hc0_0
 have HR1 := Aside0.mk hr0_1
 have HC1 := Aside0.mk hc0_1
 have HR2 := Aside0.mk hr0_2
 have HC2 := Aside0.mk hc0_2
 clear hr0_0 hc0_0 hr0_1 hc0_1 hr0_2 hc0_2
 go_enter Try.func76, Try.ntmps76
 go_upto_region 2 with (first | ((with_reducible refine gate_dst (N := 2) rfl ?_); refine box_event ?hg (N := 2) ?hd (cs := #[.slice A0_0 l0_0.length c0_0, .slice A0_1 l0_1.length c0_1, .slice A0_2 l0_2.length c0_2, .int .i64 a0_3, .int .i64 a0_4]) (t := 30) ?hr ?_; (case hd => rfl); (case hg => rfl); (case hr => first | (go_simp; done) | (go_simp; rfl)); intro gb2 hg w2 hbox hb; have BKb2 := Aside0.mk hbox; replace HB := Aside0.mk (below_step (lb0_ HB.out) hb); clear hb hbox hg) | ((with_reducible refine gate_dst (N := 3) rfl ?_); refine box_event ?hg (N := 3) ?hd (cs := #[.int .i64 a1_0, .int .i64 a1_1, .int .i64 a1_2, .int .i64 a1_3, .int .i64 a1_4, .int .i64 a1_5, .int .i64 a1_6]) (t := 39) ?hr ?_; (case hd => rfl); (case hg => rfl); (case hr => first | (go_simp; done) | (go_simp; rfl)); intro gb3 hg w3 hbox hb; have BKb3 := Aside0.mk hbox; replace BKb2 := Aside0.mk (bb_ BKb2.out hb); replace HB := Aside0.mk (below_step (lb0_ HB.out) hb); clear hb hbox hg) | ((with_reducible refine gate_dst (N := 4) rfl ?_); refine box_event ?hg (N := 4) ?hd (cs := #[.slice none 0 0, .slice none 0 0, .slice none 0 0, .int .i64 0, .int .i64 0]) (t := 30) ?hr ?_; (case hd => rfl); (case hg => rfl); (case hr => first | (go_simp; done) | (go_simp; rfl)); intro gb4 hg w4 hbox hb; have BKb4 := Aside0.mk hbox; have GE4 := Aside0.mk (bz_ hg (lb0_ HB.out)); replace BKb2 := Aside0.mk (bb_ BKb2.out hb); replace BKb3 := Aside0.mk (bb_ BKb3.out hb); have HA := Aside0.mk (below_step (lb0_ HB.out) hb); clear HB hb hbox hg; have HB := Aside0.mk (Below.refl w4.heap.size w4); obtain ⟨hcz0, hcz1, hcz2, hcz3, hcz4⟩ := cz5_ BKb2.out; obtain ⟨hfz0, hfz1, hfz2, hfz3, hfz4⟩ := fz5_ BKb2.out) | ((with_reducible refine gate_callee (f := 83) rfl ?_); refine ga_ (some 8) Try.func83 #[.agg #[.slice A0_0 l0_0.length c0_0, .slice A0_1 l0_1.length c0_1, .slice A0_2 l0_2.length c0_2, .int .i64 a0_3, .int .i64 a0_4]] ?_; refine (impl_Exploration_clone.calls _ _ l0_0 _ _ l0_1 _ _ l0_2 a0_3 a0_4 L V D p t _ (Kd.C_below HR0.out HA.out) HC0.out (Kd.C_below HR1.out HA.out) HC1.out (Kd.C_below HR2.out HA.out) HC2.out hcl).mono ?_; rintro e w5 ⟨v0, v1, v2, rfl, ho0, ho1, ho2, hb⟩; refine ⟨_, rfl, ?_⟩; clear hcz0 hcz1 hcz2 hcz3 hcz4 hfz0 hfz1 hfz2 hfz3 hfz4; obtain ⟨Ad, cd, rfl⟩ := Kd.R_slice ho0; obtain ⟨Ae, ce, rfl⟩ := Kd.R_slice ho1; obtain ⟨Af, cf, rfl⟩ := Kd.R_slice ho2; replace HB := Aside0.mk hb; have HO0 := Aside0.mk ho0; have HO1 := Aside0.mk ho1; have HO2 := Aside0.mk ho2; clear hb ho0 ho1 ho2) | ((with_reducible refine gate_dst (N := 6) rfl ?_); refine box_event ?hg (N := 6) ?hd (cs := #[.slice none 0 0, .slice none 0 0, .slice none 0 0, .int .i64 0, .int .i64 0]) (t := 30) ?hr ?_; (case hd => rfl); (case hg => rfl); (case hr => first | (go_simp; done) | (go_simp; rfl)); intro gb6 hg w6 hbox hb; have BKb6 := Aside0.mk hbox; have GE6 := Aside0.mk (bz_ hg HB.out); replace HO0 := Aside0.mk (Kd.R_below HO0.out hb); replace HO1 := Aside0.mk (Kd.R_below HO1.out hb); replace HO2 := Aside0.mk (Kd.R_below HO2.out hb); replace HB := Aside0.mk (below_step HB.out hb); clear hb hbox hg; obtain ⟨hcz0, hcz1, hcz2, hcz3, hcz4⟩ := cz5_ BKb6.out; obtain ⟨hfz0, hfz1, hfz2, hfz3, hfz4⟩ := fz5_ BKb6.out))
 clear hcz0 hcz1 hcz2 hcz3 hcz4 hfz0 hfz1 hfz2 hfz3 hfz4
 have HS : Aside0 (ExS (((((w6.setCell ⟨gb6, 0, none⟩ (.slice Ad L.length cd)).setCell ⟨gb6, 1, none⟩ (.slice Ae V.length ce)).setCell ⟨gb6, 2, none⟩ (.slice Af D.length cf)).setCell ⟨gb6, 3, none⟩ (.int .i64 p)).setCell ⟨gb6, 4, none⟩ (.int .i64 t)) w4.heap.size gb6 (.slice Ad L.length cd) (.slice Ae V.length ce) (.slice Af D.length cf) L V D p t) := ⟨⟨set5_blk BKb6.out (.slice Ad L.length cd) (.slice Ae V.length ce) (.slice Af D.length cf) (.int .i64 p) (.int .i64 t), GE6.out, set5_R HO0.out BKb6.out (by decide) (.slice Ad L.length cd) (.slice Ae V.length ce) (.slice Af D.length cf) (.int .i64 p) (.int .i64 t), set5_R HO1.out BKb6.out (by decide) (.slice Ad L.length cd) (.slice Ae V.length ce) (.slice Af D.length cf) (.int .i64 p) (.int .i64 t), set5_R HO2.out BKb6.out (by decide) (.slice Ad L.length cd) (.slice Ae V.length ce) (.slice Af D.length cf) (.int .i64 p) (.int .i64 t)⟩⟩
 replace HB : Aside0 (Below w4.heap.size w4 (((((w6.setCell ⟨gb6, 0, none⟩ (.slice Ad L.length cd)).setCell ⟨gb6, 1, none⟩ (.slice Ae V.length ce)).setCell ⟨gb6, 2, none⟩ (.slice Af D.length cf)).setCell ⟨gb6, 3, none⟩ (.int .i64 p)).setCell ⟨gb6, 4, none⟩ (.int .i64 t))) := ⟨set5_below HB.out GE6.out (.slice Ad L.length cd) (.slice Ae V.length ce) (.slice Af D.length cf) (.int .i64 p) (.int .i64 t)⟩
 clear HO0 HO1 HO2 BKb6
 generalize (((((w6.setCell ⟨gb6, 0, none⟩ (.slice Ad L.length cd)).setCell ⟨gb6, 1, none⟩ (.slice Ae V.length ce)).setCell ⟨gb6, 2, none⟩ (.slice Af D.length cf)).setCell ⟨gb6, 3, none⟩ (.int .i64 p)).setCell ⟨gb6, 4, none⟩ (.int .i64 t)) = w7 at HS HB ⊢
 obtain ⟨hcz0, hcz1, hcz2, hcz3, hcz4, hcz5, hcz6⟩ := cz7_ (blk_below BKb3.out HB.out)
 go_wp2_with (first | (go_at_call 105; refine (walk_calls gb6 _ _ _ L V D p t a1_0 a1_1 a1_2 a1_3 a1_4 a1_5 a1_6 L' V' D' p' t' true w4 _ HS.out HB.out hwf).mono ?_; rintro e w9 ⟨vL', rfl, hS9, hB9⟩; clear hcz0 hcz1 hcz2 hcz3 hcz4 hcz5 hcz6; obtain ⟨Aa, ca, rfl⟩ := Kd.R_slice hS9.rL; have eV : V.length = V'.length := (Kd.R_reads' hS9.rV).1; have eD : D.length = D'.length := (Kd.R_reads' hS9.rD).1; rw [eV, eD] at hS9; clear eV eD; obtain ⟨hcz0, hcz1, hcz2, hcz3, hcz4⟩ := cz5_ hS9.blk; have HS9 := Aside0.mk hS9; have HB9 := Aside0.mk hB9; clear hS9 hB9) | (go_at_call 18; refine (impl_IsExploration.calls k _ _ L' _ _ V' _ _ D' p' t' true _ (Kd.R_reads' HS9.out.rL).2.2 (Kd.R_reads' HS9.out.rL).2.1 (Kd.R_reads' HS9.out.rV).2.2 (Kd.R_reads' HS9.out.rV).2.1 (Kd.R_reads' HS9.out.rD).2.2 (Kd.R_reads' HS9.out.rD).2.1 hie).mono ?_; rintro e w10 ⟨rfl, hb⟩; clear hcz0 hcz1 hcz2 hcz3 hcz4; replace HS9 := Aside0.mk (HS9.out.below hb); replace HB9 := Aside0.mk (below_step HB9.out hb); clear hb; obtain ⟨hcz0, hcz1, hcz2, hcz3, hcz4⟩ := cz5_ HS9.out.blk; obtain ⟨hdz0, hdz1, hdz2, hdz3, hdz4⟩ := cz5_ (blk_below BKb4.out HB9.out); obtain ⟨hfz0, hfz1, hfz2, hfz3, hfz4⟩ := fz5_ (blk_below BKb4.out HB9.out)))
 refine bodyPost_ret (results_ct rfl _ _ gb4 30 #[(.slice Aa L'.length ca), (.slice Ae V'.length ce), (.slice Af D'.length cf), (.int .i64 p'), (.int .i64 t')] (0, 0) _ rfl (set5_blk (blk_below BKb4.out HB9.out) (.slice Aa L'.length ca) (.slice Ae V'.length ce) (.slice Af D'.length cf) (.int .i64 p') (.int .i64 t')) Try.underlying30 rfl (by kernel_rfl)) rfl ?_
 exact ⟨_, _, _, rr_, set5_R (Kd.R_lower HS9.out.rL HA.out.size) (blk_below BKb4.out HB9.out) (by decide) (.slice Aa L'.length ca) (.slice Ae V'.length ce) (.slice Af D'.length cf) (.int .i64 p') (.int .i64 t'), set5_R (Kd.R_lower HS9.out.rV HA.out.size) (blk_below BKb4.out HB9.out) (by decide) (.slice Aa L'.length ca) (.slice Ae V'.length ce) (.slice Af D'.length cf) (.int .i64 p') (.int .i64 t'), set5_R (Kd.R_lower HS9.out.rD HA.out.size) (blk_below BKb4.out HB9.out) (by decide) (.slice Aa L'.length ca) (.slice Ae V'.length ce) (.slice Af D'.length cf) (.int .i64 p') (.int .i64 t'), set5_below (below_step HA.out HB9.out) GE4.out (.slice Aa L'.length ca) (.slice Ae V'.length ce) (.slice Af D'.length cf) (.int .i64 p') (.int .i64 t')⟩
theorem impl_walkOn.calls (k : Nat) (A0_0 : Option Addr) (c0_0 : Nat) (l0_0 : List (S37)) (A0_1 : Option Addr) (c0_1 : Nat) (l0_1 : List Bool) (A0_2 : Option Addr) (c0_2 : Nat) (l0_2 : List Bool) (a0_3 : Int) (a0_4 : Int) (a1_0 : Int) (a1_1 : Int) (a1_2 : Int) (a1_3 : Int) (a1_4 : Int) (a1_5 : Int) (a1_6 : Int) (r1 : List (S37)) (r2 : List Bool) (r3 : List Bool) (r4 : Int) (r5 : Int) (r6 : Bool) (w : World) (hr0_0 : Kd.C k37 w A0_0 l0_0.length l0_0) (hc0_0 : l0_0.length ≤ c0_0) (hr0_1 : Kd.C Kd.bool w A0_1 l0_1.length l0_1) (hc0_1 : l0_1.length ≤ c0_1) (hr0_2 : Kd.C Kd.bool w A0_2 l0_2.length l0_2) (hc0_2 : l0_2.length ≤ c0_2) (h : impl_walkOn.f k l0_0 l0_1 l0_2 a0_3 a0_4 a1_0 a1_1 a1_2 a1_3 a1_4 a1_5 a1_6 = some (r1, r2, r3, r4, r5, r6)) :
  Calls Try.prog 76 #[.agg #[.slice A0_0 l0_0.length c0_0, .slice A0_1 l0_1.length c0_1, .slice A0_2 l0_2.length c0_2, .int .i64 a0_3, .int .i64 a0_4], .agg #[.int .i64 a1_0, .int .i64 a1_1, .int .i64 a1_2, .int .i64 a1_3, .int .i64 a1_4, .int .i64 a1_5, .int .i64 a1_6]] w fun e w' => ∃ v0_ v1_ v2_ : Value, e = .returned (.tuple #[.agg #[v0_, v1_, v2_, .int .i64 r4, .int .i64 r5], .bool r6]) ∧ Kd.R k37 37 w' w.heap.size (fun _ => True) v0_ r1 ∧ Kd.R Kd.bool 4 w' w.heap.size (fun k_ => some k_ ≠ (v2_ : Value).ownBlock) v1_ r2 ∧ Kd.R Kd.bool 4 w' w.heap.size (fun k_ => some k_ ≠ (v1_ : Value).ownBlock) v2_ r3 ∧ Below w.heap.size w w' := by
 unfold impl_walkOn.f at h
 obtain ⟨⟨L, V, D, p, t⟩, hcl, h⟩ := Option.bind_eq_some_iff.mp h
 obtain ⟨⟨L', V', D', p', t', b⟩, hwf, h⟩ := Option.bind_eq_some_iff.mp h
 cases b with
 | false =>
  simp only [Bool.false_eq_true, if_false, Option.some.injEq, Prod.mk.injEq] at h
  obtain ⟨rfl, rfl, rfl, rfl, rfl, rfl⟩ := h
  exact walkOn_a k A0_0 c0_0 l0_0 A0_1 c0_1 l0_1 A0_2 c0_2 l0_2 a0_3 a0_4 a1_0 a1_1 a1_2 a1_3 a1_4 a1_5 a1_6 L V D p t L' V' D' p' t' w hr0_0 hc0_0 hr0_1 hc0_1 hr0_2 hc0_2 hcl hwf
 | true =>
  simp only [if_true] at h
  obtain ⟨q, hie, h⟩ := Option.bind_eq_some_iff.mp h
  cases q with
  | false =>
   simp only [Bool.false_eq_true, if_false, Option.some.injEq, Prod.mk.injEq] at h
   obtain ⟨rfl, rfl, rfl, rfl, rfl, rfl⟩ := h
   exact walkOn_b k A0_0 c0_0 l0_0 A0_1 c0_1 l0_1 A0_2 c0_2 l0_2 a0_3 a0_4 a1_0 a1_1 a1_2 a1_3 a1_4 a1_5 a1_6 L V D p t L' V' D' p' t' w hr0_0 hc0_0 hr0_1 hc0_1 hr0_2 hc0_2 hcl hwf hie
  | true =>
   simp only [if_true, Option.some.injEq, Prod.mk.injEq] at h
   obtain ⟨rfl, rfl, rfl, rfl, rfl, rfl⟩ := h
   exact walkOn_c k A0_0 c0_0 l0_0 A0_1 c0_1 l0_1 A0_2 c0_2 l0_2 a0_3 a0_4 a1_0 a1_1 a1_2 a1_3 a1_4 a1_5 a1_6 L V D p t L' V' D' p' t' w hr0_0 hc0_0 hr0_1 hc0_1 hr0_2 hc0_2 hcl hwf hie
mutual
def impl_WalkAll.j0 : Nat → List (S39) → Bool → List (S37) → List Bool → List Bool → Int → Int → Option ((List (S37)) × List Bool × List Bool × Int × Int × Int × Bool)
 | 0, _, _, _, _, _, _, _ => none
 | k + 1, x1, x20, x821000, x821001, x821002, x821003, x821004 => if x20 = true then (some (([] : List (S37)), ([] : List Bool), ([] : List Bool), 0, 0, 0, false)) else ((impl_Exploration_clone.f x821000 x821001 x821002 x821003 x821004).bind fun bt823 => (impl_WalkAll.l0 k 0 x1 (x1.length : Int) 0 bt823.1 bt823.2.1 bt823.2.2.1 bt823.2.2.2.1 bt823.2.2.2.2))
def impl_WalkAll.l0 : Nat → Int → List (S39) → Int → Int → List (S37) → List Bool → List Bool → Int → Int → Option ((List (S37)) × List Bool × List Bool × Int × Int × Int × Bool)
 | 0, _, _, _, _, _, _, _, _, _ => none
 | k + 1, x8, x24, x25, x26, x835000, x835001, x835002, x835003, x835004 => if x26 < x25 then (if 0 ≤ x26 then (if x26 < (x24.length : Int) then ((impl_walkOn.f k x835000 x835001 x835002 x835003 x835004 ((rd_T39 x24 x26).f0) ((rd_T39 x24 x26).f1) ((rd_T39 x24 x26).f2.f0) ((rd_T39 x24 x26).f2.f1) ((rd_T39 x24 x26).f2.f2) ((rd_T39 x24 x26).f2.f3) ((rd_T39 x24 x26).f2.f4)).bind fun bt837 => (if bt837.2.2.2.2.2 = true then (impl_WalkAll.l0 k (wrap64 (x8 + 1)) x24 x25 (wrap64 (x26 + 1)) bt837.1 bt837.2.1 bt837.2.2.1 bt837.2.2.2.1 bt837.2.2.2.2.1) else (impl_WalkAll.l0 k x8 x24 x25 (wrap64 (x26 + 1)) x835000 x835001 x835002 x835003 x835004))) else (none)) else (none)) else (some (x835000, x835001, x835002, x835003, x835004, x8, true))
end
def impl_WalkAll.f (k : Nat) (l0_0 : List (S37)) (l0_1 : List Bool) (l0_2 : List Bool) (a0_3 : Int) (a0_4 : Int) (l1 : List (S39)) : Option ((List (S37)) × List Bool × List Bool × Int × Int × Int × Bool) := (impl_IsExploration.f k l0_0 l0_1 l0_2 a0_3 a0_4).bind fun t822 => (if t822 = true then (impl_WalkAll.j0 k l1 (decide ((l1.length : Int) > 30)) l0_0 l0_1 l0_2 a0_3 a0_4) else (impl_WalkAll.j0 k l1 true l0_0 l0_1 l0_2 a0_3 a0_4))
theorem impl_WalkAll.calls (k : Nat) (A0_0 : Option Addr) (c0_0 : Nat) (l0_0 : List (S37)) (A0_1 : Option Addr) (c0_1 : Nat) (l0_1 : List Bool) (A0_2 : Option Addr) (c0_2 : Nat) (l0_2 : List Bool) (a0_3 : Int) (a0_4 : Int) (A1 : Option Addr) (c1 : Nat) (l1 : List (S39)) (r1 : List (S37)) (r2 : List Bool) (r3 : List Bool) (r4 : Int) (r5 : Int) (r6 : Int) (r7 : Bool) (w : World) (hr0_0 : Kd.C k37 w A0_0 l0_0.length l0_0) (hc0_0 : l0_0.length ≤ c0_0) (hr0_1 : Kd.C Kd.bool w A0_1 l0_1.length l0_1) (hc0_1 : l0_1.length ≤ c0_1) (hr0_2 : Kd.C Kd.bool w A0_2 l0_2.length l0_2) (hc0_2 : l0_2.length ≤ c0_2) (hr1 : Kd.C k39 w A1 l1.length l1) (hc1 : l1.length ≤ c1) (h : impl_WalkAll.f k l0_0 l0_1 l0_2 a0_3 a0_4 l1 = some (r1, r2, r3, r4, r5, r6, r7)) :
  Calls Try.prog 29 #[.agg #[.slice A0_0 l0_0.length c0_0, .slice A0_1 l0_1.length c0_1, .slice A0_2 l0_2.length c0_2, .int .i64 a0_3, .int .i64 a0_4], .slice A1 l1.length c1] w fun e w' => ∃ v0_ v1_ v2_ : Value, e = .returned (.tuple #[.agg #[v0_, v1_, v2_, .int .i64 r4, .int .i64 r5], .int .i64 r6, .bool r7]) ∧ Kd.R k37 37 w' w.heap.size (fun _ => True) v0_ r1 ∧ Kd.R Kd.bool 4 w' w.heap.size (fun k_ => some k_ ≠ (v2_ : Value).ownBlock) v1_ r2 ∧ Kd.R Kd.bool 4 w' w.heap.size (fun k_ => some k_ ≠ (v1_ : Value).ownBlock) v2_ r3 ∧ Below w.heap.size w w' := by
 have hu30 := Try.underlying30
 have hu39 := Try.underlying39
 have HR0_0 := Aside0.mk hr0_0
 have HC0_0 := Aside0.mk hc0_0
 clear hr0_0 hc0_0
 have HR0_1 := Aside0.mk hr0_1
 have HC0_1 := Aside0.mk hc0_1
 clear hr0_1 hc0_1
 have HR0_2 := Aside0.mk hr0_2
 have HC0_2 := Aside0.mk hc0_2
 clear hr0_2 hc0_2
 have HR1 := Aside0.mk hr1
 have HC1 := Aside0.mk hc1
 clear hr1 hc1
 have HB := Aside0.mk (Below.refl w.heap.size w)
 have H : ((impl_IsExploration.f k l0_0 l0_1 l0_2 a0_3 a0_4).bind fun t822 => (if t822 = true then (impl_WalkAll.j0 k l1 (decide ((l1.length : Int) > 30)) l0_0 l0_1 l0_2 a0_3 a0_4) else (impl_WalkAll.j0 k l1 true l0_0 l0_1 l0_2 a0_3 a0_4))) = some (r1, r2, r3, r4, r5, r6, r7) := h
 clear h
 have HC3 := Aside0.mk H
 clear H
 go_enter Try.func29, Try.ntmps29
 go_upto_region 1 with (first | ((with_reducible refine gate_dst (N := 2) rfl ?_); (try (refine gate_guard (by rfl) ?_; dsimp only)); refine box_event ?hg (N := 2) ?hd (cs := #[.slice A0_0 l0_0.length c0_0, .slice A0_1 l0_1.length c0_1, .slice A0_2 l0_2.length c0_2, .int .i64 a0_3, .int .i64 a0_4]) (t := 30) ?hr ?_; (case hd => rfl); (case hg => rfl); (case hr => first | (go_simp; done) | (go_simp; rfl)); intro gb820 hg w4 hbox hb; have BK820 := Aside0.mk (hbox); have GW820 := Aside0.mk ((bz_ hg (lb0_ HB.out))); have GE820 := Aside0.mk ((bz_ hg (lb0_ HB.out))); replace HB := Aside0.mk (below_step (lb0_ HB.out) hb); clear hb hbox hg) | ((with_reducible refine gate_dst (N := 4) rfl ?_); (try (refine gate_guard (by rfl) ?_; dsimp only)); refine box_event ?hg (N := 4) ?hd (cs := #[.slice none 0 0, .slice none 0 0, .slice none 0 0, .int .i64 0, .int .i64 0]) (t := 30) ?hr ?_; (case hd => rfl); (case hg => rfl); (case hr => first | (go_simp; done) | (go_simp; rfl)); intro gb821 hg w5 hbox hb; have BK821 := Aside0.mk (hbox); have GW821 := Aside0.mk ((bz_ hg (lb1_ HB.out GE820.out))); have GE821 := Aside0.mk ((bz_ hg (lb1_ HB.out GE820.out))); replace HB := Aside0.mk (below_step (lb1_ HB.out GE820.out) hb); have NB820_821 := Aside0.mk (nl_ hg BK820.out); have NB821_820 := Aside0.mk (ng_ hg BK820.out); replace BK820 := Aside0.mk (bb_ (bk_ BK820.out) hb); clear hb hbox hg))
 (try simp only [Act.put, List.setIfInBounds_toArray, List.set_cons_zero, List.set_cons_succ])
 go_cut [20] (fun v20 wc => ∃ (kq : Nat) (x20_2 : Bool), v20 = .bool x20_2 ∧ Aside0 (impl_WalkAll.j0 kq l1 x20_2 l0_0 l0_1 l0_2 a0_3 a0_4 = some (r1, r2, r3, r4, r5, r6, r7)) ∧ Aside0 (kq ≤ k) ∧ Aside0 (wc.heap[gb820]? = some (.cells #[(.slice A0_0 l0_0.length c0_0), (.slice A0_1 l0_1.length c0_1), (.slice A0_2 l0_2.length c0_2), .int .i64 a0_3, .int .i64 a0_4] 30 (0, 0))) ∧ Aside0 (wc.heap[gb821]? = some (.cells #[(.slice none 0 0), (.slice none 0 0), (.slice none 0 0), .int .i64 0, .int .i64 0] 30 (0, 0))) ∧ Aside0 (Below w.heap.size w wc))
 case first =>
  have H := HC3.out
  clear HC3
  replace H := Option.bind_eq_some_iff.mp H
  obtain ⟨t822, A60, H⟩ := H
  replace H : (if t822 = true then (impl_WalkAll.j0 k l1 (decide ((l1.length : Int) > 30)) l0_0 l0_1 l0_2 a0_3 a0_4) else (impl_WalkAll.j0 k l1 true l0_0 l0_1 l0_2 a0_3 a0_4)) = some (r1, r2, r3, r4, r5, r6, r7) := H
  have A6 := Aside0.mk A60
  clear A60
  by_cases c7 : t822 = true
  ·
   subst c7
   have H1 : (impl_WalkAll.j0 k l1 (decide ((l1.length : Int) > 30)) l0_0 l0_1 l0_2 a0_3 a0_4) = some (r1, r2, r3, r4, r5, r6, r7) := by rw [if_pos rfl] at H; exact H
   clear H
   have H := H1
   clear H1
   have H' := Aside0.mk H
   clear H
   have hnb8 := NB820_821.out
   have hnc8 := NB821_820.out
   obtain ⟨hcz9_0, hcz9_1, hcz9_2, hcz9_3, hcz9_4⟩ := cz5_ BK820.out
   obtain ⟨hfz9_0, hfz9_1, hfz9_2, hfz9_3, hfz9_4⟩ := fz5_ BK820.out
   go_wp2_with (first | ((with_reducible refine gate_callee (f := 18) rfl ?_); refine ga_ (some 14) Try.func18 #[.agg #[.slice A0_0 l0_0.length c0_0, .slice A0_1 l0_1.length c0_1, .slice A0_2 l0_2.length c0_2, .int .i64 a0_3, .int .i64 a0_4]] ?_; (with_reducible refine (impl_IsExploration.calls k _ _ l0_0 _ _ l0_1 _ _ l0_2 a0_3 a0_4 true _ ?side1 ?side2 ?side3 ?side4 ?side5 ?side6 A6.out).mono ?_); (case side1 => exact kc_ (Kd.C_below HR0_0.out HB.out)); (case side2 => exact HC0_0.out); (case side3 => exact kc_ (Kd.C_below HR0_1.out HB.out)); (case side4 => exact HC0_1.out); (case side5 => exact kc_ (Kd.C_below HR0_2.out HB.out)); (case side6 => exact HC0_2.out); rintro e w10 ⟨rfl, hb⟩; refine ⟨_, rfl, ?_⟩; replace BK820 := Aside0.mk (bb_ (bk_ BK820.out) hb); replace BK821 := Aside0.mk (bb_ (bk_ BK821.out) hb); replace HB := Aside0.mk (below_step (lb2_ HB.out GE820.out GE821.out) hb); (try clear hb); (try clear hb2); (try clear hk); (try clear hi)))
   go_meet
   case rel => exact ⟨_, (decide ((l1.length : Int) > 30)), (by first | rfl | (simp; done) | (simp [*]; done)), H', ⟨by first | omega | exact Nat.le_refl _⟩, ⟨bk_ BK820.out⟩, ⟨bk_ BK821.out⟩, ⟨lb2_ HB.out GE820.out GE821.out⟩⟩
  ·
   replace c7 := Bool.eq_false_iff.mpr c7
   subst c7
   have H1 : (impl_WalkAll.j0 k l1 true l0_0 l0_1 l0_2 a0_3 a0_4) = some (r1, r2, r3, r4, r5, r6, r7) := by rw [if_neg (show ¬ (false = true) by decide)] at H; exact H
   clear H
   have H := H1
   clear H1
   have H' := Aside0.mk H
   clear H
   have hnb11 := NB820_821.out
   have hnc11 := NB821_820.out
   obtain ⟨hcz12_0, hcz12_1, hcz12_2, hcz12_3, hcz12_4⟩ := cz5_ BK820.out
   obtain ⟨hfz12_0, hfz12_1, hfz12_2, hfz12_3, hfz12_4⟩ := fz5_ BK820.out
   go_wp2_with (first | ((with_reducible refine gate_callee (f := 18) rfl ?_); refine ga_ (some 14) Try.func18 #[.agg #[.slice A0_0 l0_0.length c0_0, .slice A0_1 l0_1.length c0_1, .slice A0_2 l0_2.length c0_2, .int .i64 a0_3, .int .i64 a0_4]] ?_; (with_reducible refine (impl_IsExploration.calls k _ _ l0_0 _ _ l0_1 _ _ l0_2 a0_3 a0_4 false _ ?side1 ?side2 ?side3 ?side4 ?side5 ?side6 A6.out).mono ?_); (case side1 => exact kc_ (Kd.C_below HR0_0.out HB.out)); (case side2 => exact HC0_0.out); (case side3 => exact kc_ (Kd.C_below HR0_1.out HB.out)); (case side4 => exact HC0_1.out); (case side5 => exact kc_ (Kd.C_below HR0_2.out HB.out)); (case side6 => exact HC0_2.out); rintro e w13 ⟨rfl, hb⟩; refine ⟨_, rfl, ?_⟩; replace BK820 := Aside0.mk (bb_ (bk_ BK820.out) hb); replace BK821 := Aside0.mk (bb_ (bk_ BK821.out) hb); replace HB := Aside0.mk (below_step (lb2_ HB.out GE820.out GE821.out) hb); (try clear hb); (try clear hb2); (try clear hk); (try clear hi)))
   go_meet
   case rel => exact ⟨_, (true), (by first | rfl | (simp; done) | (simp [*]; done)), H', ⟨by first | omega | exact Nat.le_refl _⟩, ⟨bk_ BK820.out⟩, ⟨bk_ BK821.out⟩, ⟨lb2_ HB.out GE820.out GE821.out⟩⟩
 case rest =>
  clear HC3
  try clear c1
  try clear c2
  try clear p2
  try clear c7
  try clear c8
  try clear c11
  try clear hcz12_0 hcz12_1 hcz12_2 hcz12_3 hcz12_4
  try clear hcz9_0 hcz9_1 hcz9_2 hcz9_3 hcz9_4
  try clear hfz12_0 hfz12_1 hfz12_2 hfz12_3 hfz12_4
  try clear hfz9_0 hfz9_1 hfz9_2 hfz9_3 hfz9_4
  obtain ⟨kq, x20_2, rfl, HA, HJ2, BK820, BK821, HB⟩ := hcut
  cases kq with
  | zero => exact absurd HA.out (by simp [impl_WalkAll.j0])
  | succ kj2 =>
   have H := HA.out
   clear HA
   simp only [impl_WalkAll.j0] at H
   by_cases c14 : x20_2 = true
   ·
    subst c14
    have H1 : (some (([] : List (S37)), ([] : List Bool), ([] : List Bool), 0, 0, 0, false)) = some (r1, r2, r3, r4, r5, r6, r7) := by rw [if_pos rfl] at H; exact H
    clear H
    have H := H1
    clear H1
    simp only [Option.some.injEq, Prod.mk.injEq] at H
    obtain ⟨rfl, rfl, rfl, rfl, rfl, rfl, rfl⟩ := H
    have hnb15 := NB821_820.out
    have hnc15 := NB820_821.out
    obtain ⟨hcz16_0, hcz16_1, hcz16_2, hcz16_3, hcz16_4⟩ := cz5_ BK821.out
    obtain ⟨hfz16_0, hfz16_1, hfz16_2, hfz16_3, hfz16_4⟩ := fz5_ BK821.out
    go_wp2
    refine bodyPost_ret (results_ctt rfl _ _ gb821 30 #[.slice none 0 0, .slice none 0 0, .slice none 0 0, .int .i64 0, .int .i64 0] (0, 0) _ rfl (by (with_reducible repeat (first | refine blk_drewN ?_ _ | refine blk_drew ?_ | refine blk_alloc ?_ _)); refine blk_put (cs := #[.slice none 0 0, .slice none 0 0, .slice none 0 0, .int .i64 0, .int .i64 0]) ?_ 4 _ rfl; (with_reducible repeat (first | refine blk_drewN ?_ _ | refine blk_drew ?_ | refine blk_alloc ?_ _)); refine blk_put (cs := #[.slice none 0 0, .slice none 0 0, .slice none 0 0, .int .i64 0, .int .i64 0]) ?_ 3 _ rfl; (with_reducible repeat (first | refine blk_drewN ?_ _ | refine blk_drew ?_ | refine blk_alloc ?_ _)); refine blk_put (cs := #[.slice none 0 0, .slice none 0 0, .slice none 0 0, .int .i64 0, .int .i64 0]) ?_ 2 _ rfl; (with_reducible repeat (first | refine blk_drewN ?_ _ | refine blk_drew ?_ | refine blk_alloc ?_ _)); refine blk_put (cs := #[.slice none 0 0, .slice none 0 0, .slice none 0 0, .int .i64 0, .int .i64 0]) ?_ 1 _ rfl; (with_reducible repeat (first | refine blk_drewN ?_ _ | refine blk_drew ?_ | refine blk_alloc ?_ _)); refine blk_put (cs := #[.slice none 0 0, .slice none 0 0, .slice none 0 0, .int .i64 0, .int .i64 0]) ?_ 0 _ rfl; (with_reducible repeat (first | refine blk_drewN ?_ _ | refine blk_drew ?_ | refine blk_alloc ?_ _)); exact BK821.out) Try.underlying30 rfl (by kernel_rfl)) rfl ?_
    exact ⟨_, _, _, rr_, by first | exact Kd.R_nil _ _ _ _ _ | exact Kd.N_nil _ _ _ _ _ | exact Kd.V_nil _ _ _ _ _ | exact Kd.Q_nil _ _ _ _ _ | exact Kd.S_nil _ _ _ _ _, by first | exact Kd.R_nil _ _ _ _ _ | exact Kd.N_nil _ _ _ _ _ | exact Kd.V_nil _ _ _ _ _ | exact Kd.Q_nil _ _ _ _ _ | exact Kd.S_nil _ _ _ _ _, by first | exact Kd.R_nil _ _ _ _ _ | exact Kd.N_nil _ _ _ _ _ | exact Kd.V_nil _ _ _ _ _ | exact Kd.Q_nil _ _ _ _ _ | exact Kd.S_nil _ _ _ _ _, lb2_ HB.out GE820.out GE821.out⟩
   ·
    replace c14 := Bool.eq_false_iff.mpr c14
    subst c14
    have H1 : ((impl_Exploration_clone.f l0_0 l0_1 l0_2 a0_3 a0_4).bind fun bt823 => (impl_WalkAll.l0 kj2 0 l1 (l1.length : Int) 0 bt823.1 bt823.2.1 bt823.2.2.1 bt823.2.2.2.1 bt823.2.2.2.2)) = some (r1, r2, r3, r4, r5, r6, r7) := by rw [if_neg (show ¬ (false = true) by decide)] at H; exact H
    clear H
    have H := H1
    clear H1
    replace H := Option.bind_eq_some_iff.mp H
    obtain ⟨⟨t823, t826, t829, t832, t833⟩, A170, H⟩ := H
    replace H : (impl_WalkAll.l0 kj2 0 l1 (l1.length : Int) 0 t823 t826 t829 t832 t833) = some (r1, r2, r3, r4, r5, r6, r7) := H
    have A17 := Aside0.mk A170
    clear A170
    have H' := Aside0.mk H
    clear H
    have hnb18 := NB820_821.out
    have hnc18 := NB821_820.out
    obtain ⟨hcz19_0, hcz19_1, hcz19_2, hcz19_3, hcz19_4⟩ := cz5_ BK820.out
    obtain ⟨hfz19_0, hfz19_1, hfz19_2, hfz19_3, hfz19_4⟩ := fz5_ BK820.out
    go_wp2_with (first | ((with_reducible refine gate_callee (f := 83) rfl ?_); refine ga_ (some 23) Try.func83 #[.agg #[.slice A0_0 l0_0.length c0_0, .slice A0_1 l0_1.length c0_1, .slice A0_2 l0_2.length c0_2, .int .i64 a0_3, .int .i64 a0_4]] ?_; (with_reducible refine (impl_Exploration_clone.calls _ _ l0_0 _ _ l0_1 _ _ l0_2 a0_3 a0_4 t823 t826 t829 t832 t833 _ ?side1 ?side2 ?side3 ?side4 ?side5 ?side6 A17.out).mono ?_); (case side1 => exact kc_ (Kd.C_below HR0_0.out HB.out)); (case side2 => exact HC0_0.out); (case side3 => exact kc_ (Kd.C_below HR0_1.out HB.out)); (case side4 => exact HC0_1.out); (case side5 => exact kc_ (Kd.C_below HR0_2.out HB.out)); (case side6 => exact HC0_2.out); rintro e w20 ⟨v824, v827, v830, rfl, ho0, ho1, ho2, hb⟩; refine ⟨_, rfl, ?_⟩; have HO825 := Aside0.mk (Kd.R_lower ho0 (below_size (lb2_ HB.out GE820.out GE821.out))); have HO828 := Aside0.mk (Kd.R_lower ho1 (below_size (lb2_ HB.out GE820.out GE821.out))); have HO831 := Aside0.mk (Kd.R_lower ho2 (below_size (lb2_ HB.out GE820.out GE821.out))); replace BK820 := Aside0.mk (bb_ (bk_ BK820.out) hb); replace BK821 := Aside0.mk (bb_ (bk_ BK821.out) hb); replace HB := Aside0.mk (below_step (lb2_ HB.out GE820.out GE821.out) hb); (try clear hb); (try clear hb2); (try clear hk); (try clear hi); (try clear ho0); (try clear ho1); (try clear ho2)) | ((with_reducible refine gate_dst (N := 7) rfl ?_); (try (refine gate_guard (by rfl) ?_; dsimp only)); refine box_event ?hg (N := 7) ?hd (cs := #[.slice none 0 0, .slice none 0 0, .slice none 0 0, .int .i64 0, .int .i64 0]) (t := 30) ?hr ?_; (case hd => rfl); (case hg => rfl); (case hr => first | (go_simp; done) | (go_simp; rfl)); intro gb834 hg w21 hbox hb; replace HO825 := Aside0.mk (Kd.R_below (kr_ HO825.out) hb); replace HO828 := Aside0.mk (Kd.R_below (kr_ HO828.out) hb); replace HO831 := Aside0.mk (Kd.R_below (kr_ HO831.out) hb); have BK834 := Aside0.mk (hbox); have GW834 := Aside0.mk ((bz_ hg (lb2_ HB.out GE820.out GE821.out))); have GE834 := Aside0.mk ((bz_ hg (lb2_ HB.out GE820.out GE821.out))); replace HB := Aside0.mk (below_step (lb2_ HB.out GE820.out GE821.out) hb); have NB820_834 := Aside0.mk (nl_ hg BK820.out); have NB834_820 := Aside0.mk (ng_ hg BK820.out); replace BK820 := Aside0.mk (bb_ (bk_ BK820.out) hb); have NB821_834 := Aside0.mk (nl_ hg BK821.out); have NB834_821 := Aside0.mk (ng_ hg BK821.out); replace BK821 := Aside0.mk (bb_ (bk_ BK821.out) hb); clear hb hbox hg; obtain ⟨Ao22, co22, eo22⟩ := Kd.R_slice HO825.out; subst eo22; have hnb23 := NB834_820.out; have hnc23 := NB820_834.out; have hnb24 := NB834_821.out; have hnc24 := NB821_834.out; obtain ⟨hcz25_0, hcz25_1, hcz25_2, hcz25_3, hcz25_4⟩ := cz5_ BK834.out; obtain ⟨hfz25_0, hfz25_1, hfz25_2, hfz25_3, hfz25_4⟩ := fz5_ BK834.out; obtain ⟨Ao26, co26, eo26⟩ := Kd.R_slice HO828.out; subst eo26; obtain ⟨Ao27, co27, eo27⟩ := Kd.R_slice HO831.out; subst eo27))
    go_loopg [8, 26] kj2 (fun kq v8 v26 w' => ∃ (x8_2 : Int) (x26_2 : Int) (x835000_2 : List (S37)) (x835001_2 : List Bool) (x835002_2 : List Bool) (x835003_2 : Int) (x835004_2 : Int) (u835000 : Value) (u835001 : Value) (u835002 : Value), v8 = .int .i64 x8_2 ∧ v26 = .int .i64 x26_2 ∧ Aside0 (impl_WalkAll.l0 kq x8_2 l1 (l1.length : Int) x26_2 x835000_2 x835001_2 x835002_2 x835003_2 x835004_2 = some (r1, r2, r3, r4, r5, r6, r7)) ∧ Aside0 (kq ≤ kj2) ∧ Aside0 (Kd.R k37 37 w' w.heap.size (fun _ => True) u835000 x835000_2) ∧ Aside0 (Kd.R Kd.bool 4 w' w.heap.size (fun k_ => some k_ ≠ (u835002 : Value).ownBlock) u835001 x835001_2) ∧ Aside0 (Kd.R Kd.bool 4 w' w.heap.size (fun k_ => some k_ ≠ (u835001 : Value).ownBlock) u835002 x835002_2) ∧ Aside0 (w'.heap[gb820]? = some (.cells #[(.slice A0_0 l0_0.length c0_0), (.slice A0_1 l0_1.length c0_1), (.slice A0_2 l0_2.length c0_2), .int .i64 a0_3, .int .i64 a0_4] 30 (0, 0))) ∧ Aside0 (w'.heap[gb821]? = some (.cells #[(.slice none 0 0), (.slice none 0 0), (.slice none 0 0), .int .i64 0, .int .i64 0] 30 (0, 0))) ∧ Aside0 (w'.heap[gb834]? = some (.cells #[u835000, u835001, u835002, .int .i64 x835003_2, .int .i64 x835004_2] 30 (0, 0))) ∧ Aside0 (Below w.heap.size w w'))
    case atStart => exact ⟨(0), (0), (t823), (t826), (t829), (t832), (t833), (.slice Ao22 t823.length co22), (.slice Ao26 t826.length co26), (.slice Ao27 t829.length co27), (by first | rfl | (simp; done) | (simp [*]; done)), (by first | rfl | (simp; done) | (simp [*]; done)), H', ⟨Nat.le_refl _⟩, ⟨by (with_reducible repeat (first | apply Kd.R_alloc | apply Kd.R_drewN | apply Kd.R_drew)); exact Kd.R_mono (r5_ HO825.out BK834.out (by decide) _ _ _ _ _) (fun _ hk => trivial)⟩, ⟨by (with_reducible repeat (first | apply Kd.R_alloc | apply Kd.R_drewN | apply Kd.R_drew)); exact Kd.R_mono (r5_ HO828.out BK834.out (by decide) _ _ _ _ _) (fun _ hk => hk)⟩, ⟨by (with_reducible repeat (first | apply Kd.R_alloc | apply Kd.R_drewN | apply Kd.R_drew)); exact Kd.R_mono (r5_ HO831.out BK834.out (by decide) _ _ _ _ _) (fun _ hk => hk)⟩, ⟨by (with_reducible repeat (first | refine blk_drewN ?_ _ | refine blk_drew ?_ | refine blk_alloc ?_ _)); exact (f5_ BK820.out NB820_834.out _ _ _ _ _)⟩, ⟨by (with_reducible repeat (first | refine blk_drewN ?_ _ | refine blk_drew ?_ | refine blk_alloc ?_ _)); exact (f5_ BK821.out NB821_834.out _ _ _ _ _)⟩, ⟨by (with_reducible repeat (first | refine blk_drewN ?_ _ | refine blk_drew ?_ | refine blk_alloc ?_ _)); exact (p5_ BK834.out _ _ _ _ _)⟩, ⟨lb3_ HB.out GE820.out GE821.out GE834.out⟩⟩
    case round =>
     clear H'
     try clear c1
     try clear c2
     try clear p2
     try clear c7
     try clear c8
     try clear c11
     try clear c14
     try clear c15
     try clear c18
     try clear c23
     try clear c24
     try clear hcz12_0 hcz12_1 hcz12_2 hcz12_3 hcz12_4
     try clear hcz16_0 hcz16_1 hcz16_2 hcz16_3 hcz16_4
     try clear hcz19_0 hcz19_1 hcz19_2 hcz19_3 hcz19_4
     try clear hcz25_0 hcz25_1 hcz25_2 hcz25_3 hcz25_4
     try clear hcz9_0 hcz9_1 hcz9_2 hcz9_3 hcz9_4
     try clear hfz12_0 hfz12_1 hfz12_2 hfz12_3 hfz12_4
     try clear hfz16_0 hfz16_1 hfz16_2 hfz16_3 hfz16_4
     try clear hfz19_0 hfz19_1 hfz19_2 hfz19_3 hfz19_4
     try clear hfz25_0 hfz25_1 hfz25_2 hfz25_3 hfz25_4
     try clear hfz9_0 hfz9_1 hfz9_2 hfz9_3 hfz9_4
     try clear p2
     obtain ⟨x8_2, x26_2, x835000_2, x835001_2, x835002_2, x835003_2, x835004_2, u835000, u835001, u835002, rfl, rfl, HA, HK2, HO_835000, HO_835001, HO_835002, BK820, BK821, BK834, HB⟩ := hrel
     cases gk with
     | zero => exact absurd HA.out (by simp [impl_WalkAll.l0])
     | succ k2 =>
      have H := HA.out
      clear HA
      simp only [impl_WalkAll.l0] at H
      by_cases c28 : x26_2 < (l1.length : Int)
      ·
       rw [if_pos c28] at H
       have c28b0 : decide (x26_2 < (l1.length : Int)) = true := decide_eq_true c28
       clear c28
       by_cases c29 : 0 ≤ x26_2
       ·
        rw [if_pos c29] at H
        have c29b0 : decide (0 ≤ x26_2) = true := decide_eq_true c29; clear c29
        by_cases c30 : x26_2 < (l1.length : Int)
        ·
         rw [if_pos c30] at H
         have c30b0 : decide (x26_2 < (l1.length : Int)) = true := decide_eq_true c30; clear c30; replace H := Option.bind_eq_some_iff.mp H; obtain ⟨⟨t837, t840, t843, t846, t847, t848⟩, A310, H⟩ := H; replace H : (if t848 = true then (impl_WalkAll.l0 k2 (wrap64 (x8_2 + 1)) l1 (l1.length : Int) (wrap64 (x26_2 + 1)) t837 t840 t843 t846 t847) else (impl_WalkAll.l0 k2 x8_2 l1 (l1.length : Int) (wrap64 (x26_2 + 1)) x835000_2 x835001_2 x835002_2 x835003_2 x835004_2)) = some (r1, r2, r3, r4, r5, r6, r7) := H; have A31 := Aside0.mk A310; clear A310
         by_cases c32 : t848 = true
         ·
          subst c32
          have H1 : (impl_WalkAll.l0 k2 (wrap64 (x8_2 + 1)) l1 (l1.length : Int) (wrap64 (x26_2 + 1)) t837 t840 t843 t846 t847) = some (r1, r2, r3, r4, r5, r6, r7) := by rw [if_pos rfl] at H; exact H
          clear H; have H := H1; clear H1; have H' := Aside0.mk H; clear H; have p835 : 0 ≤ (x26_2 : Int) := dt_; have q835 : x26_2 < (l1.length : Int) := dt_; obtain ⟨ad835, e835, hx835_0, hx835_1, hx835_2, hx835_3, hx835_4, hx835_5, hx835_6⟩ := at_T39 HR1.out x26_2 p835 q835
          cases e835
          replace hx835_0 := bc_ HB.out hx835_0; replace hx835_1 := bc_ HB.out hx835_1; replace hx835_2 := bc_ HB.out hx835_2; replace hx835_3 := bc_ HB.out hx835_3; replace hx835_4 := bc_ HB.out hx835_4; replace hx835_5 := bc_ HB.out hx835_5; replace hx835_6 := bc_ HB.out hx835_6; replace p835 := eq_true p835; replace q835 := eq_true q835
          go_wp2_with (first | ((with_reducible refine gate_dst (N := 10) rfl ?_); (try (refine gate_guard (by rfl) ?_; dsimp only)); refine box_event ?hg (N := 10) ?hd (cs := #[.int .i64 0, .int .i64 0, .int .i64 0, .int .i64 0, .int .i64 0, .int .i64 0, .int .i64 0]) (t := 39) ?hr ?_; (case hd => rfl); (case hg => rfl); (case hr => first | (go_simp; done) | (go_simp; rfl)); intro gb836 hg w33 hbox hb; replace HO_835000 := Aside0.mk (Kd.R_below (kr_ HO_835000.out) hb); replace HO_835001 := Aside0.mk (Kd.R_below (kr_ HO_835001.out) hb); replace HO_835002 := Aside0.mk (Kd.R_below (kr_ HO_835002.out) hb); have BK836 := Aside0.mk (hbox); have GW836 := Aside0.mk (bz_ hg (lb3_ HB.out GE820.out GE821.out GE834.out)); have GE836 := Aside0.mk (bz_ hg (lb3_ HB.out GE820.out GE821.out GE834.out)); replace HB := Aside0.mk (below_step (lb3_ HB.out GE820.out GE821.out GE834.out) hb); have NB820_836 := Aside0.mk (nl_ hg BK820.out); have NB836_820 := Aside0.mk (ng_ hg BK820.out); replace BK820 := Aside0.mk (bb_ (bk_ BK820.out) hb); have NB821_836 := Aside0.mk (nl_ hg BK821.out); have NB836_821 := Aside0.mk (ng_ hg BK821.out); replace BK821 := Aside0.mk (bb_ (bk_ BK821.out) hb); have NB834_836 := Aside0.mk (nl_ hg BK834.out); have NB836_834 := Aside0.mk (ng_ hg BK834.out); replace BK834 := Aside0.mk (bb_ (bk_ BK834.out) hb); clear hb hbox hg; have hnb34 := NB836_820.out; have hnc34 := NB820_836.out; have hnb35 := NB836_821.out; have hnc35 := NB821_836.out; have hnb36 := NB836_834.out; have hnc36 := NB834_836.out; obtain ⟨hcz37_0, hcz37_1, hcz37_2, hcz37_3, hcz37_4, hcz37_5, hcz37_6⟩ := cz7_ BK836.out; obtain ⟨hfz37_0, hfz37_1, hfz37_2, hfz37_3, hfz37_4, hfz37_5, hfz37_6⟩ := fz7_ BK836.out; have hnb38 := NB834_820.out; have hnc38 := NB820_834.out; have hnb39 := NB834_821.out; have hnc39 := NB821_834.out; obtain ⟨hcz40_0, hcz40_1, hcz40_2, hcz40_3, hcz40_4⟩ := cz5_ BK834.out; obtain ⟨hfz40_0, hfz40_1, hfz40_2, hfz40_3, hfz40_4⟩ := fz5_ BK834.out; obtain ⟨Ao41, co41, eo41⟩ := Kd.R_slice HO_835000.out; subst eo41; obtain ⟨Ao42, co42, eo42⟩ := Kd.R_slice HO_835001.out; subst eo42; obtain ⟨Ao43, co43, eo43⟩ := Kd.R_slice HO_835002.out; subst eo43) | ((with_reducible refine gate_callee (f := 76) rfl ?_); refine ga_ (some 33) Try.func76 #[.agg #[.slice Ao41 x835000_2.length co41, .slice Ao42 x835001_2.length co42, .slice Ao43 x835002_2.length co43, .int .i64 x835003_2, .int .i64 x835004_2], .agg #[.int .i64 ((rd_T39 l1 x26_2).f0), .int .i64 ((rd_T39 l1 x26_2).f1), .int .i64 ((rd_T39 l1 x26_2).f2.f0), .int .i64 ((rd_T39 l1 x26_2).f2.f1), .int .i64 ((rd_T39 l1 x26_2).f2.f2), .int .i64 ((rd_T39 l1 x26_2).f2.f3), .int .i64 ((rd_T39 l1 x26_2).f2.f4)]] ?_; (with_reducible refine (impl_walkOn.calls k2 _ _ x835000_2 _ _ x835001_2 _ _ x835002_2 x835003_2 x835004_2 ((rd_T39 l1 x26_2).f0) ((rd_T39 l1 x26_2).f1) ((rd_T39 l1 x26_2).f2.f0) ((rd_T39 l1 x26_2).f2.f1) ((rd_T39 l1 x26_2).f2.f2) ((rd_T39 l1 x26_2).f2.f3) ((rd_T39 l1 x26_2).f2.f4) t837 t840 t843 t846 t847 true _ ?side1 ?side2 ?side3 ?side4 ?side5 ?side6 A31.out).mono ?_); (case side1 => refine (Kd.R_reads' (e := 37) (base := w.heap.size) (ok := fun k_ => True) (n := x835000_2.length) (c := co41) ?_).2.2; exact (kg_ HO_835000.out BK836.out)); (case side2 => exact (Kd.R_reads' HO_835000.out).2.1); (case side3 => refine (Kd.R_reads' (e := 4) (base := w.heap.size) (ok := fun k_ => some k_ ≠ (.slice Ao43 x835002_2.length co43 : Value).ownBlock) (n := x835001_2.length) (c := co42) ?_).2.2; exact (kg_ HO_835001.out BK836.out)); (case side4 => exact (Kd.R_reads' HO_835001.out).2.1); (case side5 => refine (Kd.R_reads' (e := 4) (base := w.heap.size) (ok := fun k_ => some k_ ≠ (.slice Ao42 x835001_2.length co42 : Value).ownBlock) (n := x835002_2.length) (c := co43) ?_).2.2; exact (kg_ HO_835002.out BK836.out)); (case side6 => exact (Kd.R_reads' HO_835002.out).2.1); rintro e w44 ⟨v838, v841, v844, rfl, ho0, ho1, ho2, hb⟩; refine ⟨_, rfl, ?_⟩; have HO839 := Aside0.mk (Kd.R_lower (Kd.R_new' ho0 (Kd.R_lt (kg_ HO_835000.out BK836.out))) (below_size (by repeat (first | (with_reducible first | exact HB.out | apply below_alloc | apply pw_below_drewN | apply below_drew1 | refine below_set ?_ GE820.out | refine below_set ?_ GE821.out | refine below_set ?_ GE834.out | refine below_set ?_ GE836.out) | exact HB.out)))); replace HO_835000 := Aside0.mk (Kd.R_elder' (kg_ HO_835000.out BK836.out) (Kd.R_base ho0) hb); have HO842 := Aside0.mk (Kd.R_lower (Kd.R_new' (Kd.R_new' ho1 (Kd.R_lt (kg_ HO_835001.out BK836.out))) (Kd.R_lt (kg_ HO_835002.out BK836.out))) (below_size (by repeat (first | (with_reducible first | exact HB.out | apply below_alloc | apply pw_below_drewN | apply below_drew1 | refine below_set ?_ GE820.out | refine below_set ?_ GE821.out | refine below_set ?_ GE834.out | refine below_set ?_ GE836.out) | exact HB.out)))); have HO845 := Aside0.mk (Kd.R_lower (Kd.R_new' (Kd.R_new' ho2 (Kd.R_lt (kg_ HO_835001.out BK836.out))) (Kd.R_lt (kg_ HO_835002.out BK836.out))) (below_size (by repeat (first | (with_reducible first | exact HB.out | apply below_alloc | apply pw_below_drewN | apply below_drew1 | refine below_set ?_ GE820.out | refine below_set ?_ GE821.out | refine below_set ?_ GE834.out | refine below_set ?_ GE836.out) | exact HB.out)))); replace HO_835001 := Aside0.mk (Kd.R_mono (Kd.R_told (Kd.R_told (Kd.R_old (kg_ HO_835001.out BK836.out) hb) (Kd.R_base ho1)) (Kd.R_base ho2)) (fun _ h_ => h_.1)); replace HO_835002 := Aside0.mk (Kd.R_mono (Kd.R_told (Kd.R_told (Kd.R_old (kg_ HO_835002.out BK836.out) hb) (Kd.R_base ho1)) (Kd.R_base ho2)) (fun _ h_ => h_.1)); replace BK820 := Aside0.mk (blk_below (g := gb820) (o := .cells #[.slice A0_0 l0_0.length c0_0, .slice A0_1 l0_1.length c0_1, .slice A0_2 l0_2.length c0_2, .int .i64 a0_3, .int .i64 a0_4] 30 (0, 0)) (by (with_reducible repeat (first | refine blk_drewN ?_ _ | refine blk_drew ?_ | refine blk_alloc ?_ _)); exact (f7_ BK820.out NB820_836.out _ _ _ _ _ _ _)) hb); replace BK821 := Aside0.mk (blk_below (g := gb821) (o := .cells #[.slice none 0 0, .slice none 0 0, .slice none 0 0, .int .i64 0, .int .i64 0] 30 (0, 0)) (by (with_reducible repeat (first | refine blk_drewN ?_ _ | refine blk_drew ?_ | refine blk_alloc ?_ _)); exact (f7_ BK821.out NB821_836.out _ _ _ _ _ _ _)) hb); replace BK834 := Aside0.mk (blk_below (g := gb834) (o := .cells #[.slice Ao41 x835000_2.length co41, .slice Ao42 x835001_2.length co42, .slice Ao43 x835002_2.length co43, .int .i64 x835003_2, .int .i64 x835004_2] 30 (0, 0)) (by (with_reducible repeat (first | refine blk_drewN ?_ _ | refine blk_drew ?_ | refine blk_alloc ?_ _)); exact (f7_ BK834.out NB834_836.out _ _ _ _ _ _ _)) hb); replace BK836 := Aside0.mk (blk_below (g := gb836) (o := .cells #[.int .i64 ((rd_T39 l1 x26_2).f0), .int .i64 ((rd_T39 l1 x26_2).f1), .int .i64 ((rd_T39 l1 x26_2).f2.f0), .int .i64 ((rd_T39 l1 x26_2).f2.f1), .int .i64 ((rd_T39 l1 x26_2).f2.f2), .int .i64 ((rd_T39 l1 x26_2).f2.f3), .int .i64 ((rd_T39 l1 x26_2).f2.f4)] 39 (0, 0)) (by (with_reducible repeat (first | refine blk_drewN ?_ _ | refine blk_drew ?_ | refine blk_alloc ?_ _)); exact (p7_ BK836.out _ _ _ _ _ _ _)) hb); replace HB := Aside0.mk (below_step (by repeat (first | (with_reducible first | exact HB.out | apply below_alloc | apply pw_below_drewN | apply below_drew1 | refine below_set ?_ GE820.out | refine below_set ?_ GE821.out | refine below_set ?_ GE834.out | refine below_set ?_ GE836.out) | exact HB.out)) hb); (try clear hb); (try clear hb2); (try clear hk); (try clear hi); (try clear ho0); (try clear ho1); (try clear ho2)) | ((with_reducible refine gate_dst (N := 11) rfl ?_); (try (refine gate_guard (by rfl) ?_; dsimp only)); refine box_event ?hg (N := 11) ?hd (cs := #[.slice none 0 0, .slice none 0 0, .slice none 0 0, .int .i64 0, .int .i64 0]) (t := 30) ?hr ?_; (case hd => rfl); (case hg => rfl); (case hr => first | (go_simp; done) | (go_simp; rfl)); intro gb849 hg w45 hbox hb; replace HO_835000 := Aside0.mk (Kd.R_below (kr_ HO_835000.out) hb); replace HO_835001 := Aside0.mk (Kd.R_below (kr_ HO_835001.out) hb); replace HO_835002 := Aside0.mk (Kd.R_below (kr_ HO_835002.out) hb); replace HO839 := Aside0.mk (Kd.R_below (kr_ HO839.out) hb); replace HO842 := Aside0.mk (Kd.R_below (kr_ HO842.out) hb); replace HO845 := Aside0.mk (Kd.R_below (kr_ HO845.out) hb); have BK849 := Aside0.mk (hbox); have GW849 := Aside0.mk ((by rw [hg]; exact (below_size (by repeat (first | (with_reducible first | exact HB.out | apply below_alloc | apply pw_below_drewN | apply below_drew1 | refine below_set ?_ GE820.out | refine below_set ?_ GE821.out | refine below_set ?_ GE834.out | refine below_set ?_ GE836.out) | exact HB.out))) : w.heap.size ≤ gb849)); have GE849 := Aside0.mk ((by rw [hg]; exact (below_size (by repeat (first | (with_reducible first | exact HB.out | apply below_alloc | apply pw_below_drewN | apply below_drew1 | refine below_set ?_ GE820.out | refine below_set ?_ GE821.out | refine below_set ?_ GE834.out | refine below_set ?_ GE836.out) | exact HB.out))) : w.heap.size ≤ gb849)); replace HB := Aside0.mk (below_step (by repeat (first | (with_reducible first | exact HB.out | apply below_alloc | apply pw_below_drewN | apply below_drew1 | refine below_set ?_ GE820.out | refine below_set ?_ GE821.out | refine below_set ?_ GE834.out | refine below_set ?_ GE836.out) | exact HB.out)) hb); have NB820_849 := Aside0.mk (nl_ hg BK820.out); have NB849_820 := Aside0.mk (ng_ hg BK820.out); replace BK820 := Aside0.mk (bb_ (bk_ BK820.out) hb); have NB821_849 := Aside0.mk (nl_ hg BK821.out); have NB849_821 := Aside0.mk (ng_ hg BK821.out); replace BK821 := Aside0.mk (bb_ (bk_ BK821.out) hb); have NB834_849 := Aside0.mk (nl_ hg BK834.out); have NB849_834 := Aside0.mk (ng_ hg BK834.out); replace BK834 := Aside0.mk (bb_ (bk_ BK834.out) hb); have NB836_849 := Aside0.mk (nl_ hg BK836.out); have NB849_836 := Aside0.mk (ng_ hg BK836.out); replace BK836 := Aside0.mk (bb_ (bk_ BK836.out) hb); clear hb hbox hg; obtain ⟨Ao46, co46, eo46⟩ := Kd.R_slice HO839.out; subst eo46; have hnb47 := NB849_820.out; have hnc47 := NB820_849.out; have hnb48 := NB849_821.out; have hnc48 := NB821_849.out; have hnb49 := NB849_834.out; have hnc49 := NB834_849.out; have hnb50 := NB849_836.out; have hnc50 := NB836_849.out; obtain ⟨hcz51_0, hcz51_1, hcz51_2, hcz51_3, hcz51_4⟩ := cz5_ BK849.out; obtain ⟨hfz51_0, hfz51_1, hfz51_2, hfz51_3, hfz51_4⟩ := fz5_ BK849.out; obtain ⟨Ao52, co52, eo52⟩ := Kd.R_slice HO842.out; subst eo52; obtain ⟨Ao53, co53, eo53⟩ := Kd.R_slice HO845.out; subst eo53; obtain ⟨hcz54_0, hcz54_1, hcz54_2, hcz54_3, hcz54_4⟩ := cz5_ BK834.out; obtain ⟨hfz54_0, hfz54_1, hfz54_2, hfz54_3, hfz54_4⟩ := fz5_ BK834.out))
          go_roundg k2
          case measure => have := HJ2.out; have := HK2.out; omega
          case rel => exact ⟨(wrap64 (x8_2 + 1)), (wrap64 (x26_2 + 1)), (t837), (t840), (t843), (t846), (t847), (.slice Ao46 t837.length co46), (.slice Ao52 t840.length co52), (.slice Ao53 t843.length co53), (by first | rfl | (simp; done) | (simp [*]; done)), (by first | rfl | (simp; done) | (simp [*]; done)), H', ⟨by have := HJ2.out; have := HK2.out; omega⟩, ⟨by (with_reducible repeat (first | apply Kd.R_alloc | apply Kd.R_drewN | apply Kd.R_drew)); exact Kd.R_mono (Kd.R_far (p := ⟨gb834, 4, none⟩) (Kd.R_far (p := ⟨gb834, 3, none⟩) (Kd.R_far (p := ⟨gb834, 2, none⟩) (Kd.R_far (p := ⟨gb834, 1, none⟩) (Kd.R_far (p := ⟨gb834, 0, none⟩) (Kd.R_far (p := ⟨gb849, 4, none⟩) (Kd.R_far (p := ⟨gb849, 3, none⟩) (Kd.R_far (p := ⟨gb849, 2, none⟩) (Kd.R_far (p := ⟨gb849, 1, none⟩) (Kd.R_far (p := ⟨gb849, 0, none⟩) (Kd.R_types (Kd.R_types HO839.out BK849.out (by decide)) BK834.out (by decide)) (fun _ hk => hk.1.2) (.slice Ao46 t837.length co46)) (fun _ hk => hk.1.2) (.slice Ao52 t840.length co52)) (fun _ hk => hk.1.2) (.slice Ao53 t843.length co53)) (fun _ hk => hk.1.2) (.int .i64 t846)) (fun _ hk => hk.1.2) (.int .i64 t847)) (fun _ hk => hk.2) (.slice Ao46 t837.length co46)) (fun _ hk => hk.2) (.slice Ao52 t840.length co52)) (fun _ hk => hk.2) (.slice Ao53 t843.length co53)) (fun _ hk => hk.2) (.int .i64 t846)) (fun _ hk => hk.2) (.int .i64 t847)) (fun _ hk => trivial)⟩, ⟨by (with_reducible repeat (first | apply Kd.R_alloc | apply Kd.R_drewN | apply Kd.R_drew)); exact Kd.R_mono (Kd.R_far (p := ⟨gb834, 4, none⟩) (Kd.R_far (p := ⟨gb834, 3, none⟩) (Kd.R_far (p := ⟨gb834, 2, none⟩) (Kd.R_far (p := ⟨gb834, 1, none⟩) (Kd.R_far (p := ⟨gb834, 0, none⟩) (Kd.R_far (p := ⟨gb849, 4, none⟩) (Kd.R_far (p := ⟨gb849, 3, none⟩) (Kd.R_far (p := ⟨gb849, 2, none⟩) (Kd.R_far (p := ⟨gb849, 1, none⟩) (Kd.R_far (p := ⟨gb849, 0, none⟩) (Kd.R_types (Kd.R_types HO842.out BK849.out (by decide)) BK834.out (by decide)) (fun _ hk => hk.1.2) (.slice Ao46 t837.length co46)) (fun _ hk => hk.1.2) (.slice Ao52 t840.length co52)) (fun _ hk => hk.1.2) (.slice Ao53 t843.length co53)) (fun _ hk => hk.1.2) (.int .i64 t846)) (fun _ hk => hk.1.2) (.int .i64 t847)) (fun _ hk => hk.2) (.slice Ao46 t837.length co46)) (fun _ hk => hk.2) (.slice Ao52 t840.length co52)) (fun _ hk => hk.2) (.slice Ao53 t843.length co53)) (fun _ hk => hk.2) (.int .i64 t846)) (fun _ hk => hk.2) (.int .i64 t847)) (fun _ hk => hk.1.1.1.1)⟩, ⟨by (with_reducible repeat (first | apply Kd.R_alloc | apply Kd.R_drewN | apply Kd.R_drew)); exact Kd.R_mono (Kd.R_far (p := ⟨gb834, 4, none⟩) (Kd.R_far (p := ⟨gb834, 3, none⟩) (Kd.R_far (p := ⟨gb834, 2, none⟩) (Kd.R_far (p := ⟨gb834, 1, none⟩) (Kd.R_far (p := ⟨gb834, 0, none⟩) (Kd.R_far (p := ⟨gb849, 4, none⟩) (Kd.R_far (p := ⟨gb849, 3, none⟩) (Kd.R_far (p := ⟨gb849, 2, none⟩) (Kd.R_far (p := ⟨gb849, 1, none⟩) (Kd.R_far (p := ⟨gb849, 0, none⟩) (Kd.R_types (Kd.R_types HO845.out BK849.out (by decide)) BK834.out (by decide)) (fun _ hk => hk.1.2) (.slice Ao46 t837.length co46)) (fun _ hk => hk.1.2) (.slice Ao52 t840.length co52)) (fun _ hk => hk.1.2) (.slice Ao53 t843.length co53)) (fun _ hk => hk.1.2) (.int .i64 t846)) (fun _ hk => hk.1.2) (.int .i64 t847)) (fun _ hk => hk.2) (.slice Ao46 t837.length co46)) (fun _ hk => hk.2) (.slice Ao52 t840.length co52)) (fun _ hk => hk.2) (.slice Ao53 t843.length co53)) (fun _ hk => hk.2) (.int .i64 t846)) (fun _ hk => hk.2) (.int .i64 t847)) (fun _ hk => hk.1.1.1.1)⟩, ⟨by (with_reducible repeat (first | refine blk_drewN ?_ _ | refine blk_drew ?_ | refine blk_alloc ?_ _)); exact (f5_ (f5_ BK820.out NB820_849.out _ _ _ _ _) NB820_834.out _ _ _ _ _)⟩, ⟨by (with_reducible repeat (first | refine blk_drewN ?_ _ | refine blk_drew ?_ | refine blk_alloc ?_ _)); exact (f5_ (f5_ BK821.out NB821_849.out _ _ _ _ _) NB821_834.out _ _ _ _ _)⟩, ⟨by (with_reducible repeat (first | refine blk_drewN ?_ _ | refine blk_drew ?_ | refine blk_alloc ?_ _)); exact (p5_ (f5_ BK834.out NB834_849.out _ _ _ _ _) _ _ _ _ _)⟩, ⟨by repeat (first | (with_reducible first | exact HB.out | apply below_alloc | apply pw_below_drewN | apply below_drew1 | refine below_set ?_ GE820.out | refine below_set ?_ GE821.out | refine below_set ?_ GE834.out | refine below_set ?_ GE836.out | refine below_set ?_ GE849.out) | exact HB.out)⟩⟩
         ·
          replace c32 := Bool.eq_false_iff.mpr c32; subst c32
          have H1 : (impl_WalkAll.l0 k2 x8_2 l1 (l1.length : Int) (wrap64 (x26_2 + 1)) x835000_2 x835001_2 x835002_2 x835003_2 x835004_2) = some (r1, r2, r3, r4, r5, r6, r7) := by rw [if_neg (show ¬ (false = true) by decide)] at H; exact H
          clear H; have H := H1; clear H1; have H' := Aside0.mk H; clear H; have p835 : 0 ≤ (x26_2 : Int) := dt_; have q835 : x26_2 < (l1.length : Int) := dt_; obtain ⟨ad835, e835, hx835_0, hx835_1, hx835_2, hx835_3, hx835_4, hx835_5, hx835_6⟩ := at_T39 HR1.out x26_2 p835 q835
          cases e835
          replace hx835_0 := bc_ HB.out hx835_0; replace hx835_1 := bc_ HB.out hx835_1; replace hx835_2 := bc_ HB.out hx835_2; replace hx835_3 := bc_ HB.out hx835_3; replace hx835_4 := bc_ HB.out hx835_4; replace hx835_5 := bc_ HB.out hx835_5; replace hx835_6 := bc_ HB.out hx835_6; replace p835 := eq_true p835; replace q835 := eq_true q835
          go_wp2_with (first | ((with_reducible refine gate_dst (N := 10) rfl ?_); (try (refine gate_guard (by rfl) ?_; dsimp only)); refine box_event ?hg (N := 10) ?hd (cs := #[.int .i64 0, .int .i64 0, .int .i64 0, .int .i64 0, .int .i64 0, .int .i64 0, .int .i64 0]) (t := 39) ?hr ?_; (case hd => rfl); (case hg => rfl); (case hr => first | (go_simp; done) | (go_simp; rfl)); intro gb836 hg w55 hbox hb; replace HO_835000 := Aside0.mk (Kd.R_below (kr_ HO_835000.out) hb); replace HO_835001 := Aside0.mk (Kd.R_below (kr_ HO_835001.out) hb); replace HO_835002 := Aside0.mk (Kd.R_below (kr_ HO_835002.out) hb); have BK836 := Aside0.mk (hbox); have GW836 := Aside0.mk (bz_ hg (lb3_ HB.out GE820.out GE821.out GE834.out)); have GE836 := Aside0.mk (bz_ hg (lb3_ HB.out GE820.out GE821.out GE834.out)); replace HB := Aside0.mk (below_step (lb3_ HB.out GE820.out GE821.out GE834.out) hb); have NB820_836 := Aside0.mk (nl_ hg BK820.out); have NB836_820 := Aside0.mk (ng_ hg BK820.out); replace BK820 := Aside0.mk (bb_ (bk_ BK820.out) hb); have NB821_836 := Aside0.mk (nl_ hg BK821.out); have NB836_821 := Aside0.mk (ng_ hg BK821.out); replace BK821 := Aside0.mk (bb_ (bk_ BK821.out) hb); have NB834_836 := Aside0.mk (nl_ hg BK834.out); have NB836_834 := Aside0.mk (ng_ hg BK834.out); replace BK834 := Aside0.mk (bb_ (bk_ BK834.out) hb); clear hb hbox hg; have hnb56 := NB836_820.out; have hnc56 := NB820_836.out; have hnb57 := NB836_821.out; have hnc57 := NB821_836.out; have hnb58 := NB836_834.out; have hnc58 := NB834_836.out; obtain ⟨hcz59_0, hcz59_1, hcz59_2, hcz59_3, hcz59_4, hcz59_5, hcz59_6⟩ := cz7_ BK836.out; obtain ⟨hfz59_0, hfz59_1, hfz59_2, hfz59_3, hfz59_4, hfz59_5, hfz59_6⟩ := fz7_ BK836.out; have hnb60 := NB834_820.out; have hnc60 := NB820_834.out; have hnb61 := NB834_821.out; have hnc61 := NB821_834.out; obtain ⟨hcz62_0, hcz62_1, hcz62_2, hcz62_3, hcz62_4⟩ := cz5_ BK834.out; obtain ⟨hfz62_0, hfz62_1, hfz62_2, hfz62_3, hfz62_4⟩ := fz5_ BK834.out; obtain ⟨Ao63, co63, eo63⟩ := Kd.R_slice HO_835000.out; subst eo63; obtain ⟨Ao64, co64, eo64⟩ := Kd.R_slice HO_835001.out; subst eo64; obtain ⟨Ao65, co65, eo65⟩ := Kd.R_slice HO_835002.out; subst eo65) | ((with_reducible refine gate_callee (f := 76) rfl ?_); refine ga_ (some 33) Try.func76 #[.agg #[.slice Ao63 x835000_2.length co63, .slice Ao64 x835001_2.length co64, .slice Ao65 x835002_2.length co65, .int .i64 x835003_2, .int .i64 x835004_2], .agg #[.int .i64 ((rd_T39 l1 x26_2).f0), .int .i64 ((rd_T39 l1 x26_2).f1), .int .i64 ((rd_T39 l1 x26_2).f2.f0), .int .i64 ((rd_T39 l1 x26_2).f2.f1), .int .i64 ((rd_T39 l1 x26_2).f2.f2), .int .i64 ((rd_T39 l1 x26_2).f2.f3), .int .i64 ((rd_T39 l1 x26_2).f2.f4)]] ?_; (with_reducible refine (impl_walkOn.calls k2 _ _ x835000_2 _ _ x835001_2 _ _ x835002_2 x835003_2 x835004_2 ((rd_T39 l1 x26_2).f0) ((rd_T39 l1 x26_2).f1) ((rd_T39 l1 x26_2).f2.f0) ((rd_T39 l1 x26_2).f2.f1) ((rd_T39 l1 x26_2).f2.f2) ((rd_T39 l1 x26_2).f2.f3) ((rd_T39 l1 x26_2).f2.f4) t837 t840 t843 t846 t847 false _ ?side1 ?side2 ?side3 ?side4 ?side5 ?side6 A31.out).mono ?_); (case side1 => refine (Kd.R_reads' (e := 37) (base := w.heap.size) (ok := fun k_ => True) (n := x835000_2.length) (c := co63) ?_).2.2; exact (kg_ HO_835000.out BK836.out)); (case side2 => exact (Kd.R_reads' HO_835000.out).2.1); (case side3 => refine (Kd.R_reads' (e := 4) (base := w.heap.size) (ok := fun k_ => some k_ ≠ (.slice Ao65 x835002_2.length co65 : Value).ownBlock) (n := x835001_2.length) (c := co64) ?_).2.2; exact (kg_ HO_835001.out BK836.out)); (case side4 => exact (Kd.R_reads' HO_835001.out).2.1); (case side5 => refine (Kd.R_reads' (e := 4) (base := w.heap.size) (ok := fun k_ => some k_ ≠ (.slice Ao64 x835001_2.length co64 : Value).ownBlock) (n := x835002_2.length) (c := co65) ?_).2.2; exact (kg_ HO_835002.out BK836.out)); (case side6 => exact (Kd.R_reads' HO_835002.out).2.1); rintro e w66 ⟨v838, v841, v844, rfl, ho0, ho1, ho2, hb⟩; refine ⟨_, rfl, ?_⟩; have HO839 := Aside0.mk (Kd.R_lower (Kd.R_new' ho0 (Kd.R_lt (kg_ HO_835000.out BK836.out))) (below_size (by repeat (first | (with_reducible first | exact HB.out | apply below_alloc | apply pw_below_drewN | apply below_drew1 | refine below_set ?_ GE820.out | refine below_set ?_ GE821.out | refine below_set ?_ GE834.out | refine below_set ?_ GE836.out) | exact HB.out)))); replace HO_835000 := Aside0.mk (Kd.R_elder' (kg_ HO_835000.out BK836.out) (Kd.R_base ho0) hb); have HO842 := Aside0.mk (Kd.R_lower (Kd.R_new' (Kd.R_new' ho1 (Kd.R_lt (kg_ HO_835001.out BK836.out))) (Kd.R_lt (kg_ HO_835002.out BK836.out))) (below_size (by repeat (first | (with_reducible first | exact HB.out | apply below_alloc | apply pw_below_drewN | apply below_drew1 | refine below_set ?_ GE820.out | refine below_set ?_ GE821.out | refine below_set ?_ GE834.out | refine below_set ?_ GE836.out) | exact HB.out)))); have HO845 := Aside0.mk (Kd.R_lower (Kd.R_new' (Kd.R_new' ho2 (Kd.R_lt (kg_ HO_835001.out BK836.out))) (Kd.R_lt (kg_ HO_835002.out BK836.out))) (below_size (by repeat (first | (with_reducible first | exact HB.out | apply below_alloc | apply pw_below_drewN | apply below_drew1 | refine below_set ?_ GE820.out | refine below_set ?_ GE821.out | refine below_set ?_ GE834.out | refine below_set ?_ GE836.out) | exact HB.out)))); replace HO_835001 := Aside0.mk (Kd.R_mono (Kd.R_told (Kd.R_told (Kd.R_old (kg_ HO_835001.out BK836.out) hb) (Kd.R_base ho1)) (Kd.R_base ho2)) (fun _ h_ => h_.1)); replace HO_835002 := Aside0.mk (Kd.R_mono (Kd.R_told (Kd.R_told (Kd.R_old (kg_ HO_835002.out BK836.out) hb) (Kd.R_base ho1)) (Kd.R_base ho2)) (fun _ h_ => h_.1)); replace BK820 := Aside0.mk (blk_below (g := gb820) (o := .cells #[.slice A0_0 l0_0.length c0_0, .slice A0_1 l0_1.length c0_1, .slice A0_2 l0_2.length c0_2, .int .i64 a0_3, .int .i64 a0_4] 30 (0, 0)) (by (with_reducible repeat (first | refine blk_drewN ?_ _ | refine blk_drew ?_ | refine blk_alloc ?_ _)); exact (f7_ BK820.out NB820_836.out _ _ _ _ _ _ _)) hb); replace BK821 := Aside0.mk (blk_below (g := gb821) (o := .cells #[.slice none 0 0, .slice none 0 0, .slice none 0 0, .int .i64 0, .int .i64 0] 30 (0, 0)) (by (with_reducible repeat (first | refine blk_drewN ?_ _ | refine blk_drew ?_ | refine blk_alloc ?_ _)); exact (f7_ BK821.out NB821_836.out _ _ _ _ _ _ _)) hb); replace BK834 := Aside0.mk (blk_below (g := gb834) (o := .cells #[.slice Ao63 x835000_2.length co63, .slice Ao64 x835001_2.length co64, .slice Ao65 x835002_2.length co65, .int .i64 x835003_2, .int .i64 x835004_2] 30 (0, 0)) (by (with_reducible repeat (first | refine blk_drewN ?_ _ | refine blk_drew ?_ | refine blk_alloc ?_ _)); exact (f7_ BK834.out NB834_836.out _ _ _ _ _ _ _)) hb); replace BK836 := Aside0.mk (blk_below (g := gb836) (o := .cells #[.int .i64 ((rd_T39 l1 x26_2).f0), .int .i64 ((rd_T39 l1 x26_2).f1), .int .i64 ((rd_T39 l1 x26_2).f2.f0), .int .i64 ((rd_T39 l1 x26_2).f2.f1), .int .i64 ((rd_T39 l1 x26_2).f2.f2), .int .i64 ((rd_T39 l1 x26_2).f2.f3), .int .i64 ((rd_T39 l1 x26_2).f2.f4)] 39 (0, 0)) (by (with_reducible repeat (first | refine blk_drewN ?_ _ | refine blk_drew ?_ | refine blk_alloc ?_ _)); exact (p7_ BK836.out _ _ _ _ _ _ _)) hb); replace HB := Aside0.mk (below_step (by repeat (first | (with_reducible first | exact HB.out | apply below_alloc | apply pw_below_drewN | apply below_drew1 | refine below_set ?_ GE820.out | refine below_set ?_ GE821.out | refine below_set ?_ GE834.out | refine below_set ?_ GE836.out) | exact HB.out)) hb); (try clear hb); (try clear hb2); (try clear hk); (try clear hi); (try clear ho0); (try clear ho1); (try clear ho2)) | ((with_reducible refine gate_dst (N := 11) rfl ?_); (try (refine gate_guard (by rfl) ?_; dsimp only)); refine box_event ?hg (N := 11) ?hd (cs := #[.slice none 0 0, .slice none 0 0, .slice none 0 0, .int .i64 0, .int .i64 0]) (t := 30) ?hr ?_; (case hd => rfl); (case hg => rfl); (case hr => first | (go_simp; done) | (go_simp; rfl)); intro gb849 hg w67 hbox hb; replace HO_835000 := Aside0.mk (Kd.R_below (kr_ HO_835000.out) hb); replace HO_835001 := Aside0.mk (Kd.R_below (kr_ HO_835001.out) hb); replace HO_835002 := Aside0.mk (Kd.R_below (kr_ HO_835002.out) hb); replace HO839 := Aside0.mk (Kd.R_below (kr_ HO839.out) hb); replace HO842 := Aside0.mk (Kd.R_below (kr_ HO842.out) hb); replace HO845 := Aside0.mk (Kd.R_below (kr_ HO845.out) hb); have BK849 := Aside0.mk (hbox); have GW849 := Aside0.mk ((by rw [hg]; exact (below_size (by repeat (first | (with_reducible first | exact HB.out | apply below_alloc | apply pw_below_drewN | apply below_drew1 | refine below_set ?_ GE820.out | refine below_set ?_ GE821.out | refine below_set ?_ GE834.out | refine below_set ?_ GE836.out) | exact HB.out))) : w.heap.size ≤ gb849)); have GE849 := Aside0.mk ((by rw [hg]; exact (below_size (by repeat (first | (with_reducible first | exact HB.out | apply below_alloc | apply pw_below_drewN | apply below_drew1 | refine below_set ?_ GE820.out | refine below_set ?_ GE821.out | refine below_set ?_ GE834.out | refine below_set ?_ GE836.out) | exact HB.out))) : w.heap.size ≤ gb849)); replace HB := Aside0.mk (below_step (by repeat (first | (with_reducible first | exact HB.out | apply below_alloc | apply pw_below_drewN | apply below_drew1 | refine below_set ?_ GE820.out | refine below_set ?_ GE821.out | refine below_set ?_ GE834.out | refine below_set ?_ GE836.out) | exact HB.out)) hb); have NB820_849 := Aside0.mk (nl_ hg BK820.out); have NB849_820 := Aside0.mk (ng_ hg BK820.out); replace BK820 := Aside0.mk (bb_ (bk_ BK820.out) hb); have NB821_849 := Aside0.mk (nl_ hg BK821.out); have NB849_821 := Aside0.mk (ng_ hg BK821.out); replace BK821 := Aside0.mk (bb_ (bk_ BK821.out) hb); have NB834_849 := Aside0.mk (nl_ hg BK834.out); have NB849_834 := Aside0.mk (ng_ hg BK834.out); replace BK834 := Aside0.mk (bb_ (bk_ BK834.out) hb); have NB836_849 := Aside0.mk (nl_ hg BK836.out); have NB849_836 := Aside0.mk (ng_ hg BK836.out); replace BK836 := Aside0.mk (bb_ (bk_ BK836.out) hb); clear hb hbox hg; obtain ⟨Ao68, co68, eo68⟩ := Kd.R_slice HO839.out; subst eo68; have hnb69 := NB849_820.out; have hnc69 := NB820_849.out; have hnb70 := NB849_821.out; have hnc70 := NB821_849.out; have hnb71 := NB849_834.out; have hnc71 := NB834_849.out; have hnb72 := NB849_836.out; have hnc72 := NB836_849.out; obtain ⟨hcz73_0, hcz73_1, hcz73_2, hcz73_3, hcz73_4⟩ := cz5_ BK849.out; obtain ⟨hfz73_0, hfz73_1, hfz73_2, hfz73_3, hfz73_4⟩ := fz5_ BK849.out; obtain ⟨Ao74, co74, eo74⟩ := Kd.R_slice HO842.out; subst eo74; obtain ⟨Ao75, co75, eo75⟩ := Kd.R_slice HO845.out; subst eo75))
          go_roundg k2
          case measure => have := HJ2.out; have := HK2.out; omega
          case rel => exact ⟨(x8_2), (wrap64 (x26_2 + 1)), (x835000_2), (x835001_2), (x835002_2), (x835003_2), (x835004_2), (.slice Ao63 x835000_2.length co63), (.slice Ao64 x835001_2.length co64), (.slice Ao65 x835002_2.length co65), (by first | rfl | (simp; done) | (simp [*]; done)), (by first | rfl | (simp; done) | (simp [*]; done)), H', ⟨by have := HJ2.out; have := HK2.out; omega⟩, ⟨by (with_reducible repeat (first | apply Kd.R_alloc | apply Kd.R_drewN | apply Kd.R_drew)); exact Kd.R_mono (r5_ HO_835000.out BK849.out (by decide) _ _ _ _ _) (fun _ hk => trivial)⟩, ⟨by (with_reducible repeat (first | apply Kd.R_alloc | apply Kd.R_drewN | apply Kd.R_drew)); exact Kd.R_mono (r5_ HO_835001.out BK849.out (by decide) _ _ _ _ _) (fun _ hk => hk.1.1)⟩, ⟨by (with_reducible repeat (first | apply Kd.R_alloc | apply Kd.R_drewN | apply Kd.R_drew)); exact Kd.R_mono (r5_ HO_835002.out BK849.out (by decide) _ _ _ _ _) (fun _ hk => hk.1.1)⟩, ⟨by (with_reducible repeat (first | refine blk_drewN ?_ _ | refine blk_drew ?_ | refine blk_alloc ?_ _)); exact (f5_ BK820.out NB820_849.out _ _ _ _ _)⟩, ⟨by (with_reducible repeat (first | refine blk_drewN ?_ _ | refine blk_drew ?_ | refine blk_alloc ?_ _)); exact (f5_ BK821.out NB821_849.out _ _ _ _ _)⟩, ⟨by (with_reducible repeat (first | refine blk_drewN ?_ _ | refine blk_drew ?_ | refine blk_alloc ?_ _)); exact (f5_ BK834.out NB834_849.out _ _ _ _ _)⟩, ⟨by repeat (first | (with_reducible first | exact HB.out | apply below_alloc | apply pw_below_drewN | apply below_drew1 | refine below_set ?_ GE820.out | refine below_set ?_ GE821.out | refine below_set ?_ GE834.out | refine below_set ?_ GE836.out | refine below_set ?_ GE849.out) | exact HB.out)⟩⟩
        ·
         rw [if_neg c30] at H
         exact absurd H (by simp)
       ·
        rw [if_neg c29] at H
        exact absurd H (by simp)
      ·
       rw [if_neg c28] at H
       have c28b0 : decide (x26_2 < (l1.length : Int)) = false := decide_eq_false c28
       clear c28
       simp only [Option.some.injEq, Prod.mk.injEq] at H
       obtain ⟨rfl, rfl, rfl, rfl, rfl, rfl, rfl⟩ := H
       have hnb76 := NB834_820.out
       have hnc76 := NB820_834.out
       have hnb77 := NB834_821.out
       have hnc77 := NB821_834.out
       obtain ⟨hcz78_0, hcz78_1, hcz78_2, hcz78_3, hcz78_4⟩ := cz5_ BK834.out
       obtain ⟨hfz78_0, hfz78_1, hfz78_2, hfz78_3, hfz78_4⟩ := fz5_ BK834.out
       obtain ⟨Ao79, co79, eo79⟩ := Kd.R_slice HO_835000.out
       subst eo79
       have hnb80 := NB821_820.out
       have hnc80 := NB820_821.out
       obtain ⟨hcz81_0, hcz81_1, hcz81_2, hcz81_3, hcz81_4⟩ := cz5_ BK821.out
       obtain ⟨hfz81_0, hfz81_1, hfz81_2, hfz81_3, hfz81_4⟩ := fz5_ BK821.out
       obtain ⟨Ao82, co82, eo82⟩ := Kd.R_slice HO_835001.out
       subst eo82
       obtain ⟨Ao83, co83, eo83⟩ := Kd.R_slice HO_835002.out
       subst eo83
       go_wp2
       refine bodyPost_ret (results_ctt rfl _ _ gb821 30 #[.slice Ao79 x835000_2.length co79, .slice Ao82 x835001_2.length co82, .slice Ao83 x835002_2.length co83, .int .i64 x835003_2, .int .i64 x835004_2] (0, 0) _ rfl (by (with_reducible repeat (first | refine blk_drewN ?_ _ | refine blk_drew ?_ | refine blk_alloc ?_ _)); refine blk_put (cs := #[.slice Ao79 x835000_2.length co79, .slice Ao82 x835001_2.length co82, .slice Ao83 x835002_2.length co83, .int .i64 x835003_2, .int .i64 0]) ?_ 4 _ rfl; (with_reducible repeat (first | refine blk_drewN ?_ _ | refine blk_drew ?_ | refine blk_alloc ?_ _)); refine blk_put (cs := #[.slice Ao79 x835000_2.length co79, .slice Ao82 x835001_2.length co82, .slice Ao83 x835002_2.length co83, .int .i64 0, .int .i64 0]) ?_ 3 _ rfl; (with_reducible repeat (first | refine blk_drewN ?_ _ | refine blk_drew ?_ | refine blk_alloc ?_ _)); refine blk_put (cs := #[.slice Ao79 x835000_2.length co79, .slice Ao82 x835001_2.length co82, .slice none 0 0, .int .i64 0, .int .i64 0]) ?_ 2 _ rfl; (with_reducible repeat (first | refine blk_drewN ?_ _ | refine blk_drew ?_ | refine blk_alloc ?_ _)); refine blk_put (cs := #[.slice Ao79 x835000_2.length co79, .slice none 0 0, .slice none 0 0, .int .i64 0, .int .i64 0]) ?_ 1 _ rfl; (with_reducible repeat (first | refine blk_drewN ?_ _ | refine blk_drew ?_ | refine blk_alloc ?_ _)); refine blk_put (cs := #[.slice none 0 0, .slice none 0 0, .slice none 0 0, .int .i64 0, .int .i64 0]) ?_ 0 _ rfl; (with_reducible repeat (first | refine blk_drewN ?_ _ | refine blk_drew ?_ | refine blk_alloc ?_ _)); exact BK821.out) Try.underlying30 rfl (by kernel_rfl)) rfl ?_
       exact ⟨_, _, _, rr_, by (with_reducible repeat (first | apply Kd.R_alloc | apply Kd.R_drewN | apply Kd.R_drew)); exact Kd.R_mono (r5_ HO_835000.out BK821.out (by decide) _ _ _ _ _) (fun _ hk => trivial), by (with_reducible repeat (first | apply Kd.R_alloc | apply Kd.R_drewN | apply Kd.R_drew)); exact Kd.R_mono (r5_ HO_835001.out BK821.out (by decide) _ _ _ _ _) (fun _ hk => hk), by (with_reducible repeat (first | apply Kd.R_alloc | apply Kd.R_drewN | apply Kd.R_drew)); exact Kd.R_mono (r5_ HO_835002.out BK821.out (by decide) _ _ _ _ _) (fun _ hk => hk), lb3_ HB.out GE820.out GE821.out GE834.out⟩
end Go.Proofs.Ythmjimboajmhmaa.Pr

