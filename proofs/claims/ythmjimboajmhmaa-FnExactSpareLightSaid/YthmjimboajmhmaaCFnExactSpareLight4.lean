/-
What is proved: parts of the law FnExactSpareLight: what the functions that it reaches compute, and the plain law.
Conditions: those of each theorem.
-/
import Derived.ChangeArms
import Derived.ChangeSlices
import Derived.Deep.Slices
import Derived.RowKit
import Derived.SizedLaws
import Derived.WideShapes
import Derived.Test.YthmjimboajmhmaaCFnExactSpareLight3
namespace Go.Proofs.Ythmjimboajmhmaa.Pr
open Go.RowKit Go.Proofs.YthmjimboajmhmaaW.PrintWords Go.Proofs.YthmjimboajmhmaaW.PrintLast Go.Proofs.YthmjimboajmhmaaW.PrintMore
attribute [local go_sem] max2_int min2_int max_two min_two max_three min_three max_four min_four   -- for this text's walks alone
set_option linter.unusedVariables false
set_option linter.unusedSimpArgs false

/-! ### spec_l25Good: function 67 -/
def spec_l25Good.j0 : Nat → Bool → List (S37) → List Bool → List Bool → Int → Int → Option (Bool)
  | 0, _, _, _, _, _, _ => none
  | k + 1, x31, x148000, x148001, x148002, x148003, x148004 => if x31 = true then (some false) else (if 0 < (x148001.length : Int) then (if rdOf false x148001 0 = true then (if 0 ≤ x148003 then (if x148003 < (x148001.length : Int) then (if rdOf false x148001 x148003 = true then ((spec_l25Out.f k x148000 x148001 x148003).bind fun t153 => (if t153 ≥ 0 then (some (decide (t153 ≤ x148004))) else (some false))) else (some false)) else (none)) else (none)) else (some false)) else (none))
def spec_l25Good.f (k : Nat) (l0_0 : List (S37)) (l0_1 : List Bool) (l0_2 : List Bool) (a0_3 : Int) (a0_4 : Int) : Option (Bool) := (spec_l4Legs.f k l0_0).bind fun t148 => (if t148 = true then (if (l0_1.length : Int) = 8 then (if (l0_2.length : Int) = 8 then ((spec_l4Station.f a0_3).bind fun t149 => (if t149 = true then ((spec_l1In.f a0_4 0 100000).bind fun t150 => (spec_l25Good.j0 k (!t150) l0_0 l0_1 l0_2 a0_3 a0_4)) else (spec_l25Good.j0 k true l0_0 l0_1 l0_2 a0_3 a0_4))) else (spec_l25Good.j0 k true l0_0 l0_1 l0_2 a0_3 a0_4)) else (spec_l25Good.j0 k true l0_0 l0_1 l0_2 a0_3 a0_4)) else (spec_l25Good.j0 k true l0_0 l0_1 l0_2 a0_3 a0_4))
theorem spec_l25Good.mono_l : ∀ k, (∀ y0 y1 y2 y3 y4 y5, LeO (spec_l25Good.j0 k y0 y1 y2 y3 y4 y5) (spec_l25Good.j0 (k + 1) y0 y1 y2 y3 y4 y5))
  | 0 => fun _ _ _ _ _ _ r h => by simp [spec_l25Good.j0] at h
  | k + 1 => by
    have ih0 := spec_l25Good.mono_l k
    · intro y0 y1 y2 y3 y4 y5
      unfold spec_l25Good.j0
      repeat' first
      | (with_reducible exact ih0 _ _ _ _ _ _)
      | (with_reducible exact spec_l25Out.mono _ _ _ _)
      | (with_reducible exact spec_l4Legs.mono _ _)
      | (with_reducible exact LeO.refl _)
      | (with_reducible exact LeO.none _)
      | (with_reducible refine LeO.ite ?_ ?_)
      | (with_reducible refine LeO.bind ?_ (fun _ => ?_))
      | exact ih0 _ _ _ _ _ _
      | exact spec_l25Out.mono _ _ _ _
      | exact spec_l4Legs.mono _ _
      | exact LeO.none _
      | refine LeO.ite ?_ ?_
      | refine LeO.bind ?_ (fun _ => ?_)
theorem spec_l25Good.mono : ∀ a0 a1 a2 a3 a4 k, LeO (spec_l25Good.f k a0 a1 a2 a3 a4) (spec_l25Good.f (k + 1) a0 a1 a2 a3 a4) := by
  intro a0 a1 a2 a3 a4 k
  have ih0 := spec_l25Good.mono_l k
  unfold spec_l25Good.f
  repeat' first
      | (with_reducible exact ih0 _ _ _ _ _ _)
      | (with_reducible exact spec_l25Out.mono _ _ _ _)
      | (with_reducible exact spec_l4Legs.mono _ _)
      | (with_reducible exact LeO.refl _)
      | (with_reducible exact LeO.none _)
      | (with_reducible refine LeO.ite ?_ ?_)
      | (with_reducible refine LeO.bind ?_ (fun _ => ?_))
      | exact ih0 _ _ _ _ _ _
      | exact spec_l25Out.mono _ _ _ _
      | exact spec_l4Legs.mono _ _
      | exact LeO.none _
      | refine LeO.ite ?_ ?_
      | refine LeO.bind ?_ (fun _ => ?_)
set_option maxHeartbeats 8000000 in
set_option maxRecDepth 100000 in
theorem spec_l25Good.calls (k : Nat) (A0_0 : Option Addr) (c0_0 : Nat) (l0_0 : List (S37)) (A0_1 : Option Addr) (c0_1 : Nat) (l0_1 : List Bool) (A0_2 : Option Addr) (c0_2 : Nat) (l0_2 : List Bool) (a0_3 : Int) (a0_4 : Int) (r : Bool) (w : World) (hr0_0 : Kd.C k37 w A0_0 l0_0.length l0_0) (hc0_0 : l0_0.length ≤ c0_0) (hr0_1 : Kd.C Kd.bool w A0_1 l0_1.length l0_1) (hc0_1 : l0_1.length ≤ c0_1) (hr0_2 : Kd.C Kd.bool w A0_2 l0_2.length l0_2) (hc0_2 : l0_2.length ≤ c0_2) (h : spec_l25Good.f k l0_0 l0_1 l0_2 a0_3 a0_4 = some r) :
    Calls Try.prog 67 #[.agg #[.slice A0_0 l0_0.length c0_0, .slice A0_1 l0_1.length c0_1, .slice A0_2 l0_2.length c0_2, .int .i64 a0_3, .int .i64 a0_4]] w fun e w' => e = .returned (.bool r) ∧ Below w.heap.size w w' := by
  have hu30 := Try.underlying30
  have HR0_0 := Aside0.mk hr0_0
  have HC0_0 := Aside0.mk hc0_0
  clear hr0_0 hc0_0
  have HR0_1 := Aside0.mk hr0_1
  have HC0_1 := Aside0.mk hc0_1
  clear hr0_1 hc0_1
  have HR0_2 := Aside0.mk hr0_2
  have HC0_2 := Aside0.mk hc0_2
  clear hr0_2 hc0_2
  have HB := Aside0.mk (Below.refl w.heap.size w)
  have H : ((spec_l4Legs.f k l0_0).bind fun t148 => (if t148 = true then (if (l0_1.length : Int) = 8 then (if (l0_2.length : Int) = 8 then ((spec_l4Station.f a0_3).bind fun t149 => (if t149 = true then ((spec_l1In.f a0_4 0 100000).bind fun t150 => (spec_l25Good.j0 k (!t150) l0_0 l0_1 l0_2 a0_3 a0_4)) else (spec_l25Good.j0 k true l0_0 l0_1 l0_2 a0_3 a0_4))) else (spec_l25Good.j0 k true l0_0 l0_1 l0_2 a0_3 a0_4)) else (spec_l25Good.j0 k true l0_0 l0_1 l0_2 a0_3 a0_4)) else (spec_l25Good.j0 k true l0_0 l0_1 l0_2 a0_3 a0_4))) = some r := h
  clear h
  have HC2 := Aside0.mk H
  clear H
  go_enter Try.func67, Try.ntmps67
  go_upto_region 1 with (first | ((with_reducible refine gate_dst (N := 1) rfl ?_); (try (refine gate_guard (by rfl) ?_; dsimp only)); refine box_event ?hg (N := 1) ?hd (cs := #[.slice A0_0 l0_0.length c0_0, .slice A0_1 l0_1.length c0_1, .slice A0_2 l0_2.length c0_2, .int .i64 a0_3, .int .i64 a0_4]) (t := 30) ?hr ?_; (case hd => rfl); (case hg => rfl); (case hr => first | (go_simp; done) | (go_simp; rfl)); intro gb147 hg w3 hbox hb; have n0_ := Aside0.mk (below_step (by repeat (first | (with_reducible first | exact HB.out | apply below_alloc | apply pw_below_drewN | apply below_drew1) | exact HB.out)) hb); have n1_ := Aside0.mk (hbox); have n2_ := Aside0.mk ((by rw [hg]; exact (below_size (by repeat (first | (with_reducible first | exact HB.out | apply below_alloc | apply pw_below_drewN | apply below_drew1) | exact HB.out))) : w.heap.size ≤ gb147)); have n3_ := Aside0.mk ((by rw [hg]; exact (below_size (by repeat (first | (with_reducible first | exact HB.out | apply below_alloc | apply pw_below_drewN | apply below_drew1) | exact HB.out))) : w.heap.size ≤ gb147)); clear HB; have HB := n0_; have BK147 := n1_; have GW147 := n2_; have GE147 := n3_; clear n0_ n1_ n2_ n3_; clear hb hbox hg))
  (try simp only [Act.put, List.setIfInBounds_toArray, List.set_cons_zero, List.set_cons_succ])
  go_cut [31] (fun v31 wc => ∃ (kq : Nat) (x31_1 : Bool), v31 = .bool x31_1 ∧ Aside0 (spec_l25Good.j0 kq x31_1 l0_0 l0_1 l0_2 a0_3 a0_4 = some r) ∧ Aside0 (kq ≤ k) ∧ Aside0 (wc.heap[gb147]? = some (.cells #[(.slice A0_0 l0_0.length c0_0), (.slice A0_1 l0_1.length c0_1), (.slice A0_2 l0_2.length c0_2), .int .i64 a0_3, .int .i64 a0_4] 30 (0, 0))) ∧ Aside0 (Below w.heap.size w wc))
  case first =>
    have H := HC2.out
    clear HC2
    replace H := Option.bind_eq_some_iff.mp H
    obtain ⟨t148, A40, H⟩ := H
    replace H : (if t148 = true then (if (l0_1.length : Int) = 8 then (if (l0_2.length : Int) = 8 then ((spec_l4Station.f a0_3).bind fun t149 => (if t149 = true then ((spec_l1In.f a0_4 0 100000).bind fun t150 => (spec_l25Good.j0 k (!t150) l0_0 l0_1 l0_2 a0_3 a0_4)) else (spec_l25Good.j0 k true l0_0 l0_1 l0_2 a0_3 a0_4))) else (spec_l25Good.j0 k true l0_0 l0_1 l0_2 a0_3 a0_4)) else (spec_l25Good.j0 k true l0_0 l0_1 l0_2 a0_3 a0_4)) else (spec_l25Good.j0 k true l0_0 l0_1 l0_2 a0_3 a0_4)) = some r := H
    have A4 := Aside0.mk A40
    clear A40
    by_cases c5 : t148 = true
    · subst c5
      have H1 : (if (l0_1.length : Int) = 8 then (if (l0_2.length : Int) = 8 then ((spec_l4Station.f a0_3).bind fun t149 => (if t149 = true then ((spec_l1In.f a0_4 0 100000).bind fun t150 => (spec_l25Good.j0 k (!t150) l0_0 l0_1 l0_2 a0_3 a0_4)) else (spec_l25Good.j0 k true l0_0 l0_1 l0_2 a0_3 a0_4))) else (spec_l25Good.j0 k true l0_0 l0_1 l0_2 a0_3 a0_4)) else (spec_l25Good.j0 k true l0_0 l0_1 l0_2 a0_3 a0_4)) = some r := by rw [if_pos rfl] at H; exact H
      clear H
      have H := H1
      clear H1
      by_cases c6 : (l0_1.length : Int) = 8
      · rw [if_pos c6] at H
        have c6b0 : ((l0_1.length : Int) == 8) = true := beq_iff_eq.mpr c6
        have c6b1 : ((l0_1.length : Int) != 8) = false := bne_eq_false_iff_eq.mpr c6
        clear c6
        (first | rw [c6b0] | (simp only [i64_w, i32_w]; rw [c6b0]) | skip)
        by_cases c7 : (l0_2.length : Int) = 8
        · rw [if_pos c7] at H
          have c7b0 : ((l0_2.length : Int) == 8) = true := beq_iff_eq.mpr c7
          have c7b1 : ((l0_2.length : Int) != 8) = false := bne_eq_false_iff_eq.mpr c7
          clear c7
          replace H := Option.bind_eq_some_iff.mp H
          obtain ⟨t149, A80, H⟩ := H
          replace H : (if t149 = true then ((spec_l1In.f a0_4 0 100000).bind fun t150 => (spec_l25Good.j0 k (!t150) l0_0 l0_1 l0_2 a0_3 a0_4)) else (spec_l25Good.j0 k true l0_0 l0_1 l0_2 a0_3 a0_4)) = some r := H
          have A8 := Aside0.mk A80
          clear A80
          by_cases c9 : t149 = true
          · subst c9
            have H1 : ((spec_l1In.f a0_4 0 100000).bind fun t150 => (spec_l25Good.j0 k (!t150) l0_0 l0_1 l0_2 a0_3 a0_4)) = some r := by rw [if_pos rfl] at H; exact H
            clear H
            have H := H1
            clear H1
            replace H := Option.bind_eq_some_iff.mp H
            obtain ⟨t150, A100, H⟩ := H
            replace H : (spec_l25Good.j0 k (!t150) l0_0 l0_1 l0_2 a0_3 a0_4) = some r := H
            have A10 := Aside0.mk A100
            clear A100
            have H' := Aside0.mk H
            clear H
            have hcz11_0 : w3.cell? ⟨gb147, 0, none⟩ = some (.slice A0_0 l0_0.length c0_0) := (blk_cell BK147.out 0).trans rfl
            have hcz11_1 : w3.cell? ⟨gb147, 1, none⟩ = some (.slice A0_1 l0_1.length c0_1) := (blk_cell BK147.out 1).trans rfl
            have hcz11_2 : w3.cell? ⟨gb147, 2, none⟩ = some (.slice A0_2 l0_2.length c0_2) := (blk_cell BK147.out 2).trans rfl
            have hcz11_3 : w3.cell? ⟨gb147, 3, none⟩ = some (.int .i64 a0_3) := (blk_cell BK147.out 3).trans rfl
            have hcz11_4 : w3.cell? ⟨gb147, 4, none⟩ = some (.int .i64 a0_4) := (blk_cell BK147.out 4).trans rfl
            have hfz11_0 := blk_frozen BK147.out 0
            have hfz11_1 := blk_frozen BK147.out 1
            have hfz11_2 := blk_frozen BK147.out 2
            have hfz11_3 := blk_frozen BK147.out 3
            have hfz11_4 := blk_frozen BK147.out 4
            go_wp2_with (first | ((with_reducible refine gate_callee (f := 99) rfl ?_); refine goesL_ (some 6) rfl rfl Try.func99 (by kernel_rfl) rfl #[.slice A0_0 l0_0.length c0_0] rfl (by (try simp only [List.map_toArray, List.map_cons, List.map_nil]); first | done | rfl | (simp only [List.length_drop, List.length_take]; rfl)) ?_; (with_reducible refine (spec_l4Legs.calls k _ _ l0_0 true _ ?side1 ?side2 A4.out).mono ?_); (case side1 => repeat (first | exact (Kd.C_below HR0_0.out HB.out) | (with_reducible refine Kd.C_alloc ?_ _) | (with_reducible refine Kd.C_drewN ?_ _) | (with_reducible refine Kd.C_drew ?_))); (case side2 => exact HC0_0.out); rintro e w12 ⟨rfl, hb⟩; refine ⟨_, rfl, ?_⟩; have n0_ := Aside0.mk (blk_below (g := gb147) (o := .cells #[.slice A0_0 l0_0.length c0_0, .slice A0_1 l0_1.length c0_1, .slice A0_2 l0_2.length c0_2, .int .i64 a0_3, .int .i64 a0_4] 30 (0, 0)) (by (with_reducible repeat (first | refine blk_drewN ?_ _ | refine blk_drew ?_ | refine blk_alloc ?_ _)); exact BK147.out) hb); have n1_ := Aside0.mk (below_step (by repeat (first | (with_reducible first | exact HB.out | apply below_alloc | apply pw_below_drewN | apply below_drew1 | refine below_set ?_ GE147.out) | exact HB.out)) hb); clear BK147; clear HB; have BK147 := n0_; have HB := n1_; clear n0_ n1_; (try clear hb); (try clear hb2); (try clear hk); (try clear hi); have hcz13_0 : w12.cell? ⟨gb147, 0, none⟩ = some (.slice A0_0 l0_0.length c0_0) := (blk_cell BK147.out 0).trans rfl; have hcz13_1 : w12.cell? ⟨gb147, 1, none⟩ = some (.slice A0_1 l0_1.length c0_1) := (blk_cell BK147.out 1).trans rfl; have hcz13_2 : w12.cell? ⟨gb147, 2, none⟩ = some (.slice A0_2 l0_2.length c0_2) := (blk_cell BK147.out 2).trans rfl; have hcz13_3 : w12.cell? ⟨gb147, 3, none⟩ = some (.int .i64 a0_3) := (blk_cell BK147.out 3).trans rfl; have hcz13_4 : w12.cell? ⟨gb147, 4, none⟩ = some (.int .i64 a0_4) := (blk_cell BK147.out 4).trans rfl; have hfz13_0 := blk_frozen BK147.out 0; have hfz13_1 := blk_frozen BK147.out 1; have hfz13_2 := blk_frozen BK147.out 2; have hfz13_3 := blk_frozen BK147.out 3; have hfz13_4 := blk_frozen BK147.out 4) | (go_at_call 100; (with_reducible refine (spec_l4Station.calls a0_3 true _ A8.out).mono ?_); rintro e w' ⟨rfl, ⟨nd, rfl⟩⟩) | (go_at_call 101; (with_reducible refine (spec_l1In.calls a0_4 0 100000 t150 _ A10.out).mono ?_); rintro e w' ⟨rfl, ⟨nd, rfl⟩⟩))
            go_meet
            case rel => exact ⟨_, (!t150), (by first | rfl | (simp; done) | (simp [*]; done)), H', ⟨by first | omega | exact Nat.le_refl _⟩, ⟨by (with_reducible repeat (first | refine blk_drewN ?_ _ | refine blk_drew ?_ | refine blk_alloc ?_ _)); exact BK147.out⟩, ⟨by repeat (first | (with_reducible first | exact HB.out | apply below_alloc | apply pw_below_drewN | apply below_drew1 | refine below_set ?_ GE147.out) | exact HB.out)⟩⟩
          · replace c9 := Bool.eq_false_iff.mpr c9
            subst c9
            have H1 : (spec_l25Good.j0 k true l0_0 l0_1 l0_2 a0_3 a0_4) = some r := by rw [if_neg (show ¬ (false = true) by decide)] at H; exact H
            clear H
            have H := H1
            clear H1
            have H' := Aside0.mk H
            clear H
            have hcz14_0 : w3.cell? ⟨gb147, 0, none⟩ = some (.slice A0_0 l0_0.length c0_0) := (blk_cell BK147.out 0).trans rfl
            have hcz14_1 : w3.cell? ⟨gb147, 1, none⟩ = some (.slice A0_1 l0_1.length c0_1) := (blk_cell BK147.out 1).trans rfl
            have hcz14_2 : w3.cell? ⟨gb147, 2, none⟩ = some (.slice A0_2 l0_2.length c0_2) := (blk_cell BK147.out 2).trans rfl
            have hcz14_3 : w3.cell? ⟨gb147, 3, none⟩ = some (.int .i64 a0_3) := (blk_cell BK147.out 3).trans rfl
            have hcz14_4 : w3.cell? ⟨gb147, 4, none⟩ = some (.int .i64 a0_4) := (blk_cell BK147.out 4).trans rfl
            have hfz14_0 := blk_frozen BK147.out 0
            have hfz14_1 := blk_frozen BK147.out 1
            have hfz14_2 := blk_frozen BK147.out 2
            have hfz14_3 := blk_frozen BK147.out 3
            have hfz14_4 := blk_frozen BK147.out 4
            go_wp2_with (first | ((with_reducible refine gate_callee (f := 99) rfl ?_); refine goesL_ (some 6) rfl rfl Try.func99 (by kernel_rfl) rfl #[.slice A0_0 l0_0.length c0_0] rfl (by (try simp only [List.map_toArray, List.map_cons, List.map_nil]); first | done | rfl | (simp only [List.length_drop, List.length_take]; rfl)) ?_; (with_reducible refine (spec_l4Legs.calls k _ _ l0_0 true _ ?side1 ?side2 A4.out).mono ?_); (case side1 => repeat (first | exact (Kd.C_below HR0_0.out HB.out) | (with_reducible refine Kd.C_alloc ?_ _) | (with_reducible refine Kd.C_drewN ?_ _) | (with_reducible refine Kd.C_drew ?_))); (case side2 => exact HC0_0.out); rintro e w15 ⟨rfl, hb⟩; refine ⟨_, rfl, ?_⟩; have n0_ := Aside0.mk (blk_below (g := gb147) (o := .cells #[.slice A0_0 l0_0.length c0_0, .slice A0_1 l0_1.length c0_1, .slice A0_2 l0_2.length c0_2, .int .i64 a0_3, .int .i64 a0_4] 30 (0, 0)) (by (with_reducible repeat (first | refine blk_drewN ?_ _ | refine blk_drew ?_ | refine blk_alloc ?_ _)); exact BK147.out) hb); have n1_ := Aside0.mk (below_step (by repeat (first | (with_reducible first | exact HB.out | apply below_alloc | apply pw_below_drewN | apply below_drew1 | refine below_set ?_ GE147.out) | exact HB.out)) hb); clear BK147; clear HB; have BK147 := n0_; have HB := n1_; clear n0_ n1_; (try clear hb); (try clear hb2); (try clear hk); (try clear hi); have hcz16_0 : w15.cell? ⟨gb147, 0, none⟩ = some (.slice A0_0 l0_0.length c0_0) := (blk_cell BK147.out 0).trans rfl; have hcz16_1 : w15.cell? ⟨gb147, 1, none⟩ = some (.slice A0_1 l0_1.length c0_1) := (blk_cell BK147.out 1).trans rfl; have hcz16_2 : w15.cell? ⟨gb147, 2, none⟩ = some (.slice A0_2 l0_2.length c0_2) := (blk_cell BK147.out 2).trans rfl; have hcz16_3 : w15.cell? ⟨gb147, 3, none⟩ = some (.int .i64 a0_3) := (blk_cell BK147.out 3).trans rfl; have hcz16_4 : w15.cell? ⟨gb147, 4, none⟩ = some (.int .i64 a0_4) := (blk_cell BK147.out 4).trans rfl; have hfz16_0 := blk_frozen BK147.out 0; have hfz16_1 := blk_frozen BK147.out 1; have hfz16_2 := blk_frozen BK147.out 2; have hfz16_3 := blk_frozen BK147.out 3; have hfz16_4 := blk_frozen BK147.out 4) | (go_at_call 100; (with_reducible refine (spec_l4Station.calls a0_3 false _ A8.out).mono ?_); rintro e w' ⟨rfl, ⟨nd, rfl⟩⟩))
            go_meet
            case rel => exact ⟨_, (true), (by first | rfl | (simp; done) | (simp [*]; done)), H', ⟨by first | omega | exact Nat.le_refl _⟩, ⟨by (with_reducible repeat (first | refine blk_drewN ?_ _ | refine blk_drew ?_ | refine blk_alloc ?_ _)); exact BK147.out⟩, ⟨by repeat (first | (with_reducible first | exact HB.out | apply below_alloc | apply pw_below_drewN | apply below_drew1 | refine below_set ?_ GE147.out) | exact HB.out)⟩⟩
        · rw [if_neg c7] at H
          have c7b0 : ((l0_2.length : Int) == 8) = false := beq_eq_false_iff_ne.mpr c7
          have c7b1 : ((l0_2.length : Int) != 8) = true := bne_iff_ne.mpr c7
          have H' := Aside0.mk H
          clear H
          have hcz17_0 : w3.cell? ⟨gb147, 0, none⟩ = some (.slice A0_0 l0_0.length c0_0) := (blk_cell BK147.out 0).trans rfl
          have hcz17_1 : w3.cell? ⟨gb147, 1, none⟩ = some (.slice A0_1 l0_1.length c0_1) := (blk_cell BK147.out 1).trans rfl
          have hcz17_2 : w3.cell? ⟨gb147, 2, none⟩ = some (.slice A0_2 l0_2.length c0_2) := (blk_cell BK147.out 2).trans rfl
          have hcz17_3 : w3.cell? ⟨gb147, 3, none⟩ = some (.int .i64 a0_3) := (blk_cell BK147.out 3).trans rfl
          have hcz17_4 : w3.cell? ⟨gb147, 4, none⟩ = some (.int .i64 a0_4) := (blk_cell BK147.out 4).trans rfl
          have hfz17_0 := blk_frozen BK147.out 0
          have hfz17_1 := blk_frozen BK147.out 1
          have hfz17_2 := blk_frozen BK147.out 2
          have hfz17_3 := blk_frozen BK147.out 3
          have hfz17_4 := blk_frozen BK147.out 4
          go_wp2_with (first | ((with_reducible refine gate_callee (f := 99) rfl ?_); refine goesL_ (some 6) rfl rfl Try.func99 (by kernel_rfl) rfl #[.slice A0_0 l0_0.length c0_0] rfl (by (try simp only [List.map_toArray, List.map_cons, List.map_nil]); first | done | rfl | (simp only [List.length_drop, List.length_take]; rfl)) ?_; (with_reducible refine (spec_l4Legs.calls k _ _ l0_0 true _ ?side1 ?side2 A4.out).mono ?_); (case side1 => repeat (first | exact (Kd.C_below HR0_0.out HB.out) | (with_reducible refine Kd.C_alloc ?_ _) | (with_reducible refine Kd.C_drewN ?_ _) | (with_reducible refine Kd.C_drew ?_))); (case side2 => exact HC0_0.out); rintro e w18 ⟨rfl, hb⟩; refine ⟨_, rfl, ?_⟩; have n0_ := Aside0.mk (blk_below (g := gb147) (o := .cells #[.slice A0_0 l0_0.length c0_0, .slice A0_1 l0_1.length c0_1, .slice A0_2 l0_2.length c0_2, .int .i64 a0_3, .int .i64 a0_4] 30 (0, 0)) (by (with_reducible repeat (first | refine blk_drewN ?_ _ | refine blk_drew ?_ | refine blk_alloc ?_ _)); exact BK147.out) hb); have n1_ := Aside0.mk (below_step (by repeat (first | (with_reducible first | exact HB.out | apply below_alloc | apply pw_below_drewN | apply below_drew1 | refine below_set ?_ GE147.out) | exact HB.out)) hb); clear BK147; clear HB; have BK147 := n0_; have HB := n1_; clear n0_ n1_; (try clear hb); (try clear hb2); (try clear hk); (try clear hi); have hcz19_0 : w18.cell? ⟨gb147, 0, none⟩ = some (.slice A0_0 l0_0.length c0_0) := (blk_cell BK147.out 0).trans rfl; have hcz19_1 : w18.cell? ⟨gb147, 1, none⟩ = some (.slice A0_1 l0_1.length c0_1) := (blk_cell BK147.out 1).trans rfl; have hcz19_2 : w18.cell? ⟨gb147, 2, none⟩ = some (.slice A0_2 l0_2.length c0_2) := (blk_cell BK147.out 2).trans rfl; have hcz19_3 : w18.cell? ⟨gb147, 3, none⟩ = some (.int .i64 a0_3) := (blk_cell BK147.out 3).trans rfl; have hcz19_4 : w18.cell? ⟨gb147, 4, none⟩ = some (.int .i64 a0_4) := (blk_cell BK147.out 4).trans rfl; have hfz19_0 := blk_frozen BK147.out 0; have hfz19_1 := blk_frozen BK147.out 1; have hfz19_2 := blk_frozen BK147.out 2; have hfz19_3 := blk_frozen BK147.out 3; have hfz19_4 := blk_frozen BK147.out 4))
          go_meet
          case rel => exact ⟨_, (true), (by first | rfl | (simp; done) | (simp [*]; done)), H', ⟨by first | omega | exact Nat.le_refl _⟩, ⟨by (with_reducible repeat (first | refine blk_drewN ?_ _ | refine blk_drew ?_ | refine blk_alloc ?_ _)); exact BK147.out⟩, ⟨by repeat (first | (with_reducible first | exact HB.out | apply below_alloc | apply pw_below_drewN | apply below_drew1 | refine below_set ?_ GE147.out) | exact HB.out)⟩⟩
      · rw [if_neg c6] at H
        have c6b0 : ((l0_1.length : Int) == 8) = false := beq_eq_false_iff_ne.mpr c6
        have c6b1 : ((l0_1.length : Int) != 8) = true := bne_iff_ne.mpr c6
        (first | rw [c6b0] | (simp only [i64_w, i32_w]; rw [c6b0]) | skip)
        have H' := Aside0.mk H
        clear H
        have hcz20_0 : w3.cell? ⟨gb147, 0, none⟩ = some (.slice A0_0 l0_0.length c0_0) := (blk_cell BK147.out 0).trans rfl
        have hcz20_1 : w3.cell? ⟨gb147, 1, none⟩ = some (.slice A0_1 l0_1.length c0_1) := (blk_cell BK147.out 1).trans rfl
        have hcz20_2 : w3.cell? ⟨gb147, 2, none⟩ = some (.slice A0_2 l0_2.length c0_2) := (blk_cell BK147.out 2).trans rfl
        have hcz20_3 : w3.cell? ⟨gb147, 3, none⟩ = some (.int .i64 a0_3) := (blk_cell BK147.out 3).trans rfl
        have hcz20_4 : w3.cell? ⟨gb147, 4, none⟩ = some (.int .i64 a0_4) := (blk_cell BK147.out 4).trans rfl
        have hfz20_0 := blk_frozen BK147.out 0
        have hfz20_1 := blk_frozen BK147.out 1
        have hfz20_2 := blk_frozen BK147.out 2
        have hfz20_3 := blk_frozen BK147.out 3
        have hfz20_4 := blk_frozen BK147.out 4
        go_wp2_with (first | ((with_reducible refine gate_callee (f := 99) rfl ?_); refine goesL_ (some 6) rfl rfl Try.func99 (by kernel_rfl) rfl #[.slice A0_0 l0_0.length c0_0] rfl (by (try simp only [List.map_toArray, List.map_cons, List.map_nil]); first | done | rfl | (simp only [List.length_drop, List.length_take]; rfl)) ?_; (with_reducible refine (spec_l4Legs.calls k _ _ l0_0 true _ ?side1 ?side2 A4.out).mono ?_); (case side1 => repeat (first | exact (Kd.C_below HR0_0.out HB.out) | (with_reducible refine Kd.C_alloc ?_ _) | (with_reducible refine Kd.C_drewN ?_ _) | (with_reducible refine Kd.C_drew ?_))); (case side2 => exact HC0_0.out); rintro e w21 ⟨rfl, hb⟩; refine ⟨_, rfl, ?_⟩; have n0_ := Aside0.mk (blk_below (g := gb147) (o := .cells #[.slice A0_0 l0_0.length c0_0, .slice A0_1 l0_1.length c0_1, .slice A0_2 l0_2.length c0_2, .int .i64 a0_3, .int .i64 a0_4] 30 (0, 0)) (by (with_reducible repeat (first | refine blk_drewN ?_ _ | refine blk_drew ?_ | refine blk_alloc ?_ _)); exact BK147.out) hb); have n1_ := Aside0.mk (below_step (by repeat (first | (with_reducible first | exact HB.out | apply below_alloc | apply pw_below_drewN | apply below_drew1 | refine below_set ?_ GE147.out) | exact HB.out)) hb); clear BK147; clear HB; have BK147 := n0_; have HB := n1_; clear n0_ n1_; (try clear hb); (try clear hb2); (try clear hk); (try clear hi); have hcz22_0 : w21.cell? ⟨gb147, 0, none⟩ = some (.slice A0_0 l0_0.length c0_0) := (blk_cell BK147.out 0).trans rfl; have hcz22_1 : w21.cell? ⟨gb147, 1, none⟩ = some (.slice A0_1 l0_1.length c0_1) := (blk_cell BK147.out 1).trans rfl; have hcz22_2 : w21.cell? ⟨gb147, 2, none⟩ = some (.slice A0_2 l0_2.length c0_2) := (blk_cell BK147.out 2).trans rfl; have hcz22_3 : w21.cell? ⟨gb147, 3, none⟩ = some (.int .i64 a0_3) := (blk_cell BK147.out 3).trans rfl; have hcz22_4 : w21.cell? ⟨gb147, 4, none⟩ = some (.int .i64 a0_4) := (blk_cell BK147.out 4).trans rfl; have hfz22_0 := blk_frozen BK147.out 0; have hfz22_1 := blk_frozen BK147.out 1; have hfz22_2 := blk_frozen BK147.out 2; have hfz22_3 := blk_frozen BK147.out 3; have hfz22_4 := blk_frozen BK147.out 4))
        go_meet
        case rel => exact ⟨_, (true), (by first | rfl | (simp; done) | (simp [*]; done)), H', ⟨by first | omega | exact Nat.le_refl _⟩, ⟨by (with_reducible repeat (first | refine blk_drewN ?_ _ | refine blk_drew ?_ | refine blk_alloc ?_ _)); exact BK147.out⟩, ⟨by repeat (first | (with_reducible first | exact HB.out | apply below_alloc | apply pw_below_drewN | apply below_drew1 | refine below_set ?_ GE147.out) | exact HB.out)⟩⟩
    · replace c5 := Bool.eq_false_iff.mpr c5
      subst c5
      have H1 : (spec_l25Good.j0 k true l0_0 l0_1 l0_2 a0_3 a0_4) = some r := by rw [if_neg (show ¬ (false = true) by decide)] at H; exact H
      clear H
      have H := H1
      clear H1
      have H' := Aside0.mk H
      clear H
      have hcz23_0 : w3.cell? ⟨gb147, 0, none⟩ = some (.slice A0_0 l0_0.length c0_0) := (blk_cell BK147.out 0).trans rfl
      have hcz23_1 : w3.cell? ⟨gb147, 1, none⟩ = some (.slice A0_1 l0_1.length c0_1) := (blk_cell BK147.out 1).trans rfl
      have hcz23_2 : w3.cell? ⟨gb147, 2, none⟩ = some (.slice A0_2 l0_2.length c0_2) := (blk_cell BK147.out 2).trans rfl
      have hcz23_3 : w3.cell? ⟨gb147, 3, none⟩ = some (.int .i64 a0_3) := (blk_cell BK147.out 3).trans rfl
      have hcz23_4 : w3.cell? ⟨gb147, 4, none⟩ = some (.int .i64 a0_4) := (blk_cell BK147.out 4).trans rfl
      have hfz23_0 := blk_frozen BK147.out 0
      have hfz23_1 := blk_frozen BK147.out 1
      have hfz23_2 := blk_frozen BK147.out 2
      have hfz23_3 := blk_frozen BK147.out 3
      have hfz23_4 := blk_frozen BK147.out 4
      go_wp2_with (first | ((with_reducible refine gate_callee (f := 99) rfl ?_); refine goesL_ (some 6) rfl rfl Try.func99 (by kernel_rfl) rfl #[.slice A0_0 l0_0.length c0_0] rfl (by (try simp only [List.map_toArray, List.map_cons, List.map_nil]); first | done | rfl | (simp only [List.length_drop, List.length_take]; rfl)) ?_; (with_reducible refine (spec_l4Legs.calls k _ _ l0_0 false _ ?side1 ?side2 A4.out).mono ?_); (case side1 => repeat (first | exact (Kd.C_below HR0_0.out HB.out) | (with_reducible refine Kd.C_alloc ?_ _) | (with_reducible refine Kd.C_drewN ?_ _) | (with_reducible refine Kd.C_drew ?_))); (case side2 => exact HC0_0.out); rintro e w24 ⟨rfl, hb⟩; refine ⟨_, rfl, ?_⟩; have n0_ := Aside0.mk (blk_below (g := gb147) (o := .cells #[.slice A0_0 l0_0.length c0_0, .slice A0_1 l0_1.length c0_1, .slice A0_2 l0_2.length c0_2, .int .i64 a0_3, .int .i64 a0_4] 30 (0, 0)) (by (with_reducible repeat (first | refine blk_drewN ?_ _ | refine blk_drew ?_ | refine blk_alloc ?_ _)); exact BK147.out) hb); have n1_ := Aside0.mk (below_step (by repeat (first | (with_reducible first | exact HB.out | apply below_alloc | apply pw_below_drewN | apply below_drew1 | refine below_set ?_ GE147.out) | exact HB.out)) hb); clear BK147; clear HB; have BK147 := n0_; have HB := n1_; clear n0_ n1_; (try clear hb); (try clear hb2); (try clear hk); (try clear hi)))
      go_meet
      case rel => exact ⟨_, (true), (by first | rfl | (simp; done) | (simp [*]; done)), H', ⟨by first | omega | exact Nat.le_refl _⟩, ⟨by (with_reducible repeat (first | refine blk_drewN ?_ _ | refine blk_drew ?_ | refine blk_alloc ?_ _)); exact BK147.out⟩, ⟨by repeat (first | (with_reducible first | exact HB.out | apply below_alloc | apply pw_below_drewN | apply below_drew1 | refine below_set ?_ GE147.out) | exact HB.out)⟩⟩
  case rest =>
    clear HC2
    try clear p2
    try clear c5
    try clear c6
    try clear c6b0
    try clear c6b1
    try clear c7
    try clear c7b0
    try clear c7b1
    try clear c9
    try clear hcz11_0
    try clear hcz11_1
    try clear hcz11_2
    try clear hcz11_3
    try clear hcz11_4
    try clear hcz13_0
    try clear hcz13_1
    try clear hcz13_2
    try clear hcz13_3
    try clear hcz13_4
    try clear hcz14_0
    try clear hcz14_1
    try clear hcz14_2
    try clear hcz14_3
    try clear hcz14_4
    try clear hcz16_0
    try clear hcz16_1
    try clear hcz16_2
    try clear hcz16_3
    try clear hcz16_4
    try clear hcz17_0
    try clear hcz17_1
    try clear hcz17_2
    try clear hcz17_3
    try clear hcz17_4
    try clear hcz19_0
    try clear hcz19_1
    try clear hcz19_2
    try clear hcz19_3
    try clear hcz19_4
    try clear hcz20_0
    try clear hcz20_1
    try clear hcz20_2
    try clear hcz20_3
    try clear hcz20_4
    try clear hcz22_0
    try clear hcz22_1
    try clear hcz22_2
    try clear hcz22_3
    try clear hcz22_4
    try clear hcz23_0
    try clear hcz23_1
    try clear hcz23_2
    try clear hcz23_3
    try clear hcz23_4
    try clear hfz11_0
    try clear hfz11_1
    try clear hfz11_2
    try clear hfz11_3
    try clear hfz11_4
    try clear hfz13_0
    try clear hfz13_1
    try clear hfz13_2
    try clear hfz13_3
    try clear hfz13_4
    try clear hfz14_0
    try clear hfz14_1
    try clear hfz14_2
    try clear hfz14_3
    try clear hfz14_4
    try clear hfz16_0
    try clear hfz16_1
    try clear hfz16_2
    try clear hfz16_3
    try clear hfz16_4
    try clear hfz17_0
    try clear hfz17_1
    try clear hfz17_2
    try clear hfz17_3
    try clear hfz17_4
    try clear hfz19_0
    try clear hfz19_1
    try clear hfz19_2
    try clear hfz19_3
    try clear hfz19_4
    try clear hfz20_0
    try clear hfz20_1
    try clear hfz20_2
    try clear hfz20_3
    try clear hfz20_4
    try clear hfz22_0
    try clear hfz22_1
    try clear hfz22_2
    try clear hfz22_3
    try clear hfz22_4
    try clear hfz23_0
    try clear hfz23_1
    try clear hfz23_2
    try clear hfz23_3
    try clear hfz23_4
    obtain ⟨kq, x31_1, rfl, HA, HJ1, BK147, HB⟩ := hcut
    cases kq with
    | zero => exact absurd HA.out (by simp [spec_l25Good.j0])
    | succ kj1 =>
      have H := HA.out
      clear HA
      simp only [spec_l25Good.j0] at H
      by_cases c25 : x31_1 = true
      · subst c25
        have H1 : (some false) = some r := by rw [if_pos rfl] at H; exact H
        clear H
        have H := H1
        clear H1
        obtain rfl := Option.some.inj H
        go_wp2
        go_ret
        exact ⟨by first | rfl | (simp [errW_none, errW_some] <;> rfl) | (simp [*, errW_none, errW_some] <;> rfl), by repeat (first | (with_reducible first | exact HB.out | apply below_alloc | apply pw_below_drewN | apply below_drew1 | refine below_set ?_ GE147.out) | exact HB.out)⟩
      · replace c25 := Bool.eq_false_iff.mpr c25
        subst c25
        have H1 : (if 0 < (l0_1.length : Int) then (if rdOf false l0_1 0 = true then (if 0 ≤ a0_3 then (if a0_3 < (l0_1.length : Int) then (if rdOf false l0_1 a0_3 = true then ((spec_l25Out.f kj1 l0_0 l0_1 a0_3).bind fun t153 => (if t153 ≥ 0 then (some (decide (t153 ≤ a0_4))) else (some false))) else (some false)) else (none)) else (none)) else (some false)) else (none)) = some r := by rw [if_neg (show ¬ (false = true) by decide)] at H; exact H
        clear H
        have H := H1
        clear H1
        by_cases c26 : 0 < (l0_1.length : Int)
        · rw [if_pos c26] at H
          have c26b0 : decide (0 < (l0_1.length : Int)) = true := decide_eq_true c26
          have c26b1 : decide (0 < l0_1.length) = true := decide_eq_true (by omega)
          clear c26
          obtain ⟨bq27, hbq27⟩ : ∃ b_ : Bool, b_ = (rdOf false l0_1 0) := ⟨_, rfl⟩
          replace H : (if bq27 = true then (if 0 ≤ a0_3 then (if a0_3 < (l0_1.length : Int) then (if rdOf false l0_1 a0_3 = true then ((spec_l25Out.f kj1 l0_0 l0_1 a0_3).bind fun t153 => (if t153 ≥ 0 then (some (decide (t153 ≤ a0_4))) else (some false))) else (some false)) else (none)) else (none)) else (some false)) = some r := by rw [← hbq27] at H; exact H
          have Nbq27 := Aside0.mk hbq27
          clear hbq27
          by_cases c28 : bq27 = true
          · subst c28
            have H1 : (if 0 ≤ a0_3 then (if a0_3 < (l0_1.length : Int) then (if rdOf false l0_1 a0_3 = true then ((spec_l25Out.f kj1 l0_0 l0_1 a0_3).bind fun t153 => (if t153 ≥ 0 then (some (decide (t153 ≤ a0_4))) else (some false))) else (some false)) else (none)) else (none)) = some r := by rw [if_pos rfl] at H; exact H
            clear H
            have H := H1
            clear H1
            by_cases c29 : 0 ≤ a0_3
            · rw [if_pos c29] at H
              have c29b0 : decide (0 ≤ a0_3) = true := decide_eq_true c29
              clear c29
              by_cases c30 : a0_3 < (l0_1.length : Int)
              · rw [if_pos c30] at H
                have c30b0 : decide (a0_3 < (l0_1.length : Int)) = true := decide_eq_true c30
                clear c30
                obtain ⟨bq31, hbq31⟩ : ∃ b_ : Bool, b_ = (rdOf false l0_1 a0_3) := ⟨_, rfl⟩
                replace H : (if bq31 = true then ((spec_l25Out.f kj1 l0_0 l0_1 a0_3).bind fun t153 => (if t153 ≥ 0 then (some (decide (t153 ≤ a0_4))) else (some false))) else (some false)) = some r := by rw [← hbq31] at H; exact H
                have Nbq31 := Aside0.mk hbq31
                clear hbq31
                by_cases c32 : bq31 = true
                · subst c32
                  have H1 : ((spec_l25Out.f kj1 l0_0 l0_1 a0_3).bind fun t153 => (if t153 ≥ 0 then (some (decide (t153 ≤ a0_4))) else (some false))) = some r := by rw [if_pos rfl] at H; exact H
                  clear H
                  have H := H1
                  clear H1
                  replace H := Option.bind_eq_some_iff.mp H
                  obtain ⟨t153, A330, H⟩ := H
                  replace H : (if t153 ≥ 0 then (some (decide (t153 ≤ a0_4))) else (some false)) = some r := H
                  have A33 := Aside0.mk A330
                  clear A330
                  by_cases c34 : t153 ≥ 0
                  · rw [if_pos c34] at H
                    have c34b0 : decide (0 ≤ t153) = true := decide_eq_true c34
                    clear c34
                    obtain rfl := Option.some.inj H
                    have hcz35_0 : wc.cell? ⟨gb147, 0, none⟩ = some (.slice A0_0 l0_0.length c0_0) := (blk_cell BK147.out 0).trans rfl
                    have hcz35_1 : wc.cell? ⟨gb147, 1, none⟩ = some (.slice A0_1 l0_1.length c0_1) := (blk_cell BK147.out 1).trans rfl
                    have hcz35_2 : wc.cell? ⟨gb147, 2, none⟩ = some (.slice A0_2 l0_2.length c0_2) := (blk_cell BK147.out 2).trans rfl
                    have hcz35_3 : wc.cell? ⟨gb147, 3, none⟩ = some (.int .i64 a0_3) := (blk_cell BK147.out 3).trans rfl
                    have hcz35_4 : wc.cell? ⟨gb147, 4, none⟩ = some (.int .i64 a0_4) := (blk_cell BK147.out 4).trans rfl
                    have hfz35_0 := blk_frozen BK147.out 0
                    have hfz35_1 := blk_frozen BK147.out 1
                    have hfz35_2 := blk_frozen BK147.out 2
                    have hfz35_3 := blk_frozen BK147.out 3
                    have hfz35_4 := blk_frozen BK147.out 4
                    have p151 : 0 ≤ (0 : Int) := (by omega)
                    have q151 : 0 < (l0_1.length : Int) := of_decide_eq_true (by first | (with_reducible assumption) | assumption)
                    obtain ⟨ad151, e151, hx151_0⟩ := Kd.at_bool HR0_1.out 0 p151 q151
                    (try rw [← Nbq27.out] at hx151_0)
                    (try rw [← Nbq31.out] at hx151_0)
                    cases e151
                    have qi151 : (0 < l0_1.length) = True := eq_true (by omega)
                    (try rw [show ((0 : Int)).toNat = 0 from rfl] at hx151_0)
                    (try rw [Addr.add_zero'] at hx151_0)
                    replace hx151_0 := (HB.out.cell (World.block_lt_of_cell? w _ hx151_0)).trans hx151_0
                    replace p151 := eq_true p151
                    replace q151 := eq_true q151
                    have p152 : 0 ≤ (a0_3 : Int) := of_decide_eq_true (by first | (with_reducible assumption) | assumption)
                    have q152 : a0_3 < (l0_1.length : Int) := of_decide_eq_true (by first | (with_reducible assumption) | assumption)
                    obtain ⟨ad152, e152, hx152_0⟩ := Kd.at_bool HR0_1.out a0_3 p152 q152
                    (try rw [← Nbq27.out] at hx152_0)
                    (try rw [← Nbq31.out] at hx152_0)
                    obtain rfl : ad151 = ad152 := (by injection e152)
                    replace hx152_0 := (HB.out.cell (World.block_lt_of_cell? w _ hx152_0)).trans hx152_0
                    replace p152 := eq_true p152
                    replace q152 := eq_true q152
                    go_wp2_with (first | ((with_reducible refine gate_callee (f := 88) rfl ?_); refine goesL_ (some 52) rfl rfl Try.func88 (by kernel_rfl) rfl #[.slice A0_0 l0_0.length c0_0, .slice (some ad151) l0_1.length c0_1, .int .i64 a0_3] rfl (by (try simp only [List.map_toArray, List.map_cons, List.map_nil]); first | done | rfl | (simp only [List.length_drop, List.length_take]; rfl)) ?_; (with_reducible refine (spec_l25Out.calls kj1 _ _ l0_0 _ _ l0_1 a0_3 t153 _ ?side1 ?side2 ?side3 ?side4 A33.out).mono ?_); (case side1 => repeat (first | exact (Kd.C_below HR0_0.out HB.out) | (with_reducible refine Kd.C_alloc ?_ _) | (with_reducible refine Kd.C_drewN ?_ _) | (with_reducible refine Kd.C_drew ?_))); (case side2 => exact HC0_0.out); (case side3 => repeat (first | exact (Kd.C_below HR0_1.out HB.out) | (with_reducible refine Kd.C_alloc ?_ _) | (with_reducible refine Kd.C_drewN ?_ _) | (with_reducible refine Kd.C_drew ?_))); (case side4 => exact HC0_1.out); rintro e w36 ⟨rfl, hb⟩; refine ⟨_, rfl, ?_⟩; have n0_ := Aside0.mk (blk_below (g := gb147) (o := .cells #[.slice A0_0 l0_0.length c0_0, .slice (some ad151) l0_1.length c0_1, .slice A0_2 l0_2.length c0_2, .int .i64 a0_3, .int .i64 a0_4] 30 (0, 0)) (by (with_reducible repeat (first | refine blk_drewN ?_ _ | refine blk_drew ?_ | refine blk_alloc ?_ _)); exact BK147.out) hb); have n1_ := Aside0.mk (below_step (by repeat (first | (with_reducible first | exact HB.out | apply below_alloc | apply pw_below_drewN | apply below_drew1 | refine below_set ?_ GE147.out) | exact HB.out)) hb); clear BK147; clear HB; have BK147 := n0_; have HB := n1_; clear n0_ n1_; (try clear hb); (try clear hb2); (try clear hk); (try clear hi); have hcz37_0 : w36.cell? ⟨gb147, 0, none⟩ = some (.slice A0_0 l0_0.length c0_0) := (blk_cell BK147.out 0).trans rfl; have hcz37_1 : w36.cell? ⟨gb147, 1, none⟩ = some (.slice (some ad151) l0_1.length c0_1) := (blk_cell BK147.out 1).trans rfl; have hcz37_2 : w36.cell? ⟨gb147, 2, none⟩ = some (.slice A0_2 l0_2.length c0_2) := (blk_cell BK147.out 2).trans rfl; have hcz37_3 : w36.cell? ⟨gb147, 3, none⟩ = some (.int .i64 a0_3) := (blk_cell BK147.out 3).trans rfl; have hcz37_4 : w36.cell? ⟨gb147, 4, none⟩ = some (.int .i64 a0_4) := (blk_cell BK147.out 4).trans rfl; have hfz37_0 := blk_frozen BK147.out 0; have hfz37_1 := blk_frozen BK147.out 1; have hfz37_2 := blk_frozen BK147.out 2; have hfz37_3 := blk_frozen BK147.out 3; have hfz37_4 := blk_frozen BK147.out 4))
                    go_ret
                    exact ⟨by first | rfl | (simp [errW_none, errW_some] <;> rfl) | (simp [*, errW_none, errW_some] <;> rfl), by repeat (first | (with_reducible first | exact HB.out | apply below_alloc | apply pw_below_drewN | apply below_drew1 | refine below_set ?_ GE147.out) | exact HB.out)⟩
                  · rw [if_neg c34] at H
                    have c34b0 : decide (0 ≤ t153) = false := decide_eq_false c34
                    clear c34
                    obtain rfl := Option.some.inj H
                    have hcz38_0 : wc.cell? ⟨gb147, 0, none⟩ = some (.slice A0_0 l0_0.length c0_0) := (blk_cell BK147.out 0).trans rfl
                    have hcz38_1 : wc.cell? ⟨gb147, 1, none⟩ = some (.slice A0_1 l0_1.length c0_1) := (blk_cell BK147.out 1).trans rfl
                    have hcz38_2 : wc.cell? ⟨gb147, 2, none⟩ = some (.slice A0_2 l0_2.length c0_2) := (blk_cell BK147.out 2).trans rfl
                    have hcz38_3 : wc.cell? ⟨gb147, 3, none⟩ = some (.int .i64 a0_3) := (blk_cell BK147.out 3).trans rfl
                    have hcz38_4 : wc.cell? ⟨gb147, 4, none⟩ = some (.int .i64 a0_4) := (blk_cell BK147.out 4).trans rfl
                    have hfz38_0 := blk_frozen BK147.out 0
                    have hfz38_1 := blk_frozen BK147.out 1
                    have hfz38_2 := blk_frozen BK147.out 2
                    have hfz38_3 := blk_frozen BK147.out 3
                    have hfz38_4 := blk_frozen BK147.out 4
                    have p151 : 0 ≤ (0 : Int) := (by omega)
                    have q151 : 0 < (l0_1.length : Int) := of_decide_eq_true (by first | (with_reducible assumption) | assumption)
                    obtain ⟨ad151, e151, hx151_0⟩ := Kd.at_bool HR0_1.out 0 p151 q151
                    (try rw [← Nbq27.out] at hx151_0)
                    (try rw [← Nbq31.out] at hx151_0)
                    cases e151
                    have qi151 : (0 < l0_1.length) = True := eq_true (by omega)
                    (try rw [show ((0 : Int)).toNat = 0 from rfl] at hx151_0)
                    (try rw [Addr.add_zero'] at hx151_0)
                    replace hx151_0 := (HB.out.cell (World.block_lt_of_cell? w _ hx151_0)).trans hx151_0
                    replace p151 := eq_true p151
                    replace q151 := eq_true q151
                    have p152 : 0 ≤ (a0_3 : Int) := of_decide_eq_true (by first | (with_reducible assumption) | assumption)
                    have q152 : a0_3 < (l0_1.length : Int) := of_decide_eq_true (by first | (with_reducible assumption) | assumption)
                    obtain ⟨ad152, e152, hx152_0⟩ := Kd.at_bool HR0_1.out a0_3 p152 q152
                    (try rw [← Nbq27.out] at hx152_0)
                    (try rw [← Nbq31.out] at hx152_0)
                    obtain rfl : ad151 = ad152 := (by injection e152)
                    replace hx152_0 := (HB.out.cell (World.block_lt_of_cell? w _ hx152_0)).trans hx152_0
                    replace p152 := eq_true p152
                    replace q152 := eq_true q152
                    go_wp2_with (first | ((with_reducible refine gate_callee (f := 88) rfl ?_); refine goesL_ (some 52) rfl rfl Try.func88 (by kernel_rfl) rfl #[.slice A0_0 l0_0.length c0_0, .slice (some ad151) l0_1.length c0_1, .int .i64 a0_3] rfl (by (try simp only [List.map_toArray, List.map_cons, List.map_nil]); first | done | rfl | (simp only [List.length_drop, List.length_take]; rfl)) ?_; (with_reducible refine (spec_l25Out.calls kj1 _ _ l0_0 _ _ l0_1 a0_3 t153 _ ?side1 ?side2 ?side3 ?side4 A33.out).mono ?_); (case side1 => repeat (first | exact (Kd.C_below HR0_0.out HB.out) | (with_reducible refine Kd.C_alloc ?_ _) | (with_reducible refine Kd.C_drewN ?_ _) | (with_reducible refine Kd.C_drew ?_))); (case side2 => exact HC0_0.out); (case side3 => repeat (first | exact (Kd.C_below HR0_1.out HB.out) | (with_reducible refine Kd.C_alloc ?_ _) | (with_reducible refine Kd.C_drewN ?_ _) | (with_reducible refine Kd.C_drew ?_))); (case side4 => exact HC0_1.out); rintro e w39 ⟨rfl, hb⟩; refine ⟨_, rfl, ?_⟩; have n0_ := Aside0.mk (blk_below (g := gb147) (o := .cells #[.slice A0_0 l0_0.length c0_0, .slice (some ad151) l0_1.length c0_1, .slice A0_2 l0_2.length c0_2, .int .i64 a0_3, .int .i64 a0_4] 30 (0, 0)) (by (with_reducible repeat (first | refine blk_drewN ?_ _ | refine blk_drew ?_ | refine blk_alloc ?_ _)); exact BK147.out) hb); have n1_ := Aside0.mk (below_step (by repeat (first | (with_reducible first | exact HB.out | apply below_alloc | apply pw_below_drewN | apply below_drew1 | refine below_set ?_ GE147.out) | exact HB.out)) hb); clear BK147; clear HB; have BK147 := n0_; have HB := n1_; clear n0_ n1_; (try clear hb); (try clear hb2); (try clear hk); (try clear hi)))
                    go_ret
                    exact ⟨by first | rfl | (simp [errW_none, errW_some] <;> rfl) | (simp [*, errW_none, errW_some] <;> rfl), by repeat (first | (with_reducible first | exact HB.out | apply below_alloc | apply pw_below_drewN | apply below_drew1 | refine below_set ?_ GE147.out) | exact HB.out)⟩
                · replace c32 := Bool.eq_false_iff.mpr c32
                  subst c32
                  have H1 : (some false) = some r := by rw [if_neg (show ¬ (false = true) by decide)] at H; exact H
                  clear H
                  have H := H1
                  clear H1
                  obtain rfl := Option.some.inj H
                  have hcz40_0 : wc.cell? ⟨gb147, 0, none⟩ = some (.slice A0_0 l0_0.length c0_0) := (blk_cell BK147.out 0).trans rfl
                  have hcz40_1 : wc.cell? ⟨gb147, 1, none⟩ = some (.slice A0_1 l0_1.length c0_1) := (blk_cell BK147.out 1).trans rfl
                  have hcz40_2 : wc.cell? ⟨gb147, 2, none⟩ = some (.slice A0_2 l0_2.length c0_2) := (blk_cell BK147.out 2).trans rfl
                  have hcz40_3 : wc.cell? ⟨gb147, 3, none⟩ = some (.int .i64 a0_3) := (blk_cell BK147.out 3).trans rfl
                  have hcz40_4 : wc.cell? ⟨gb147, 4, none⟩ = some (.int .i64 a0_4) := (blk_cell BK147.out 4).trans rfl
                  have hfz40_0 := blk_frozen BK147.out 0
                  have hfz40_1 := blk_frozen BK147.out 1
                  have hfz40_2 := blk_frozen BK147.out 2
                  have hfz40_3 := blk_frozen BK147.out 3
                  have hfz40_4 := blk_frozen BK147.out 4
                  have p151 : 0 ≤ (0 : Int) := (by omega)
                  have q151 : 0 < (l0_1.length : Int) := of_decide_eq_true (by first | (with_reducible assumption) | assumption)
                  obtain ⟨ad151, e151, hx151_0⟩ := Kd.at_bool HR0_1.out 0 p151 q151
                  (try rw [← Nbq27.out] at hx151_0)
                  (try rw [← Nbq31.out] at hx151_0)
                  cases e151
                  have qi151 : (0 < l0_1.length) = True := eq_true (by omega)
                  (try rw [show ((0 : Int)).toNat = 0 from rfl] at hx151_0)
                  (try rw [Addr.add_zero'] at hx151_0)
                  replace hx151_0 := (HB.out.cell (World.block_lt_of_cell? w _ hx151_0)).trans hx151_0
                  replace p151 := eq_true p151
                  replace q151 := eq_true q151
                  have p152 : 0 ≤ (a0_3 : Int) := of_decide_eq_true (by first | (with_reducible assumption) | assumption)
                  have q152 : a0_3 < (l0_1.length : Int) := of_decide_eq_true (by first | (with_reducible assumption) | assumption)
                  obtain ⟨ad152, e152, hx152_0⟩ := Kd.at_bool HR0_1.out a0_3 p152 q152
                  (try rw [← Nbq27.out] at hx152_0)
                  (try rw [← Nbq31.out] at hx152_0)
                  obtain rfl : ad151 = ad152 := (by injection e152)
                  replace hx152_0 := (HB.out.cell (World.block_lt_of_cell? w _ hx152_0)).trans hx152_0
                  replace p152 := eq_true p152
                  replace q152 := eq_true q152
                  go_wp2
                  go_ret
                  exact ⟨by first | rfl | (simp [errW_none, errW_some] <;> rfl) | (simp [*, errW_none, errW_some] <;> rfl), by repeat (first | (with_reducible first | exact HB.out | apply below_alloc | apply pw_below_drewN | apply below_drew1 | refine below_set ?_ GE147.out) | exact HB.out)⟩
              · rw [if_neg c30] at H
                exact absurd H (by simp)
            · rw [if_neg c29] at H
              exact absurd H (by simp)
          · replace c28 := Bool.eq_false_iff.mpr c28
            subst c28
            have H1 : (some false) = some r := by rw [if_neg (show ¬ (false = true) by decide)] at H; exact H
            clear H
            have H := H1
            clear H1
            obtain rfl := Option.some.inj H
            have hcz41_0 : wc.cell? ⟨gb147, 0, none⟩ = some (.slice A0_0 l0_0.length c0_0) := (blk_cell BK147.out 0).trans rfl
            have hcz41_1 : wc.cell? ⟨gb147, 1, none⟩ = some (.slice A0_1 l0_1.length c0_1) := (blk_cell BK147.out 1).trans rfl
            have hcz41_2 : wc.cell? ⟨gb147, 2, none⟩ = some (.slice A0_2 l0_2.length c0_2) := (blk_cell BK147.out 2).trans rfl
            have hcz41_3 : wc.cell? ⟨gb147, 3, none⟩ = some (.int .i64 a0_3) := (blk_cell BK147.out 3).trans rfl
            have hcz41_4 : wc.cell? ⟨gb147, 4, none⟩ = some (.int .i64 a0_4) := (blk_cell BK147.out 4).trans rfl
            have hfz41_0 := blk_frozen BK147.out 0
            have hfz41_1 := blk_frozen BK147.out 1
            have hfz41_2 := blk_frozen BK147.out 2
            have hfz41_3 := blk_frozen BK147.out 3
            have hfz41_4 := blk_frozen BK147.out 4
            have p151 : 0 ≤ (0 : Int) := (by omega)
            have q151 : 0 < (l0_1.length : Int) := of_decide_eq_true (by first | (with_reducible assumption) | assumption)
            obtain ⟨ad151, e151, hx151_0⟩ := Kd.at_bool HR0_1.out 0 p151 q151
            (try rw [← Nbq27.out] at hx151_0)
            cases e151
            have qi151 : (0 < l0_1.length) = True := eq_true (by omega)
            (try rw [show ((0 : Int)).toNat = 0 from rfl] at hx151_0)
            (try rw [Addr.add_zero'] at hx151_0)
            replace hx151_0 := (HB.out.cell (World.block_lt_of_cell? w _ hx151_0)).trans hx151_0
            replace p151 := eq_true p151
            replace q151 := eq_true q151
            go_wp2
            go_ret
            exact ⟨by first | rfl | (simp [errW_none, errW_some] <;> rfl) | (simp [*, errW_none, errW_some] <;> rfl), by repeat (first | (with_reducible first | exact HB.out | apply below_alloc | apply pw_below_drewN | apply below_drew1 | refine below_set ?_ GE147.out) | exact HB.out)⟩
        · rw [if_neg c26] at H
          exact absurd H (by simp)

end Go.Proofs.Ythmjimboajmhmaa.Pr

namespace Go.Proofs.Ythmjimboajmhmaa.Pr
open Go.RowKit Go.Proofs.YthmjimboajmhmaaW.PrintWords Go.Proofs.YthmjimboajmhmaaW.PrintLast Go.Proofs.YthmjimboajmhmaaW.PrintMore
attribute [local go_sem] max2_int min2_int max_two min_two max_three min_three max_four min_four   -- for this text's walks alone
set_option linter.unusedVariables false
set_option linter.unusedSimpArgs false

/-! ### spec_SpareLight: function 35 -/
def spec_SpareLight.f (k : Nat) (l0_0 : List (S37)) (l0_1 : List Bool) (l0_2 : List Bool) (a0_3 : Int) (a0_4 : Int) : Option (Int × Bool) := (spec_l25Good.f k l0_0 l0_1 l0_2 a0_3 a0_4).bind fun t1011 => (if t1011 = true then ((spec_l25Out.f k l0_0 l0_1 a0_3).bind fun t1012 => (some (wrap64 (a0_4 - t1012), true))) else (some (0, false)))
theorem spec_SpareLight.mono : ∀ a0 a1 a2 a3 a4 k, LeO (spec_SpareLight.f k a0 a1 a2 a3 a4) (spec_SpareLight.f (k + 1) a0 a1 a2 a3 a4) := by
  intro a0 a1 a2 a3 a4 k
  unfold spec_SpareLight.f
  repeat' first
      | (with_reducible exact spec_l25Good.mono _ _ _ _ _ _)
      | (with_reducible exact spec_l25Out.mono _ _ _ _)
      | (with_reducible exact LeO.refl _)
      | (with_reducible exact LeO.none _)
      | (with_reducible refine LeO.ite ?_ ?_)
      | (with_reducible refine LeO.bind ?_ (fun _ => ?_))
      | exact spec_l25Good.mono _ _ _ _ _ _
      | exact spec_l25Out.mono _ _ _ _
      | exact LeO.none _
      | refine LeO.ite ?_ ?_
      | refine LeO.bind ?_ (fun _ => ?_)
def spec_SpareLight.T3 : Bool × List (List Nat × List Nat) := (true, [([], []), ([0], [0]), ([], []), ([2], [2]), ([], []), ([4], [4]), ([], []), ([6], [6]), ([3, 5, 7], [3, 5, 7]), ([1, 8], [1, 8]), ([9, 8, 0, 1, 2, 3, 4, 5, 6, 7, 8, 9], [9]), ([10, 0, 1, 2, 3, 4, 5, 6, 7, 8, 9, 10], [])])
def spec_SpareLight.B3 : List Nat := [0, 1, 0, 4, 0, 16, 0, 64, 252, 511, 1023, 2047]
theorem spec_SpareLight.tab3 : rtab .any (opsOf Try.f35 3) = spec_SpareLight.T3 := by kernel_rfl
theorem spec_SpareLight.bits3 : waitsOk spec_SpareLight.T3.2 spec_SpareLight.B3 = true := by kernel_rfl
set_option maxHeartbeats 8000000 in
set_option maxRecDepth 100000 in
theorem spec_SpareLight.calls (k : Nat) (A0_0 : Option Addr) (c0_0 : Nat) (l0_0 : List (S37)) (A0_1 : Option Addr) (c0_1 : Nat) (l0_1 : List Bool) (A0_2 : Option Addr) (c0_2 : Nat) (l0_2 : List Bool) (a0_3 : Int) (a0_4 : Int) (r1 : Int) (r2 : Bool) (w : World) (hr0_0 : Kd.C k37 w A0_0 l0_0.length l0_0) (hc0_0 : l0_0.length ≤ c0_0) (hr0_1 : Kd.C Kd.bool w A0_1 l0_1.length l0_1) (hc0_1 : l0_1.length ≤ c0_1) (hr0_2 : Kd.C Kd.bool w A0_2 l0_2.length l0_2) (hc0_2 : l0_2.length ≤ c0_2) (h : spec_SpareLight.f k l0_0 l0_1 l0_2 a0_3 a0_4 = some (r1, r2)) :
    Calls Try.prog 35 #[.agg #[.slice A0_0 l0_0.length c0_0, .slice A0_1 l0_1.length c0_1, .slice A0_2 l0_2.length c0_2, .int .i64 a0_3, .int .i64 a0_4]] w fun e w' => e = .returned (.tuple #[.int .i64 r1, .bool r2]) ∧ Below w.heap.size w w' := by
  have hu30 := Try.underlying30
  have HR0_0 := Aside0.mk hr0_0
  have HC0_0 := Aside0.mk hc0_0
  clear hr0_0 hc0_0
  have HR0_1 := Aside0.mk hr0_1
  have HC0_1 := Aside0.mk hc0_1
  clear hr0_1 hc0_1
  have HR0_2 := Aside0.mk hr0_2
  have HC0_2 := Aside0.mk hc0_2
  clear hr0_2 hc0_2
  have HB := Aside0.mk (Below.refl w.heap.size w)
  have H : ((spec_l25Good.f k l0_0 l0_1 l0_2 a0_3 a0_4).bind fun t1011 => (if t1011 = true then ((spec_l25Out.f k l0_0 l0_1 a0_3).bind fun t1012 => (some (wrap64 (a0_4 - t1012), true))) else (some (0, false)))) = some (r1, r2) := h
  clear h
  replace H := Option.bind_eq_some_iff.mp H
  obtain ⟨t1011, A20, H⟩ := H
  replace H : (if t1011 = true then ((spec_l25Out.f k l0_0 l0_1 a0_3).bind fun t1012 => (some (wrap64 (a0_4 - t1012), true))) else (some (0, false))) = some (r1, r2) := H
  have A2 := Aside0.mk A20
  clear A20
  by_cases c3 : t1011 = true
  · subst c3
    have H1 : ((spec_l25Out.f k l0_0 l0_1 a0_3).bind fun t1012 => (some (wrap64 (a0_4 - t1012), true))) = some (r1, r2) := by rw [if_pos rfl] at H; exact H
    clear H
    have H := H1
    clear H1
    replace H := Option.bind_eq_some_iff.mp H
    obtain ⟨t1012, A40, H⟩ := H
    replace H : (some (wrap64 (a0_4 - t1012), true)) = some (r1, r2) := H
    have A4 := Aside0.mk A40
    clear A40
    simp only [Option.some.injEq, Prod.mk.injEq] at H
    obtain ⟨rfl, rfl⟩ := H
    go_enter Try.func35, Try.ntmps35
    try go_wp2_with (first | ((with_reducible refine gate_dst (N := 1) rfl ?_); refine box_event ?hg (N := 1) ?hd (cs := #[.slice A0_0 l0_0.length c0_0, .slice A0_1 l0_1.length c0_1, .slice A0_2 l0_2.length c0_2, .int .i64 a0_3, .int .i64 a0_4]) (t := 30) ?hr ?_; (case hd => rfl); (case hg => rfl); (case hr => first | (go_simp; done) | (go_simp; rfl)); intro gb1010 hg w5 hbox hb; have n0_ := Aside0.mk (below_step (by repeat (first | (with_reducible first | exact HB.out | apply below_alloc | apply pw_below_drewN | apply below_drew1) | exact HB.out)) hb); have n1_ := Aside0.mk (hbox); have n2_ := Aside0.mk ((by rw [hg]; exact (below_size (by repeat (first | (with_reducible first | exact HB.out | apply below_alloc | apply pw_below_drewN | apply below_drew1) | exact HB.out))) : w.heap.size ≤ gb1010)); have n3_ := Aside0.mk ((by rw [hg]; exact (below_size (by repeat (first | (with_reducible first | exact HB.out | apply below_alloc | apply pw_below_drewN | apply below_drew1) | exact HB.out))) : w.heap.size ≤ gb1010)); clear HB; have HB := n0_; have BK1010 := n1_; have GW1010 := n2_; have GE1010 := n3_; clear n0_ n1_ n2_ n3_; clear hb hbox hg; have hcz6_0 : w5.cell? ⟨gb1010, 0, none⟩ = some (.slice A0_0 l0_0.length c0_0) := (blk_cell BK1010.out 0).trans rfl; have hcz6_1 : w5.cell? ⟨gb1010, 1, none⟩ = some (.slice A0_1 l0_1.length c0_1) := (blk_cell BK1010.out 1).trans rfl; have hcz6_2 : w5.cell? ⟨gb1010, 2, none⟩ = some (.slice A0_2 l0_2.length c0_2) := (blk_cell BK1010.out 2).trans rfl; have hcz6_3 : w5.cell? ⟨gb1010, 3, none⟩ = some (.int .i64 a0_3) := (blk_cell BK1010.out 3).trans rfl; have hcz6_4 : w5.cell? ⟨gb1010, 4, none⟩ = some (.int .i64 a0_4) := (blk_cell BK1010.out 4).trans rfl; have hfz6_0 := blk_frozen BK1010.out 0; have hfz6_1 := blk_frozen BK1010.out 1; have hfz6_2 := blk_frozen BK1010.out 2; have hfz6_3 := blk_frozen BK1010.out 3; have hfz6_4 := blk_frozen BK1010.out 4) | ((with_reducible refine gate_callee (f := 67) rfl ?_); refine goesL_ (some 5) rfl rfl Try.func67 (by kernel_rfl) rfl #[.agg #[.slice A0_0 l0_0.length c0_0, .slice A0_1 l0_1.length c0_1, .slice A0_2 l0_2.length c0_2, .int .i64 a0_3, .int .i64 a0_4]] rfl (by (try simp only [List.map_toArray, List.map_cons, List.map_nil]); first | done | rfl | (simp only [List.length_drop, List.length_take]; rfl)) ?_; (with_reducible refine (spec_l25Good.calls k _ _ l0_0 _ _ l0_1 _ _ l0_2 a0_3 a0_4 true _ ?side1 ?side2 ?side3 ?side4 ?side5 ?side6 A2.out).mono ?_); (case side1 => repeat (first | exact (Kd.C_below HR0_0.out HB.out) | (with_reducible refine Kd.C_alloc ?_ _) | (with_reducible refine Kd.C_drewN ?_ _) | (with_reducible refine Kd.C_drew ?_))); (case side2 => exact HC0_0.out); (case side3 => repeat (first | exact (Kd.C_below HR0_1.out HB.out) | (with_reducible refine Kd.C_alloc ?_ _) | (with_reducible refine Kd.C_drewN ?_ _) | (with_reducible refine Kd.C_drew ?_))); (case side4 => exact HC0_1.out); (case side5 => repeat (first | exact (Kd.C_below HR0_2.out HB.out) | (with_reducible refine Kd.C_alloc ?_ _) | (with_reducible refine Kd.C_drewN ?_ _) | (with_reducible refine Kd.C_drew ?_))); (case side6 => exact HC0_2.out); rintro e w7 ⟨rfl, hb⟩; refine ⟨_, rfl, ?_⟩; have n0_ := Aside0.mk (blk_below (g := gb1010) (o := .cells #[.slice A0_0 l0_0.length c0_0, .slice A0_1 l0_1.length c0_1, .slice A0_2 l0_2.length c0_2, .int .i64 a0_3, .int .i64 a0_4] 30 (0, 0)) (by (with_reducible repeat (first | refine blk_drewN ?_ _ | refine blk_drew ?_ | refine blk_alloc ?_ _)); exact BK1010.out) hb); have n1_ := Aside0.mk (below_step (by repeat (first | (with_reducible first | exact HB.out | apply below_alloc | apply pw_below_drewN | apply below_drew1 | refine below_set ?_ GE1010.out) | exact HB.out)) hb); clear BK1010; clear HB; have BK1010 := n0_; have HB := n1_; clear n0_ n1_; (try clear hb); (try clear hb2); (try clear hk); (try clear hi)))
    have n0_ := Aside0.mk (blk_drew BK1010.out)
    have n1_ := Aside0.mk (below_drew1 HB.out)
    clear BK1010
    clear HB
    have BK1010 := n0_
    have HB := n1_
    clear n0_ n1_
    refine start_ (n := 12) (S := fun w' => w'.cell? ⟨gb1010, 0, none⟩ = some (.slice A0_0 l0_0.length c0_0) ∧ w'.cell? ⟨gb1010, 1, none⟩ = some (.slice A0_1 l0_1.length c0_1) ∧ w'.cell? ⟨gb1010, 2, none⟩ = some (.slice A0_2 l0_2.length c0_2) ∧ w'.cell? ⟨gb1010, 3, none⟩ = some (.int .i64 a0_3) ∧ w'.cell? ⟨gb1010, 4, none⟩ = some (.int .i64 a0_4)) (ds := []) #[false, false, false, false, false, false, false, false, false, false, false, false] (by kernel_rfl) rfl rfl ⟨(blk_cell BK1010.out 0).trans rfl, (blk_cell BK1010.out 1).trans rfl, (blk_cell BK1010.out 2).trans rfl, (blk_cell BK1010.out 3).trans rfl, (blk_cell BK1010.out 4).trans rfl⟩ (fun hHeld => ?_); refine with_tabW spec_SpareLight.tab3 spec_SpareLight.bits3 (fun HT_ HW_ => ?_)
    generalize w7.drew = w8 at BK1010 HB hHeld ⊢
    refine pure_ (i := 0) (N := some 7) (v := ?_) (a' := ?_) #[true, false, false, false, false, false, false, false, false, false, false, false] rfl rfl (any_of HT_.out (by kernel_rfl)) (fun _ _ _ h => h) (Or.inl ⟨by rfl, ?_⟩) ?_ ?_
    rotate_left
    · intro w'
      go_simp
      with_reducible rfl
    rotate_left
    · simp only [Act.put, List.setIfInBounds_toArray, List.set_cons_zero, List.set_cons_succ, i64_w, i32_w]
      rfl
    refine pure_ (i := 2) (N := some 9) (v := ?_) (a' := ?_) #[true, false, true, false, false, false, false, false, false, false, false, false] rfl rfl (any_of HT_.out (by kernel_rfl)) (fun _ _ _ h => h) (Or.inl ⟨by rfl, ?_⟩) ?_ ?_
    rotate_left
    · intro w'
      go_simp
      with_reducible rfl
    rotate_left
    · simp only [Act.put, List.setIfInBounds_toArray, List.set_cons_zero, List.set_cons_succ, i64_w, i32_w]
      rfl
    refine pure_ (i := 4) (N := some 11) (v := ?_) (a' := ?_) #[true, false, true, false, true, false, false, false, false, false, false, false] rfl rfl (any_of HT_.out (by kernel_rfl)) (fun _ _ _ h => h) (Or.inl ⟨by rfl, ?_⟩) ?_ ?_
    rotate_left
    · intro w'
      go_simp
      with_reducible rfl
    rotate_left
    · simp only [Act.put, List.setIfInBounds_toArray, List.set_cons_zero, List.set_cons_succ, i64_w, i32_w]
      rfl
    refine pure_ (i := 6) (N := some 13) (v := ?_) (a' := ?_) #[true, false, true, false, true, false, true, false, false, false, false, false] rfl rfl (any_of HT_.out (by kernel_rfl)) (fun _ _ _ h => h) (Or.inl ⟨by rfl, ?_⟩) ?_ ?_
    rotate_left
    · intro w'
      go_simp
      with_reducible rfl
    rotate_left
    · simp only [Act.put, List.setIfInBounds_toArray, List.set_cons_zero, List.set_cons_succ, i64_w, i32_w]
      rfl
    refine take_ (i := 1) (N := some 8) (v := ?_) (a' := ?_) #[true, true, true, false, true, false, true, false, false, false, false, false] rfl rfl (take_ofW HT_.out HW_.out (by kernel_rfl)) (fun _ _ _ h => h) (Or.inl ⟨by rfl, ?_⟩) hHeld ?_ ?_
    rotate_left
    · rintro w' ⟨s0, s1, s2, s3, s4⟩
      go_simp
      with_reducible rfl
    rotate_left
    · simp only [Act.put, List.setIfInBounds_toArray, List.set_cons_zero, List.set_cons_succ, i64_w, i32_w]
      rfl
    refine take_ (i := 3) (N := some 10) (v := ?_) (a' := ?_) #[true, true, true, true, true, false, true, false, false, false, false, false] rfl rfl (take_ofW HT_.out HW_.out (by kernel_rfl)) (fun _ _ _ h => h) (Or.inl ⟨by rfl, ?_⟩) hHeld ?_ ?_
    rotate_left
    · rintro w' ⟨s0, s1, s2, s3, s4⟩
      go_simp
      with_reducible rfl
    rotate_left
    · simp only [Act.put, List.setIfInBounds_toArray, List.set_cons_zero, List.set_cons_succ, i64_w, i32_w]
      rfl
    refine take_ (i := 5) (N := some 12) (v := ?_) (a' := ?_) #[true, true, true, true, true, true, true, false, false, false, false, false] rfl rfl (take_ofW HT_.out HW_.out (by kernel_rfl)) (fun _ _ _ h => h) (Or.inl ⟨by rfl, ?_⟩) hHeld ?_ ?_
    rotate_left
    · rintro w' ⟨s0, s1, s2, s3, s4⟩
      go_simp
      with_reducible rfl
    rotate_left
    · simp only [Act.put, List.setIfInBounds_toArray, List.set_cons_zero, List.set_cons_succ, i64_w, i32_w]
      rfl
    refine take_ (i := 7) (N := some 14) (v := ?_) (a' := ?_) #[true, true, true, true, true, true, true, true, false, false, false, false] rfl rfl (take_ofW HT_.out HW_.out (by kernel_rfl)) (fun _ _ _ h => h) (Or.inl ⟨by rfl, ?_⟩) hHeld ?_ ?_
    rotate_left
    · rintro w' ⟨s0, s1, s2, s3, s4⟩
      go_simp
      with_reducible rfl
    rotate_left
    · simp only [Act.put, List.setIfInBounds_toArray, List.set_cons_zero, List.set_cons_succ, i64_w, i32_w]
      rfl
    refine one_ (i := 8) (N := some 15) #[true, true, true, true, true, true, true, true, true, false, false, false] rfl rfl (one_of HT_.out (by kernel_rfl)) (by decide) (fun K hK => ?_)
    refine goes_ Try.func88 (by kernel_rfl) rfl #[.slice A0_0 l0_0.length c0_0, .slice A0_1 l0_1.length c0_1, .int .i64 a0_3] (by rfl) rfl rfl (by (try simp only [List.map_toArray, List.map_cons, List.map_nil]); first | done | rfl | (simp only [List.length_drop, List.length_take]; rfl)) ?_
    with_reducible refine (spec_l25Out.calls k _ _ l0_0 _ _ l0_1 a0_3 t1012 _ ?side1 ?side2 ?side3 ?side4 A4.out).mono ?_
    (case side1 => repeat (first | exact (Kd.C_below HR0_0.out HB.out) | (with_reducible refine Kd.C_alloc ?_ _) | (with_reducible refine Kd.C_drewN ?_ _) | (with_reducible refine Kd.C_drew ?_)))
    (case side2 => exact HC0_0.out)
    (case side3 => repeat (first | exact (Kd.C_below HR0_1.out HB.out) | (with_reducible refine Kd.C_alloc ?_ _) | (with_reducible refine Kd.C_drewN ?_ _) | (with_reducible refine Kd.C_drew ?_)))
    (case side4 => exact HC0_1.out)
    rintro e w9 ⟨rfl, hb⟩
    refine ⟨_, rfl, ?_⟩
    have n0_ := Aside0.mk (blk_below (g := gb1010) (o := .cells #[.slice A0_0 l0_0.length c0_0, .slice A0_1 l0_1.length c0_1, .slice A0_2 l0_2.length c0_2, .int .i64 a0_3, .int .i64 a0_4] 30 (0, 0)) (by (with_reducible repeat (first | refine blk_drewN ?_ _ | refine blk_drew ?_ | refine blk_alloc ?_ _)); exact BK1010.out) hb)
    have n1_ := Aside0.mk (below_step (by repeat (first | (with_reducible first | exact HB.out | apply below_alloc | apply pw_below_drewN | apply below_drew1 | refine below_set ?_ GE1010.out) | exact HB.out)) hb)
    clear BK1010
    clear HB
    have BK1010 := n0_
    have HB := n1_
    clear n0_ n1_
    (try clear hb)
    (try clear hb2)
    (try clear hk)
    (try clear hi)
    refine hK.out _ _ ⟨(blk_cell BK1010.out 0).trans rfl, (blk_cell BK1010.out 1).trans rfl, (blk_cell BK1010.out 2).trans rfl, (blk_cell BK1010.out 3).trans rfl, (blk_cell BK1010.out 4).trans rfl⟩ (fun hHeld => ?_)
    clear hK K
    refine norm_ (a' := ?_) ?_ ?_
    rotate_left
    · show Act.put _ (some 15) _ = _
      simp only [Act.put, List.setIfInBounds_toArray, List.set_cons_zero, List.set_cons_succ, i64_w, i32_w]
      rfl
    refine pure_ (i := 9) (N := some 16) (v := ?_) (a' := ?_) #[true, true, true, true, true, true, true, true, true, true, false, false] rfl rfl (any_of HT_.out (by kernel_rfl)) (fun _ _ _ h => h) (Or.inl ⟨by rfl, ?_⟩) ?_ ?_
    rotate_left
    · intro w'
      go_simp
      with_reducible rfl
    rotate_left
    · simp only [Act.put, List.setIfInBounds_toArray, List.set_cons_zero, List.set_cons_succ, i64_w, i32_w]
      rfl
    refine pure_ (i := 10) (N := some 2) (v := ?_) (a' := ?_) #[true, true, true, true, true, true, true, true, true, true, true, false] rfl rfl (any_of HT_.out (by kernel_rfl)) (fun _ _ _ h => h) (Or.inl ⟨by rfl, ?_⟩) ?_ ?_
    rotate_left
    · intro w'
      go_simp
      with_reducible rfl
    rotate_left
    · simp only [Act.put, List.setIfInBounds_toArray, List.set_cons_zero, List.set_cons_succ, i64_w, i32_w]
      rfl
    refine pure_ (i := 11) (N := some 3) (v := ?_) (a' := ?_) #[true, true, true, true, true, true, true, true, true, true, true, true] rfl rfl (any_of HT_.out (by kernel_rfl)) (fun _ _ _ h => h) (Or.inl ⟨by rfl, ?_⟩) ?_ ?_
    rotate_left
    · intro w'
      go_simp
      with_reducible rfl
    rotate_left
    · simp only [Act.put, List.setIfInBounds_toArray, List.set_cons_zero, List.set_cons_succ, i64_w, i32_w]
      rfl
    refine done_ (done_of HT_.out (by kernel_rfl)) ?_
    try go_wp2
    go_ret2
    exact ⟨by first | rfl | (simp [errW_none, errW_some] <;> rfl) | (simp [*, errW_none, errW_some] <;> rfl), by repeat (first | (with_reducible first | exact HB.out | apply below_alloc | apply pw_below_drewN | apply below_drew1 | refine below_set ?_ GE1010.out) | exact HB.out)⟩
  · replace c3 := Bool.eq_false_iff.mpr c3
    subst c3
    have H1 : (some (0, false)) = some (r1, r2) := by rw [if_neg (show ¬ (false = true) by decide)] at H; exact H
    clear H
    have H := H1
    clear H1
    simp only [Option.some.injEq, Prod.mk.injEq] at H
    obtain ⟨rfl, rfl⟩ := H
    go_enter Try.func35, Try.ntmps35
    go_wp2_with (first | ((with_reducible refine gate_dst (N := 1) rfl ?_); refine box_event ?hg (N := 1) ?hd (cs := #[.slice A0_0 l0_0.length c0_0, .slice A0_1 l0_1.length c0_1, .slice A0_2 l0_2.length c0_2, .int .i64 a0_3, .int .i64 a0_4]) (t := 30) ?hr ?_; (case hd => rfl); (case hg => rfl); (case hr => first | (go_simp; done) | (go_simp; rfl)); intro gb1010 hg w10 hbox hb; have n0_ := Aside0.mk (below_step (by repeat (first | (with_reducible first | exact HB.out | apply below_alloc | apply pw_below_drewN | apply below_drew1) | exact HB.out)) hb); have n1_ := Aside0.mk (hbox); have n2_ := Aside0.mk ((by rw [hg]; exact (below_size (by repeat (first | (with_reducible first | exact HB.out | apply below_alloc | apply pw_below_drewN | apply below_drew1) | exact HB.out))) : w.heap.size ≤ gb1010)); have n3_ := Aside0.mk ((by rw [hg]; exact (below_size (by repeat (first | (with_reducible first | exact HB.out | apply below_alloc | apply pw_below_drewN | apply below_drew1) | exact HB.out))) : w.heap.size ≤ gb1010)); clear HB; have HB := n0_; have BK1010 := n1_; have GW1010 := n2_; have GE1010 := n3_; clear n0_ n1_ n2_ n3_; clear hb hbox hg; have hcz11_0 : w10.cell? ⟨gb1010, 0, none⟩ = some (.slice A0_0 l0_0.length c0_0) := (blk_cell BK1010.out 0).trans rfl; have hcz11_1 : w10.cell? ⟨gb1010, 1, none⟩ = some (.slice A0_1 l0_1.length c0_1) := (blk_cell BK1010.out 1).trans rfl; have hcz11_2 : w10.cell? ⟨gb1010, 2, none⟩ = some (.slice A0_2 l0_2.length c0_2) := (blk_cell BK1010.out 2).trans rfl; have hcz11_3 : w10.cell? ⟨gb1010, 3, none⟩ = some (.int .i64 a0_3) := (blk_cell BK1010.out 3).trans rfl; have hcz11_4 : w10.cell? ⟨gb1010, 4, none⟩ = some (.int .i64 a0_4) := (blk_cell BK1010.out 4).trans rfl; have hfz11_0 := blk_frozen BK1010.out 0; have hfz11_1 := blk_frozen BK1010.out 1; have hfz11_2 := blk_frozen BK1010.out 2; have hfz11_3 := blk_frozen BK1010.out 3; have hfz11_4 := blk_frozen BK1010.out 4) | ((with_reducible refine gate_callee (f := 67) rfl ?_); refine goesL_ (some 5) rfl rfl Try.func67 (by kernel_rfl) rfl #[.agg #[.slice A0_0 l0_0.length c0_0, .slice A0_1 l0_1.length c0_1, .slice A0_2 l0_2.length c0_2, .int .i64 a0_3, .int .i64 a0_4]] rfl (by (try simp only [List.map_toArray, List.map_cons, List.map_nil]); first | done | rfl | (simp only [List.length_drop, List.length_take]; rfl)) ?_; (with_reducible refine (spec_l25Good.calls k _ _ l0_0 _ _ l0_1 _ _ l0_2 a0_3 a0_4 false _ ?side1 ?side2 ?side3 ?side4 ?side5 ?side6 A2.out).mono ?_); (case side1 => repeat (first | exact (Kd.C_below HR0_0.out HB.out) | (with_reducible refine Kd.C_alloc ?_ _) | (with_reducible refine Kd.C_drewN ?_ _) | (with_reducible refine Kd.C_drew ?_))); (case side2 => exact HC0_0.out); (case side3 => repeat (first | exact (Kd.C_below HR0_1.out HB.out) | (with_reducible refine Kd.C_alloc ?_ _) | (with_reducible refine Kd.C_drewN ?_ _) | (with_reducible refine Kd.C_drew ?_))); (case side4 => exact HC0_1.out); (case side5 => repeat (first | exact (Kd.C_below HR0_2.out HB.out) | (with_reducible refine Kd.C_alloc ?_ _) | (with_reducible refine Kd.C_drewN ?_ _) | (with_reducible refine Kd.C_drew ?_))); (case side6 => exact HC0_2.out); rintro e w12 ⟨rfl, hb⟩; refine ⟨_, rfl, ?_⟩; have n0_ := Aside0.mk (blk_below (g := gb1010) (o := .cells #[.slice A0_0 l0_0.length c0_0, .slice A0_1 l0_1.length c0_1, .slice A0_2 l0_2.length c0_2, .int .i64 a0_3, .int .i64 a0_4] 30 (0, 0)) (by (with_reducible repeat (first | refine blk_drewN ?_ _ | refine blk_drew ?_ | refine blk_alloc ?_ _)); exact BK1010.out) hb); have n1_ := Aside0.mk (below_step (by repeat (first | (with_reducible first | exact HB.out | apply below_alloc | apply pw_below_drewN | apply below_drew1 | refine below_set ?_ GE1010.out) | exact HB.out)) hb); clear BK1010; clear HB; have BK1010 := n0_; have HB := n1_; clear n0_ n1_; (try clear hb); (try clear hb2); (try clear hk); (try clear hi)))
    go_ret2
    exact ⟨by first | rfl | (simp [errW_none, errW_some] <;> rfl) | (simp [*, errW_none, errW_some] <;> rfl), by repeat (first | (with_reducible first | exact HB.out | apply below_alloc | apply pw_below_drewN | apply below_drew1 | refine below_set ?_ GE1010.out) | exact HB.out)⟩

end Go.Proofs.Ythmjimboajmhmaa.Pr

namespace Go.Proofs.Ythmjimboajmhmaa.Pr
open Go.RowKit Go.Proofs.YthmjimboajmhmaaW.PrintWords Go.Proofs.YthmjimboajmhmaaW.PrintLast Go.Proofs.YthmjimboajmhmaaW.PrintMore
attribute [local go_sem] max2_int min2_int max_two min_two max_three min_three max_four min_four   -- for this text's walks alone
set_option linter.unusedVariables false
set_option linter.unusedSimpArgs false

/-! ### laws_FnExactSpareLight: function 6 -/
def laws_FnExactSpareLight.j0 : Nat → Bool → List (S65) → List Bool → List Bool → Int → Int → List (S37) → List Bool → List Bool → Int → Int → Option (Bool)
  | 0, _, _, _, _, _, _, _, _, _, _, _ => none
  | k + 1, x34, x1014000, x1014001, x1014002, x1014003, x1014004, x1040000, x1040001, x1040002, x1040003, x1040004 => if x34 = true then (some false) else ((laws_toExploration.f k x1014000 x1014001 x1014002 x1014003 x1014004).bind fun bt1042 => ((laws_eqExploration.f k x1040000 x1040001 x1040002 x1040003 x1040004 bt1042.1 bt1042.2.1 bt1042.2.2.1 bt1042.2.2.2.1 bt1042.2.2.2.2).bind fun t1053 => (if t1053 = true then (some true) else (some false))))
def laws_FnExactSpareLight.f (k : Nat) (l0_0 : List (S65)) (l0_1 : List Bool) (l0_2 : List Bool) (a0_3 : Int) (a0_4 : Int) : Option (Bool) := (laws_szExploration.f l0_0 l0_1 l0_2 a0_3 a0_4 1048576).bind fun t1014 => (if t1014 < 0 then (some true) else ((laws_toExploration.f k l0_0 l0_1 l0_2 a0_3 a0_4).bind fun bt1015 => ((spec_SpareLight.f k bt1015.1 bt1015.2.1 bt1015.2.2.1 bt1015.2.2.2.1 bt1015.2.2.2.2).bind fun bt1026 => ((laws_toExploration.f k l0_0 l0_1 l0_2 a0_3 a0_4).bind fun bt1028 => ((impl_SpareLight.f k bt1028.1 bt1028.2.1 bt1028.2.2.1 bt1028.2.2.2.1 bt1028.2.2.2.2).bind fun bt1040 => (if bt1040.1 = bt1026.1 then (laws_FnExactSpareLight.j0 k (bt1040.2 != bt1026.2) l0_0 l0_1 l0_2 a0_3 a0_4 bt1028.1 bt1028.2.1 bt1028.2.2.1 bt1028.2.2.2.1 bt1028.2.2.2.2) else (laws_FnExactSpareLight.j0 k true l0_0 l0_1 l0_2 a0_3 a0_4 bt1028.1 bt1028.2.1 bt1028.2.2.1 bt1028.2.2.2.1 bt1028.2.2.2.2)))))))
theorem laws_FnExactSpareLight.mono_l : ∀ k, (∀ y0 y1 y2 y3 y4 y5 y6 y7 y8 y9 y10, LeO (laws_FnExactSpareLight.j0 k y0 y1 y2 y3 y4 y5 y6 y7 y8 y9 y10) (laws_FnExactSpareLight.j0 (k + 1) y0 y1 y2 y3 y4 y5 y6 y7 y8 y9 y10))
  | 0 => fun _ _ _ _ _ _ _ _ _ _ _ r h => by simp [laws_FnExactSpareLight.j0] at h
  | k + 1 => by
    have ih0 := laws_FnExactSpareLight.mono_l k
    · intro y0 y1 y2 y3 y4 y5 y6 y7 y8 y9 y10
      unfold laws_FnExactSpareLight.j0
      repeat' first
      | (with_reducible exact ih0 _ _ _ _ _ _ _ _ _ _ _)
      | (with_reducible exact impl_SpareLight.mono _ _ _ _ _ _)
      | (with_reducible exact laws_eqExploration.mono _ _ _ _ _ _ _ _ _ _ _)
      | (with_reducible exact laws_toExploration.mono _ _ _ _ _ _)
      | (with_reducible exact spec_SpareLight.mono _ _ _ _ _ _)
      | (with_reducible exact LeO.refl _)
      | (with_reducible exact LeO.none _)
      | (with_reducible refine LeO.ite ?_ ?_)
      | (with_reducible refine LeO.bind ?_ (fun _ => ?_))
      | exact ih0 _ _ _ _ _ _ _ _ _ _ _
      | exact impl_SpareLight.mono _ _ _ _ _ _
      | exact laws_eqExploration.mono _ _ _ _ _ _ _ _ _ _ _
      | exact laws_toExploration.mono _ _ _ _ _ _
      | exact spec_SpareLight.mono _ _ _ _ _ _
      | exact LeO.none _
      | refine LeO.ite ?_ ?_
      | refine LeO.bind ?_ (fun _ => ?_)
theorem laws_FnExactSpareLight.mono : ∀ a0 a1 a2 a3 a4 k, LeO (laws_FnExactSpareLight.f k a0 a1 a2 a3 a4) (laws_FnExactSpareLight.f (k + 1) a0 a1 a2 a3 a4) := by
  intro a0 a1 a2 a3 a4 k
  have ih0 := laws_FnExactSpareLight.mono_l k
  unfold laws_FnExactSpareLight.f
  repeat' first
      | (with_reducible exact ih0 _ _ _ _ _ _ _ _ _ _ _)
      | (with_reducible exact impl_SpareLight.mono _ _ _ _ _ _)
      | (with_reducible exact laws_eqExploration.mono _ _ _ _ _ _ _ _ _ _ _)
      | (with_reducible exact laws_toExploration.mono _ _ _ _ _ _)
      | (with_reducible exact spec_SpareLight.mono _ _ _ _ _ _)
      | (with_reducible exact LeO.refl _)
      | (with_reducible exact LeO.none _)
      | (with_reducible refine LeO.ite ?_ ?_)
      | (with_reducible refine LeO.bind ?_ (fun _ => ?_))
      | exact ih0 _ _ _ _ _ _ _ _ _ _ _
      | exact impl_SpareLight.mono _ _ _ _ _ _
      | exact laws_eqExploration.mono _ _ _ _ _ _ _ _ _ _ _
      | exact laws_toExploration.mono _ _ _ _ _ _
      | exact spec_SpareLight.mono _ _ _ _ _ _
      | exact LeO.none _
      | refine LeO.ite ?_ ?_
      | refine LeO.bind ?_ (fun _ => ?_)
set_option maxHeartbeats 8000000 in
set_option maxRecDepth 100000 in
theorem laws_FnExactSpareLight.calls (k : Nat) (A0_0 : Option Addr) (c0_0 : Nat) (l0_0 : List (S65)) (A0_1 : Option Addr) (c0_1 : Nat) (l0_1 : List Bool) (A0_2 : Option Addr) (c0_2 : Nat) (l0_2 : List Bool) (a0_3 : Int) (a0_4 : Int) (r : Bool) (w : World) (hr0_0 : Kd.C k65 w A0_0 l0_0.length l0_0) (hc0_0 : l0_0.length ≤ c0_0) (hr0_1 : Kd.C Kd.bool w A0_1 l0_1.length l0_1) (hc0_1 : l0_1.length ≤ c0_1) (hr0_2 : Kd.C Kd.bool w A0_2 l0_2.length l0_2) (hc0_2 : l0_2.length ≤ c0_2) (h : laws_FnExactSpareLight.f k l0_0 l0_1 l0_2 a0_3 a0_4 = some r) :
    Calls Try.prog 6 #[.agg #[.slice A0_0 l0_0.length c0_0, .slice A0_1 l0_1.length c0_1, .slice A0_2 l0_2.length c0_2, .int .i64 a0_3, .int .i64 a0_4]] w fun e w' => e = .returned (.bool r) ∧ Below w.heap.size w w' := by
  have hu25 := Try.underlying25
  have hu30 := Try.underlying30
  have HR0_0 := Aside0.mk hr0_0
  have HC0_0 := Aside0.mk hc0_0
  clear hr0_0 hc0_0
  have HR0_1 := Aside0.mk hr0_1
  have HC0_1 := Aside0.mk hc0_1
  clear hr0_1 hc0_1
  have HR0_2 := Aside0.mk hr0_2
  have HC0_2 := Aside0.mk hc0_2
  clear hr0_2 hc0_2
  have HB := Aside0.mk (Below.refl w.heap.size w)
  have H : ((laws_szExploration.f l0_0 l0_1 l0_2 a0_3 a0_4 1048576).bind fun t1014 => (if t1014 < 0 then (some true) else ((laws_toExploration.f k l0_0 l0_1 l0_2 a0_3 a0_4).bind fun bt1015 => ((spec_SpareLight.f k bt1015.1 bt1015.2.1 bt1015.2.2.1 bt1015.2.2.2.1 bt1015.2.2.2.2).bind fun bt1026 => ((laws_toExploration.f k l0_0 l0_1 l0_2 a0_3 a0_4).bind fun bt1028 => ((impl_SpareLight.f k bt1028.1 bt1028.2.1 bt1028.2.2.1 bt1028.2.2.2.1 bt1028.2.2.2.2).bind fun bt1040 => (if bt1040.1 = bt1026.1 then (laws_FnExactSpareLight.j0 k (bt1040.2 != bt1026.2) l0_0 l0_1 l0_2 a0_3 a0_4 bt1028.1 bt1028.2.1 bt1028.2.2.1 bt1028.2.2.2.1 bt1028.2.2.2.2) else (laws_FnExactSpareLight.j0 k true l0_0 l0_1 l0_2 a0_3 a0_4 bt1028.1 bt1028.2.1 bt1028.2.2.1 bt1028.2.2.2.1 bt1028.2.2.2.2)))))))) = some r := h
  clear h
  replace H := Option.bind_eq_some_iff.mp H
  obtain ⟨t1014, A20, H⟩ := H
  replace H : (if t1014 < 0 then (some true) else ((laws_toExploration.f k l0_0 l0_1 l0_2 a0_3 a0_4).bind fun bt1015 => ((spec_SpareLight.f k bt1015.1 bt1015.2.1 bt1015.2.2.1 bt1015.2.2.2.1 bt1015.2.2.2.2).bind fun bt1026 => ((laws_toExploration.f k l0_0 l0_1 l0_2 a0_3 a0_4).bind fun bt1028 => ((impl_SpareLight.f k bt1028.1 bt1028.2.1 bt1028.2.2.1 bt1028.2.2.2.1 bt1028.2.2.2.2).bind fun bt1040 => (if bt1040.1 = bt1026.1 then (laws_FnExactSpareLight.j0 k (bt1040.2 != bt1026.2) l0_0 l0_1 l0_2 a0_3 a0_4 bt1028.1 bt1028.2.1 bt1028.2.2.1 bt1028.2.2.2.1 bt1028.2.2.2.2) else (laws_FnExactSpareLight.j0 k true l0_0 l0_1 l0_2 a0_3 a0_4 bt1028.1 bt1028.2.1 bt1028.2.2.1 bt1028.2.2.2.1 bt1028.2.2.2.2))))))) = some r := H
  have A2 := Aside0.mk A20
  clear A20
  by_cases c3 : t1014 < 0
  · rw [if_pos c3] at H
    have c3b0 : decide (t1014 < 0) = true := decide_eq_true c3
    clear c3
    obtain rfl := Option.some.inj H
    go_enter Try.func6, Try.ntmps6
    go_wp2_with (first | ((with_reducible refine gate_dst (N := 1) rfl ?_); refine box_event ?hg (N := 1) ?hd (cs := #[.slice A0_0 l0_0.length c0_0, .slice A0_1 l0_1.length c0_1, .slice A0_2 l0_2.length c0_2, .int .i64 a0_3, .int .i64 a0_4]) (t := 25) ?hr ?_; (case hd => rfl); (case hg => rfl); (case hr => first | (go_simp; done) | (go_simp; rfl)); intro gb1013 hg w4 hbox hb; have n0_ := Aside0.mk (below_step (by repeat (first | (with_reducible first | exact HB.out | apply below_alloc | apply pw_below_drewN | apply below_drew1) | exact HB.out)) hb); have n1_ := Aside0.mk (hbox); have n2_ := Aside0.mk ((by rw [hg]; exact (below_size (by repeat (first | (with_reducible first | exact HB.out | apply below_alloc | apply pw_below_drewN | apply below_drew1) | exact HB.out))) : w.heap.size ≤ gb1013)); have n3_ := Aside0.mk ((by rw [hg]; exact (below_size (by repeat (first | (with_reducible first | exact HB.out | apply below_alloc | apply pw_below_drewN | apply below_drew1) | exact HB.out))) : w.heap.size ≤ gb1013)); clear HB; have HB := n0_; have BK1013 := n1_; have GW1013 := n2_; have GE1013 := n3_; clear n0_ n1_ n2_ n3_; clear hb hbox hg; have hcz5_0 : w4.cell? ⟨gb1013, 0, none⟩ = some (.slice A0_0 l0_0.length c0_0) := (blk_cell BK1013.out 0).trans rfl; have hcz5_1 : w4.cell? ⟨gb1013, 1, none⟩ = some (.slice A0_1 l0_1.length c0_1) := (blk_cell BK1013.out 1).trans rfl; have hcz5_2 : w4.cell? ⟨gb1013, 2, none⟩ = some (.slice A0_2 l0_2.length c0_2) := (blk_cell BK1013.out 2).trans rfl; have hcz5_3 : w4.cell? ⟨gb1013, 3, none⟩ = some (.int .i64 a0_3) := (blk_cell BK1013.out 3).trans rfl; have hcz5_4 : w4.cell? ⟨gb1013, 4, none⟩ = some (.int .i64 a0_4) := (blk_cell BK1013.out 4).trans rfl; have hfz5_0 := blk_frozen BK1013.out 0; have hfz5_1 := blk_frozen BK1013.out 1; have hfz5_2 := blk_frozen BK1013.out 2; have hfz5_3 := blk_frozen BK1013.out 3; have hfz5_4 := blk_frozen BK1013.out 4) | ((with_reducible refine gate_callee (f := 15) rfl ?_); refine goesL_ (some 11) rfl rfl Try.func15 (by kernel_rfl) rfl #[.agg #[.slice A0_0 l0_0.length c0_0, .slice A0_1 l0_1.length c0_1, .slice A0_2 l0_2.length c0_2, .int .i64 a0_3, .int .i64 a0_4], .int .i64 1048576] rfl (by (try simp only [List.map_toArray, List.map_cons, List.map_nil]); first | done | rfl | (simp only [List.length_drop, List.length_take]; rfl)) ?_; (with_reducible refine (laws_szExploration.calls _ _ l0_0 _ _ l0_1 _ _ l0_2 a0_3 a0_4 1048576 t1014 _ ?side1 ?side2 ?side3 ?side4 ?side5 ?side6 A2.out).mono ?_); (case side1 => repeat (first | exact (Kd.C_below HR0_0.out HB.out) | (with_reducible refine Kd.C_alloc ?_ _) | (with_reducible refine Kd.C_drewN ?_ _) | (with_reducible refine Kd.C_drew ?_))); (case side2 => exact HC0_0.out); (case side3 => repeat (first | exact (Kd.C_below HR0_1.out HB.out) | (with_reducible refine Kd.C_alloc ?_ _) | (with_reducible refine Kd.C_drewN ?_ _) | (with_reducible refine Kd.C_drew ?_))); (case side4 => exact HC0_1.out); (case side5 => repeat (first | exact (Kd.C_below HR0_2.out HB.out) | (with_reducible refine Kd.C_alloc ?_ _) | (with_reducible refine Kd.C_drewN ?_ _) | (with_reducible refine Kd.C_drew ?_))); (case side6 => exact HC0_2.out); rintro e w6 ⟨rfl, hb⟩; refine ⟨_, rfl, ?_⟩; have n0_ := Aside0.mk (blk_below (g := gb1013) (o := .cells #[.slice A0_0 l0_0.length c0_0, .slice A0_1 l0_1.length c0_1, .slice A0_2 l0_2.length c0_2, .int .i64 a0_3, .int .i64 a0_4] 25 (0, 0)) (by (with_reducible repeat (first | refine blk_drewN ?_ _ | refine blk_drew ?_ | refine blk_alloc ?_ _)); exact BK1013.out) hb); have n1_ := Aside0.mk (below_step (by repeat (first | (with_reducible first | exact HB.out | apply below_alloc | apply pw_below_drewN | apply below_drew1 | refine below_set ?_ GE1013.out) | exact HB.out)) hb); clear BK1013; clear HB; have BK1013 := n0_; have HB := n1_; clear n0_ n1_; (try clear hb); (try clear hb2); (try clear hk); (try clear hi)))
    go_ret
    exact ⟨by first | rfl | (simp [errW_none, errW_some] <;> rfl) | (simp [*, errW_none, errW_some] <;> rfl), by repeat (first | (with_reducible first | exact HB.out | apply below_alloc | apply pw_below_drewN | apply below_drew1 | refine below_set ?_ GE1013.out) | exact HB.out)⟩
  · rw [if_neg c3] at H
    have c3b0 : decide (t1014 < 0) = false := decide_eq_false c3
    clear c3
    replace H := Option.bind_eq_some_iff.mp H
    obtain ⟨⟨t1015, t1018, t1021, t1024, t1025⟩, A70, H⟩ := H
    replace H : ((spec_SpareLight.f k t1015 t1018 t1021 t1024 t1025).bind fun bt1026 => ((laws_toExploration.f k l0_0 l0_1 l0_2 a0_3 a0_4).bind fun bt1028 => ((impl_SpareLight.f k bt1028.1 bt1028.2.1 bt1028.2.2.1 bt1028.2.2.2.1 bt1028.2.2.2.2).bind fun bt1040 => (if bt1040.1 = bt1026.1 then (laws_FnExactSpareLight.j0 k (bt1040.2 != bt1026.2) l0_0 l0_1 l0_2 a0_3 a0_4 bt1028.1 bt1028.2.1 bt1028.2.2.1 bt1028.2.2.2.1 bt1028.2.2.2.2) else (laws_FnExactSpareLight.j0 k true l0_0 l0_1 l0_2 a0_3 a0_4 bt1028.1 bt1028.2.1 bt1028.2.2.1 bt1028.2.2.2.1 bt1028.2.2.2.2))))) = some r := H
    have A7 := Aside0.mk A70
    clear A70
    replace H := Option.bind_eq_some_iff.mp H
    obtain ⟨⟨t1026, t1027⟩, A80, H⟩ := H
    replace H : ((laws_toExploration.f k l0_0 l0_1 l0_2 a0_3 a0_4).bind fun bt1028 => ((impl_SpareLight.f k bt1028.1 bt1028.2.1 bt1028.2.2.1 bt1028.2.2.2.1 bt1028.2.2.2.2).bind fun bt1040 => (if bt1040.1 = t1026 then (laws_FnExactSpareLight.j0 k (bt1040.2 != t1027) l0_0 l0_1 l0_2 a0_3 a0_4 bt1028.1 bt1028.2.1 bt1028.2.2.1 bt1028.2.2.2.1 bt1028.2.2.2.2) else (laws_FnExactSpareLight.j0 k true l0_0 l0_1 l0_2 a0_3 a0_4 bt1028.1 bt1028.2.1 bt1028.2.2.1 bt1028.2.2.2.1 bt1028.2.2.2.2)))) = some r := H
    have A8 := Aside0.mk A80
    clear A80
    replace H := Option.bind_eq_some_iff.mp H
    obtain ⟨⟨t1028, t1031, t1034, t1037, t1038⟩, A90, H⟩ := H
    replace H : ((impl_SpareLight.f k t1028 t1031 t1034 t1037 t1038).bind fun bt1040 => (if bt1040.1 = t1026 then (laws_FnExactSpareLight.j0 k (bt1040.2 != t1027) l0_0 l0_1 l0_2 a0_3 a0_4 t1028 t1031 t1034 t1037 t1038) else (laws_FnExactSpareLight.j0 k true l0_0 l0_1 l0_2 a0_3 a0_4 t1028 t1031 t1034 t1037 t1038))) = some r := H
    have A9 := Aside0.mk A90
    clear A90
    replace H := Option.bind_eq_some_iff.mp H
    obtain ⟨⟨t1040, t1041⟩, A100, H⟩ := H
    replace H : (if t1040 = t1026 then (laws_FnExactSpareLight.j0 k (t1041 != t1027) l0_0 l0_1 l0_2 a0_3 a0_4 t1028 t1031 t1034 t1037 t1038) else (laws_FnExactSpareLight.j0 k true l0_0 l0_1 l0_2 a0_3 a0_4 t1028 t1031 t1034 t1037 t1038)) = some r := H
    have A10 := Aside0.mk A100
    clear A100
    have HC11 := Aside0.mk H
    clear H
    go_enter Try.func6, Try.ntmps6
    go_upto_region 8 with (first | ((with_reducible refine gate_dst (N := 1) rfl ?_); refine box_event ?hg (N := 1) ?hd (cs := #[.slice A0_0 l0_0.length c0_0, .slice A0_1 l0_1.length c0_1, .slice A0_2 l0_2.length c0_2, .int .i64 a0_3, .int .i64 a0_4]) (t := 25) ?hr ?_; (case hd => rfl); (case hg => rfl); (case hr => first | (go_simp; done) | (go_simp; rfl)); intro gb1013 hg w12 hbox hb; have n0_ := Aside0.mk (below_step (by repeat (first | (with_reducible first | exact HB.out | apply below_alloc | apply pw_below_drewN | apply below_drew1) | exact HB.out)) hb); have n1_ := Aside0.mk (hbox); have n2_ := Aside0.mk ((by rw [hg]; exact (below_size (by repeat (first | (with_reducible first | exact HB.out | apply below_alloc | apply pw_below_drewN | apply below_drew1) | exact HB.out))) : w.heap.size ≤ gb1013)); have n3_ := Aside0.mk ((by rw [hg]; exact (below_size (by repeat (first | (with_reducible first | exact HB.out | apply below_alloc | apply pw_below_drewN | apply below_drew1) | exact HB.out))) : w.heap.size ≤ gb1013)); clear HB; have HB := n0_; have BK1013 := n1_; have GW1013 := n2_; have GE1013 := n3_; clear n0_ n1_ n2_ n3_; clear hb hbox hg; have hcz13_0 : w12.cell? ⟨gb1013, 0, none⟩ = some (.slice A0_0 l0_0.length c0_0) := (blk_cell BK1013.out 0).trans rfl; have hcz13_1 : w12.cell? ⟨gb1013, 1, none⟩ = some (.slice A0_1 l0_1.length c0_1) := (blk_cell BK1013.out 1).trans rfl; have hcz13_2 : w12.cell? ⟨gb1013, 2, none⟩ = some (.slice A0_2 l0_2.length c0_2) := (blk_cell BK1013.out 2).trans rfl; have hcz13_3 : w12.cell? ⟨gb1013, 3, none⟩ = some (.int .i64 a0_3) := (blk_cell BK1013.out 3).trans rfl; have hcz13_4 : w12.cell? ⟨gb1013, 4, none⟩ = some (.int .i64 a0_4) := (blk_cell BK1013.out 4).trans rfl; have hfz13_0 := blk_frozen BK1013.out 0; have hfz13_1 := blk_frozen BK1013.out 1; have hfz13_2 := blk_frozen BK1013.out 2; have hfz13_3 := blk_frozen BK1013.out 3; have hfz13_4 := blk_frozen BK1013.out 4) | ((with_reducible refine gate_callee (f := 15) rfl ?_); refine goesL_ (some 11) rfl rfl Try.func15 (by kernel_rfl) rfl #[.agg #[.slice A0_0 l0_0.length c0_0, .slice A0_1 l0_1.length c0_1, .slice A0_2 l0_2.length c0_2, .int .i64 a0_3, .int .i64 a0_4], .int .i64 1048576] rfl (by (try simp only [List.map_toArray, List.map_cons, List.map_nil]); first | done | rfl | (simp only [List.length_drop, List.length_take]; rfl)) ?_; (with_reducible refine (laws_szExploration.calls _ _ l0_0 _ _ l0_1 _ _ l0_2 a0_3 a0_4 1048576 t1014 _ ?side1 ?side2 ?side3 ?side4 ?side5 ?side6 A2.out).mono ?_); (case side1 => repeat (first | exact (Kd.C_below HR0_0.out HB.out) | (with_reducible refine Kd.C_alloc ?_ _) | (with_reducible refine Kd.C_drewN ?_ _) | (with_reducible refine Kd.C_drew ?_))); (case side2 => exact HC0_0.out); (case side3 => repeat (first | exact (Kd.C_below HR0_1.out HB.out) | (with_reducible refine Kd.C_alloc ?_ _) | (with_reducible refine Kd.C_drewN ?_ _) | (with_reducible refine Kd.C_drew ?_))); (case side4 => exact HC0_1.out); (case side5 => repeat (first | exact (Kd.C_below HR0_2.out HB.out) | (with_reducible refine Kd.C_alloc ?_ _) | (with_reducible refine Kd.C_drewN ?_ _) | (with_reducible refine Kd.C_drew ?_))); (case side6 => exact HC0_2.out); rintro e w14 ⟨rfl, hb⟩; refine ⟨_, rfl, ?_⟩; have n0_ := Aside0.mk (blk_below (g := gb1013) (o := .cells #[.slice A0_0 l0_0.length c0_0, .slice A0_1 l0_1.length c0_1, .slice A0_2 l0_2.length c0_2, .int .i64 a0_3, .int .i64 a0_4] 25 (0, 0)) (by (with_reducible repeat (first | refine blk_drewN ?_ _ | refine blk_drew ?_ | refine blk_alloc ?_ _)); exact BK1013.out) hb); have n1_ := Aside0.mk (below_step (by repeat (first | (with_reducible first | exact HB.out | apply below_alloc | apply pw_below_drewN | apply below_drew1 | refine below_set ?_ GE1013.out) | exact HB.out)) hb); clear BK1013; clear HB; have BK1013 := n0_; have HB := n1_; clear n0_ n1_; (try clear hb); (try clear hb2); (try clear hk); (try clear hi); have hcz15_0 : w14.cell? ⟨gb1013, 0, none⟩ = some (.slice A0_0 l0_0.length c0_0) := (blk_cell BK1013.out 0).trans rfl; have hcz15_1 : w14.cell? ⟨gb1013, 1, none⟩ = some (.slice A0_1 l0_1.length c0_1) := (blk_cell BK1013.out 1).trans rfl; have hcz15_2 : w14.cell? ⟨gb1013, 2, none⟩ = some (.slice A0_2 l0_2.length c0_2) := (blk_cell BK1013.out 2).trans rfl; have hcz15_3 : w14.cell? ⟨gb1013, 3, none⟩ = some (.int .i64 a0_3) := (blk_cell BK1013.out 3).trans rfl; have hcz15_4 : w14.cell? ⟨gb1013, 4, none⟩ = some (.int .i64 a0_4) := (blk_cell BK1013.out 4).trans rfl; have hfz15_0 := blk_frozen BK1013.out 0; have hfz15_1 := blk_frozen BK1013.out 1; have hfz15_2 := blk_frozen BK1013.out 2; have hfz15_3 := blk_frozen BK1013.out 3; have hfz15_4 := blk_frozen BK1013.out 4) | ((with_reducible refine gate_callee (f := 17) rfl ?_); refine goesL_ (some 16) rfl rfl Try.func17 (by kernel_rfl) rfl #[.agg #[.slice A0_0 l0_0.length c0_0, .slice A0_1 l0_1.length c0_1, .slice A0_2 l0_2.length c0_2, .int .i64 a0_3, .int .i64 a0_4]] rfl (by (try simp only [List.map_toArray, List.map_cons, List.map_nil]); first | done | rfl | (simp only [List.length_drop, List.length_take]; rfl)) ?_; (with_reducible refine (laws_toExploration.calls k _ _ l0_0 _ _ l0_1 _ _ l0_2 a0_3 a0_4 t1015 t1018 t1021 t1024 t1025 _ ?side1 ?side2 ?side3 ?side4 ?side5 ?side6 A7.out).mono ?_); (case side1 => repeat (first | exact (Kd.C_below HR0_0.out HB.out) | (with_reducible refine Kd.C_alloc ?_ _) | (with_reducible refine Kd.C_drewN ?_ _) | (with_reducible refine Kd.C_drew ?_))); (case side2 => exact HC0_0.out); (case side3 => repeat (first | exact (Kd.C_below HR0_1.out HB.out) | (with_reducible refine Kd.C_alloc ?_ _) | (with_reducible refine Kd.C_drewN ?_ _) | (with_reducible refine Kd.C_drew ?_))); (case side4 => exact HC0_1.out); (case side5 => repeat (first | exact (Kd.C_below HR0_2.out HB.out) | (with_reducible refine Kd.C_alloc ?_ _) | (with_reducible refine Kd.C_drewN ?_ _) | (with_reducible refine Kd.C_drew ?_))); (case side6 => exact HC0_2.out); rintro e w16 ⟨v1016, v1019, v1022, rfl, ho0, ho1, ho2, hb⟩; refine ⟨_, rfl, ?_⟩; have n0_ := Aside0.mk (Kd.R_lower ho0 (below_size (by repeat (first | (with_reducible first | exact HB.out | apply below_alloc | apply pw_below_drewN | apply below_drew1 | refine below_set ?_ GE1013.out) | exact HB.out)))); have n1_ := Aside0.mk (Kd.R_lower ho1 (below_size (by repeat (first | (with_reducible first | exact HB.out | apply below_alloc | apply pw_below_drewN | apply below_drew1 | refine below_set ?_ GE1013.out) | exact HB.out)))); have n2_ := Aside0.mk (Kd.R_lower ho2 (below_size (by repeat (first | (with_reducible first | exact HB.out | apply below_alloc | apply pw_below_drewN | apply below_drew1 | refine below_set ?_ GE1013.out) | exact HB.out)))); have n3_ := Aside0.mk (blk_below (g := gb1013) (o := .cells #[.slice A0_0 l0_0.length c0_0, .slice A0_1 l0_1.length c0_1, .slice A0_2 l0_2.length c0_2, .int .i64 a0_3, .int .i64 a0_4] 25 (0, 0)) (by (with_reducible repeat (first | refine blk_drewN ?_ _ | refine blk_drew ?_ | refine blk_alloc ?_ _)); exact BK1013.out) hb); have n4_ := Aside0.mk (below_step (by repeat (first | (with_reducible first | exact HB.out | apply below_alloc | apply pw_below_drewN | apply below_drew1 | refine below_set ?_ GE1013.out) | exact HB.out)) hb); clear BK1013; clear HB; have HO1017 := n0_; have HO1020 := n1_; have HO1023 := n2_; have BK1013 := n3_; have HB := n4_; clear n0_ n1_ n2_ n3_ n4_; (try clear hb); (try clear hb2); (try clear hk); (try clear hi); (try clear ho0); (try clear ho1); (try clear ho2); obtain ⟨Ao17, co17, eo17⟩ := Kd.R_slice HO1017.out; subst eo17; obtain ⟨Ao18, co18, eo18⟩ := Kd.R_slice HO1020.out; subst eo18; obtain ⟨Ao19, co19, eo19⟩ := Kd.R_slice HO1023.out; subst eo19) | ((with_reducible refine gate_callee (f := 35) rfl ?_); refine goesL_ (some 17) rfl rfl Try.func35 (by kernel_rfl) rfl #[.agg #[.slice Ao17 t1015.length co17, .slice Ao18 t1018.length co18, .slice Ao19 t1021.length co19, .int .i64 t1024, .int .i64 t1025]] rfl (by (try simp only [List.map_toArray, List.map_cons, List.map_nil]); first | done | rfl | (simp only [List.length_drop, List.length_take]; rfl)) ?_; (with_reducible refine (spec_SpareLight.calls k _ _ t1015 _ _ t1018 _ _ t1021 t1024 t1025 t1026 t1027 _ ?side1 ?side2 ?side3 ?side4 ?side5 ?side6 A8.out).mono ?_); (case side1 => repeat (first | exact (Kd.R_reads' HO1017.out).2.2 | (with_reducible refine Kd.C_alloc ?_ _) | (with_reducible refine Kd.C_drewN ?_ _) | (with_reducible refine Kd.C_drew ?_))); (case side2 => exact (Kd.R_reads' HO1017.out).2.1); (case side3 => repeat (first | exact (Kd.R_reads' HO1020.out).2.2 | (with_reducible refine Kd.C_alloc ?_ _) | (with_reducible refine Kd.C_drewN ?_ _) | (with_reducible refine Kd.C_drew ?_))); (case side4 => exact (Kd.R_reads' HO1020.out).2.1); (case side5 => repeat (first | exact (Kd.R_reads' HO1023.out).2.2 | (with_reducible refine Kd.C_alloc ?_ _) | (with_reducible refine Kd.C_drewN ?_ _) | (with_reducible refine Kd.C_drew ?_))); (case side6 => exact (Kd.R_reads' HO1023.out).2.1); rintro e w20 ⟨rfl, hb⟩; refine ⟨_, rfl, ?_⟩; have n0_ := Aside0.mk (Kd.R_below (by (with_reducible repeat (first | apply Kd.R_alloc | apply Kd.R_drewN | apply Kd.R_drew)); exact HO1017.out) hb); have n1_ := Aside0.mk (Kd.R_below (by (with_reducible repeat (first | apply Kd.R_alloc | apply Kd.R_drewN | apply Kd.R_drew)); exact HO1020.out) hb); have n2_ := Aside0.mk (Kd.R_below (by (with_reducible repeat (first | apply Kd.R_alloc | apply Kd.R_drewN | apply Kd.R_drew)); exact HO1023.out) hb); have n3_ := Aside0.mk (blk_below (g := gb1013) (o := .cells #[.slice A0_0 l0_0.length c0_0, .slice A0_1 l0_1.length c0_1, .slice A0_2 l0_2.length c0_2, .int .i64 a0_3, .int .i64 a0_4] 25 (0, 0)) (by (with_reducible repeat (first | refine blk_drewN ?_ _ | refine blk_drew ?_ | refine blk_alloc ?_ _)); exact BK1013.out) hb); have n4_ := Aside0.mk (below_step (by repeat (first | (with_reducible first | exact HB.out | apply below_alloc | apply pw_below_drewN | apply below_drew1 | refine below_set ?_ GE1013.out) | exact HB.out)) hb); clear HO1017; clear HO1020; clear HO1023; clear BK1013; clear HB; have HO1017 := n0_; have HO1020 := n1_; have HO1023 := n2_; have BK1013 := n3_; have HB := n4_; clear n0_ n1_ n2_ n3_ n4_; (try clear hb); (try clear hb2); (try clear hk); (try clear hi); have hcz21_0 : w20.cell? ⟨gb1013, 0, none⟩ = some (.slice A0_0 l0_0.length c0_0) := (blk_cell BK1013.out 0).trans rfl; have hcz21_1 : w20.cell? ⟨gb1013, 1, none⟩ = some (.slice A0_1 l0_1.length c0_1) := (blk_cell BK1013.out 1).trans rfl; have hcz21_2 : w20.cell? ⟨gb1013, 2, none⟩ = some (.slice A0_2 l0_2.length c0_2) := (blk_cell BK1013.out 2).trans rfl; have hcz21_3 : w20.cell? ⟨gb1013, 3, none⟩ = some (.int .i64 a0_3) := (blk_cell BK1013.out 3).trans rfl; have hcz21_4 : w20.cell? ⟨gb1013, 4, none⟩ = some (.int .i64 a0_4) := (blk_cell BK1013.out 4).trans rfl; have hfz21_0 := blk_frozen BK1013.out 0; have hfz21_1 := blk_frozen BK1013.out 1; have hfz21_2 := blk_frozen BK1013.out 2; have hfz21_3 := blk_frozen BK1013.out 3; have hfz21_4 := blk_frozen BK1013.out 4) | ((with_reducible refine gate_callee (f := 17) rfl ?_); refine goesL_ (some 21) rfl rfl Try.func17 (by kernel_rfl) rfl #[.agg #[.slice A0_0 l0_0.length c0_0, .slice A0_1 l0_1.length c0_1, .slice A0_2 l0_2.length c0_2, .int .i64 a0_3, .int .i64 a0_4]] rfl (by (try simp only [List.map_toArray, List.map_cons, List.map_nil]); first | done | rfl | (simp only [List.length_drop, List.length_take]; rfl)) ?_; (with_reducible refine (laws_toExploration.calls k _ _ l0_0 _ _ l0_1 _ _ l0_2 a0_3 a0_4 t1028 t1031 t1034 t1037 t1038 _ ?side1 ?side2 ?side3 ?side4 ?side5 ?side6 A9.out).mono ?_); (case side1 => repeat (first | exact (Kd.C_below HR0_0.out HB.out) | (with_reducible refine Kd.C_alloc ?_ _) | (with_reducible refine Kd.C_drewN ?_ _) | (with_reducible refine Kd.C_drew ?_))); (case side2 => exact HC0_0.out); (case side3 => repeat (first | exact (Kd.C_below HR0_1.out HB.out) | (with_reducible refine Kd.C_alloc ?_ _) | (with_reducible refine Kd.C_drewN ?_ _) | (with_reducible refine Kd.C_drew ?_))); (case side4 => exact HC0_1.out); (case side5 => repeat (first | exact (Kd.C_below HR0_2.out HB.out) | (with_reducible refine Kd.C_alloc ?_ _) | (with_reducible refine Kd.C_drewN ?_ _) | (with_reducible refine Kd.C_drew ?_))); (case side6 => exact HC0_2.out); rintro e w22 ⟨v1029, v1032, v1035, rfl, ho0, ho1, ho2, hb⟩; refine ⟨_, rfl, ?_⟩; have n0_ := Aside0.mk (Kd.R_elder' (by (with_reducible repeat (first | apply Kd.R_alloc | apply Kd.R_drewN | apply Kd.R_drew)); exact HO1017.out) (Kd.R_base ho0) hb); have n1_ := Aside0.mk (Kd.R_mono (Kd.R_told (Kd.R_told (Kd.R_old (by (with_reducible repeat (first | apply Kd.R_alloc | apply Kd.R_drewN | apply Kd.R_drew)); exact HO1020.out) hb) (Kd.R_base ho1)) (Kd.R_base ho2)) (fun _ h_ => h_.1)); have n2_ := Aside0.mk (Kd.R_mono (Kd.R_told (Kd.R_told (Kd.R_old (by (with_reducible repeat (first | apply Kd.R_alloc | apply Kd.R_drewN | apply Kd.R_drew)); exact HO1023.out) hb) (Kd.R_base ho1)) (Kd.R_base ho2)) (fun _ h_ => h_.1)); have n3_ := Aside0.mk (Kd.R_lower (Kd.R_new' ho0 (Kd.R_lt (by (with_reducible repeat (first | apply Kd.R_alloc | apply Kd.R_drewN | apply Kd.R_drew)); exact HO1017.out))) (below_size (by repeat (first | (with_reducible first | exact HB.out | apply below_alloc | apply pw_below_drewN | apply below_drew1 | refine below_set ?_ GE1013.out) | exact HB.out)))); have n4_ := Aside0.mk (Kd.R_lower (Kd.R_new' (Kd.R_new' ho1 (Kd.R_lt (by (with_reducible repeat (first | apply Kd.R_alloc | apply Kd.R_drewN | apply Kd.R_drew)); exact HO1020.out))) (Kd.R_lt (by (with_reducible repeat (first | apply Kd.R_alloc | apply Kd.R_drewN | apply Kd.R_drew)); exact HO1023.out))) (below_size (by repeat (first | (with_reducible first | exact HB.out | apply below_alloc | apply pw_below_drewN | apply below_drew1 | refine below_set ?_ GE1013.out) | exact HB.out)))); have n5_ := Aside0.mk (Kd.R_lower (Kd.R_new' (Kd.R_new' ho2 (Kd.R_lt (by (with_reducible repeat (first | apply Kd.R_alloc | apply Kd.R_drewN | apply Kd.R_drew)); exact HO1020.out))) (Kd.R_lt (by (with_reducible repeat (first | apply Kd.R_alloc | apply Kd.R_drewN | apply Kd.R_drew)); exact HO1023.out))) (below_size (by repeat (first | (with_reducible first | exact HB.out | apply below_alloc | apply pw_below_drewN | apply below_drew1 | refine below_set ?_ GE1013.out) | exact HB.out)))); have n6_ := Aside0.mk (blk_below (g := gb1013) (o := .cells #[.slice A0_0 l0_0.length c0_0, .slice A0_1 l0_1.length c0_1, .slice A0_2 l0_2.length c0_2, .int .i64 a0_3, .int .i64 a0_4] 25 (0, 0)) (by (with_reducible repeat (first | refine blk_drewN ?_ _ | refine blk_drew ?_ | refine blk_alloc ?_ _)); exact BK1013.out) hb); have n7_ := Aside0.mk (below_step (by repeat (first | (with_reducible first | exact HB.out | apply below_alloc | apply pw_below_drewN | apply below_drew1 | refine below_set ?_ GE1013.out) | exact HB.out)) hb); clear HO1017; clear HO1020; clear HO1023; clear BK1013; clear HB; have HO1017 := n0_; have HO1020 := n1_; have HO1023 := n2_; have HO1030 := n3_; have HO1033 := n4_; have HO1036 := n5_; have BK1013 := n6_; have HB := n7_; clear n0_ n1_ n2_ n3_ n4_ n5_ n6_ n7_; (try clear hb); (try clear hb2); (try clear hk); (try clear hi); (try clear ho0); (try clear ho1); (try clear ho2)) | ((with_reducible refine gate_dst (N := 6) rfl ?_); refine box_event ?hg (N := 6) ?hd (cs := #[.slice none 0 0, .slice none 0 0, .slice none 0 0, .int .i64 0, .int .i64 0]) (t := 30) ?hr ?_; (case hd => rfl); (case hg => rfl); (case hr => first | (go_simp; done) | (go_simp; rfl)); intro gb1039 hg w23 hbox hb; have n0_ := Aside0.mk (Kd.R_below (by (with_reducible repeat (first | apply Kd.R_alloc | apply Kd.R_drewN | apply Kd.R_drew)); exact HO1017.out) hb); have n1_ := Aside0.mk (Kd.R_below (by (with_reducible repeat (first | apply Kd.R_alloc | apply Kd.R_drewN | apply Kd.R_drew)); exact HO1020.out) hb); have n2_ := Aside0.mk (Kd.R_below (by (with_reducible repeat (first | apply Kd.R_alloc | apply Kd.R_drewN | apply Kd.R_drew)); exact HO1023.out) hb); have n3_ := Aside0.mk (Kd.R_below (by (with_reducible repeat (first | apply Kd.R_alloc | apply Kd.R_drewN | apply Kd.R_drew)); exact HO1030.out) hb); have n4_ := Aside0.mk (Kd.R_below (by (with_reducible repeat (first | apply Kd.R_alloc | apply Kd.R_drewN | apply Kd.R_drew)); exact HO1033.out) hb); have n5_ := Aside0.mk (Kd.R_below (by (with_reducible repeat (first | apply Kd.R_alloc | apply Kd.R_drewN | apply Kd.R_drew)); exact HO1036.out) hb); have n6_ := Aside0.mk (blk_below (g := gb1013) (o := .cells #[.slice A0_0 l0_0.length c0_0, .slice A0_1 l0_1.length c0_1, .slice A0_2 l0_2.length c0_2, .int .i64 a0_3, .int .i64 a0_4] 25 (0, 0)) (by (with_reducible repeat (first | refine blk_drewN ?_ _ | refine blk_drew ?_ | refine blk_alloc ?_ _)); exact BK1013.out) hb); have n7_ := Aside0.mk (below_step (by repeat (first | (with_reducible first | exact HB.out | apply below_alloc | apply pw_below_drewN | apply below_drew1 | refine below_set ?_ GE1013.out) | exact HB.out)) hb); have n8_ := Aside0.mk (hbox); have n9_ := Aside0.mk ((by rw [hg]; exact (below_size (by repeat (first | (with_reducible first | exact HB.out | apply below_alloc | apply pw_below_drewN | apply below_drew1 | refine below_set ?_ GE1013.out) | exact HB.out))) : w.heap.size ≤ gb1039)); have n10_ := Aside0.mk ((by rw [hg]; exact (below_size (by repeat (first | (with_reducible first | exact HB.out | apply below_alloc | apply pw_below_drewN | apply below_drew1 | refine below_set ?_ GE1013.out) | exact HB.out))) : w.heap.size ≤ gb1039)); have n11_ := Aside0.mk ((by rw [hg]; exact Nat.ne_of_lt (blk_lt (g := gb1013) (o := .cells #[.slice A0_0 l0_0.length c0_0, .slice A0_1 l0_1.length c0_1, .slice A0_2 l0_2.length c0_2, .int .i64 a0_3, .int .i64 a0_4] 25 (0, 0)) (by (with_reducible repeat (first | refine blk_drewN ?_ _ | refine blk_drew ?_ | refine blk_alloc ?_ _)); exact BK1013.out)) : gb1013 ≠ gb1039)); have n12_ := Aside0.mk ((by rw [hg]; exact Nat.ne_of_gt (blk_lt (g := gb1013) (o := .cells #[.slice A0_0 l0_0.length c0_0, .slice A0_1 l0_1.length c0_1, .slice A0_2 l0_2.length c0_2, .int .i64 a0_3, .int .i64 a0_4] 25 (0, 0)) (by (with_reducible repeat (first | refine blk_drewN ?_ _ | refine blk_drew ?_ | refine blk_alloc ?_ _)); exact BK1013.out)) : gb1039 ≠ gb1013)); clear HO1017; clear HO1020; clear HO1023; clear HO1030; clear HO1033; clear HO1036; clear BK1013; clear HB; have HO1017 := n0_; have HO1020 := n1_; have HO1023 := n2_; have HO1030 := n3_; have HO1033 := n4_; have HO1036 := n5_; have BK1013 := n6_; have HB := n7_; have BK1039 := n8_; have GW1039 := n9_; have GE1039 := n10_; have NB1013_1039 := n11_; have NB1039_1013 := n12_; clear n0_ n1_ n2_ n3_ n4_ n5_ n6_ n7_ n8_ n9_ n10_ n11_ n12_; clear hb hbox hg; obtain ⟨Ao24, co24, eo24⟩ := Kd.R_slice HO1030.out; subst eo24; have hnb25 := NB1039_1013.out; have hnc25 := NB1013_1039.out; have hcz26_0 : w23.cell? ⟨gb1039, 0, none⟩ = some (.slice none 0 0) := (blk_cell BK1039.out 0).trans rfl; have hcz26_1 : w23.cell? ⟨gb1039, 1, none⟩ = some (.slice none 0 0) := (blk_cell BK1039.out 1).trans rfl; have hcz26_2 : w23.cell? ⟨gb1039, 2, none⟩ = some (.slice none 0 0) := (blk_cell BK1039.out 2).trans rfl; have hcz26_3 : w23.cell? ⟨gb1039, 3, none⟩ = some (.int .i64 0) := (blk_cell BK1039.out 3).trans rfl; have hcz26_4 : w23.cell? ⟨gb1039, 4, none⟩ = some (.int .i64 0) := (blk_cell BK1039.out 4).trans rfl; have hfz26_0 := blk_frozen BK1039.out 0; have hfz26_1 := blk_frozen BK1039.out 1; have hfz26_2 := blk_frozen BK1039.out 2; have hfz26_3 := blk_frozen BK1039.out 3; have hfz26_4 := blk_frozen BK1039.out 4; obtain ⟨Ao27, co27, eo27⟩ := Kd.R_slice HO1033.out; subst eo27; obtain ⟨Ao28, co28, eo28⟩ := Kd.R_slice HO1036.out; subst eo28) | ((with_reducible refine gate_callee (f := 25) rfl ?_); refine goesL_ (some 24) rfl rfl Try.func25 (by kernel_rfl) rfl #[.agg #[.slice Ao24 t1028.length co24, .slice Ao27 t1031.length co27, .slice Ao28 t1034.length co28, .int .i64 t1037, .int .i64 t1038]] rfl (by (try simp only [List.map_toArray, List.map_cons, List.map_nil]); first | done | rfl | (simp only [List.length_drop, List.length_take]; rfl)) ?_; (with_reducible refine (impl_SpareLight.calls k _ _ t1028 _ _ t1031 _ _ t1034 t1037 t1038 t1040 t1041 _ ?side1 ?side2 ?side3 ?side4 ?side5 ?side6 A10.out).mono ?_); (case side1 => refine (Kd.R_reads' (e := 37) (base := w.heap.size) (ok := fun k_ => (True ∧ some k_ ≠ (.slice Ao17 t1015.length co17 : Value).ownBlock)) (n := t1028.length) (c := co24) ?_).2.2; exact (by (with_reducible repeat (first | apply Kd.R_alloc | apply Kd.R_drewN | apply Kd.R_drew)); exact (Kd.R_mono (Kd.R_far (p := ⟨gb1039, 4, none⟩) (Kd.R_far (p := ⟨gb1039, 3, none⟩) (Kd.R_far (p := ⟨gb1039, 2, none⟩) (Kd.R_far (p := ⟨gb1039, 1, none⟩) (Kd.R_far (p := ⟨gb1039, 0, none⟩) (Kd.R_types HO1030.out BK1039.out (by decide)) (fun _ hk => hk.2) (.slice Ao24 t1028.length co24)) (fun _ hk => hk.2) (.slice Ao27 t1031.length co27)) (fun _ hk => hk.2) (.slice Ao28 t1034.length co28)) (fun _ hk => hk.2) (.int .i64 t1037)) (fun _ hk => hk.2) (.int .i64 t1038)) (fun _ h_ => h_.1)))); (case side2 => exact (Kd.R_reads' HO1030.out).2.1); (case side3 => refine (Kd.R_reads' (e := 4) (base := w.heap.size) (ok := fun k_ => ((some k_ ≠ (.slice Ao28 t1034.length co28 : Value).ownBlock ∧ some k_ ≠ (.slice Ao18 t1018.length co18 : Value).ownBlock) ∧ some k_ ≠ (.slice Ao19 t1021.length co19 : Value).ownBlock)) (n := t1031.length) (c := co27) ?_).2.2; exact (by (with_reducible repeat (first | apply Kd.R_alloc | apply Kd.R_drewN | apply Kd.R_drew)); exact (Kd.R_mono (Kd.R_far (p := ⟨gb1039, 4, none⟩) (Kd.R_far (p := ⟨gb1039, 3, none⟩) (Kd.R_far (p := ⟨gb1039, 2, none⟩) (Kd.R_far (p := ⟨gb1039, 1, none⟩) (Kd.R_far (p := ⟨gb1039, 0, none⟩) (Kd.R_types HO1033.out BK1039.out (by decide)) (fun _ hk => hk.2) (.slice Ao24 t1028.length co24)) (fun _ hk => hk.2) (.slice Ao27 t1031.length co27)) (fun _ hk => hk.2) (.slice Ao28 t1034.length co28)) (fun _ hk => hk.2) (.int .i64 t1037)) (fun _ hk => hk.2) (.int .i64 t1038)) (fun _ h_ => h_.1)))); (case side4 => exact (Kd.R_reads' HO1033.out).2.1); (case side5 => refine (Kd.R_reads' (e := 4) (base := w.heap.size) (ok := fun k_ => ((some k_ ≠ (.slice Ao27 t1031.length co27 : Value).ownBlock ∧ some k_ ≠ (.slice Ao18 t1018.length co18 : Value).ownBlock) ∧ some k_ ≠ (.slice Ao19 t1021.length co19 : Value).ownBlock)) (n := t1034.length) (c := co28) ?_).2.2; exact (by (with_reducible repeat (first | apply Kd.R_alloc | apply Kd.R_drewN | apply Kd.R_drew)); exact (Kd.R_mono (Kd.R_far (p := ⟨gb1039, 4, none⟩) (Kd.R_far (p := ⟨gb1039, 3, none⟩) (Kd.R_far (p := ⟨gb1039, 2, none⟩) (Kd.R_far (p := ⟨gb1039, 1, none⟩) (Kd.R_far (p := ⟨gb1039, 0, none⟩) (Kd.R_types HO1036.out BK1039.out (by decide)) (fun _ hk => hk.2) (.slice Ao24 t1028.length co24)) (fun _ hk => hk.2) (.slice Ao27 t1031.length co27)) (fun _ hk => hk.2) (.slice Ao28 t1034.length co28)) (fun _ hk => hk.2) (.int .i64 t1037)) (fun _ hk => hk.2) (.int .i64 t1038)) (fun _ h_ => h_.1)))); (case side6 => exact (Kd.R_reads' HO1036.out).2.1); rintro e w29 ⟨rfl, hb⟩; refine ⟨_, rfl, ?_⟩; have n0_ := Aside0.mk (Kd.R_below (by (with_reducible repeat (first | apply Kd.R_alloc | apply Kd.R_drewN | apply Kd.R_drew)); exact (Kd.R_mono (Kd.R_far (p := ⟨gb1039, 4, none⟩) (Kd.R_far (p := ⟨gb1039, 3, none⟩) (Kd.R_far (p := ⟨gb1039, 2, none⟩) (Kd.R_far (p := ⟨gb1039, 1, none⟩) (Kd.R_far (p := ⟨gb1039, 0, none⟩) (Kd.R_types HO1017.out BK1039.out (by decide)) (fun _ hk => hk.2) (.slice Ao24 t1028.length co24)) (fun _ hk => hk.2) (.slice Ao27 t1031.length co27)) (fun _ hk => hk.2) (.slice Ao28 t1034.length co28)) (fun _ hk => hk.2) (.int .i64 t1037)) (fun _ hk => hk.2) (.int .i64 t1038)) (fun _ h_ => h_.1))) hb); have n1_ := Aside0.mk (Kd.R_below (by (with_reducible repeat (first | apply Kd.R_alloc | apply Kd.R_drewN | apply Kd.R_drew)); exact (Kd.R_mono (Kd.R_far (p := ⟨gb1039, 4, none⟩) (Kd.R_far (p := ⟨gb1039, 3, none⟩) (Kd.R_far (p := ⟨gb1039, 2, none⟩) (Kd.R_far (p := ⟨gb1039, 1, none⟩) (Kd.R_far (p := ⟨gb1039, 0, none⟩) (Kd.R_types HO1020.out BK1039.out (by decide)) (fun _ hk => hk.2) (.slice Ao24 t1028.length co24)) (fun _ hk => hk.2) (.slice Ao27 t1031.length co27)) (fun _ hk => hk.2) (.slice Ao28 t1034.length co28)) (fun _ hk => hk.2) (.int .i64 t1037)) (fun _ hk => hk.2) (.int .i64 t1038)) (fun _ h_ => h_.1))) hb); have n2_ := Aside0.mk (Kd.R_below (by (with_reducible repeat (first | apply Kd.R_alloc | apply Kd.R_drewN | apply Kd.R_drew)); exact (Kd.R_mono (Kd.R_far (p := ⟨gb1039, 4, none⟩) (Kd.R_far (p := ⟨gb1039, 3, none⟩) (Kd.R_far (p := ⟨gb1039, 2, none⟩) (Kd.R_far (p := ⟨gb1039, 1, none⟩) (Kd.R_far (p := ⟨gb1039, 0, none⟩) (Kd.R_types HO1023.out BK1039.out (by decide)) (fun _ hk => hk.2) (.slice Ao24 t1028.length co24)) (fun _ hk => hk.2) (.slice Ao27 t1031.length co27)) (fun _ hk => hk.2) (.slice Ao28 t1034.length co28)) (fun _ hk => hk.2) (.int .i64 t1037)) (fun _ hk => hk.2) (.int .i64 t1038)) (fun _ h_ => h_.1))) hb); have n3_ := Aside0.mk (Kd.R_below (by (with_reducible repeat (first | apply Kd.R_alloc | apply Kd.R_drewN | apply Kd.R_drew)); exact (Kd.R_mono (Kd.R_far (p := ⟨gb1039, 4, none⟩) (Kd.R_far (p := ⟨gb1039, 3, none⟩) (Kd.R_far (p := ⟨gb1039, 2, none⟩) (Kd.R_far (p := ⟨gb1039, 1, none⟩) (Kd.R_far (p := ⟨gb1039, 0, none⟩) (Kd.R_types HO1030.out BK1039.out (by decide)) (fun _ hk => hk.2) (.slice Ao24 t1028.length co24)) (fun _ hk => hk.2) (.slice Ao27 t1031.length co27)) (fun _ hk => hk.2) (.slice Ao28 t1034.length co28)) (fun _ hk => hk.2) (.int .i64 t1037)) (fun _ hk => hk.2) (.int .i64 t1038)) (fun _ h_ => h_.1))) hb); have n4_ := Aside0.mk (Kd.R_below (by (with_reducible repeat (first | apply Kd.R_alloc | apply Kd.R_drewN | apply Kd.R_drew)); exact (Kd.R_mono (Kd.R_far (p := ⟨gb1039, 4, none⟩) (Kd.R_far (p := ⟨gb1039, 3, none⟩) (Kd.R_far (p := ⟨gb1039, 2, none⟩) (Kd.R_far (p := ⟨gb1039, 1, none⟩) (Kd.R_far (p := ⟨gb1039, 0, none⟩) (Kd.R_types HO1033.out BK1039.out (by decide)) (fun _ hk => hk.2) (.slice Ao24 t1028.length co24)) (fun _ hk => hk.2) (.slice Ao27 t1031.length co27)) (fun _ hk => hk.2) (.slice Ao28 t1034.length co28)) (fun _ hk => hk.2) (.int .i64 t1037)) (fun _ hk => hk.2) (.int .i64 t1038)) (fun _ h_ => h_.1))) hb); have n5_ := Aside0.mk (Kd.R_below (by (with_reducible repeat (first | apply Kd.R_alloc | apply Kd.R_drewN | apply Kd.R_drew)); exact (Kd.R_mono (Kd.R_far (p := ⟨gb1039, 4, none⟩) (Kd.R_far (p := ⟨gb1039, 3, none⟩) (Kd.R_far (p := ⟨gb1039, 2, none⟩) (Kd.R_far (p := ⟨gb1039, 1, none⟩) (Kd.R_far (p := ⟨gb1039, 0, none⟩) (Kd.R_types HO1036.out BK1039.out (by decide)) (fun _ hk => hk.2) (.slice Ao24 t1028.length co24)) (fun _ hk => hk.2) (.slice Ao27 t1031.length co27)) (fun _ hk => hk.2) (.slice Ao28 t1034.length co28)) (fun _ hk => hk.2) (.int .i64 t1037)) (fun _ hk => hk.2) (.int .i64 t1038)) (fun _ h_ => h_.1))) hb); have n6_ := Aside0.mk (blk_below (g := gb1013) (o := .cells #[.slice A0_0 l0_0.length c0_0, .slice A0_1 l0_1.length c0_1, .slice A0_2 l0_2.length c0_2, .int .i64 a0_3, .int .i64 a0_4] 25 (0, 0)) (by (with_reducible repeat (first | refine blk_drewN ?_ _ | refine blk_drew ?_ | refine blk_alloc ?_ _)); refine blk_far ?_ NB1013_1039.out _; (with_reducible repeat (first | refine blk_drewN ?_ _ | refine blk_drew ?_ | refine blk_alloc ?_ _)); refine blk_far ?_ NB1013_1039.out _; (with_reducible repeat (first | refine blk_drewN ?_ _ | refine blk_drew ?_ | refine blk_alloc ?_ _)); refine blk_far ?_ NB1013_1039.out _; (with_reducible repeat (first | refine blk_drewN ?_ _ | refine blk_drew ?_ | refine blk_alloc ?_ _)); refine blk_far ?_ NB1013_1039.out _; (with_reducible repeat (first | refine blk_drewN ?_ _ | refine blk_drew ?_ | refine blk_alloc ?_ _)); refine blk_far ?_ NB1013_1039.out _; (with_reducible repeat (first | refine blk_drewN ?_ _ | refine blk_drew ?_ | refine blk_alloc ?_ _)); exact BK1013.out) hb); have n7_ := Aside0.mk (blk_below (g := gb1039) (o := .cells #[.slice Ao24 t1028.length co24, .slice Ao27 t1031.length co27, .slice Ao28 t1034.length co28, .int .i64 t1037, .int .i64 t1038] 30 (0, 0)) (by (with_reducible repeat (first | refine blk_drewN ?_ _ | refine blk_drew ?_ | refine blk_alloc ?_ _)); refine blk_put (cs := #[.slice Ao24 t1028.length co24, .slice Ao27 t1031.length co27, .slice Ao28 t1034.length co28, .int .i64 t1037, .int .i64 0]) ?_ 4 _ rfl; (with_reducible repeat (first | refine blk_drewN ?_ _ | refine blk_drew ?_ | refine blk_alloc ?_ _)); refine blk_put (cs := #[.slice Ao24 t1028.length co24, .slice Ao27 t1031.length co27, .slice Ao28 t1034.length co28, .int .i64 0, .int .i64 0]) ?_ 3 _ rfl; (with_reducible repeat (first | refine blk_drewN ?_ _ | refine blk_drew ?_ | refine blk_alloc ?_ _)); refine blk_put (cs := #[.slice Ao24 t1028.length co24, .slice Ao27 t1031.length co27, .slice none 0 0, .int .i64 0, .int .i64 0]) ?_ 2 _ rfl; (with_reducible repeat (first | refine blk_drewN ?_ _ | refine blk_drew ?_ | refine blk_alloc ?_ _)); refine blk_put (cs := #[.slice Ao24 t1028.length co24, .slice none 0 0, .slice none 0 0, .int .i64 0, .int .i64 0]) ?_ 1 _ rfl; (with_reducible repeat (first | refine blk_drewN ?_ _ | refine blk_drew ?_ | refine blk_alloc ?_ _)); refine blk_put (cs := #[.slice none 0 0, .slice none 0 0, .slice none 0 0, .int .i64 0, .int .i64 0]) ?_ 0 _ rfl; (with_reducible repeat (first | refine blk_drewN ?_ _ | refine blk_drew ?_ | refine blk_alloc ?_ _)); exact BK1039.out) hb); have n8_ := Aside0.mk (below_step (by repeat (first | (with_reducible first | exact HB.out | apply below_alloc | apply pw_below_drewN | apply below_drew1 | refine below_set ?_ GE1013.out | refine below_set ?_ GE1039.out) | exact HB.out)) hb); clear HO1017; clear HO1020; clear HO1023; clear HO1030; clear HO1033; clear HO1036; clear BK1013; clear BK1039; clear HB; have HO1017 := n0_; have HO1020 := n1_; have HO1023 := n2_; have HO1030 := n3_; have HO1033 := n4_; have HO1036 := n5_; have BK1013 := n6_; have BK1039 := n7_; have HB := n8_; clear n0_ n1_ n2_ n3_ n4_ n5_ n6_ n7_ n8_; (try clear hb); (try clear hb2); (try clear hk); (try clear hi)))
    (try simp only [Act.put, List.setIfInBounds_toArray, List.set_cons_zero, List.set_cons_succ])
    go_cut [34] (fun v34 wc => ∃ (kq : Nat) (x34_10 : Bool), v34 = .bool x34_10 ∧ Aside0 (laws_FnExactSpareLight.j0 kq x34_10 l0_0 l0_1 l0_2 a0_3 a0_4 t1028 t1031 t1034 t1037 t1038 = some r) ∧ Aside0 (kq ≤ k) ∧ Aside0 (Kd.R k37 37 wc w.heap.size (fun _ => True) (.slice Ao24 t1028.length co24) t1028) ∧ Aside0 (Kd.R Kd.bool 4 wc w.heap.size (fun k_ => some k_ ≠ ((.slice Ao28 t1034.length co28) : Value).ownBlock) (.slice Ao27 t1031.length co27) t1031) ∧ Aside0 (Kd.R Kd.bool 4 wc w.heap.size (fun k_ => some k_ ≠ ((.slice Ao27 t1031.length co27) : Value).ownBlock) (.slice Ao28 t1034.length co28) t1034) ∧ Aside0 (wc.heap[gb1013]? = some (.cells #[(.slice A0_0 l0_0.length c0_0), (.slice A0_1 l0_1.length c0_1), (.slice A0_2 l0_2.length c0_2), .int .i64 a0_3, .int .i64 a0_4] 25 (0, 0))) ∧ Aside0 (wc.heap[gb1039]? = some (.cells #[(.slice Ao24 t1028.length co24), (.slice Ao27 t1031.length co27), (.slice Ao28 t1034.length co28), .int .i64 t1037, .int .i64 t1038] 30 (0, 0))) ∧ Aside0 (Below w.heap.size w wc))
    case first =>
      have H := HC11.out
      clear HC11
      by_cases c30 : t1040 = t1026
      · rw [if_pos c30] at H
        have c30b0 : (t1040 == t1026) = true := beq_iff_eq.mpr c30
        have c30b1 : (t1040 != t1026) = false := bne_eq_false_iff_eq.mpr c30
        clear c30
        (first | rw [c30b0] | (simp only [i64_w, i32_w]; rw [c30b0]) | skip)
        have H' := Aside0.mk H
        clear H
        go_wp2
        go_meet
        case rel => exact ⟨_, ((t1041 != t1027)), (by first | rfl | (simp; done) | (simp [*]; done)), H', ⟨by first | omega | exact Nat.le_refl _⟩, ⟨by (with_reducible repeat (first | apply Kd.R_alloc | apply Kd.R_drewN | apply Kd.R_drew)); exact Kd.R_mono HO1030.out (fun _ hk => trivial)⟩, ⟨by (with_reducible repeat (first | apply Kd.R_alloc | apply Kd.R_drewN | apply Kd.R_drew)); exact Kd.R_mono HO1033.out (fun _ hk => hk.1.1)⟩, ⟨by (with_reducible repeat (first | apply Kd.R_alloc | apply Kd.R_drewN | apply Kd.R_drew)); exact Kd.R_mono HO1036.out (fun _ hk => hk.1.1)⟩, ⟨by (with_reducible repeat (first | refine blk_drewN ?_ _ | refine blk_drew ?_ | refine blk_alloc ?_ _)); exact BK1013.out⟩, ⟨by (with_reducible repeat (first | refine blk_drewN ?_ _ | refine blk_drew ?_ | refine blk_alloc ?_ _)); exact BK1039.out⟩, ⟨by repeat (first | (with_reducible first | exact HB.out | apply below_alloc | apply pw_below_drewN | apply below_drew1 | refine below_set ?_ GE1013.out | refine below_set ?_ GE1039.out) | exact HB.out)⟩⟩
      · rw [if_neg c30] at H
        have c30b0 : (t1040 == t1026) = false := beq_eq_false_iff_ne.mpr c30
        have c30b1 : (t1040 != t1026) = true := bne_iff_ne.mpr c30
        (first | rw [c30b0] | (simp only [i64_w, i32_w]; rw [c30b0]) | skip)
        have H' := Aside0.mk H
        clear H
        go_wp2
        go_meet
        case rel => exact ⟨_, (true), (by first | rfl | (simp; done) | (simp [*]; done)), H', ⟨by first | omega | exact Nat.le_refl _⟩, ⟨by (with_reducible repeat (first | apply Kd.R_alloc | apply Kd.R_drewN | apply Kd.R_drew)); exact Kd.R_mono HO1030.out (fun _ hk => trivial)⟩, ⟨by (with_reducible repeat (first | apply Kd.R_alloc | apply Kd.R_drewN | apply Kd.R_drew)); exact Kd.R_mono HO1033.out (fun _ hk => hk.1.1)⟩, ⟨by (with_reducible repeat (first | apply Kd.R_alloc | apply Kd.R_drewN | apply Kd.R_drew)); exact Kd.R_mono HO1036.out (fun _ hk => hk.1.1)⟩, ⟨by (with_reducible repeat (first | refine blk_drewN ?_ _ | refine blk_drew ?_ | refine blk_alloc ?_ _)); exact BK1013.out⟩, ⟨by (with_reducible repeat (first | refine blk_drewN ?_ _ | refine blk_drew ?_ | refine blk_alloc ?_ _)); exact BK1039.out⟩, ⟨by repeat (first | (with_reducible first | exact HB.out | apply below_alloc | apply pw_below_drewN | apply below_drew1 | refine below_set ?_ GE1013.out | refine below_set ?_ GE1039.out) | exact HB.out)⟩⟩
    case rest =>
      clear HC11
      try clear c1
      try clear c2
      try clear p2
      try clear c3
      try clear c3b0
      try clear c6
      try clear c15
      try clear c17
      try clear c25
      try clear c30
      try clear c30b0
      try clear c30b1
      try clear hcz13_0
      try clear hcz13_1
      try clear hcz13_2
      try clear hcz13_3
      try clear hcz13_4
      try clear hcz15_0
      try clear hcz15_1
      try clear hcz15_2
      try clear hcz15_3
      try clear hcz15_4
      try clear hcz21_0
      try clear hcz21_1
      try clear hcz21_2
      try clear hcz21_3
      try clear hcz21_4
      try clear hcz26_0
      try clear hcz26_1
      try clear hcz26_2
      try clear hcz26_3
      try clear hcz26_4
      try clear hcz5_0
      try clear hcz5_1
      try clear hcz5_2
      try clear hcz5_3
      try clear hcz5_4
      try clear hfz13_0
      try clear hfz13_1
      try clear hfz13_2
      try clear hfz13_3
      try clear hfz13_4
      try clear hfz15_0
      try clear hfz15_1
      try clear hfz15_2
      try clear hfz15_3
      try clear hfz15_4
      try clear hfz21_0
      try clear hfz21_1
      try clear hfz21_2
      try clear hfz21_3
      try clear hfz21_4
      try clear hfz26_0
      try clear hfz26_1
      try clear hfz26_2
      try clear hfz26_3
      try clear hfz26_4
      try clear hfz5_0
      try clear hfz5_1
      try clear hfz5_2
      try clear hfz5_3
      try clear hfz5_4
      obtain ⟨kq, x34_10, rfl, HA, HJ10, HO_1040000, HO_1040001, HO_1040002, BK1013, BK1039, HB⟩ := hcut
      cases kq with
      | zero => exact absurd HA.out (by simp [laws_FnExactSpareLight.j0])
      | succ kj10 =>
        have H := HA.out
        clear HA
        simp only [laws_FnExactSpareLight.j0] at H
        by_cases c31 : x34_10 = true
        · subst c31
          have H1 : (some false) = some r := by rw [if_pos rfl] at H; exact H
          clear H
          have H := H1
          clear H1
          obtain rfl := Option.some.inj H
          go_wp2
          go_ret
          exact ⟨by first | rfl | (simp [errW_none, errW_some] <;> rfl) | (simp [*, errW_none, errW_some] <;> rfl), by repeat (first | (with_reducible first | exact HB.out | apply below_alloc | apply pw_below_drewN | apply below_drew1 | refine below_set ?_ GE1013.out | refine below_set ?_ GE1039.out) | exact HB.out)⟩
        · replace c31 := Bool.eq_false_iff.mpr c31
          subst c31
          have H1 : ((laws_toExploration.f kj10 l0_0 l0_1 l0_2 a0_3 a0_4).bind fun bt1042 => ((laws_eqExploration.f kj10 t1028 t1031 t1034 t1037 t1038 bt1042.1 bt1042.2.1 bt1042.2.2.1 bt1042.2.2.2.1 bt1042.2.2.2.2).bind fun t1053 => (if t1053 = true then (some true) else (some false)))) = some r := by rw [if_neg (show ¬ (false = true) by decide)] at H; exact H
          clear H
          have H := H1
          clear H1
          replace H := Option.bind_eq_some_iff.mp H
          obtain ⟨⟨t1042, t1045, t1048, t1051, t1052⟩, A320, H⟩ := H
          replace H : ((laws_eqExploration.f kj10 t1028 t1031 t1034 t1037 t1038 t1042 t1045 t1048 t1051 t1052).bind fun t1053 => (if t1053 = true then (some true) else (some false))) = some r := H
          have A32 := Aside0.mk A320
          clear A320
          replace H := Option.bind_eq_some_iff.mp H
          obtain ⟨t1053, A330, H⟩ := H
          replace H : (if t1053 = true then (some true) else (some false)) = some r := H
          have A33 := Aside0.mk A330
          clear A330
          by_cases c34 : t1053 = true
          · subst c34
            have H1 : (some true) = some r := by rw [if_pos rfl] at H; exact H
            clear H
            have H := H1
            clear H1
            obtain rfl := Option.some.inj H
            try go_wp2
            have n0_ := Aside0.mk (Kd.R_drew HO_1040000.out)
            have n1_ := Aside0.mk (Kd.R_drew HO_1040001.out)
            have n2_ := Aside0.mk (Kd.R_drew HO_1040002.out)
            have n3_ := Aside0.mk (blk_drew BK1013.out)
            have n4_ := Aside0.mk (blk_drew BK1039.out)
            have n5_ := Aside0.mk (below_drew1 HB.out)
            clear HO_1040000
            clear HO_1040001
            clear HO_1040002
            clear BK1013
            clear BK1039
            clear HB
            have HO_1040000 := n0_
            have HO_1040001 := n1_
            have HO_1040002 := n2_
            have BK1013 := n3_
            have BK1039 := n4_
            have HB := n5_
            clear n0_ n1_ n2_ n3_ n4_ n5_
            refine start_ (n := 5) (S := fun w' => w'.cell? ⟨gb1039, 0, none⟩ = some (.slice Ao24 t1028.length co24) ∧ w'.cell? ⟨gb1039, 1, none⟩ = some (.slice Ao27 t1031.length co27) ∧ w'.cell? ⟨gb1039, 2, none⟩ = some (.slice Ao28 t1034.length co28) ∧ w'.cell? ⟨gb1039, 3, none⟩ = some (.int .i64 t1037) ∧ w'.cell? ⟨gb1039, 4, none⟩ = some (.int .i64 t1038) ∧ w'.cell? ⟨gb1013, 0, none⟩ = some (.slice A0_0 l0_0.length c0_0) ∧ w'.cell? ⟨gb1013, 1, none⟩ = some (.slice A0_1 l0_1.length c0_1) ∧ w'.cell? ⟨gb1013, 2, none⟩ = some (.slice A0_2 l0_2.length c0_2) ∧ w'.cell? ⟨gb1013, 3, none⟩ = some (.int .i64 a0_3) ∧ w'.cell? ⟨gb1013, 4, none⟩ = some (.int .i64 a0_4)) (ds := []) #[false, false, false, false, false] (by kernel_rfl) rfl rfl ⟨(blk_cell BK1039.out 0).trans rfl, (blk_cell BK1039.out 1).trans rfl, (blk_cell BK1039.out 2).trans rfl, (blk_cell BK1039.out 3).trans rfl, (blk_cell BK1039.out 4).trans rfl, (blk_cell BK1013.out 0).trans rfl, (blk_cell BK1013.out 1).trans rfl, (blk_cell BK1013.out 2).trans rfl, (blk_cell BK1013.out 3).trans rfl, (blk_cell BK1013.out 4).trans rfl⟩ (fun hHeld => ?_)
            generalize wc.drew = w35 at HO_1040000 HO_1040001 HO_1040002 BK1013 BK1039 HB hHeld ⊢
            refine take_ (i := 0) (N := some 35) (v := ?_) (a' := ?_) #[true, false, false, false, false] rfl rfl (by kernel_rfl) (fun _ _ _ h => h) (Or.inl ⟨by rfl, ?_⟩) hHeld ?_ ?_
            rotate_left
            · rintro w' ⟨s0, s1, s2, s3, s4, s5, s6, s7, s8, s9⟩
              go_simp
              with_reducible rfl
            rotate_left
            · simp only [Act.put, List.setIfInBounds_toArray, List.set_cons_zero, List.set_cons_succ, i64_w, i32_w]
              rfl
            refine take_ (i := 1) (N := some 36) (v := ?_) (a' := ?_) #[true, true, false, false, false] rfl rfl (by kernel_rfl) (fun _ _ _ h => h) (Or.inl ⟨by rfl, ?_⟩) hHeld ?_ ?_
            rotate_left
            · rintro w' ⟨s0, s1, s2, s3, s4, s5, s6, s7, s8, s9⟩
              go_simp
              with_reducible rfl
            rotate_left
            · simp only [Act.put, List.setIfInBounds_toArray, List.set_cons_zero, List.set_cons_succ, i64_w, i32_w]
              rfl
            refine one_ (i := 2) (N := some 37) #[true, true, true, false, false] rfl rfl (by kernel_rfl) (by decide) (fun K hK => ?_)
            refine goes_ Try.func17 (by kernel_rfl) rfl #[.agg #[.slice A0_0 l0_0.length c0_0, .slice A0_1 l0_1.length c0_1, .slice A0_2 l0_2.length c0_2, .int .i64 a0_3, .int .i64 a0_4]] (by rfl) rfl rfl (by (try simp only [List.map_toArray, List.map_cons, List.map_nil]); first | done | rfl | (simp only [List.length_drop, List.length_take]; rfl)) ?_
            with_reducible refine (laws_toExploration.calls kj10 _ _ l0_0 _ _ l0_1 _ _ l0_2 a0_3 a0_4 t1042 t1045 t1048 t1051 t1052 _ ?side1 ?side2 ?side3 ?side4 ?side5 ?side6 A32.out).mono ?_
            (case side1 => repeat (first | exact (Kd.C_below HR0_0.out HB.out) | (with_reducible refine Kd.C_alloc ?_ _) | (with_reducible refine Kd.C_drewN ?_ _) | (with_reducible refine Kd.C_drew ?_)))
            (case side2 => exact HC0_0.out)
            (case side3 => repeat (first | exact (Kd.C_below HR0_1.out HB.out) | (with_reducible refine Kd.C_alloc ?_ _) | (with_reducible refine Kd.C_drewN ?_ _) | (with_reducible refine Kd.C_drew ?_)))
            (case side4 => exact HC0_1.out)
            (case side5 => repeat (first | exact (Kd.C_below HR0_2.out HB.out) | (with_reducible refine Kd.C_alloc ?_ _) | (with_reducible refine Kd.C_drewN ?_ _) | (with_reducible refine Kd.C_drew ?_)))
            (case side6 => exact HC0_2.out)
            rintro e w36 ⟨v1043, v1046, v1049, rfl, ho0, ho1, ho2, hb⟩
            refine ⟨_, rfl, ?_⟩
            have n0_ := Aside0.mk (Kd.R_elder' (by (with_reducible repeat (first | apply Kd.R_alloc | apply Kd.R_drewN | apply Kd.R_drew)); exact HO_1040000.out) (Kd.R_base ho0) hb)
            have n1_ := Aside0.mk (Kd.R_mono (Kd.R_told (Kd.R_told (Kd.R_old (by (with_reducible repeat (first | apply Kd.R_alloc | apply Kd.R_drewN | apply Kd.R_drew)); exact HO_1040001.out) hb) (Kd.R_base ho1)) (Kd.R_base ho2)) (fun _ h_ => h_.1))
            have n2_ := Aside0.mk (Kd.R_mono (Kd.R_told (Kd.R_told (Kd.R_old (by (with_reducible repeat (first | apply Kd.R_alloc | apply Kd.R_drewN | apply Kd.R_drew)); exact HO_1040002.out) hb) (Kd.R_base ho1)) (Kd.R_base ho2)) (fun _ h_ => h_.1))
            have n3_ := Aside0.mk (Kd.R_lower (Kd.R_new' ho0 (Kd.R_lt (by (with_reducible repeat (first | apply Kd.R_alloc | apply Kd.R_drewN | apply Kd.R_drew)); exact HO_1040000.out))) (below_size (by repeat (first | (with_reducible first | exact HB.out | apply below_alloc | apply pw_below_drewN | apply below_drew1 | refine below_set ?_ GE1013.out | refine below_set ?_ GE1039.out) | exact HB.out))))
            have n4_ := Aside0.mk (Kd.R_lower (Kd.R_new' (Kd.R_new' ho1 (Kd.R_lt (by (with_reducible repeat (first | apply Kd.R_alloc | apply Kd.R_drewN | apply Kd.R_drew)); exact HO_1040001.out))) (Kd.R_lt (by (with_reducible repeat (first | apply Kd.R_alloc | apply Kd.R_drewN | apply Kd.R_drew)); exact HO_1040002.out))) (below_size (by repeat (first | (with_reducible first | exact HB.out | apply below_alloc | apply pw_below_drewN | apply below_drew1 | refine below_set ?_ GE1013.out | refine below_set ?_ GE1039.out) | exact HB.out))))
            have n5_ := Aside0.mk (Kd.R_lower (Kd.R_new' (Kd.R_new' ho2 (Kd.R_lt (by (with_reducible repeat (first | apply Kd.R_alloc | apply Kd.R_drewN | apply Kd.R_drew)); exact HO_1040001.out))) (Kd.R_lt (by (with_reducible repeat (first | apply Kd.R_alloc | apply Kd.R_drewN | apply Kd.R_drew)); exact HO_1040002.out))) (below_size (by repeat (first | (with_reducible first | exact HB.out | apply below_alloc | apply pw_below_drewN | apply below_drew1 | refine below_set ?_ GE1013.out | refine below_set ?_ GE1039.out) | exact HB.out))))
            have n6_ := Aside0.mk (blk_below (g := gb1013) (o := .cells #[.slice A0_0 l0_0.length c0_0, .slice A0_1 l0_1.length c0_1, .slice A0_2 l0_2.length c0_2, .int .i64 a0_3, .int .i64 a0_4] 25 (0, 0)) (by (with_reducible repeat (first | refine blk_drewN ?_ _ | refine blk_drew ?_ | refine blk_alloc ?_ _)); exact BK1013.out) hb)
            have n7_ := Aside0.mk (blk_below (g := gb1039) (o := .cells #[.slice Ao24 t1028.length co24, .slice Ao27 t1031.length co27, .slice Ao28 t1034.length co28, .int .i64 t1037, .int .i64 t1038] 30 (0, 0)) (by (with_reducible repeat (first | refine blk_drewN ?_ _ | refine blk_drew ?_ | refine blk_alloc ?_ _)); exact BK1039.out) hb)
            have n8_ := Aside0.mk (below_step (by repeat (first | (with_reducible first | exact HB.out | apply below_alloc | apply pw_below_drewN | apply below_drew1 | refine below_set ?_ GE1013.out | refine below_set ?_ GE1039.out) | exact HB.out)) hb)
            clear HO_1040000
            clear HO_1040001
            clear HO_1040002
            clear BK1013
            clear BK1039
            clear HB
            have HO_1040000 := n0_
            have HO_1040001 := n1_
            have HO_1040002 := n2_
            have HO1044 := n3_
            have HO1047 := n4_
            have HO1050 := n5_
            have BK1013 := n6_
            have BK1039 := n7_
            have HB := n8_
            clear n0_ n1_ n2_ n3_ n4_ n5_ n6_ n7_ n8_
            (try clear hb)
            (try clear hb2)
            (try clear hk)
            (try clear hi)
            (try clear ho0)
            (try clear ho1)
            (try clear ho2)
            obtain ⟨Ao37, co37, eo37⟩ := Kd.R_slice HO1044.out
            (first | subst eo37 | (injection eo37 with f1_ f2_ f3_; have f4_ := f1_.symm; have f5_ := f3_.symm; clear f1_ f2_ f3_; subst f4_; subst f5_))
            obtain ⟨Ao38, co38, eo38⟩ := Kd.R_slice HO1047.out
            (first | subst eo38 | (injection eo38 with f1_ f2_ f3_; have f4_ := f1_.symm; have f5_ := f3_.symm; clear f1_ f2_ f3_; subst f4_; subst f5_))
            obtain ⟨Ao39, co39, eo39⟩ := Kd.R_slice HO1050.out
            (first | subst eo39 | (injection eo39 with f1_ f2_ f3_; have f4_ := f1_.symm; have f5_ := f3_.symm; clear f1_ f2_ f3_; subst f4_; subst f5_))
            refine hK.out _ _ ⟨(blk_cell BK1039.out 0).trans rfl, (blk_cell BK1039.out 1).trans rfl, (blk_cell BK1039.out 2).trans rfl, (blk_cell BK1039.out 3).trans rfl, (blk_cell BK1039.out 4).trans rfl, (blk_cell BK1013.out 0).trans rfl, (blk_cell BK1013.out 1).trans rfl, (blk_cell BK1013.out 2).trans rfl, (blk_cell BK1013.out 3).trans rfl, (blk_cell BK1013.out 4).trans rfl⟩ (fun hHeld => ?_)
            clear hK K
            refine norm_ (a' := ?_) ?_ ?_
            rotate_left
            · show Act.put _ (some 37) _ = _
              simp only [Act.put, List.setIfInBounds_toArray, List.set_cons_zero, List.set_cons_succ, i64_w, i32_w]
              rfl
            refine one_ (i := 3) (N := some 38) #[true, true, true, true, false] rfl rfl (by kernel_rfl) (by decide) (fun K hK => ?_)
            refine goes_ Try.func19 (by kernel_rfl) rfl #[.agg #[.slice Ao24 t1028.length co24, .slice Ao27 t1031.length co27, .slice Ao28 t1034.length co28, .int .i64 t1037, .int .i64 t1038], .agg #[.slice Ao37 t1042.length co37, .slice Ao38 t1045.length co38, .slice Ao39 t1048.length co39, .int .i64 t1051, .int .i64 t1052]] (by rfl) rfl rfl (by (try simp only [List.map_toArray, List.map_cons, List.map_nil]); first | done | rfl | (simp only [List.length_drop, List.length_take]; rfl)) ?_
            with_reducible refine (laws_eqExploration.calls kj10 _ _ t1028 _ _ t1031 _ _ t1034 t1037 t1038 _ _ t1042 _ _ t1045 _ _ t1048 t1051 t1052 true _ ?side1 ?side2 ?side3 ?side4 ?side5 ?side6 ?side7 ?side8 ?side9 ?side10 ?side11 ?side12 A33.out).mono ?_
            (case side1 => repeat (first | exact (Kd.R_reads' HO_1040000.out).2.2 | (with_reducible refine Kd.C_alloc ?_ _) | (with_reducible refine Kd.C_drewN ?_ _) | (with_reducible refine Kd.C_drew ?_)))
            (case side2 => exact (Kd.R_reads' HO_1040000.out).2.1)
            (case side3 => repeat (first | exact (Kd.R_reads' HO_1040001.out).2.2 | (with_reducible refine Kd.C_alloc ?_ _) | (with_reducible refine Kd.C_drewN ?_ _) | (with_reducible refine Kd.C_drew ?_)))
            (case side4 => exact (Kd.R_reads' HO_1040001.out).2.1)
            (case side5 => repeat (first | exact (Kd.R_reads' HO_1040002.out).2.2 | (with_reducible refine Kd.C_alloc ?_ _) | (with_reducible refine Kd.C_drewN ?_ _) | (with_reducible refine Kd.C_drew ?_)))
            (case side6 => exact (Kd.R_reads' HO_1040002.out).2.1)
            (case side7 => repeat (first | exact (Kd.R_reads' HO1044.out).2.2 | (with_reducible refine Kd.C_alloc ?_ _) | (with_reducible refine Kd.C_drewN ?_ _) | (with_reducible refine Kd.C_drew ?_)))
            (case side8 => exact (Kd.R_reads' HO1044.out).2.1)
            (case side9 => repeat (first | exact (Kd.R_reads' HO1047.out).2.2 | (with_reducible refine Kd.C_alloc ?_ _) | (with_reducible refine Kd.C_drewN ?_ _) | (with_reducible refine Kd.C_drew ?_)))
            (case side10 => exact (Kd.R_reads' HO1047.out).2.1)
            (case side11 => repeat (first | exact (Kd.R_reads' HO1050.out).2.2 | (with_reducible refine Kd.C_alloc ?_ _) | (with_reducible refine Kd.C_drewN ?_ _) | (with_reducible refine Kd.C_drew ?_)))
            (case side12 => exact (Kd.R_reads' HO1050.out).2.1)
            rintro e w40 ⟨rfl, hb⟩
            refine ⟨_, rfl, ?_⟩
            have n0_ := Aside0.mk (Kd.R_below (by (with_reducible repeat (first | apply Kd.R_alloc | apply Kd.R_drewN | apply Kd.R_drew)); exact HO_1040000.out) hb)
            have n1_ := Aside0.mk (Kd.R_below (by (with_reducible repeat (first | apply Kd.R_alloc | apply Kd.R_drewN | apply Kd.R_drew)); exact HO_1040001.out) hb)
            have n2_ := Aside0.mk (Kd.R_below (by (with_reducible repeat (first | apply Kd.R_alloc | apply Kd.R_drewN | apply Kd.R_drew)); exact HO_1040002.out) hb)
            have n3_ := Aside0.mk (Kd.R_below (by (with_reducible repeat (first | apply Kd.R_alloc | apply Kd.R_drewN | apply Kd.R_drew)); exact HO1044.out) hb)
            have n4_ := Aside0.mk (Kd.R_below (by (with_reducible repeat (first | apply Kd.R_alloc | apply Kd.R_drewN | apply Kd.R_drew)); exact HO1047.out) hb)
            have n5_ := Aside0.mk (Kd.R_below (by (with_reducible repeat (first | apply Kd.R_alloc | apply Kd.R_drewN | apply Kd.R_drew)); exact HO1050.out) hb)
            have n6_ := Aside0.mk (blk_below (g := gb1013) (o := .cells #[.slice A0_0 l0_0.length c0_0, .slice A0_1 l0_1.length c0_1, .slice A0_2 l0_2.length c0_2, .int .i64 a0_3, .int .i64 a0_4] 25 (0, 0)) (by (with_reducible repeat (first | refine blk_drewN ?_ _ | refine blk_drew ?_ | refine blk_alloc ?_ _)); exact BK1013.out) hb)
            have n7_ := Aside0.mk (blk_below (g := gb1039) (o := .cells #[.slice Ao24 t1028.length co24, .slice Ao27 t1031.length co27, .slice Ao28 t1034.length co28, .int .i64 t1037, .int .i64 t1038] 30 (0, 0)) (by (with_reducible repeat (first | refine blk_drewN ?_ _ | refine blk_drew ?_ | refine blk_alloc ?_ _)); exact BK1039.out) hb)
            have n8_ := Aside0.mk (below_step (by repeat (first | (with_reducible first | exact HB.out | apply below_alloc | apply pw_below_drewN | apply below_drew1 | refine below_set ?_ GE1013.out | refine below_set ?_ GE1039.out) | exact HB.out)) hb)
            clear HO_1040000
            clear HO_1040001
            clear HO_1040002
            clear HO1044
            clear HO1047
            clear HO1050
            clear BK1013
            clear BK1039
            clear HB
            have HO_1040000 := n0_
            have HO_1040001 := n1_
            have HO_1040002 := n2_
            have HO1044 := n3_
            have HO1047 := n4_
            have HO1050 := n5_
            have BK1013 := n6_
            have BK1039 := n7_
            have HB := n8_
            clear n0_ n1_ n2_ n3_ n4_ n5_ n6_ n7_ n8_
            (try clear hb)
            (try clear hb2)
            (try clear hk)
            (try clear hi)
            refine hK.out _ _ ⟨(blk_cell BK1039.out 0).trans rfl, (blk_cell BK1039.out 1).trans rfl, (blk_cell BK1039.out 2).trans rfl, (blk_cell BK1039.out 3).trans rfl, (blk_cell BK1039.out 4).trans rfl, (blk_cell BK1013.out 0).trans rfl, (blk_cell BK1013.out 1).trans rfl, (blk_cell BK1013.out 2).trans rfl, (blk_cell BK1013.out 3).trans rfl, (blk_cell BK1013.out 4).trans rfl⟩ (fun hHeld => ?_)
            clear hK K
            refine norm_ (a' := ?_) ?_ ?_
            rotate_left
            · show Act.put _ (some 38) _ = _
              simp only [Act.put, List.setIfInBounds_toArray, List.set_cons_zero, List.set_cons_succ, i64_w, i32_w]
              rfl
            refine pure_ (i := 4) (N := some 39) (v := ?_) (a' := ?_) #[true, true, true, true, true] rfl rfl (by kernel_rfl) (fun _ _ _ h => h) (Or.inl ⟨by rfl, ?_⟩) ?_ ?_
            rotate_left
            · intro w'
              go_simp
              with_reducible rfl
            rotate_left
            · simp only [Act.put, List.setIfInBounds_toArray, List.set_cons_zero, List.set_cons_succ, i64_w, i32_w]
              rfl
            refine done_ (by kernel_rfl) ?_
            try go_wp2
            go_ret
            exact ⟨by first | rfl | (simp [errW_none, errW_some] <;> rfl) | (simp [*, errW_none, errW_some] <;> rfl), by repeat (first | (with_reducible first | exact HB.out | apply below_alloc | apply pw_below_drewN | apply below_drew1 | refine below_set ?_ GE1013.out | refine below_set ?_ GE1039.out) | exact HB.out)⟩
          · replace c34 := Bool.eq_false_iff.mpr c34
            subst c34
            have H1 : (some false) = some r := by rw [if_neg (show ¬ (false = true) by decide)] at H; exact H
            clear H
            have H := H1
            clear H1
            obtain rfl := Option.some.inj H
            try go_wp2
            have n0_ := Aside0.mk (Kd.R_drew HO_1040000.out)
            have n1_ := Aside0.mk (Kd.R_drew HO_1040001.out)
            have n2_ := Aside0.mk (Kd.R_drew HO_1040002.out)
            have n3_ := Aside0.mk (blk_drew BK1013.out)
            have n4_ := Aside0.mk (blk_drew BK1039.out)
            have n5_ := Aside0.mk (below_drew1 HB.out)
            clear HO_1040000
            clear HO_1040001
            clear HO_1040002
            clear BK1013
            clear BK1039
            clear HB
            have HO_1040000 := n0_
            have HO_1040001 := n1_
            have HO_1040002 := n2_
            have BK1013 := n3_
            have BK1039 := n4_
            have HB := n5_
            clear n0_ n1_ n2_ n3_ n4_ n5_
            refine start_ (n := 5) (S := fun w' => w'.cell? ⟨gb1039, 0, none⟩ = some (.slice Ao24 t1028.length co24) ∧ w'.cell? ⟨gb1039, 1, none⟩ = some (.slice Ao27 t1031.length co27) ∧ w'.cell? ⟨gb1039, 2, none⟩ = some (.slice Ao28 t1034.length co28) ∧ w'.cell? ⟨gb1039, 3, none⟩ = some (.int .i64 t1037) ∧ w'.cell? ⟨gb1039, 4, none⟩ = some (.int .i64 t1038) ∧ w'.cell? ⟨gb1013, 0, none⟩ = some (.slice A0_0 l0_0.length c0_0) ∧ w'.cell? ⟨gb1013, 1, none⟩ = some (.slice A0_1 l0_1.length c0_1) ∧ w'.cell? ⟨gb1013, 2, none⟩ = some (.slice A0_2 l0_2.length c0_2) ∧ w'.cell? ⟨gb1013, 3, none⟩ = some (.int .i64 a0_3) ∧ w'.cell? ⟨gb1013, 4, none⟩ = some (.int .i64 a0_4)) (ds := []) #[false, false, false, false, false] (by kernel_rfl) rfl rfl ⟨(blk_cell BK1039.out 0).trans rfl, (blk_cell BK1039.out 1).trans rfl, (blk_cell BK1039.out 2).trans rfl, (blk_cell BK1039.out 3).trans rfl, (blk_cell BK1039.out 4).trans rfl, (blk_cell BK1013.out 0).trans rfl, (blk_cell BK1013.out 1).trans rfl, (blk_cell BK1013.out 2).trans rfl, (blk_cell BK1013.out 3).trans rfl, (blk_cell BK1013.out 4).trans rfl⟩ (fun hHeld => ?_)
            generalize wc.drew = w41 at HO_1040000 HO_1040001 HO_1040002 BK1013 BK1039 HB hHeld ⊢
            refine take_ (i := 0) (N := some 35) (v := ?_) (a' := ?_) #[true, false, false, false, false] rfl rfl (by kernel_rfl) (fun _ _ _ h => h) (Or.inl ⟨by rfl, ?_⟩) hHeld ?_ ?_
            rotate_left
            · rintro w' ⟨s0, s1, s2, s3, s4, s5, s6, s7, s8, s9⟩
              go_simp
              with_reducible rfl
            rotate_left
            · simp only [Act.put, List.setIfInBounds_toArray, List.set_cons_zero, List.set_cons_succ, i64_w, i32_w]
              rfl
            refine take_ (i := 1) (N := some 36) (v := ?_) (a' := ?_) #[true, true, false, false, false] rfl rfl (by kernel_rfl) (fun _ _ _ h => h) (Or.inl ⟨by rfl, ?_⟩) hHeld ?_ ?_
            rotate_left
            · rintro w' ⟨s0, s1, s2, s3, s4, s5, s6, s7, s8, s9⟩
              go_simp
              with_reducible rfl
            rotate_left
            · simp only [Act.put, List.setIfInBounds_toArray, List.set_cons_zero, List.set_cons_succ, i64_w, i32_w]
              rfl
            refine one_ (i := 2) (N := some 37) #[true, true, true, false, false] rfl rfl (by kernel_rfl) (by decide) (fun K hK => ?_)
            refine goes_ Try.func17 (by kernel_rfl) rfl #[.agg #[.slice A0_0 l0_0.length c0_0, .slice A0_1 l0_1.length c0_1, .slice A0_2 l0_2.length c0_2, .int .i64 a0_3, .int .i64 a0_4]] (by rfl) rfl rfl (by (try simp only [List.map_toArray, List.map_cons, List.map_nil]); first | done | rfl | (simp only [List.length_drop, List.length_take]; rfl)) ?_
            with_reducible refine (laws_toExploration.calls kj10 _ _ l0_0 _ _ l0_1 _ _ l0_2 a0_3 a0_4 t1042 t1045 t1048 t1051 t1052 _ ?side1 ?side2 ?side3 ?side4 ?side5 ?side6 A32.out).mono ?_
            (case side1 => repeat (first | exact (Kd.C_below HR0_0.out HB.out) | (with_reducible refine Kd.C_alloc ?_ _) | (with_reducible refine Kd.C_drewN ?_ _) | (with_reducible refine Kd.C_drew ?_)))
            (case side2 => exact HC0_0.out)
            (case side3 => repeat (first | exact (Kd.C_below HR0_1.out HB.out) | (with_reducible refine Kd.C_alloc ?_ _) | (with_reducible refine Kd.C_drewN ?_ _) | (with_reducible refine Kd.C_drew ?_)))
            (case side4 => exact HC0_1.out)
            (case side5 => repeat (first | exact (Kd.C_below HR0_2.out HB.out) | (with_reducible refine Kd.C_alloc ?_ _) | (with_reducible refine Kd.C_drewN ?_ _) | (with_reducible refine Kd.C_drew ?_)))
            (case side6 => exact HC0_2.out)
            rintro e w42 ⟨v1043, v1046, v1049, rfl, ho0, ho1, ho2, hb⟩
            refine ⟨_, rfl, ?_⟩
            have n0_ := Aside0.mk (Kd.R_elder' (by (with_reducible repeat (first | apply Kd.R_alloc | apply Kd.R_drewN | apply Kd.R_drew)); exact HO_1040000.out) (Kd.R_base ho0) hb)
            have n1_ := Aside0.mk (Kd.R_mono (Kd.R_told (Kd.R_told (Kd.R_old (by (with_reducible repeat (first | apply Kd.R_alloc | apply Kd.R_drewN | apply Kd.R_drew)); exact HO_1040001.out) hb) (Kd.R_base ho1)) (Kd.R_base ho2)) (fun _ h_ => h_.1))
            have n2_ := Aside0.mk (Kd.R_mono (Kd.R_told (Kd.R_told (Kd.R_old (by (with_reducible repeat (first | apply Kd.R_alloc | apply Kd.R_drewN | apply Kd.R_drew)); exact HO_1040002.out) hb) (Kd.R_base ho1)) (Kd.R_base ho2)) (fun _ h_ => h_.1))
            have n3_ := Aside0.mk (Kd.R_lower (Kd.R_new' ho0 (Kd.R_lt (by (with_reducible repeat (first | apply Kd.R_alloc | apply Kd.R_drewN | apply Kd.R_drew)); exact HO_1040000.out))) (below_size (by repeat (first | (with_reducible first | exact HB.out | apply below_alloc | apply pw_below_drewN | apply below_drew1 | refine below_set ?_ GE1013.out | refine below_set ?_ GE1039.out) | exact HB.out))))
            have n4_ := Aside0.mk (Kd.R_lower (Kd.R_new' (Kd.R_new' ho1 (Kd.R_lt (by (with_reducible repeat (first | apply Kd.R_alloc | apply Kd.R_drewN | apply Kd.R_drew)); exact HO_1040001.out))) (Kd.R_lt (by (with_reducible repeat (first | apply Kd.R_alloc | apply Kd.R_drewN | apply Kd.R_drew)); exact HO_1040002.out))) (below_size (by repeat (first | (with_reducible first | exact HB.out | apply below_alloc | apply pw_below_drewN | apply below_drew1 | refine below_set ?_ GE1013.out | refine below_set ?_ GE1039.out) | exact HB.out))))
            have n5_ := Aside0.mk (Kd.R_lower (Kd.R_new' (Kd.R_new' ho2 (Kd.R_lt (by (with_reducible repeat (first | apply Kd.R_alloc | apply Kd.R_drewN | apply Kd.R_drew)); exact HO_1040001.out))) (Kd.R_lt (by (with_reducible repeat (first | apply Kd.R_alloc | apply Kd.R_drewN | apply Kd.R_drew)); exact HO_1040002.out))) (below_size (by repeat (first | (with_reducible first | exact HB.out | apply below_alloc | apply pw_below_drewN | apply below_drew1 | refine below_set ?_ GE1013.out | refine below_set ?_ GE1039.out) | exact HB.out))))
            have n6_ := Aside0.mk (blk_below (g := gb1013) (o := .cells #[.slice A0_0 l0_0.length c0_0, .slice A0_1 l0_1.length c0_1, .slice A0_2 l0_2.length c0_2, .int .i64 a0_3, .int .i64 a0_4] 25 (0, 0)) (by (with_reducible repeat (first | refine blk_drewN ?_ _ | refine blk_drew ?_ | refine blk_alloc ?_ _)); exact BK1013.out) hb)
            have n7_ := Aside0.mk (blk_below (g := gb1039) (o := .cells #[.slice Ao24 t1028.length co24, .slice Ao27 t1031.length co27, .slice Ao28 t1034.length co28, .int .i64 t1037, .int .i64 t1038] 30 (0, 0)) (by (with_reducible repeat (first | refine blk_drewN ?_ _ | refine blk_drew ?_ | refine blk_alloc ?_ _)); exact BK1039.out) hb)
            have n8_ := Aside0.mk (below_step (by repeat (first | (with_reducible first | exact HB.out | apply below_alloc | apply pw_below_drewN | apply below_drew1 | refine below_set ?_ GE1013.out | refine below_set ?_ GE1039.out) | exact HB.out)) hb)
            clear HO_1040000
            clear HO_1040001
            clear HO_1040002
            clear BK1013
            clear BK1039
            clear HB
            have HO_1040000 := n0_
            have HO_1040001 := n1_
            have HO_1040002 := n2_
            have HO1044 := n3_
            have HO1047 := n4_
            have HO1050 := n5_
            have BK1013 := n6_
            have BK1039 := n7_
            have HB := n8_
            clear n0_ n1_ n2_ n3_ n4_ n5_ n6_ n7_ n8_
            (try clear hb)
            (try clear hb2)
            (try clear hk)
            (try clear hi)
            (try clear ho0)
            (try clear ho1)
            (try clear ho2)
            obtain ⟨Ao43, co43, eo43⟩ := Kd.R_slice HO1044.out
            (first | subst eo43 | (injection eo43 with f1_ f2_ f3_; have f4_ := f1_.symm; have f5_ := f3_.symm; clear f1_ f2_ f3_; subst f4_; subst f5_))
            obtain ⟨Ao44, co44, eo44⟩ := Kd.R_slice HO1047.out
            (first | subst eo44 | (injection eo44 with f1_ f2_ f3_; have f4_ := f1_.symm; have f5_ := f3_.symm; clear f1_ f2_ f3_; subst f4_; subst f5_))
            obtain ⟨Ao45, co45, eo45⟩ := Kd.R_slice HO1050.out
            (first | subst eo45 | (injection eo45 with f1_ f2_ f3_; have f4_ := f1_.symm; have f5_ := f3_.symm; clear f1_ f2_ f3_; subst f4_; subst f5_))
            refine hK.out _ _ ⟨(blk_cell BK1039.out 0).trans rfl, (blk_cell BK1039.out 1).trans rfl, (blk_cell BK1039.out 2).trans rfl, (blk_cell BK1039.out 3).trans rfl, (blk_cell BK1039.out 4).trans rfl, (blk_cell BK1013.out 0).trans rfl, (blk_cell BK1013.out 1).trans rfl, (blk_cell BK1013.out 2).trans rfl, (blk_cell BK1013.out 3).trans rfl, (blk_cell BK1013.out 4).trans rfl⟩ (fun hHeld => ?_)
            clear hK K
            refine norm_ (a' := ?_) ?_ ?_
            rotate_left
            · show Act.put _ (some 37) _ = _
              simp only [Act.put, List.setIfInBounds_toArray, List.set_cons_zero, List.set_cons_succ, i64_w, i32_w]
              rfl
            refine one_ (i := 3) (N := some 38) #[true, true, true, true, false] rfl rfl (by kernel_rfl) (by decide) (fun K hK => ?_)
            refine goes_ Try.func19 (by kernel_rfl) rfl #[.agg #[.slice Ao24 t1028.length co24, .slice Ao27 t1031.length co27, .slice Ao28 t1034.length co28, .int .i64 t1037, .int .i64 t1038], .agg #[.slice Ao43 t1042.length co43, .slice Ao44 t1045.length co44, .slice Ao45 t1048.length co45, .int .i64 t1051, .int .i64 t1052]] (by rfl) rfl rfl (by (try simp only [List.map_toArray, List.map_cons, List.map_nil]); first | done | rfl | (simp only [List.length_drop, List.length_take]; rfl)) ?_
            with_reducible refine (laws_eqExploration.calls kj10 _ _ t1028 _ _ t1031 _ _ t1034 t1037 t1038 _ _ t1042 _ _ t1045 _ _ t1048 t1051 t1052 false _ ?side1 ?side2 ?side3 ?side4 ?side5 ?side6 ?side7 ?side8 ?side9 ?side10 ?side11 ?side12 A33.out).mono ?_
            (case side1 => repeat (first | exact (Kd.R_reads' HO_1040000.out).2.2 | (with_reducible refine Kd.C_alloc ?_ _) | (with_reducible refine Kd.C_drewN ?_ _) | (with_reducible refine Kd.C_drew ?_)))
            (case side2 => exact (Kd.R_reads' HO_1040000.out).2.1)
            (case side3 => repeat (first | exact (Kd.R_reads' HO_1040001.out).2.2 | (with_reducible refine Kd.C_alloc ?_ _) | (with_reducible refine Kd.C_drewN ?_ _) | (with_reducible refine Kd.C_drew ?_)))
            (case side4 => exact (Kd.R_reads' HO_1040001.out).2.1)
            (case side5 => repeat (first | exact (Kd.R_reads' HO_1040002.out).2.2 | (with_reducible refine Kd.C_alloc ?_ _) | (with_reducible refine Kd.C_drewN ?_ _) | (with_reducible refine Kd.C_drew ?_)))
            (case side6 => exact (Kd.R_reads' HO_1040002.out).2.1)
            (case side7 => repeat (first | exact (Kd.R_reads' HO1044.out).2.2 | (with_reducible refine Kd.C_alloc ?_ _) | (with_reducible refine Kd.C_drewN ?_ _) | (with_reducible refine Kd.C_drew ?_)))
            (case side8 => exact (Kd.R_reads' HO1044.out).2.1)
            (case side9 => repeat (first | exact (Kd.R_reads' HO1047.out).2.2 | (with_reducible refine Kd.C_alloc ?_ _) | (with_reducible refine Kd.C_drewN ?_ _) | (with_reducible refine Kd.C_drew ?_)))
            (case side10 => exact (Kd.R_reads' HO1047.out).2.1)
            (case side11 => repeat (first | exact (Kd.R_reads' HO1050.out).2.2 | (with_reducible refine Kd.C_alloc ?_ _) | (with_reducible refine Kd.C_drewN ?_ _) | (with_reducible refine Kd.C_drew ?_)))
            (case side12 => exact (Kd.R_reads' HO1050.out).2.1)
            rintro e w46 ⟨rfl, hb⟩
            refine ⟨_, rfl, ?_⟩
            have n0_ := Aside0.mk (Kd.R_below (by (with_reducible repeat (first | apply Kd.R_alloc | apply Kd.R_drewN | apply Kd.R_drew)); exact HO_1040000.out) hb)
            have n1_ := Aside0.mk (Kd.R_below (by (with_reducible repeat (first | apply Kd.R_alloc | apply Kd.R_drewN | apply Kd.R_drew)); exact HO_1040001.out) hb)
            have n2_ := Aside0.mk (Kd.R_below (by (with_reducible repeat (first | apply Kd.R_alloc | apply Kd.R_drewN | apply Kd.R_drew)); exact HO_1040002.out) hb)
            have n3_ := Aside0.mk (Kd.R_below (by (with_reducible repeat (first | apply Kd.R_alloc | apply Kd.R_drewN | apply Kd.R_drew)); exact HO1044.out) hb)
            have n4_ := Aside0.mk (Kd.R_below (by (with_reducible repeat (first | apply Kd.R_alloc | apply Kd.R_drewN | apply Kd.R_drew)); exact HO1047.out) hb)
            have n5_ := Aside0.mk (Kd.R_below (by (with_reducible repeat (first | apply Kd.R_alloc | apply Kd.R_drewN | apply Kd.R_drew)); exact HO1050.out) hb)
            have n6_ := Aside0.mk (blk_below (g := gb1013) (o := .cells #[.slice A0_0 l0_0.length c0_0, .slice A0_1 l0_1.length c0_1, .slice A0_2 l0_2.length c0_2, .int .i64 a0_3, .int .i64 a0_4] 25 (0, 0)) (by (with_reducible repeat (first | refine blk_drewN ?_ _ | refine blk_drew ?_ | refine blk_alloc ?_ _)); exact BK1013.out) hb)
            have n7_ := Aside0.mk (blk_below (g := gb1039) (o := .cells #[.slice Ao24 t1028.length co24, .slice Ao27 t1031.length co27, .slice Ao28 t1034.length co28, .int .i64 t1037, .int .i64 t1038] 30 (0, 0)) (by (with_reducible repeat (first | refine blk_drewN ?_ _ | refine blk_drew ?_ | refine blk_alloc ?_ _)); exact BK1039.out) hb)
            have n8_ := Aside0.mk (below_step (by repeat (first | (with_reducible first | exact HB.out | apply below_alloc | apply pw_below_drewN | apply below_drew1 | refine below_set ?_ GE1013.out | refine below_set ?_ GE1039.out) | exact HB.out)) hb)
            clear HO_1040000
            clear HO_1040001
            clear HO_1040002
            clear HO1044
            clear HO1047
            clear HO1050
            clear BK1013
            clear BK1039
            clear HB
            have HO_1040000 := n0_
            have HO_1040001 := n1_
            have HO_1040002 := n2_
            have HO1044 := n3_
            have HO1047 := n4_
            have HO1050 := n5_
            have BK1013 := n6_
            have BK1039 := n7_
            have HB := n8_
            clear n0_ n1_ n2_ n3_ n4_ n5_ n6_ n7_ n8_
            (try clear hb)
            (try clear hb2)
            (try clear hk)
            (try clear hi)
            refine hK.out _ _ ⟨(blk_cell BK1039.out 0).trans rfl, (blk_cell BK1039.out 1).trans rfl, (blk_cell BK1039.out 2).trans rfl, (blk_cell BK1039.out 3).trans rfl, (blk_cell BK1039.out 4).trans rfl, (blk_cell BK1013.out 0).trans rfl, (blk_cell BK1013.out 1).trans rfl, (blk_cell BK1013.out 2).trans rfl, (blk_cell BK1013.out 3).trans rfl, (blk_cell BK1013.out 4).trans rfl⟩ (fun hHeld => ?_)
            clear hK K
            refine norm_ (a' := ?_) ?_ ?_
            rotate_left
            · show Act.put _ (some 38) _ = _
              simp only [Act.put, List.setIfInBounds_toArray, List.set_cons_zero, List.set_cons_succ, i64_w, i32_w]
              rfl
            refine pure_ (i := 4) (N := some 39) (v := ?_) (a' := ?_) #[true, true, true, true, true] rfl rfl (by kernel_rfl) (fun _ _ _ h => h) (Or.inl ⟨by rfl, ?_⟩) ?_ ?_
            rotate_left
            · intro w'
              go_simp
              with_reducible rfl
            rotate_left
            · simp only [Act.put, List.setIfInBounds_toArray, List.set_cons_zero, List.set_cons_succ, i64_w, i32_w]
              rfl
            refine done_ (by kernel_rfl) ?_
            try go_wp2
            go_ret
            exact ⟨by first | rfl | (simp [errW_none, errW_some] <;> rfl) | (simp [*, errW_none, errW_some] <;> rfl), by repeat (first | (with_reducible first | exact HB.out | apply below_alloc | apply pw_below_drewN | apply below_drew1 | refine below_set ?_ GE1013.out | refine below_set ?_ GE1039.out) | exact HB.out)⟩

end Go.Proofs.Ythmjimboajmhmaa.Pr

/-
What is proved: an argument that reads as data (a slice, a struct, nested) is of a kind, as the printed contracts ask it.
Conditions: none beyond the type's own cells; sizes come out of the row's weights.
-/
namespace Go.Proofs.YthmjimboajmhmaaW.Opens
open Go.ChangeShapes Go.WideShapes Go.RowKit
open Go.Deep (open_slice choose_lt)
open Go.Proofs.YthmjimboajmhmaaW.PrintWords
set_option linter.unusedVariables false
set_option linter.unusedSimpArgs false

/-- The cells of type t, read as data, are of the kind d. -/
def Opn {α : Type} (P : Program) (t : TypeId) (d : Kd α) (wf : α → Prop) : Prop :=
  P.cellsOf t = d.sz ∧ ∀ (H : Type) (enc : TypeId × Value → H) (W : World) (fuel : Nat) (cs : List Value) (x : DataW H × List MemPlace),
    DataW.trod enc P W 0 (fun _ => true) true fuel t cs = some x → (∀ n ∈ x.1.weights P t, n ≤ reachBytes) → ∃ y, d.K W y cs ∧ wf y

theorem Opn.int {P : Program} {t : TypeId} {k : IntKind} (hc : P.cellsOf t = 1) (ht : P.underlying t = some (.int k)) : Opn P t (Kd.int k) (fun n => (Lit.int k n).wf = true) :=
  ⟨hc, fun H enc W fuel cs x h _ => by
    obtain ⟨m, rfl, rfl, hw⟩ := DataW.trod_int ht h
    exact ⟨m, rfl, hw⟩⟩
theorem Opn.bool {P : Program} {t : TypeId} (hc : P.cellsOf t = 1) (ht : P.underlying t = some .bool) : Opn P t Kd.bool (fun _ => True) :=
  ⟨hc, fun H enc W fuel cs x h _ => by
    obtain ⟨m, rfl, rfl⟩ := DataW.trod_bool ht h
    exact ⟨m, rfl, trivial⟩⟩
theorem Opn.string {P : Program} {t : TypeId} (hc : P.cellsOf t = 1) (ht : P.underlying t = some .string) : Opn P t Kd.string (fun s => s.size ≤ 140737488351232) :=
  ⟨hc, fun H enc W fuel cs x h hw => by
    obtain ⟨m, rfl, rfl, hm⟩ := DataW.trod_string ht h
    have := hw m.data.toList.length (by simp [DataW.weights])
    rw [Array.length_toList] at this
    exact ⟨m, rfl, this⟩⟩

theorem weightsAll_mem {H : Type} {P : Program} {e : TypeId} : ∀ {l : List (DataW H)} {d : DataW H}, d ∈ l → ∀ n ∈ d.weights P e, n ∈ DataW.weightsAll P e l
  | _ :: r, d, h, n, hn => by
    simp only [DataW.weightsAll, List.mem_append]
    rcases List.mem_cons.1 h with rfl | h
    · exact .inl hn
    · exact .inr (weightsAll_mem h n hn)

theorem Opn.slice {α : Type} (z : α) {P : Program} {t e : TypeId} {d : Kd α} {wf : α → Prop} {B : Nat} (hc : P.cellsOf t = 1) (ht : P.underlying t = some (.slice e)) (hB : P.bytesOf e = B) (h : Opn P e d wf) :
    Opn P t (Kd.slice e d) (fun xs => xs.length ≤ maxLen ∧ xs.length * B ≤ 140737488351232 ∧ ∀ y ∈ xs, wf y) :=
  ⟨hc, fun H enc W fuel cs x hf hw => by
    haveI : Inhabited α := ⟨z⟩
    rcases open_slice ht hf with ⟨rfl, rfl⟩ | ⟨a, len, cap, m, n, D, Pl, rfl, _, hl, hm, hmm, rfl, each⟩
    · exact ⟨[], ⟨none, 0, rfl, Nat.le_refl _, rfl, by simp, fun h => absurd h (Nat.lt_irrefl 0)⟩, by simp, by simp, by simp⟩
    · rw [if_pos rfl] at hmm
      subst hmm
      have hw0 : ∀ n ∈ DataW.weights P t (DataW.slice (H := H) ((List.range len).map D) ((List.range (m - len)).map fun j => D (len + j))), n ≤ reachBytes := hw
      have hww : ∀ i, i < len → ∀ n ∈ (D i).weights P e, n ≤ reachBytes := by
        intro i hi n hn
        refine hw0 n ?_
        simp only [DataW.weights, ht, List.mem_cons, List.mem_append]
        exact .inr (.inl (weightsAll_mem (List.mem_map.2 ⟨i, List.mem_range.2 hi, rfl⟩) n hn))
      have hB2 : len * B ≤ 140737488351232 := by
        have := hw0 ((len + (m - len)) * B) (by simp [DataW.weights, ht, hB])
        refine Nat.le_trans (Nat.mul_le_mul_right _ (by omega)) this
      have hx : ∀ i, i < len → ∃ y, ∃ c : List Value, c.length = d.sz ∧ d.K W y c ∧ wf y ∧ ∀ j u, c[j]? = some u → W.cell? (a.add (i * d.sz + j)) = some u := by
        intro i hi
        obtain ⟨cs', h1, h2⟩ := each i (by omega)
        obtain ⟨y, hy, hwy⟩ := h.2 H enc W n cs' _ h2 (hww i hi)
        obtain ⟨_, hlen, hcell⟩ := World.cells?_some h1
        rw [h.1] at hlen hcell
        refine ⟨y, cs', hlen, hy, hwy, fun j u hu => ?_⟩
        have hj : j < d.sz := by
          have := (List.getElem?_eq_some_iff.1 hu).1
          omega
        have := hcell j hj
        rw [add_add] at this
        exact this.trans hu
      obtain ⟨f, hf'⟩ := choose_lt hx
      refine ⟨(List.range len).map f, ⟨some a, m, by simp, by simpa using hl, by simp, by simp only [maxLen] at hm; simp; omega, fun _ => ⟨a, rfl, fun j p hj => ?_⟩⟩, ?_, ?_, ?_⟩
      · rw [List.getElem?_map] at hj
        have hj' : j < len := by
          by_cases hjl : j < len
          · exact hjl
          · rw [List.getElem?_eq_none (by simp; omega)] at hj
            cases hj
        rw [List.getElem?_range hj'] at hj
        obtain rfl := Option.some.inj hj
        obtain ⟨c, h1, h2, _, h3⟩ := hf' j hj'
        exact ⟨c, h1, h2, h3⟩
      · simp; omega
      · simpa using hB2
      · intro y hy
        obtain ⟨i, hi, rfl⟩ := List.mem_map.1 hy
        obtain ⟨c, _, _, h2, _⟩ := hf' i (List.mem_range.1 hi)
        exact h2⟩

/-- The fields fs, from the cell off on, are of the kind d. -/
def FOpn {α : Type} (P : Program) (fs : List Field) (off : Nat) (d : Kd α) (wf : α → Prop) : Prop :=
  ∀ (H : Type) (enc : TypeId × Value → H) (W : World) (fuel : Nat) (cs : List Value) (xs : List (DataW H × List MemPlace)),
    xs.length = fs.length → (∀ (i : Nat) (f : Field), fs[i]? = some f → DataW.trod enc P W 0 (fun _ => true) true fuel f.type ((cs.drop f.offset).take (P.cellsOf f.type)) = xs[i]?) →
    (∀ n ∈ DataW.weightsEach P (fs.map (·.type)) (xs.map (·.1)), n ≤ reachBytes) → ∃ y, d.K W y ((cs.drop off).take d.sz) ∧ wf y
theorem FOpn.one {α : Type} {P : Program} {f : Field} {off : Nat} {d : Kd α} {wf : α → Prop} (ho : f.offset = off) (h : Opn P f.type d wf) : FOpn P [f] off d wf := by
  intro H enc W fuel cs xs hl hx hw
  match xs, hl with
  | [x], _ =>
    have h0 := hx 0 f rfl
    rw [ho, h.1] at h0
    exact h.2 H enc W fuel _ x h0 (fun n hn => hw n (by simp only [List.map, DataW.weightsEach, List.mem_append]; exact .inl hn))
theorem FOpn.cons {α β : Type} {P : Program} {f : Field} {fs : List Field} {off : Nat} {d : Kd α} {d' : Kd β} {wf : α → Prop} {wf' : β → Prop} (ho : f.offset = off) (h : Opn P f.type d wf) (h' : FOpn P fs (off + d.sz) d' wf') :
    FOpn P (f :: fs) off (Kd.pair d d') (fun x => wf x.1 ∧ wf' x.2) := by
  intro H enc W fuel cs xs hl hx hw
  match xs, hl with
  | x :: xs, hl =>
    have h0 := hx 0 f rfl
    rw [ho, h.1] at h0
    have hw' : ∀ n ∈ x.1.weights P f.type ++ DataW.weightsEach P (fs.map (·.type)) (xs.map (·.1)), n ≤ reachBytes := hw
    obtain ⟨y, hy, hwy⟩ := h.2 H enc W fuel _ x h0 (fun n hn => hw' n (List.mem_append_left _ hn))
    obtain ⟨y', hy', hwy'⟩ := h' H enc W fuel cs xs (by simpa using hl) (fun i f' hf' => hx (i + 1) f' (by simpa using hf')) (fun n hn => hw' n (List.mem_append_right _ hn))
    refine ⟨(y, y'), ⟨_, _, ?_, hy, hy'⟩, hwy, hwy'⟩
    show (cs.drop off).take (d.sz + d'.sz) = _
    rw [List.take_add, List.drop_drop]
theorem Opn.struct {α β : Type} {P : Program} {t : TypeId} {fs : Array Field} {d : Kd α} {wf : α → Prop} (f : β → α) (g : α → β) (hfg : ∀ x, f (g x) = x) (hc : P.cellsOf t = d.sz) (ht : P.underlying t = some (.struct fs)) (h : FOpn P fs.toList 0 d wf) :
    Opn P t (Kd.iso d f) (fun x => wf (f x)) :=
  ⟨hc, fun H enc W fuel cs x hf hw => by
    obtain ⟨xs, n, rfl, rfl, hl, hxs, each⟩ := DataW.trod_struct ht hf
    obtain ⟨y, hy, hwy⟩ := h H enc W n cs xs (by simpa using hxs) (fun i f' hf' => each i f' (by simpa using hf')) (fun n hn => hw n (by simp only [DataW.weights, ht]; exact hn))
    rw [List.drop_zero, List.take_of_length_le (by rw [hl, hc]; exact Nat.le_refl _)] at hy
    exact ⟨g y, (by rw [← hfg y] at hy; exact hy), (by rw [← hfg y] at hwy; exact hwy)⟩⟩

/-- A parameter: what its weights allow. -/
theorem par_weights {H : Type} {P : Program} {ts : List TypeId} {ds : List (DataW H)} {j : Nat} {t : TypeId} {d : DataW H} (h : (DataW.weightsEach P ts ds).all (· ≤ reachBytes) = true) (ht : ts[j]? = some t) (hd : ds[j]? = some d) :
    ∀ n ∈ d.weights P t, n ≤ reachBytes := fun n hn => of_decide_eq_true (List.all_eq_true.1 h n (DataW.weights_mem_each ht hd n hn))
/-- A slice that came in. -/
theorem par_slice {α : Type} {H : Type} {enc : TypeId × Value → H} {P : Program} {W : World} {r : Reach} {b0 : Nat} {t e : TypeId} {d : Kd α} {wf : List α → Prop} {v : Value} {D : DataW H} {ps : List MemPlace}
    (ht : P.underlying t = some (.slice e)) (ho : Opn P t (Kd.slice e d) wf) (hv : Value.okWide P W r b0 t v) (hd : DataW.Trod enc P W 0 (fun _ => true) true t v D ps) (hw : ∀ n ∈ D.weights P t, n ≤ reachBytes) :
    ∃ (A : Option Addr) (l : List α) (c : Nat), v = .slice A l.length c ∧ l.length ≤ c ∧ d.C W A l.length l ∧ wf l := by
  obtain ⟨A, len, cap, rfl⟩ := okWide_slice ht hv
  obtain ⟨fuel, hf⟩ := hd
  obtain ⟨l, ⟨A', c, he, hl, hC⟩, hwl⟩ := ho.2 H enc W fuel _ _ hf hw
  have he' : [Value.slice A len cap] = [.slice A' l.length c] := he
  simp only [List.cons.injEq, Value.slice.injEq, and_true] at he'
  obtain ⟨rfl, rfl, rfl⟩ := he'
  exact ⟨_, l, _, rfl, hl, hC, hwl⟩
/-- A struct that came in. -/
theorem par_struct {α : Type} {H : Type} {enc : TypeId × Value → H} {P : Program} {W : World} {r : Reach} {b0 : Nat} {t : TypeId} {fs : Array Field} {d : Kd α} {wf : α → Prop} {v : Value} {D : DataW H} {ps : List MemPlace}
    (ht : P.underlying t = some (.struct fs)) (ho : Opn P t d wf) (hv : Value.okWide P W r b0 t v) (hd : DataW.Trod enc P W 0 (fun _ => true) true t v D ps) (hw : ∀ n ∈ D.weights P t, n ≤ reachBytes) :
    ∃ (cs : List Value) (x : α), v = .agg cs.toArray ∧ d.K W x cs ∧ wf x := by
  obtain ⟨cs, rfl, _⟩ := okWide_struct ht hv
  obtain ⟨fuel, hf⟩ := hd
  obtain ⟨y, hy, hwy⟩ := ho.2 H enc W fuel _ _ hf hw
  exact ⟨cs.toList, y, by simp, hy, hwy⟩
end Go.Proofs.YthmjimboajmhmaaW.Opens

/-
What is stated: the law FnExactSpareLight over numbers and lists alone (its printed function answers true).
Conditions: what each argument's own type and size allow.
-/
namespace Go.Proofs.Ythmjimboajmhmaa.Pr
open Go.RowKit Go.Proofs.YthmjimboajmhmaaW.PrintWords Go.Proofs.YthmjimboajmhmaaW.PrintLast Go.Proofs.YthmjimboajmhmaaW.Opens
set_option linter.unusedVariables false
structure S25 where
  f0 : (List S65)
  f1 : (List Bool)
  f2 : (List Bool)
  f3 : Int
  f4 : Int
def z25 : S25 := ⟨[], [], [], (0 : Int), (0 : Int)⟩
def k25 : Kd S25 := Kd.iso (Kd.pair (Kd.slice 65 k65) (Kd.pair (Kd.slice 4 Kd.bool) (Kd.pair (Kd.slice 4 Kd.bool) (Kd.pair (Kd.int .i64) (Kd.int .i64))))) (fun x : S25 => (x.f0, x.f1, x.f2, x.f3, x.f4))
def wf65 (x : S65) : Prop := (Lit.int .i64 x.f0).wf = true ∧ (Lit.int .i64 x.f1).wf = true ∧ (Lit.int .i64 x.f2).wf = true ∧ (Lit.int .i64 x.f3).wf = true ∧ (Lit.int .i64 x.f4).wf = true
theorem opn65 : Opn Try.prog 65 k65 wf65 := Opn.struct (fun x : S65 => (x.f0, x.f1, x.f2, x.f3, x.f4)) (fun p => ⟨p.1, p.2.1, p.2.2.1, p.2.2.2.1, p.2.2.2.2⟩) (fun _ => rfl) (by kernel_rfl) Try.underlying65 (FOpn.cons rfl (Opn.int (by kernel_rfl) Try.underlying3) (FOpn.cons rfl (Opn.int (by kernel_rfl) Try.underlying3) (FOpn.cons rfl (Opn.int (by kernel_rfl) Try.underlying3) (FOpn.cons rfl (Opn.int (by kernel_rfl) Try.underlying3) (FOpn.one rfl (Opn.int (by kernel_rfl) Try.underlying3))))))
def wfL65 (l : List S65) : Prop := l.length ≤ maxLen ∧ l.length * 40 ≤ 140737488351232 ∧ ∀ y ∈ l, wf65 y
theorem opnL22 : Opn Try.prog 22 (Kd.slice 65 k65) wfL65 := Opn.slice z65 (by kernel_rfl) Try.underlying22 (by kernel_rfl) opn65
def wfL4 (l : List Bool) : Prop := l.length ≤ maxLen ∧ l.length * 1 ≤ 140737488351232 ∧ ∀ y ∈ l, True
theorem opnL23 : Opn Try.prog 23 (Kd.slice 4 Kd.bool) wfL4 := Opn.slice false (by kernel_rfl) Try.underlying23 (by kernel_rfl) (Opn.bool (by kernel_rfl) Try.underlying4)
def wf25 (x : S25) : Prop := wfL65 x.f0 ∧ wfL4 x.f1 ∧ wfL4 x.f2 ∧ (Lit.int .i64 x.f3).wf = true ∧ (Lit.int .i64 x.f4).wf = true
theorem opn25 : Opn Try.prog 25 k25 wf25 := Opn.struct (fun x : S25 => (x.f0, x.f1, x.f2, x.f3, x.f4)) (fun p => ⟨p.1, p.2.1, p.2.2.1, p.2.2.2.1, p.2.2.2.2⟩) (fun _ => rfl) (by kernel_rfl) Try.underlying25 (FOpn.cons rfl opnL22 (FOpn.cons rfl opnL23 (FOpn.cons rfl opnL23 (FOpn.cons rfl (Opn.int (by kernel_rfl) Try.underlying3) (FOpn.one rfl (Opn.int (by kernel_rfl) Try.underlying3))))))
theorem kq25_open {w : World} {x : S25} {cs : List Value} (h : k25.K w x cs) : ∃ (A0 : Option Addr) (c0 : Nat) (A1 : Option Addr) (c1 : Nat) (A2 : Option Addr) (c2 : Nat), cs = [.slice A0 x.f0.length c0, .slice A1 x.f1.length c1, .slice A2 x.f2.length c2, .int .i64 x.f3, .int .i64 x.f4] ∧ x.f0.length ≤ c0 ∧ Kd.C k65 w A0 x.f0.length x.f0 ∧ x.f1.length ≤ c1 ∧ Kd.C Kd.bool w A1 x.f1.length x.f1 ∧ x.f2.length ≤ c2 ∧ Kd.C Kd.bool w A2 x.f2.length x.f2 := by
  obtain ⟨_, _, rfl, ⟨A0, c0, rfl, hl0, hC0⟩, ⟨_, _, rfl, ⟨A1, c1, rfl, hl1, hC1⟩, ⟨_, _, rfl, ⟨A2, c2, rfl, hl2, hC2⟩, ⟨_, _, rfl, rfl, rfl⟩⟩⟩⟩ := h
  exact ⟨A0, c0, A1, c1, A2, c2, rfl, hl0, hC0, hl1, hC1, hl2, hC2⟩
def FnExactSpareLight.Pure : Prop := ∀ (x0 : S25), wf25 x0 → ∃ k, laws_FnExactSpareLight.f k x0.f0 x0.f1 x0.f2 x0.f3 x0.f4 = some true
end Go.Proofs.Ythmjimboajmhmaa.Pr

/-
What is proved: plain lemmas on the shortest way over arcs between eight stations: seven rounds are enough.
Conditions: those of each lemma.
-/
namespace Go.Proofs.Ythmjimboajmhmaa.Pr.Pure
open Go.RowKit Go.Proofs.YthmjimboajmhmaaW.PrintWords Go.Proofs.YthmjimboajmhmaaW.PrintLast Go.Proofs.YthmjimboajmhmaaW.PrintMore
set_option linter.unusedVariables false
set_option linter.unusedSimpArgs false

def FAR : Int := 1073741824
structure Arc where
  a : Int
  b : Int
  t : Int
def step1 (D : List Int) (a b t : Int) : List Int := if rd D a + t < rd D b then D.set b.toNat (rd D a + t) else D
def rnd (A : List Arc) (D : List Int) : List Int := A.foldl (fun D e => step1 D e.a e.b e.t) D
def it (A : List Arc) : Nat → List Int → List Int
  | 0, D => D
  | k + 1, D => rnd A (it A k D)
def In8 (i : Int) : Prop := 0 ≤ i ∧ i < 8
def OkA (A : List Arc) : Prop := ∀ e, e ∈ A → In8 e.a ∧ In8 e.b ∧ 1 ≤ e.t ∧ e.t ≤ 500
theorem rd_set {D : List Int} (hl : D.length = 8) {b i : Int} (hb : In8 b) (hi : In8 i) (x : Int) : rd (D.set b.toNat x) i = if i = b then x else rd D i := by
  unfold rd
  obtain ⟨hb0, hb1⟩ := hb
  obtain ⟨hi0, hi1⟩ := hi
  rw [List.getD_eq_getElem?_getD, List.getD_eq_getElem?_getD]
  by_cases e : i = b
  · subst e
    rw [if_pos rfl, List.getElem?_set_self (by omega)]
    rfl
  · rw [if_neg e, List.getElem?_set_ne (by omega)]
theorem len_step1 (D : List Int) (a b t : Int) : (step1 D a b t).length = D.length := by
  unfold step1
  split
  · rw [List.length_set]
  · rfl
theorem len_rnd (A : List Arc) : ∀ D : List Int, (rnd A D).length = D.length := by
  induction A with
  | nil => intro D; rfl
  | cons e A ih =>
    intro D
    show (rnd A (step1 D e.a e.b e.t)).length = _
    rw [ih, len_step1]
theorem rd_step1 {D : List Int} (hl : D.length = 8) {a b i : Int} (hb : In8 b) (hi : In8 i) (t : Int) : rd (step1 D a b t) i = if i = b ∧ rd D a + t < rd D b then rd D a + t else rd D i := by
  unfold step1
  by_cases h : rd D a + t < rd D b
  · rw [if_pos h, rd_set hl hb hi]
    by_cases e : i = b
    · rw [if_pos e, if_pos ⟨e, h⟩]
    · rw [if_neg e, if_neg (fun z => e z.1)]
  · rw [if_neg h, if_neg (fun z => h z.2)]
theorem step1_le {D : List Int} (hl : D.length = 8) {a b i : Int} (hb : In8 b) (hi : In8 i) (t : Int) : rd (step1 D a b t) i ≤ rd D i := by
  rw [rd_step1 hl hb hi]
  split
  · rename_i h
    obtain ⟨rfl, h⟩ := h
    omega
  · omega
theorem rnd_le (A : List Arc) (hA : OkA A) : ∀ (D : List Int), D.length = 8 → ∀ i, In8 i → rd (rnd A D) i ≤ rd D i := by
  induction A with
  | nil => intro D _ i _; exact Int.le_refl _
  | cons e A ih =>
    intro D hl i hi
    have h1 := ih (fun x hx => hA x (List.mem_cons_of_mem _ hx)) (step1 D e.a e.b e.t) (by rw [len_step1, hl]) i hi
    have h2 := step1_le (a := e.a) (t := e.t) hl (hA e List.mem_cons_self).2.1 hi
    exact Int.le_trans h1 h2
theorem rnd_arc (A : List Arc) (hA : OkA A) : ∀ (D : List Int), D.length = 8 → ∀ e, e ∈ A → rd (rnd A D) e.b ≤ rd D e.a + e.t := by
  induction A with
  | nil => intro D _ e he; cases he
  | cons x A ih =>
    intro D hl e he
    have hA' : OkA A := fun x hx => hA x (List.mem_cons_of_mem _ hx)
    have hx := hA x List.mem_cons_self
    have hl' : (step1 D x.a x.b x.t).length = 8 := by rw [len_step1, hl]
    show rd (rnd A (step1 D x.a x.b x.t)) e.b ≤ _
    rcases List.mem_cons.1 he with rfl | he'
    · have h1 := rnd_le A hA' _ hl' e.b hx.2.1
      rw [rd_step1 hl hx.2.1 hx.2.1] at h1
      split at h1
      · exact h1
      · rename_i h
        have : ¬ (rd D e.a + e.t < rd D e.b) := fun z => h ⟨rfl, z⟩
        omega
    · have h1 := ih hA' _ hl' e he'
      have h2 := step1_le (a := x.a) (t := x.t) hl hx.2.1 (hA e he).1
      omega
/-- The numbers of a row of distances: 0 at the station 0, none negative, each reached by an arc or far. -/
structure Inv (A : List Arc) (D : List Int) : Prop where
  len : D.length = 8
  lo : ∀ i, In8 i → 0 ≤ rd D i
  hi : ∀ i, In8 i → rd D i ≤ FAR
  zero : rd D 0 = 0
  tight : ∀ v, In8 v → v ≠ 0 → rd D v < FAR → ∃ e, e ∈ A ∧ e.b = v ∧ rd D e.a + e.t ≤ rd D v
theorem step_inv {A : List Arc} (hA : OkA A) {D : List Int} (h : Inv A D) {e : Arc} (he : e ∈ A) : Inv A (step1 D e.a e.b e.t) := by
  obtain ⟨ha, hb, ht, ht'⟩ := hA e he
  have hz : In8 0 := ⟨by omega, by omega⟩
  have la := h.lo e.a ha
  have hle := fun i hi => step1_le (a := e.a) (t := e.t) h.len hb (i := i) hi
  refine ⟨by rw [len_step1, h.len], fun i hi => ?_, fun i hi => Int.le_trans (hle i hi) (h.hi i hi), ?_, fun v hv hv0 hf => ?_⟩
  · rw [rd_step1 h.len hb hi]
    split
    · omega
    · exact h.lo i hi
  · rw [rd_step1 h.len hb hz]
    split
    · rename_i z
      obtain ⟨z1, z2⟩ := z
      rw [← z1, h.zero] at z2
      omega
    · exact h.zero
  · by_cases hc : v = e.b ∧ rd D e.a + e.t < rd D e.b
    · refine ⟨e, he, hc.1.symm, ?_⟩
      have := hle e.a ha
      have h2 := rd_step1 (a := e.a) (t := e.t) h.len hb hv
      rw [if_pos hc] at h2
      omega
    · have h2 := rd_step1 (a := e.a) (t := e.t) h.len hb hv
      rw [if_neg hc] at h2
      rw [h2] at hf ⊢
      obtain ⟨x, hx, hxb, hxl⟩ := h.tight v hv hv0 hf
      exact ⟨x, hx, hxb, by have := hle x.a (hA x hx).1; omega⟩
theorem rnd_inv' {A : List Arc} (hA : OkA A) (B : List Arc) : (∀ e, e ∈ B → e ∈ A) → ∀ D, Inv A D → Inv A (rnd B D) := by
  induction B with
  | nil => intro _ D h; exact h
  | cons e B ih =>
    intro hB D h
    exact ih (fun x hx => hB x (List.mem_cons_of_mem _ hx)) _ (step_inv hA h (hB e List.mem_cons_self))
theorem rnd_inv {A : List Arc} (hA : OkA A) {D : List Int} (h : Inv A D) : Inv A (rnd A D) := rnd_inv' hA A (fun _ he => he) D h
theorem it_inv {A : List Arc} (hA : OkA A) {D : List Int} (h : Inv A D) : ∀ k, Inv A (it A k D)
  | 0 => h
  | k + 1 => rnd_inv hA (it_inv hA h k)
theorem cases8 {i : Int} (h : In8 i) : i = 0 ∨ i = 1 ∨ i = 2 ∨ i = 3 ∨ i = 4 ∨ i = 5 ∨ i = 6 ∨ i = 7 := by
  obtain ⟨h1, h2⟩ := h
  omega
theorem ext8 {D E : List Int} (hD : D.length = 8) (hE : E.length = 8) (h : ∀ i, In8 i → rd D i = rd E i) : D = E := by
  apply List.ext_getElem (by omega)
  intro i h1 h2
  have := h (i : Int) ⟨by omega, by omega⟩
  unfold rd at this
  rw [Int.toNat_natCast, List.getD_eq_getElem?_getD, List.getD_eq_getElem?_getD, List.getElem?_eq_getElem h1, List.getElem?_eq_getElem h2] at this
  exact this
def sum8 (D : List Int) : Int := rd D 0 + rd D 1 + rd D 2 + rd D 3 + rd D 4 + rd D 5 + rd D 6 + rd D 7
theorem le_or {D E : List Int} (hD : D.length = 8) (hE : E.length = 8) (h : ∀ i, In8 i → rd E i ≤ rd D i) : E = D ∨ sum8 E < sum8 D := by
  by_cases hq : ∀ i, In8 i → rd E i = rd D i
  · exact .inl (ext8 hE hD hq)
  · right
    obtain ⟨i, hi⟩ := Classical.not_forall.1 hq
    obtain ⟨hi8, hne⟩ := Classical.not_imp.1 hi
    have hlt : rd E i < rd D i := by have := h i hi8; omega
    have h0 := h 0 ⟨by omega, by omega⟩
    have h1 := h 1 ⟨by omega, by omega⟩
    have h2 := h 2 ⟨by omega, by omega⟩
    have h3 := h 3 ⟨by omega, by omega⟩
    have h4 := h 4 ⟨by omega, by omega⟩
    have h5 := h 5 ⟨by omega, by omega⟩
    have h6 := h 6 ⟨by omega, by omega⟩
    have h7 := h 7 ⟨by omega, by omega⟩
    unfold sum8
    rcases cases8 hi8 with rfl | rfl | rfl | rfl | rfl | rfl | rfl | rfl <;> omega
theorem step_or {D : List Int} (hl : D.length = 8) {a b : Int} (hb : In8 b) (t : Int) : (rd D a + t < rd D b → sum8 (step1 D a b t) < sum8 D) := by
  intro h
  rcases le_or hl (by rw [len_step1, hl]) (fun i hi => step1_le (a := a) (t := t) hl hb hi) with e | e
  · have := rd_step1 (a := a) (t := t) hl hb hb
    rw [e, if_pos ⟨rfl, h⟩] at this
    omega
  · exact e
theorem sum8_nonneg {A : List Arc} {D : List Int} (h : Inv A D) : 0 ≤ sum8 D := by
  have h0 := h.lo 0 ⟨by omega, by omega⟩
  have h1 := h.lo 1 ⟨by omega, by omega⟩
  have h2 := h.lo 2 ⟨by omega, by omega⟩
  have h3 := h.lo 3 ⟨by omega, by omega⟩
  have h4 := h.lo 4 ⟨by omega, by omega⟩
  have h5 := h.lo 5 ⟨by omega, by omega⟩
  have h6 := h.lo 6 ⟨by omega, by omega⟩
  have h7 := h.lo 7 ⟨by omega, by omega⟩
  unfold sum8
  omega
theorem it_succ (A : List Arc) : ∀ (k : Nat) (D : List Int), it A (k + 1) D = it A k (rnd A D)
  | 0, D => rfl
  | k + 1, D => by
    show rnd A (it A (k + 1) D) = rnd A (it A k (rnd A D))
    rw [it_succ A k D]
theorem exists_fix {A : List Arc} (hA : OkA A) (n : Nat) : ∀ D, Inv A D → sum8 D ≤ n → ∃ N, rnd A (it A N D) = it A N D := by
  induction n with
  | zero =>
    intro D h hs
    rcases le_or h.len (by rw [len_rnd, h.len]) (rnd_le A hA D h.len) with e | e
    · exact ⟨0, e⟩
    · have := sum8_nonneg (rnd_inv hA h)
      omega
  | succ n ih =>
    intro D h hs
    rcases le_or h.len (by rw [len_rnd, h.len]) (rnd_le A hA D h.len) with e | e
    · exact ⟨0, e⟩
    · obtain ⟨N, hN⟩ := ih (rnd A D) (rnd_inv hA h) (by omega)
      refine ⟨N + 1, ?_⟩
      rw [it_succ]
      exact hN
theorem it_fix {A : List Arc} {D : List Int} (h : rnd A D = D) : ∀ k, it A k D = D
  | 0 => rfl
  | k + 1 => by
    show rnd A (it A k D) = D
    rw [it_fix h k, h]
theorem it_add (A : List Arc) (D : List Int) (j : Nat) : ∀ k, it A (j + k) D = it A k (it A j D)
  | 0 => rfl
  | k + 1 => by
    show rnd A (it A (j + k) D) = rnd A (it A k (it A j D))
    rw [it_add A D j k]
theorem it_anti {A : List Arc} (hA : OkA A) {D : List Int} (h : Inv A D) (j : Nat) : ∀ k i, In8 i → rd (it A (j + k) D) i ≤ rd (it A j D) i
  | 0, i, hi => Int.le_refl _
  | k + 1, i, hi => Int.le_trans (rnd_le A hA _ (it_inv hA h (j + k)).len i hi) (it_anti hA h j k i hi)
def cnt (d : List Int) (i v : Int) : Nat := if rd d i < rd d v then 1 else 0
theorem cnt_mono (d : List Int) {u v : Int} (h : rd d u < rd d v) (i : Int) : cnt d i u ≤ cnt d i v := by
  unfold cnt
  split <;> split <;> omega
theorem cnt_le (d : List Int) (i v : Int) : cnt d i v ≤ 1 := by
  unfold cnt
  split <;> omega
theorem cnt_self (d : List Int) (v : Int) : cnt d v v = 0 := by
  unfold cnt
  rw [if_neg (by omega)]
theorem cnt_yes (d : List Int) {u v : Int} (h : rd d u < rd d v) : cnt d u v = 1 := by
  unfold cnt
  rw [if_pos h]
def rank (d : List Int) (v : Int) : Nat := cnt d 0 v + cnt d 1 v + cnt d 2 v + cnt d 3 v + cnt d 4 v + cnt d 5 v + cnt d 6 v + cnt d 7 v
theorem rank_lt (d : List Int) {u v : Int} (hu : In8 u) (h : rd d u < rd d v) : rank d u < rank d v := by
  have m := cnt_mono d h
  have m0 := m 0
  have m1 := m 1
  have m2 := m 2
  have m3 := m 3
  have m4 := m 4
  have m5 := m 5
  have m6 := m 6
  have m7 := m 7
  have s := cnt_self d u
  have y := cnt_yes d h
  clear m h
  unfold rank
  rcases cases8 hu with rfl | rfl | rfl | rfl | rfl | rfl | rfl | rfl <;> omega
theorem rank_le (d : List Int) {v : Int} (hv : In8 v) : rank d v ≤ 7 := by
  have m := fun i => cnt_le d i v
  have m0 := m 0
  have m1 := m 1
  have m2 := m 2
  have m3 := m 3
  have m4 := m 4
  have m5 := m 5
  have m6 := m 6
  have m7 := m 7
  have s := cnt_self d v
  clear m
  unfold rank
  rcases cases8 hv with rfl | rfl | rfl | rfl | rfl | rfl | rfl | rfl <;> omega
def D0 : List Int := [0, FAR, FAR, FAR, FAR, FAR, FAR, FAR]
theorem D0_far {v : Int} (hv : In8 v) (h0 : v ≠ 0) : rd D0 v = FAR := by
  rcases cases8 hv with rfl | rfl | rfl | rfl | rfl | rfl | rfl | rfl
  · exact absurd rfl h0
  all_goals rfl
theorem D0_inv (A : List Arc) : Inv A D0 := by
  refine ⟨rfl, fun i hi => ?_, fun i hi => ?_, rfl, fun v hv h0 hf => ?_⟩
  · by_cases h : i = 0
    · rw [h]; decide
    · rw [D0_far hi h]; decide
  · by_cases h : i = 0
    · rw [h]; decide
    · rw [D0_far hi h]; decide
  · rw [D0_far hv h0] at hf
    omega
theorem it_rank {A : List Arc} (hA : OkA A) {d : List Int} (hd : Inv A d) (hle : ∀ k i, In8 i → rd d i ≤ rd (it A k D0) i) : ∀ (k : Nat) (v : Int), In8 v → rank d v ≤ k → rd (it A k D0) v = rd d v := by
  intro k
  induction k with
  | zero =>
    intro v hv hr
    by_cases h0 : v = 0
    · rw [h0, hd.zero]; rfl
    · show rd D0 v = _
      rw [D0_far hv h0]
      have h1 := hd.hi v hv
      by_cases hf : rd d v < FAR
      · obtain ⟨e, he, rfl, hl⟩ := hd.tight v hv h0 hf
        obtain ⟨ha, hb, ht, _⟩ := hA e he
        have := rank_lt d ha (show rd d e.a < rd d e.b by omega)
        omega
      · omega
  | succ k ih =>
    intro v hv hr
    have h1 := hle (k + 1) v hv
    have h2 := (it_inv hA (D0_inv A) (k + 1)).hi v hv
    by_cases h0 : v = 0
    · rw [h0, hd.zero, (it_inv hA (D0_inv A) (k + 1)).zero]
    · by_cases hf : rd d v < FAR
      · obtain ⟨e, he, rfl, hl⟩ := hd.tight v hv h0 hf
        obtain ⟨ha, hb, ht, _⟩ := hA e he
        have h3 := rank_lt d ha (show rd d e.a < rd d e.b by omega)
        have h4 := ih e.a ha (by omega)
        have h5 := rnd_arc A hA _ (it_inv hA (D0_inv A) k).len e he
        have h6 : rd (it A (k + 1) D0) e.b ≤ rd (it A k D0) e.a + e.t := h5
        omega
      · have := hd.hi v hv
        omega
theorem fix7 {A : List Arc} (hA : OkA A) : rnd A (it A 7 D0) = it A 7 D0 := by
  obtain ⟨N, hN⟩ := exists_fix hA (sum8 D0).toNat D0 (D0_inv A) (by have := sum8_nonneg (D0_inv A); omega)
  have hi := it_inv hA (D0_inv A) N
  have hle : ∀ k i, In8 i → rd (it A N D0) i ≤ rd (it A k D0) i := by
    intro k i hi8
    rcases Nat.le_total k N with h | h
    · have := it_anti hA (D0_inv A) k (N - k) i hi8
      rwa [show k + (N - k) = N by omega] at this
    · have := it_add A D0 N (k - N)
      rw [show N + (k - N) = k by omega, it_fix hN] at this
      rw [this]
      exact Int.le_refl _
  have e : it A 7 D0 = it A N D0 := ext8 (it_inv hA (D0_inv A) 7).len hi.len (fun i h8 => it_rank hA hi hle 7 i h8 (rank_le _ h8))
  rw [e, hN]

/-! the reference's numbers: -1 for far -/
def dec (x : Int) : Int := if x = FAR then -1 else x
/-- Each number is far or no greater than c. -/
def Bd (c : Int) (D : List Int) : Prop := ∀ i, In8 i → rd D i = FAR ∨ rd D i ≤ c
theorem Bd.mono {c c' : Int} {D : List Int} (h : Bd c D) (hc : c ≤ c') : Bd c' D := fun i hi => by
  rcases h i hi with h | h
  · exact .inl h
  · exact .inr (by omega)
theorem step_bd {c : Int} {D : List Int} (hl : D.length = 8) (h : Bd c D) {a b t : Int} (ha : In8 a) (hb : In8 b) (ht : t ≤ 500) (hh : ∀ i, In8 i → rd D i ≤ FAR) (ht0 : 0 ≤ t) : Bd (c + 500) (step1 D a b t) := fun i hi => by
  rw [rd_step1 hl hb hi]
  split
  · rename_i z
    rcases h a ha with e | e
    · have := hh b hb
      omega
    · exact .inr (by omega)
  · rcases h i hi with e | e
    · exact .inl e
    · exact .inr (by omega)
theorem rd_map {D : List Int} (hl : D.length = 8) {i : Int} (hi : In8 i) : rd (D.map dec) i = dec (rd D i) := by
  obtain ⟨h0, h1⟩ := hi
  unfold rd
  rw [List.getD_eq_getElem?_getD, List.getD_eq_getElem?_getD, List.getElem?_map, List.getElem?_eq_getElem (by omega)]
  rfl
theorem dec_nonneg {x : Int} (h : 0 ≤ x) (h' : x ≤ FAR) : dec x ≥ 0 ↔ x < FAR := by
  unfold dec
  split <;> omega
theorem rd_oob_len {D : List Int} : (D.map dec).length = D.length := List.length_map _
theorem map_set_dec (D : List Int) (n : Nat) (x : Int) (hx : x ≠ FAR) : (D.map dec).set n x = (D.set n x).map dec := by
  rw [List.map_set]
  congr 1
  unfold dec
  rw [if_neg hx]
/-- The reference's test. -/
theorem cond_dec {c : Int} {D : List Int} (hl : D.length = 8) (hlo : ∀ i, In8 i → 0 ≤ rd D i) (hhi : ∀ i, In8 i → rd D i ≤ FAR) (hb : Bd c D) (hc : c + 500 < FAR) {a b t : Int} (ha : In8 a) (hb8 : In8 b) (ht : 1 ≤ t) (ht' : t ≤ 500) :
    (rd (D.map dec) a ≥ 0 ↔ rd D a < FAR) ∧ (rd D a < FAR → rd (D.map dec) a = rd D a ∧ (rd (D.map dec) b < 0 ∨ rd D a + t < rd (D.map dec) b ↔ rd D a + t < rd D b) ∧ rd D a + t < FAR) ∧ (¬ rd D a < FAR → ¬ rd D a + t < rd D b) := by
  rw [rd_map hl ha, rd_map hl hb8]
  have a0 := hlo a ha
  have a1 := hhi a ha
  have b0 := hlo b hb8
  have b1 := hhi b hb8
  have a2 := hb a ha
  unfold FAR at *
  refine ⟨dec_nonneg a0 a1, fun h => ⟨?_, ?_, ?_⟩, fun h => by omega⟩
  · unfold dec FAR
    rw [if_neg (by omega)]
  · unfold dec FAR
    split <;> omega
  · omega
/-- The program's two relaxations of one leg are the reference's. -/
theorem relax_comm {D : List Int} (hl : D.length = 8) {a b t : Int} (ha : In8 a) (hb : In8 b) (ht : 1 ≤ t) : step1 (step1 D b a t) a b t = step1 (step1 D a b t) b a t := by
  apply ext8 (by rw [len_step1, len_step1, hl]) (by rw [len_step1, len_step1, hl])
  intro i hi
  have l1 : (step1 D b a t).length = 8 := by rw [len_step1, hl]
  have l2 : (step1 D a b t).length = 8 := by rw [len_step1, hl]
  rw [rd_step1 l1 hb hi, rd_step1 l2 ha hi, rd_step1 hl ha ha, rd_step1 hl ha hb, rd_step1 hl ha hi, rd_step1 hl hb hb, rd_step1 hl hb ha, rd_step1 hl hb hi]
  by_cases e : a = b
  · subst e
    simp only [true_and]
  · have e' : ¬ b = a := fun h => e h.symm
    simp only [e, e', false_and, if_false, true_and]
    by_cases c1 : rd D b + t < rd D a
    · simp only [c1, if_true, and_true]
      have c2 : ¬ rd D a + t < rd D b := by omega
      have c3 : ¬ rd D b + t + t < rd D b := by omega
      simp only [c2, c3, and_false, if_false, c1, and_true]
    · by_cases c2 : rd D a + t < rd D b
      · have c3 : ¬ rd D a + t + t < rd D a := by omega
        simp only [c1, c2, c3, and_false, and_true, if_false, if_true]
      · simp only [c1, c2, and_false, if_false]
end Go.Proofs.Ythmjimboajmhmaa.Pr.Pure

/-
What is proved: plain lemmas on legs and explorations, over the printed functions of this seat.
Conditions: those of each lemma.
-/
namespace Go.Proofs.Ythmjimboajmhmaa.Pr.Pure
open Go.RowKit Go.Proofs.YthmjimboajmhmaaW.PrintWords Go.Proofs.YthmjimboajmhmaaW.PrintLast Go.Proofs.YthmjimboajmhmaaW.PrintMore
set_option linter.unusedVariables false
set_option linter.unusedSimpArgs false

theorem w64 {x : Int} (h1 : -9223372036854775808 ≤ x) (h2 : x ≤ 9223372036854775807) : wrap64 x = x := by
  unfold wrap64
  omega
theorem i64b {x : Int} (h : (Lit.int .i64 x).wf = true) : -9223372036854775808 ≤ x ∧ x ≤ 9223372036854775807 := by
  simp [Lit.wf, IntKind.min, IntKind.max, IntKind.signed, IntKind.bits] at h
  omega
theorem set_map_step {α β : Type} (f : α → β) (l : List α) (z : β) (i : Nat) (hi : i < l.length) (a : α) (ha : l[i]? = some a) :
    ((l.take i).map f ++ List.replicate (l.length - i) z).set i (f a) = (l.take (i + 1)).map f ++ List.replicate (l.length - (i + 1)) z := by
  have h1 : ((l.take i).map f).length = i := by simp; omega
  rw [List.set_append_right _ _ (by omega), h1, Nat.sub_self]
  obtain ⟨m, hm⟩ : ∃ m, l.length - i = m + 1 := ⟨l.length - i - 1, by omega⟩
  rw [hm, show l.length - (i + 1) = m by omega, List.replicate_succ, List.set_cons_zero, List.take_add_one, ha]
  simp
theorem getD_some {α : Type} (l : List α) (z : α) (i : Nat) (h : i < l.length) : l[i]? = some (l.getD i z) := by
  rw [List.getD_eq_getElem?_getD, List.getElem?_eq_getElem h]
  rfl


def cvLeg (x : S65) : S37 := ⟨x.f0, x.f1, x.f2, x.f3, x.f4⟩
theorem toLegS_l0 (l : List S65) (hl : l.length ≤ 4611686018427387904) (d : Nat) : ∀ (k i : Nat), i + d = l.length → d < k →
    laws_toLegS.l0 k l ((l.take i).map cvLeg ++ List.replicate (l.length - i) z37) i = some (l.map cvLeg) := by
  induction d with
  | zero =>
    intro k i hd hk
    obtain ⟨k, rfl⟩ : ∃ m, k = m + 1 := ⟨k - 1, by omega⟩
    simp only [laws_toLegS.l0]
    rw [if_neg (by omega), List.take_of_length_le (by omega), show l.length - i = 0 by omega]
    simp
  | succ d ih =>
    intro k i hd hk
    obtain ⟨k, rfl⟩ : ∃ m, k = m + 1 := ⟨k - 1, by omega⟩
    simp only [laws_toLegS.l0, laws_toLeg.f, Option.bind_some]
    rw [if_pos (by omega), if_pos (by omega), if_pos (by simp; omega), w64 (by omega) (by omega)]
    have ha : l[i]? = some (rd_T65 l i) := getD_some l z65 i (by omega)
    rw [Int.toNat_natCast]
    have := set_map_step cvLeg l z37 i (by omega) _ ha
    rw [show (⟨(rd_T65 l i).f0, (rd_T65 l i).f1, (rd_T65 l i).f2, (rd_T65 l i).f3, (rd_T65 l i).f4⟩ : S37) = cvLeg (rd_T65 l i) from rfl, this]
    exact ih k (i + 1) (by omega) (by omega)
theorem toLegS_eq {l : List S65} (hl : l.length * 40 ≤ 140737488351232) {k : Nat} (hk : l.length < k) : laws_toLegS.f k l = some (l.map cvLeg) := by
  unfold laws_toLegS.f
  rw [if_pos (by omega), if_pos (by omega), Int.toNat_natCast]
  have := toLegS_l0 l (by omega) l.length k 0 (by omega) hk
  simpa using this


theorem eqLegS_self (l : List S37) (hl : l.length ≤ 4611686018427387904) (d : Nat) : ∀ (k : Nat) (i : Int), 0 ≤ i → i + d = l.length → d < k → laws_eqLegS.l0 k l l i = some true := by
  induction d with
  | zero =>
    intro k i h0 hd hk
    obtain ⟨k, rfl⟩ : ∃ m, k = m + 1 := ⟨k - 1, by omega⟩
    simp only [laws_eqLegS.l0]
    rw [if_neg (by omega)]
  | succ d ih =>
    intro k i h0 hd hk
    obtain ⟨k, rfl⟩ : ∃ m, k = m + 1 := ⟨k - 1, by omega⟩
    simp only [laws_eqLegS.l0, laws_eqLeg.f, if_true, Option.bind_some]
    rw [if_pos (by omega), if_pos (by omega), if_pos (by omega), w64 (by omega) (by omega)]
    exact ih k (i + 1) (by omega) (by omega) (by omega)
theorem eqLegS_eq {l : List S37} (hl : l.length ≤ 4611686018427387904) {k : Nat} (hk : l.length < k) : laws_eqLegS.f k l l = some true := by
  unfold laws_eqLegS.f
  rw [if_pos rfl]
  exact eqLegS_self l hl l.length k 0 (by omega) (by omega) hk

theorem toBoolS_l0 (l : List Bool) (hl : l.length ≤ 4611686018427387904) (d : Nat) : ∀ (k i : Nat), i + d = l.length → d < k →
    laws_toBoolS.l0 k l (l.take i ++ List.replicate (l.length - i) false) i = some l := by
  induction d with
  | zero =>
    intro k i hd hk
    obtain ⟨k, rfl⟩ : ∃ m, k = m + 1 := ⟨k - 1, by omega⟩
    simp only [laws_toBoolS.l0]
    rw [if_neg (by omega), List.take_of_length_le (by omega), show l.length - i = 0 by omega]
    simp
  | succ d ih =>
    intro k i hd hk
    obtain ⟨k, rfl⟩ : ∃ m, k = m + 1 := ⟨k - 1, by omega⟩
    simp only [laws_toBoolS.l0]
    rw [if_pos (by omega), if_pos (by omega), if_pos (by simp; omega), w64 (by omega) (by omega)]
    have ha : l[i]? = some (rdOf false l i) := getD_some l false i (by omega)
    rw [Int.toNat_natCast]
    have := set_map_step (fun x : Bool => x) l false i (by omega) _ ha
    rw [List.map_id'', List.map_id''] at this
    · rw [this]
      exact ih k (i + 1) (by omega) (by omega)
    · exact fun _ => rfl
    · exact fun _ => rfl
theorem toBoolS_eq {l : List Bool} (hl : l.length ≤ 140737488351232) {k : Nat} (hk : l.length < k) : laws_toBoolS.f k l = some l := by
  unfold laws_toBoolS.f
  rw [if_pos (by omega), if_pos (by omega), Int.toNat_natCast]
  have := toBoolS_l0 l (by omega) l.length k 0 (by omega) hk
  simpa using this
theorem eqBoolS_self (l : List Bool) (hl : l.length ≤ 4611686018427387904) (d : Nat) : ∀ (k : Nat) (i : Int), 0 ≤ i → i + d = l.length → d < k → laws_eqBoolS.l0 k l l i = some true := by
  induction d with
  | zero =>
    intro k i h0 hd hk
    obtain ⟨k, rfl⟩ : ∃ m, k = m + 1 := ⟨k - 1, by omega⟩
    simp only [laws_eqBoolS.l0]
    rw [if_neg (by omega)]
  | succ d ih =>
    intro k i h0 hd hk
    obtain ⟨k, rfl⟩ : ∃ m, k = m + 1 := ⟨k - 1, by omega⟩
    simp only [laws_eqBoolS.l0, bne_self_eq_false, Bool.false_eq_true, if_false]
    rw [if_pos (by omega), if_pos (by omega), if_pos (by omega), w64 (by omega) (by omega)]
    exact ih k (i + 1) (by omega) (by omega) (by omega)
theorem eqBoolS_eq {l : List Bool} (hl : l.length ≤ 4611686018427387904) {k : Nat} (hk : l.length < k) : laws_eqBoolS.f k l l = some true := by
  unfold laws_eqBoolS.f
  rw [if_pos rfl]
  exact eqBoolS_self l hl l.length k 0 (by omega) (by omega) hk
theorem toExploration_eq {l : List S65} {v d : List Bool} {a b : Int} (hl : l.length * 40 ≤ 140737488351232) (hv : v.length ≤ 140737488351232) (hd : d.length ≤ 140737488351232) {k : Nat} (hk : l.length < k) (hk1 : v.length < k) (hk2 : d.length < k) :
    laws_toExploration.f k l v d a b = some (l.map cvLeg, v, d, a, b) := by
  unfold laws_toExploration.f
  rw [toLegS_eq hl hk, toBoolS_eq hv hk1, toBoolS_eq hd hk2]
  rfl
theorem eqExploration_eq {l : List S37} {v d : List Bool} {a b : Int} (hl : l.length ≤ 4611686018427387904) (hv : v.length ≤ 4611686018427387904) (hd : d.length ≤ 4611686018427387904) {k : Nat} (hk : l.length < k) (hk1 : v.length < k) (hk2 : d.length < k) :
    laws_eqExploration.f k l v d a b l v d a b = some true := by
  unfold laws_eqExploration.f
  rw [eqLegS_eq hl hk, eqBoolS_eq hv hk1, eqBoolS_eq hd hk2]
  simp

theorem l1In_eq (a b c : Int) : spec_l1In.f a b c = some (decide (b ≤ a ∧ a ≤ c)) := by
  unfold spec_l1In.f
  by_cases h : a ≥ b
  · rw [if_pos h]; simp [show b ≤ a from h]
  · rw [if_neg h]; simp [show ¬ b ≤ a from h]
theorem within_eq (a b c : Int) : impl_within.f a b c = some (decide (b ≤ a ∧ a ≤ c)) := by
  unfold impl_within.f
  by_cases h : a ≥ b
  · rw [if_pos h]; simp [show b ≤ a from h]
  · rw [if_neg h]; simp [show ¬ b ≤ a from h]
theorem station_eq (a : Int) : spec_l4Station.f a = some (decide (0 ≤ a ∧ a ≤ 7)) := by
  unfold spec_l4Station.f; rw [l1In_eq]; rfl
theorem isStation_eq (a : Int) : impl_isStation.f a = some (decide (0 ≤ a ∧ a ≤ 7)) := by
  unfold impl_isStation.f; rw [within_eq]; rfl
/-- A leg that is valid. -/
def LegOk (x : S37) : Prop := (0 ≤ x.f0 ∧ x.f0 ≤ 7) ∧ (0 ≤ x.f1 ∧ x.f1 ≤ 7) ∧ x.f0 ≠ x.f1 ∧ (1 ≤ x.f2 ∧ x.f2 ≤ 500) ∧ (0 ≤ x.f3 ∧ x.f3 ≤ 359) ∧ (-90 ≤ x.f4 ∧ x.f4 ≤ 90)
theorem leg_spec (x : S37) : ∃ b, spec_l4Leg.f x.f0 x.f1 x.f2 x.f3 x.f4 = some b ∧ (b = true ↔ LegOk x) := by
  unfold spec_l4Leg.f spec_l2Bearing.f LegOk
  simp only [station_eq, l1In_eq, Option.bind_some, decide_eq_true_eq]
  by_cases h1 : 0 ≤ x.f0 ∧ x.f0 ≤ 7
  · rw [if_pos h1]
    by_cases h2 : 0 ≤ x.f1 ∧ x.f1 ≤ 7
    · rw [if_pos h2]
      by_cases h3 : x.f0 = x.f1
      · rw [if_pos h3]
        exact ⟨_, rfl, fun h => (by cases h), fun h => absurd h3 h.2.2.1⟩
      · rw [if_neg h3]
        by_cases h4 : 1 ≤ x.f2 ∧ x.f2 ≤ 500
        · rw [if_pos h4]
          by_cases h5 : 0 ≤ x.f3 ∧ x.f3 ≤ 359
          · rw [if_pos h5]
            refine ⟨_, rfl, ?_⟩
            rw [decide_eq_true_eq]
            exact ⟨fun h => ⟨h1, h2, h3, h4, h5, h⟩, fun h => h.2.2.2.2.2⟩
          · rw [if_neg h5]
            exact ⟨_, rfl, fun h => (by cases h), fun h => absurd h.2.2.2.2.1 h5⟩
        · rw [if_neg h4]
          exact ⟨_, rfl, fun h => (by cases h), fun h => absurd h.2.2.2.1 h4⟩
    · rw [if_neg h2]
      exact ⟨_, rfl, fun h => (by cases h), fun h => absurd h.2.1 h2⟩
  · rw [if_neg h1]
    exact ⟨_, rfl, fun h => (by cases h), fun h => absurd h.1 h1⟩
theorem leg_impl (a b c d e : Int) : impl_IsLeg.f a b c d e = spec_l4Leg.f a b c d e := by
  unfold impl_IsLeg.f spec_l4Leg.f impl_isBearing.f spec_l2Bearing.f
  simp only [station_eq, isStation_eq, within_eq, l1In_eq]
theorem legs_spec (l : List S37) (hl : l.length ≤ 4611686018427387904) (d : Nat) : ∀ (k : Nat) (i : Int), 0 ≤ i → i + d = l.length → d < k →
    ∃ b, spec_l4Legs.l0 k l i = some b ∧ (b = true ↔ (∀ j : Int, i ≤ j → j < l.length → LegOk (rd_T37 l j)) ∧ l.length ≤ 12) := by
  induction d with
  | zero =>
    intro k i h0 hd hk
    obtain ⟨k, rfl⟩ : ∃ m, k = m + 1 := ⟨k - 1, by omega⟩
    refine ⟨_, by simp only [spec_l4Legs.l0]; rw [if_neg (by omega)], ?_⟩
    rw [decide_eq_true_eq]
    constructor
    · intro h
      exact ⟨fun j h1 h2 => by omega, by omega⟩
    · intro h
      omega
  | succ d ih =>
    intro k i h0 hd hk
    obtain ⟨k, rfl⟩ : ∃ m, k = m + 1 := ⟨k - 1, by omega⟩
    obtain ⟨b, hb, hiff⟩ := ih k (i + 1) (by omega) (by omega) (by omega)
    obtain ⟨x, hx, hxi⟩ := leg_spec (rd_T37 l i)
    simp only [spec_l4Legs.l0]
    rw [if_pos (show i < (l.length : Int) by omega), if_pos h0, hx, w64 (by omega) (by omega)]
    simp only [Option.bind_some]
    cases x with
    | false =>
      rw [if_neg (by decide)]
      exact ⟨_, rfl, fun h => (by cases h), fun h => (by have := hxi.2 (h.1 i (by omega) (by omega)); cases this)⟩
    | true =>
      rw [if_pos rfl]
      refine ⟨b, hb, ?_⟩
      rw [hiff]
      refine ⟨fun h => ⟨fun j h1 h2 => ?_, h.2⟩, fun h => ⟨fun j h1 h2 => h.1 j (by omega) h2, h.2⟩⟩
      by_cases e : j = i
      · rw [e]; exact hxi.1 rfl
      · exact h.1 j (by omega) h2
theorem legs_impl (l : List S37) : ∀ (k : Nat) (i : Int), impl_areLegs.l0 k l l (l.length : Int) i = spec_l4Legs.l0 k l i
  | 0, i => by simp only [impl_areLegs.l0, spec_l4Legs.l0]
  | k + 1, i => by
    simp only [impl_areLegs.l0, spec_l4Legs.l0, leg_impl, legs_impl l k]
    by_cases h1 : i < (l.length : Int)
    · simp only [if_pos h1]
    · simp only [if_neg h1]

/-! the arcs of the legs -/
def usable (v : List Bool) (g : S37) : Bool := rdOf false v g.f0 && rdOf false v g.f1
def arcsOf (v : List Bool) : List S37 → List Arc
  | [] => []
  | g :: l => if usable v g = true then ⟨g.f0, g.f1, g.f2⟩ :: ⟨g.f1, g.f0, g.f2⟩ :: arcsOf v l else arcsOf v l
def LegsOk (l : List S37) : Prop := ∀ x, x ∈ l → LegOk x
theorem legsOk_of {l : List S37} (h : ∀ j : Int, 0 ≤ j → j < l.length → LegOk (rd_T37 l j)) : LegsOk l := by
  intro x hx
  obtain ⟨i, hi, rfl⟩ := List.mem_iff_getElem.1 hx
  have := h (i : Int) (by omega) (by omega)
  have e : rd_T37 l (i : Int) = l[i] := by
    show l.getD (i : Int).toNat _ = _
    rw [Int.toNat_natCast, List.getD_eq_getElem?_getD, List.getElem?_eq_getElem hi]
    rfl
  rwa [e] at this
theorem rdLeg_mem {l : List S37} {i : Int} (h0 : 0 ≤ i) (h1 : i < l.length) : rd_T37 l i ∈ l := by
  show l.getD i.toNat _ ∈ l
  rw [List.getD_eq_getElem?_getD, List.getElem?_eq_getElem (by omega)]
  exact List.getElem_mem _
theorem drop_rdLeg (l : List S37) (i : Nat) (h : i < l.length) : l.drop i = rd_T37 l (i : Int) :: l.drop (i + 1) := by
  rw [List.drop_eq_getElem_cons h]
  congr 1
  show _ = l.getD (i : Int).toNat _
  rw [Int.toNat_natCast, List.getD_eq_getElem?_getD, List.getElem?_eq_getElem h]
  rfl
theorem arcs_ok (v : List Bool) (l : List S37) (h : LegsOk l) : OkA (arcsOf v l) := by
  induction l with
  | nil => intro e he; cases he
  | cons g l ih =>
    have hg := h g List.mem_cons_self
    have ih := ih (fun x hx => h x (List.mem_cons_of_mem _ hx))
    intro e he
    unfold arcsOf at he
    split at he
    · rcases List.mem_cons.1 he with rfl | he
      · exact ⟨⟨hg.1.1, by have := hg.1.2; show g.f0 < 8; omega⟩, ⟨hg.2.1.1, by have := hg.2.1.2; show g.f1 < 8; omega⟩, hg.2.2.2.1⟩
      · rcases List.mem_cons.1 he with rfl | he
        · exact ⟨⟨hg.2.1.1, by have := hg.2.1.2; show g.f1 < 8; omega⟩, ⟨hg.1.1, by have := hg.1.2; show g.f0 < 8; omega⟩, hg.2.2.2.1⟩
        · exact ih e he
    · exact ih e he
def far8 (D : List Int) : Prop := D.length = 8 ∧ (∀ i, In8 i → 0 ≤ rd D i) ∧ (∀ i, In8 i → rd D i ≤ FAR)
theorem far8_step {D : List Int} (h : far8 D) {a b t : Int} (ha : In8 a) (hb : In8 b) (ht : 0 ≤ t) : far8 (step1 D a b t) := by
  refine ⟨by rw [len_step1, h.1], fun i hi => ?_, fun i hi => Int.le_trans (step1_le h.1 hb hi t) (h.2.2 i hi)⟩
  rw [rd_step1 h.1 hb hi]
  have := h.2.1 a ha
  split
  · omega
  · exact h.2.1 i hi
theorem set_same8 {D : List Int} (h : D.length = 8) {b : Int} (hb : In8 b) : D.set b.toNat (rd D b) = D := by
  apply ext8 (by rw [List.length_set, h]) h
  intro i hi
  rw [rd_set h hb hi]
  split
  · rename_i e
    rw [e]
  · rfl
/-- The program's step along one arc. -/
theorem mn_step {D : List Int} (h : far8 D) {a b t : Int} (ha : In8 a) (hb : In8 b) (ht : 0 ≤ t) (ht' : t ≤ 500) : D.set b.toNat (mn (rd D b) (wrap64 (rd D a + t))) = step1 D a b t := by
  have a0 := h.2.1 a ha
  have a1 := h.2.2 a ha
  unfold FAR at a1
  rw [w64 (by omega) (by omega)]
  unfold mn step1
  by_cases hc : rd D a + t < rd D b
  · rw [if_pos hc, if_pos hc]
  · rw [if_neg hc, if_neg hc, set_same8 h.1 hb]
theorem in8 {a : Int} (h0 : 0 ≤ a) (h1 : a ≤ 7) : In8 a := ⟨h0, by omega⟩
theorem rnd_far8 {v : List Bool} (l : List S37) : LegsOk l → ∀ D, far8 D → far8 (rnd (arcsOf v l) D) := by
  induction l with
  | nil => intro _ D h; exact h
  | cons g l ih =>
    intro hl D h
    have hg := hl g List.mem_cons_self
    have ih := ih (fun x hx => hl x (List.mem_cons_of_mem _ hx))
    have i0 := in8 hg.1.1 hg.1.2
    have i1 := in8 hg.2.1.1 hg.2.1.2
    have ht := hg.2.2.2.1.1
    unfold arcsOf
    split
    · exact ih _ (far8_step (far8_step h i0 i1 (show (0 : Int) ≤ g.f2 by omega)) i1 i0 (show (0 : Int) ≤ g.f2 by omega))
    · exact ih D h
theorem wayOut_l1 (l : List S37) (hl : LegsOk l) (hn : l.length ≤ 12) (v d : List Bool) (hv : v.length = 8) (a b r : Int) (n : Nat) : ∀ (k i : Nat) (D : List Int), i + n = l.length → n < k → far8 D →
    ∃ k', k ≤ k' + n + 1 ∧ k' < k ∧ impl_Exploration_wayOut.l1 k D r l (l.length : Int) i l v d a b = impl_Exploration_wayOut.l0 k' (rnd (arcsOf v (l.drop i)) D) (wrap64 (r + 1)) l v d a b := by
  induction n with
  | zero =>
    intro k i D hi hk hD
    obtain ⟨k, rfl⟩ : ∃ m, k = m + 1 := ⟨k - 1, by omega⟩
    refine ⟨k, by omega, by omega, ?_⟩
    simp only [impl_Exploration_wayOut.l1]
    rw [if_neg (by omega), List.drop_eq_nil_of_le (by omega)]
    rfl
  | succ n ih =>
    intro k i D hi hk hD
    obtain ⟨k, rfl⟩ : ∃ m, k = m + 1 := ⟨k - 1, by omega⟩
    rw [drop_rdLeg l i (by omega)]
    have hg := hl _ (rdLeg_mem (l := l) (i := (i : Int)) (by omega) (by omega))
    generalize hge : rd_T37 l (i : Int) = g at hg
    have i0 := in8 hg.1.1 hg.1.2
    have i1 := in8 hg.2.1.1 hg.2.1.2
    obtain ⟨g00, g01⟩ := hg.1
    obtain ⟨g10, g11⟩ := hg.2.1
    obtain ⟨ht, ht'⟩ := hg.2.2.2.1
    simp only [impl_Exploration_wayOut.l1, hge]
    rw [if_pos (by omega), if_pos (by omega), if_pos (by omega), if_pos (by omega), if_pos (by omega), w64 (x := (i : Int) + 1) (by omega) (by omega)]
    unfold arcsOf usable
    cases h0 : rdOf false v g.f0 with
    | false =>
      rw [if_neg (by decide)]
      obtain ⟨k', h1, h2, h3⟩ := ih k (i + 1) D (by omega) (by omega) hD
      exact ⟨k', by omega, by omega, h3⟩
    | true =>
      rw [if_pos rfl, if_pos (by omega), if_pos (by omega)]
      cases h1 : rdOf false v g.f1 with
      | false =>
        rw [if_neg (by decide)]
        obtain ⟨k', h1, h2, h3⟩ := ih k (i + 1) D (by omega) (by omega) hD
        exact ⟨k', by omega, by omega, h3⟩
      | true =>
        have hl8 := hD.1
        rw [if_pos rfl, if_pos (by omega), if_pos (by omega), mn_step hD i1 i0 (by omega) ht']
        simp only [Option.bind_some]
        rw [mn_step (far8_step hD i1 i0 (by omega)) i0 i1 (by omega) ht', relax_comm hl8 i0 i1 ht]
        obtain ⟨k', h1, h2, h3⟩ := ih k (i + 1) (step1 (step1 D g.f0 g.f1 g.f2) g.f1 g.f0 g.f2) (by omega) (by omega) (far8_step (far8_step hD i0 i1 (by omega)) i1 i0 (by omega))
        exact ⟨k', by omega, by omega, h3⟩
theorem wayOut_l0 (l : List S37) (hl : LegsOk l) (hn : l.length ≤ 12) (v d : List Bool) (hv : v.length = 8) (a b : Int) (ha : In8 a) (n : Nat) : ∀ (k r : Nat), r + n = 8 → n * 16 < k →
    impl_Exploration_wayOut.l0 k (it (arcsOf v l) r D0) r l v d a b = some (rd (it (arcsOf v l) 8 D0) a, decide (rd (it (arcsOf v l) 8 D0) a < FAR)) := by
  induction n with
  | zero =>
    intro k r hr hk
    obtain ⟨k, rfl⟩ : ∃ m, k = m + 1 := ⟨k - 1, by omega⟩
    obtain rfl : r = 8 := by omega
    have := (it_inv (arcs_ok v l hl) (D0_inv _) 8).len
    simp only [impl_Exploration_wayOut.l0]
    rw [if_neg (by decide), if_pos ha.1, if_pos (by have := ha.2; omega)]
    rfl
  | succ n ih =>
    intro k r hr hk
    obtain ⟨k, rfl⟩ : ∃ m, k = m + 1 := ⟨k - 1, by omega⟩
    simp only [impl_Exploration_wayOut.l0]
    rw [if_pos (by omega)]
    have I := it_inv (arcs_ok v l hl) (D0_inv _) r
    obtain ⟨k', h1, h2, h3⟩ := wayOut_l1 l hl hn v d hv a b r l.length k 0 (it (arcsOf v l) r D0) (by omega) (by omega) ⟨I.len, I.lo, I.hi⟩
    rw [show ((0 : Nat) : Int) = 0 from rfl] at h3
    rw [h3, w64 (by omega) (by omega), List.drop_zero]
    exact ih k' (r + 1) (by omega) (by omega)
theorem wayOut_eq {l : List S37} (hl : LegsOk l) (hn : l.length ≤ 12) {v : List Bool} (d : List Bool) (hv : v.length = 8) {a : Int} (b : Int) (ha : In8 a) {k : Nat} (hk : 200 ≤ k) :
    impl_Exploration_wayOut.f k l v d a b = some (rd (it (arcsOf v l) 7 D0) a, decide (rd (it (arcsOf v l) 7 D0) a < FAR)) := by
  have h := wayOut_l0 l hl hn v d hv a b ha 8 k 0 (by omega) (by omega)
  have e : it (arcsOf v l) 8 D0 = it (arcsOf v l) 7 D0 := fix7 (arcs_ok v l hl)
  rw [e] at h
  exact h

/-! the reference's way out -/
/-- The reference's step along one arc; the second is whether it turned anything. -/
def stF (F : List Int) (a b t : Int) : List Int := if rd F a ≥ 0 ∧ (rd F b < 0 ∨ wrap64 (rd F a + t) < rd F b) then F.set b.toNat (wrap64 (rd F a + t)) else F
def cF (F : List Int) (a b t : Int) : Bool := decide (rd F a ≥ 0 ∧ (rd F b < 0 ∨ wrap64 (rd F a + t) < rd F b))
theorem len_stF (F : List Int) (a b t : Int) : (stF F a b t).length = F.length := by
  unfold stF
  split
  · rw [List.length_set]
  · rfl
theorem out_l2 (l : List S37) (v : List Bool) (p : Int) (F : List Int) (ag : Bool) (i : Int) (h0 : 0 ≤ i) (hi : i < l.length) (hl : l.length ≤ 12) (hF : F.length = 8) (hv : v.length = 8) (i0 : In8 (rd_T37 l i).f0) (i1 : In8 (rd_T37 l i).f1) (k : Nat) :
    ∃ k', k ≤ k' ∧ k' ≤ k + 1 ∧ spec_l25Out.l2 (k + 3) l v p F ag i = (if usable v (rd_T37 l i) = true then spec_l25Out.l2 k' l v p (stF (stF F (rd_T37 l i).f0 (rd_T37 l i).f1 (rd_T37 l i).f2) (rd_T37 l i).f1 (rd_T37 l i).f0 (rd_T37 l i).f2) (ag || cF F (rd_T37 l i).f0 (rd_T37 l i).f1 (rd_T37 l i).f2 || cF (stF F (rd_T37 l i).f0 (rd_T37 l i).f1 (rd_T37 l i).f2) (rd_T37 l i).f1 (rd_T37 l i).f0 (rd_T37 l i).f2) (i + 1) else spec_l25Out.l2 k' l v p F ag (i + 1)) := by
  simp only [spec_l25Out.l2, w64 (x := i + 1) (by omega) (by omega)]
  generalize hge : rd_T37 l i = g at i0 i1
  obtain ⟨i00, i01⟩ := i0
  obtain ⟨i10, i11⟩ := i1
  rw [if_pos hi, if_pos h0, if_pos i00, if_pos (by omega)]
  unfold usable
  cases h0' : rdOf false v g.f0 with
  | false =>
    refine ⟨k + 1, by omega, by omega, ?_⟩
    rw [if_neg (by decide), if_neg (by simp)]
    simp only [spec_l25Out.j3, if_true, w64 (x := i + 1) (by omega) (by omega)]
  | true =>
    rw [if_pos rfl, if_pos i10, if_pos (by omega)]
    cases h1' : rdOf false v g.f1 with
    | false =>
      refine ⟨k + 1, by omega, by omega, ?_⟩
      rw [if_neg (by decide)]
      simp only [spec_l25Out.j3, Bool.not_false, if_true, w64 (x := i + 1) (by omega) (by omega)]
    | true =>
      refine ⟨k, by omega, by omega, ?_⟩
      rw [if_pos (by decide)]
      have tail : ∀ (Y : List Int) (ag' : Bool) (m : Int), m = 8 → (if rd Y g.f1 ≥ 0 then (if 0 ≤ g.f0 then (if g.f0 < m then (if rd Y g.f0 < 0 then spec_l25Out.l2 k l v p (Y.set g.f0.toNat (wrap64 (rd Y g.f1 + g.f2))) true (i + 1) else (if wrap64 (rd Y g.f1 + g.f2) < rd Y g.f0 then spec_l25Out.l2 k l v p (Y.set g.f0.toNat (wrap64 (rd Y g.f1 + g.f2))) true (i + 1) else spec_l25Out.l2 k l v p Y ag' (i + 1))) else none) else none) else spec_l25Out.l2 k l v p Y ag' (i + 1)) = spec_l25Out.l2 k l v p (stF Y g.f1 g.f0 g.f2) (ag' || cF Y g.f1 g.f0 g.f2) (i + 1) := by
        intro Y ag' m hY
        unfold stF cF
        by_cases c1 : rd Y g.f1 ≥ 0
        · rw [if_pos c1, if_pos i00, if_pos (by omega)]
          by_cases c2 : rd Y g.f0 < 0
          · rw [if_pos c2, if_pos ⟨c1, .inl c2⟩, decide_eq_true ⟨c1, .inl c2⟩, Bool.or_true]
          · rw [if_neg c2]
            by_cases c3 : wrap64 (rd Y g.f1 + g.f2) < rd Y g.f0
            · rw [if_pos c3, if_pos ⟨c1, .inr c3⟩, decide_eq_true ⟨c1, .inr c3⟩, Bool.or_true]
            · have hn : ¬ (rd Y g.f1 ≥ 0 ∧ (rd Y g.f0 < 0 ∨ wrap64 (rd Y g.f1 + g.f2) < rd Y g.f0)) := fun h => by rcases h.2 with z | z <;> contradiction
              rw [if_neg c3, if_neg hn, decide_eq_false hn, Bool.or_false]
        · have hn : ¬ (rd Y g.f1 ≥ 0 ∧ (rd Y g.f0 < 0 ∨ wrap64 (rd Y g.f1 + g.f2) < rd Y g.f0)) := fun h => c1 h.1
          rw [if_neg c1, if_neg hn, decide_eq_false hn, Bool.or_false]
      have main : ∀ (c : Bool), (c = true → (rd F g.f0 ≥ 0 ∧ (rd F g.f1 < 0 ∨ wrap64 (rd F g.f0 + g.f2) < rd F g.f1))) → (c = false → ¬ (rd F g.f0 ≥ 0 ∧ (rd F g.f1 < 0 ∨ wrap64 (rd F g.f0 + g.f2) < rd F g.f1))) → spec_l25Out.j4 (k + 1) l v p F ag i g.f0 g.f1 (wrap64 (rd F g.f0 + g.f2)) c = spec_l25Out.l2 k l v p (stF (stF F g.f0 g.f1 g.f2) g.f1 g.f0 g.f2) (ag || cF F g.f0 g.f1 g.f2 || cF (stF F g.f0 g.f1 g.f2) g.f1 g.f0 g.f2) (i + 1) := by
        intro c hc1 hc2
        simp only [spec_l25Out.j4, hge, w64 (x := i + 1) (by omega) (by omega)]
        cases c with
        | true =>
          have hc := hc1 rfl
          rw [if_pos rfl, if_pos i10, if_pos (by omega)]
          simp only [Option.bind_some]
          rw [if_pos h0, if_pos hi, tail (F.set g.f1.toNat (wrap64 (rd F g.f0 + g.f2))) true (F.length : Int) (by omega)]
          have e : stF F g.f0 g.f1 g.f2 = F.set g.f1.toNat (wrap64 (rd F g.f0 + g.f2)) := by
            unfold stF
            rw [if_pos hc]
          have e2 : cF F g.f0 g.f1 g.f2 = true := decide_eq_true hc
          rw [e, e2, Bool.or_true]
        | false =>
          have hc := hc2 rfl
          rw [if_neg (by decide), if_pos i10, if_pos (by omega), if_pos h0, if_pos hi, tail F ag (F.length : Int) (by omega)]
          have e : stF F g.f0 g.f1 g.f2 = F := by
            unfold stF
            rw [if_neg hc]
          have e2 : cF F g.f0 g.f1 g.f2 = false := decide_eq_false hc
          rw [e, e2, Bool.or_false]
      simp only [spec_l25Out.j3, hge, Bool.not_true, Bool.false_eq_true, if_false]
      rw [if_pos i00, if_pos (by omega), if_pos h0, if_pos hi]
      by_cases c1 : rd F g.f0 ≥ 0
      · rw [if_pos c1, if_pos i10, if_pos (by omega)]
        by_cases c2 : rd F g.f1 < 0
        · rw [if_pos c2, main true (fun _ => ⟨c1, .inl c2⟩) (fun h => by cases h)]
        · rw [if_neg c2]
          by_cases c3 : wrap64 (rd F g.f0 + g.f2) < rd F g.f1
          · rw [decide_eq_true c3, main true (fun _ => ⟨c1, .inr c3⟩) (fun h => by cases h)]
          · rw [decide_eq_false c3, main false (fun h => by cases h) (fun _ h => by rcases h.2 with z | z <;> contradiction)]
      · rw [if_neg c1, main false (fun h => by cases h) (fun _ h => c1 h.1)]
theorem stF_dec {c : Int} {D : List Int} (h : far8 D) (hb : Bd c D) (hc : c + 500 < FAR) {a b t : Int} (ha : In8 a) (hb8 : In8 b) (ht : 1 ≤ t) (ht' : t ≤ 500) :
    stF (D.map dec) a b t = (step1 D a b t).map dec ∧ (cF (D.map dec) a b t = true ↔ rd D a + t < rd D b) := by
  obtain ⟨h1, h2, h3⟩ := cond_dec h.1 h.2.1 h.2.2 hb hc ha hb8 ht ht'
  have a0 := h.2.1 a ha
  unfold stF cF step1
  rw [decide_eq_true_eq]
  by_cases hf : rd D a < FAR
  · obtain ⟨e, e2, e3⟩ := h2 hf
    have hw : wrap64 (rd (D.map dec) a + t) = rd D a + t := by
      rw [e, w64 (by omega) (by unfold FAR at e3; omega)]
    have hcnd : (rd (D.map dec) a ≥ 0 ∧ (rd (D.map dec) b < 0 ∨ rd D a + t < rd (D.map dec) b)) ↔ rd D a + t < rd D b := ⟨fun z => e2.1 z.2, fun z => ⟨h1.2 hf, e2.2 z⟩⟩
    rw [hw]
    by_cases hlt : rd D a + t < rd D b
    · rw [if_pos (hcnd.2 hlt), if_pos hlt, map_set_dec _ _ _ (by omega)]
      exact ⟨rfl, hcnd⟩
    · rw [if_neg (fun z => hlt (hcnd.1 z)), if_neg hlt]
      exact ⟨rfl, hcnd⟩
  · have hn := h3 hf
    rw [if_neg (fun z => hf (h1.1 z.1)), if_neg hn]
    exact ⟨rfl, fun z => absurd (h1.1 z.1) hf, fun z => absurd z hn⟩
/-- One round of the reference. -/
theorem out_round (l : List S37) (hl : LegsOk l) (hn : l.length ≤ 12) (v : List Bool) (hv : v.length = 8) (p : Int) (n : Nat) : ∀ (k i : Nat) (D : List Int) (ag : Bool) (c : Int), i + n = l.length → 3 * n < k → far8 D → Bd c D → c + 1000 * n < FAR →
    ∃ k' ag', k ≤ k' + 3 * n + 1 ∧ k' < k ∧ spec_l25Out.l2 k l v p (D.map dec) ag i = spec_l25Out.l1 k' l v p ((rnd (arcsOf v (l.drop i)) D).map dec) ag' ∧ Bd (c + 1000 * n) (rnd (arcsOf v (l.drop i)) D) ∧ (ag' = true → ag = true ∨ sum8 (rnd (arcsOf v (l.drop i)) D) < sum8 D) ∧ (ag' = false → ag = false ∧ rnd (arcsOf v (l.drop i)) D = D) := by
  induction n with
  | zero =>
    intro k i D ag c hi hk hD hb hc
    obtain ⟨k, rfl⟩ : ∃ m, k = m + 1 := ⟨k - 1, by omega⟩
    refine ⟨k, ag, by omega, by omega, ?_, ?_, fun h => .inl h, fun h => ⟨h, ?_⟩⟩
    · simp only [spec_l25Out.l2]
      rw [if_neg (by omega), List.drop_eq_nil_of_le (by omega)]
      rfl
    · rw [List.drop_eq_nil_of_le (by omega)]
      exact hb.mono (by omega)
    · rw [List.drop_eq_nil_of_le (by omega)]
      rfl
  | succ n ih =>
    intro k i D ag c hi hk hD hb hc
    obtain ⟨k, rfl⟩ : ∃ m, k = m + 3 := ⟨k - 3, by omega⟩
    have hg := hl _ (rdLeg_mem (l := l) (i := (i : Int)) (by omega) (by omega))
    have i0 := in8 hg.1.1 hg.1.2
    have i1 := in8 hg.2.1.1 hg.2.1.2
    obtain ⟨ht, ht'⟩ := hg.2.2.2.1
    obtain ⟨k1, hk1, hk2, e⟩ := out_l2 l v p (D.map dec) ag i (by omega) (by omega) hn (by rw [List.length_map, hD.1]) hv i0 i1 k
    rw [drop_rdLeg l i (by omega)]
    generalize hge : rd_T37 l (i : Int) = g at hg i0 i1 ht ht' e
    rw [e]
    cases hu : usable v g with
    | false =>
      rw [if_neg (by decide)]
      obtain ⟨k', ag', h1, h2, h3, h4, h5, h6⟩ := ih k1 (i + 1) D ag c (by omega) (by omega) hD hb (by omega)
      have ea : arcsOf v (g :: l.drop (i + 1)) = arcsOf v (l.drop (i + 1)) := by
        show (if usable v g = true then _ else _) = _
        rw [hu, if_neg (by decide)]
      rw [ea]
      exact ⟨k', ag', by omega, by omega, h3, h4.mono (by omega), h5, h6⟩
    | true =>
      rw [if_pos rfl]
      have ea : ∀ E, rnd (arcsOf v (g :: l.drop (i + 1))) E = rnd (arcsOf v (l.drop (i + 1))) (step1 (step1 E g.f0 g.f1 g.f2) g.f1 g.f0 g.f2) := by
        intro E
        show rnd (if usable v g = true then _ else _) _ = _
        rw [hu, if_pos rfl]
        rfl
      rw [ea D]
      obtain ⟨s1, s2⟩ := stF_dec hD hb (by omega) i0 i1 ht ht'
      have hD1 := far8_step hD i0 i1 (t := g.f2) (by omega)
      have hb1 := step_bd hD.1 hb i0 i1 ht' hD.2.2 (by omega)
      obtain ⟨s3, s4⟩ := stF_dec hD1 hb1 (by omega) i1 i0 ht ht'
      have hD2 := far8_step hD1 i1 i0 (t := g.f2) (by omega)
      have hb2 := step_bd hD1.1 hb1 i1 i0 ht' hD1.2.2 (by omega)
      rw [s1, s3]
      have hrest : ∀ i, In8 i → rd (step1 (step1 D g.f0 g.f1 g.f2) g.f1 g.f0 g.f2) i ≤ rd D i := fun j hj => Int.le_trans (step1_le hD1.1 i0 hj _) (step1_le hD.1 i1 hj _)
      have hrnd : ∀ j, In8 j → rd (rnd (arcsOf v (l.drop (i + 1))) (step1 (step1 D g.f0 g.f1 g.f2) g.f1 g.f0 g.f2)) j ≤ rd D j := fun j hj => Int.le_trans (rnd_le _ (arcs_ok v _ (fun x hx => hl x (List.mem_of_mem_drop hx))) _ hD2.1 j hj) (hrest j hj)
      have hrl : (rnd (arcsOf v (l.drop (i + 1))) (step1 (step1 D g.f0 g.f1 g.f2) g.f1 g.f0 g.f2)).length = 8 := by rw [len_rnd, hD2.1]
      have hdec1 : rd D g.f0 + g.f2 < rd D g.f1 → sum8 (rnd (arcsOf v (l.drop (i + 1))) (step1 (step1 D g.f0 g.f1 g.f2) g.f1 g.f0 g.f2)) < sum8 D := by
        intro h
        rcases le_or hD.1 hrl hrnd with z | z
        · exfalso
          have h7 := rd_step1 (a := g.f0) (t := g.f2) hD.1 i1 i1
          rw [if_pos ⟨rfl, h⟩] at h7
          have h8 := step1_le (a := g.f1) (t := g.f2) hD1.1 i0 i1
          have h9 := rnd_le (arcsOf v (l.drop (i + 1))) (arcs_ok v _ (fun x hx => hl x (List.mem_of_mem_drop hx))) _ hD2.1 g.f1 i1
          rw [z] at h9
          omega
        · exact z
      have hdec2 : rd (step1 D g.f0 g.f1 g.f2) g.f1 + g.f2 < rd (step1 D g.f0 g.f1 g.f2) g.f0 → sum8 (rnd (arcsOf v (l.drop (i + 1))) (step1 (step1 D g.f0 g.f1 g.f2) g.f1 g.f0 g.f2)) < sum8 D := by
        intro h
        rcases le_or hD.1 hrl hrnd with z | z
        · exfalso
          have h7 := rd_step1 (a := g.f1) (t := g.f2) hD1.1 i0 i0
          rw [if_pos ⟨rfl, h⟩] at h7
          have h8 := step1_le (a := g.f0) (t := g.f2) hD.1 i1 i0
          have h9 := rnd_le (arcsOf v (l.drop (i + 1))) (arcs_ok v _ (fun x hx => hl x (List.mem_of_mem_drop hx))) _ hD2.1 g.f0 i0
          rw [z] at h9
          omega
        · exact z
      obtain ⟨k', ag', h1, h2, h3, h4, h5, h6⟩ := ih k1 (i + 1) (step1 (step1 D g.f0 g.f1 g.f2) g.f1 g.f0 g.f2) (ag || cF (D.map dec) g.f0 g.f1 g.f2 || cF ((step1 D g.f0 g.f1 g.f2).map dec) g.f1 g.f0 g.f2) (c + 500 + 500) (by omega) (by omega) hD2 hb2 (by omega)
      refine ⟨k', ag', by omega, by omega, h3, h4.mono (by omega), fun h => ?_, fun h => ?_⟩
      · rcases h5 h with z | z
        · rw [Bool.or_eq_true, Bool.or_eq_true] at z
          rcases z with (z | z) | z
          · exact .inl z
          · exact .inr (hdec1 (s2.1 z))
          · exact .inr (hdec2 (s4.1 z))
        · have q : sum8 (step1 (step1 D g.f0 g.f1 g.f2) g.f1 g.f0 g.f2) ≤ sum8 D := by
            rcases le_or hD.1 hD2.1 hrest with q | q
            · rw [q]; exact Int.le_refl _
            · omega
          exact .inr (by omega)
      · obtain ⟨z1, z2⟩ := h6 h
        rw [Bool.or_eq_false_iff, Bool.or_eq_false_iff] at z1
        obtain ⟨⟨za, zb⟩, zc⟩ := z1
        refine ⟨za, z2.trans ?_⟩
        have n1 : ¬ (rd D g.f0 + g.f2 < rd D g.f1) := fun q => by rw [s2.2 q] at zb; cases zb
        have e1 : step1 D g.f0 g.f1 g.f2 = D := by
          unfold step1
          rw [if_neg n1]
        have n2 : ¬ (rd (step1 D g.f0 g.f1 g.f2) g.f1 + g.f2 < rd (step1 D g.f0 g.f1 g.f2) g.f0) := fun q => by rw [s4.2 q] at zc; cases zc
        have e2 : step1 (step1 D g.f0 g.f1 g.f2) g.f1 g.f0 g.f2 = step1 D g.f0 g.f1 g.f2 := by
          rw [show step1 (step1 D g.f0 g.f1 g.f2) g.f1 g.f0 g.f2 = if rd (step1 D g.f0 g.f1 g.f2) g.f1 + g.f2 < rd (step1 D g.f0 g.f1 g.f2) g.f0 then _ else _ from rfl, if_neg n2]
        rw [e2, e1]
theorem D0_bd (A : List Arc) : Bd 0 D0 := fun i hi => by
  by_cases h : i = 0
  · rw [h]; right; decide
  · exact .inl (D0_far hi h)
theorem out_l1 (l : List S37) (hl : LegsOk l) (hn : l.length ≤ 12) (v : List Bool) (hv : v.length = 8) (p : Int) (hp : In8 p) (n : Nat) : ∀ (k r : Nat), r + n = 7 → 40 * n + 40 < k → Bd (12000 * r) (it (arcsOf v l) r D0) →
    spec_l25Out.l1 k l v p ((it (arcsOf v l) r D0).map dec) true = some (dec (rd (it (arcsOf v l) 7 D0) p)) := by
  have hok := arcs_ok v l hl
  have fin : ∀ (k : Nat) (r : Nat), r ≤ 7 → it (arcsOf v l) (r + 1) D0 = it (arcsOf v l) r D0 → spec_l25Out.l1 (k + 1) l v p ((it (arcsOf v l) (r + 1) D0).map dec) false = some (dec (rd (it (arcsOf v l) 7 D0) p)) := by
    intro k r hr he
    have hlen := (it_inv hok (D0_inv _) r).len
    have e7 : it (arcsOf v l) 7 D0 = it (arcsOf v l) r D0 := by
      have := it_add (arcsOf v l) D0 r (7 - r)
      rw [show r + (7 - r) = 7 by omega, it_fix he] at this
      exact this
    simp only [spec_l25Out.l1, Bool.false_eq_true, if_false]
    have h1 := hp.1
    have h2 := hp.2
    rw [he, if_pos h1, if_pos (by rw [List.length_map, hlen]; exact h2), rd_map hlen hp, e7]
  induction n with
  | zero =>
    intro k r hr hk hb
    obtain ⟨k, rfl⟩ : ∃ m, k = m + 1 := ⟨k - 1, by omega⟩
    have e8 : rnd (arcsOf v l) (it (arcsOf v l) r D0) = it (arcsOf v l) r D0 := by
      rw [show r = 7 by omega]
      exact fix7 hok
    simp only [spec_l25Out.l1, if_true]
    have I := it_inv hok (D0_inv _) r
    obtain ⟨k', ag', h1, h2, h3, h4, h5, h6⟩ := out_round l hl hn v hv p l.length k 0 (it (arcsOf v l) r D0) false (12000 * r) (by omega) (by omega) ⟨I.len, I.lo, I.hi⟩ hb (by unfold FAR; omega)
    rw [show ((0 : Nat) : Int) = 0 from rfl, List.drop_zero] at h3
    rw [List.drop_zero] at h5 h6
    rw [h3]
    cases ag' with
    | true =>
      exfalso
      rcases h5 rfl with z | z
      · cases z
      · rw [e8] at z
        omega
    | false =>
      have a1 : r ≤ 7 := by clear h3 h4 h5 h6 hb; omega
      have a2 : k' = k' - 1 + 1 := by clear h3 h4 h5 h6 hb; omega
      rw [a2]
      exact fin (k' - 1) r a1 e8
  | succ n ih =>
    intro k r hr hk hb
    obtain ⟨k, rfl⟩ : ∃ m, k = m + 1 := ⟨k - 1, by omega⟩
    simp only [spec_l25Out.l1, if_true]
    have I := it_inv hok (D0_inv _) r
    obtain ⟨k', ag', h1, h2, h3, h4, h5, h6⟩ := out_round l hl hn v hv p l.length k 0 (it (arcsOf v l) r D0) false (12000 * r) (by omega) (by omega) ⟨I.len, I.lo, I.hi⟩ hb (by unfold FAR; omega)
    rw [show ((0 : Nat) : Int) = 0 from rfl, List.drop_zero] at h3
    rw [List.drop_zero] at h4 h5 h6
    rw [h3]
    cases ag' with
    | true =>
      have hb' : Bd (12000 * ((r + 1 : Nat) : Int)) (it (arcsOf v l) (r + 1) D0) := Bd.mono (c := 12000 * r + 1000 * l.length) h4 (by omega)
      have a1 : r + 1 + n = 7 := by clear h3 h4 h5 h6 hb' hb; omega
      have a2 : 40 * n + 40 < k' := by clear h3 h4 h5 h6 hb' hb; omega
      have hq := ih k' (r + 1) a1 a2 hb'
      exact hq
    | false =>
      have a1 : r ≤ 7 := by clear h3 h4 h5 h6 hb; omega
      have a2 : k' = k' - 1 + 1 := by clear h3 h4 h5 h6 hb; omega
      rw [a2]
      exact fin (k' - 1) r a1 (h6 rfl).2
theorem out_l0 (l : List S37) (v : List Bool) (p : Int) (n : Nat) : ∀ (k j : Nat), j + n = 8 → n < k →
    ∃ k', k = k' + n + 1 ∧ spec_l25Out.l0 k l v p (List.replicate j (-1)) j = spec_l25Out.l1 k' l v p (D0.map dec) true := by
  induction n with
  | zero =>
    intro k j hj hk
    obtain ⟨k, rfl⟩ : ∃ m, k = m + 1 := ⟨k - 1, by omega⟩
    obtain rfl : j = 8 := by omega
    refine ⟨k, by omega, ?_⟩
    simp only [spec_l25Out.l0]
    rw [if_neg (by decide), if_pos (by decide)]
    rfl
  | succ n ih =>
    intro k j hj hk
    obtain ⟨k, rfl⟩ : ∃ m, k = m + 1 := ⟨k - 1, by omega⟩
    simp only [spec_l25Out.l0]
    rw [if_pos (by omega), if_pos (by rw [List.length_replicate]; omega), w64 (by omega) (by omega)]
    obtain ⟨k', h1, h2⟩ := ih k (j + 1) (by omega) (by omega)
    refine ⟨k', by omega, ?_⟩
    rw [List.replicate_succ'] at h2
    exact h2
theorem out_eq {l : List S37} (hl : LegsOk l) (hn : l.length ≤ 12) {v : List Bool} (hv : v.length = 8) {p : Int} (hp : In8 p) {k : Nat} (hk : 400 ≤ k) :
    spec_l25Out.f k l v p = some (dec (rd (it (arcsOf v l) 7 D0) p)) := by
  obtain ⟨k', h1, h2⟩ := out_l0 l v p 8 k 0 (by omega) (by omega)
  unfold spec_l25Out.f
  rw [show ([] : List Int) = List.replicate 0 (-1) from rfl, show (0 : Int) = ((0 : Nat) : Int) from rfl, h2]
  exact out_l1 l hl hn v hv p hp 7 k' 0 (by omega) (by omega) (D0_bd (arcsOf v l))

/-! explorations -/
/-- The sum of the tapes of the way out, or far. -/
def way (l : List S37) (v : List Bool) (p : Int) : Int := rd (it (arcsOf v l) 7 D0) p
theorem way_bd {l : List S37} (hl : LegsOk l) (v : List Bool) {p : Int} (hp : In8 p) : 0 ≤ way l v p ∧ way l v p ≤ FAR := by
  have I := it_inv (arcs_ok v l hl) (D0_inv _) 7
  exact ⟨I.lo p hp, I.hi p hp⟩
/-- An exploration that is valid. -/
structure ExplOk (l : List S37) (v d : List Bool) (p t : Int) : Prop where
  legs : LegsOk l
  len : l.length ≤ 12
  hv : v.length = 8
  hd : d.length = 8
  hp : In8 p
  ht : 0 ≤ t ∧ t ≤ 100000
  hway : way l v p < FAR
  hlight : way l v p ≤ t
  v0 : rdOf false v 0 = true
  vp : rdOf false v p = true
theorem good_eq (l : List S37) (hl : l.length ≤ 4611686018427387904) (v d : List Bool) (p t : Int) {k : Nat} (hk : l.length + 410 ≤ k) :
    ∃ b, spec_l25Good.f k l v d p t = some b ∧ impl_IsExploration.f k l v d p t = some b ∧ (b = true ↔ ExplOk l v d p t) := by
  obtain ⟨x, hx, hxi⟩ := legs_spec l hl l.length k 0 (by omega) (by omega) (by omega)
  obtain ⟨k, rfl⟩ : ∃ m, k = m + 1 := ⟨k - 1, by omega⟩
  have hno : ¬ ExplOk l v d p t → ∃ b, some false = some b ∧ some false = some b ∧ (b = true ↔ ExplOk l v d p t) := fun h => ⟨false, rfl, rfl, fun z => (by cases z), fun z => absurd z h⟩
  unfold spec_l25Good.f impl_IsExploration.f spec_l4Legs.f impl_areLegs.f
  rw [legs_impl, hx]
  simp only [Option.bind_some, station_eq, isStation_eq, l1In_eq, within_eq]
  cases x with
  | false =>
    simp only [spec_l25Good.j0, impl_IsExploration.j0, Bool.false_eq_true, if_false, if_true]
    refine hno fun h => ?_
    have := hxi.2 ⟨fun j h1 h2 => h.legs _ (rdLeg_mem h1 h2), h.len⟩
    cases this
  | true =>
    obtain ⟨hlo, hlen⟩ := hxi.1 rfl
    have hlegs := legsOk_of hlo
    simp only [if_true, spec_l25Good.j0, impl_IsExploration.j0]
    by_cases h1 : (v.length : Int) = 8
    · rw [if_pos h1, if_pos h1]
      by_cases h2 : (d.length : Int) = 8
      · rw [if_pos h2, if_pos h2]
        by_cases h3 : 0 ≤ p ∧ p ≤ 7
        · rw [decide_eq_true h3, if_pos rfl, if_pos rfl]
          by_cases h4 : 0 ≤ t ∧ t ≤ 100000
          · have hv8 : v.length = 8 := by omega
            have hp8 := in8 h3.1 h3.2
            rw [decide_eq_true h4]
            simp only [Bool.not_true, Bool.false_eq_true, if_false]
            have hvp : (0 : Int) < (v.length : Int) := by omega
            simp only [if_pos hvp]
            cases h5 : rdOf false v 0 with
            | false =>
              simp only [Bool.false_eq_true, if_false]
              exact hno fun h => by have := h.v0; rw [h5] at this; cases this
            | true =>
              have hpv : p < (v.length : Int) := by omega
              simp only [if_true, if_pos h3.1, if_pos hpv]
              cases h6 : rdOf false v p with
              | false =>
                simp only [Bool.false_eq_true, if_false]
                exact hno fun h => by have := h.vp; rw [h6] at this; cases this
              | true =>
                simp only [if_true]
                rw [out_eq hlegs hlen hv8 hp8 (by omega), wayOut_eq hlegs hlen d hv8 t hp8 (by omega)]
                simp only [Option.bind_some]
                obtain ⟨w0, w1⟩ := way_bd hlegs v hp8
                have hex : way l v p < FAR → way l v p ≤ t → ExplOk l v d p t := fun a b => ⟨hlegs, hlen, hv8, by omega, hp8, h4, a, b, h5, h6⟩
                rw [show rd (it (arcsOf v l) 7 D0) p = way l v p from rfl]
                by_cases h7 : way l v p < FAR
                · have e : dec (way l v p) = way l v p := by
                    unfold dec
                    rw [if_neg (by omega)]
                  rw [e, if_pos w0, decide_eq_true h7, if_pos rfl]
                  refine ⟨_, rfl, rfl, ?_⟩
                  rw [decide_eq_true_eq]
                  exact ⟨fun h => hex h7 h, fun h => h.hlight⟩
                · have e : dec (way l v p) = -1 := by
                    unfold dec
                    rw [if_pos (by omega)]
                  rw [e, if_neg (by decide), decide_eq_false h7, if_neg (by decide)]
                  exact hno fun h => h7 h.hway
          · rw [decide_eq_false h4]
            simp only [Bool.not_false, if_true]
            exact hno fun h => h4 h.ht
        · rw [decide_eq_false h3]
          simp only [Bool.false_eq_true, if_false, if_true]
          exact hno fun h => h3 ⟨h.hp.1, by have := h.hp.2; omega⟩
      · rw [if_neg h2, if_neg h2]
        exact hno fun h => h2 (by have := h.hd; omega)
    · rw [if_neg h1, if_neg h1]
      exact hno fun h => h1 (by have := h.hv; omega)
end Go.Proofs.Ythmjimboajmhmaa.Pr.Pure

/-
What is proved: FnExactSpareLight.Pure: the program's SpareLight and the reference's answer the same, over numbers and lists alone.
Conditions: each number is an int, each list no longer than memory allows.
-/
namespace Go.Proofs.Ythmjimboajmhmaa.Pr.Pure
open Go.RowKit Go.Proofs.YthmjimboajmhmaaW.PrintWords Go.Proofs.YthmjimboajmhmaaW.PrintLast Go.Proofs.YthmjimboajmhmaaW.PrintMore Go.Proofs.YthmjimboajmhmaaW.Opens
set_option linter.unusedVariables false
set_option linter.unusedSimpArgs false
theorem spareLight_both (l : List S37) (hl : l.length ≤ 4611686018427387904) (v d : List Bool) (p t : Int) {k : Nat} (hk : l.length + 410 ≤ k) :
    ∃ r b, spec_SpareLight.f k l v d p t = some (r, b) ∧ impl_SpareLight.f k l v d p t = some (r, b) := by
  obtain ⟨b, e1, e2, hi⟩ := good_eq l hl v d p t hk
  unfold spec_SpareLight.f impl_SpareLight.f impl_WayOut.f
  rw [e1, e2]
  cases b with
  | false => exact ⟨0, false, rfl, rfl⟩
  | true =>
    have h := hi.1 rfl
    have e : dec (way l v p) = way l v p := by
      unfold dec
      rw [if_neg (by have := h.hway; omega)]
    simp only [Option.bind_some, if_true]
    rw [out_eq h.legs h.len h.hv h.hp (by omega), wayOut_eq h.legs h.len d h.hv t h.hp (by omega)]
    simp only [Option.bind_some]
    rw [show rd (it (arcsOf v l) 7 D0) p = way l v p from rfl, e, decide_eq_true h.hway]
    exact ⟨_, _, rfl, rfl⟩
theorem FnExactSpareLight : FnExactSpareLight.Pure := by
  intro x h
  obtain ⟨⟨_, hb0, hw0⟩, ⟨_, hb1, hw1⟩, ⟨_, hb2, hw2⟩, i3, i4⟩ := h
  have hm : (x.f0.map cvLeg).length = x.f0.length := List.length_map _
  obtain ⟨K, hK⟩ : ∃ K, K = x.f0.length + x.f1.length + x.f2.length + 450 := ⟨_, rfl⟩
  obtain ⟨r, b, e1, e2⟩ := spareLight_both (x.f0.map cvLeg) (by omega) x.f1 x.f2 x.f3 x.f4 (k := K + 1) (by omega)
  have t : ∀ k, K ≤ k → laws_toExploration.f k x.f0 x.f1 x.f2 x.f3 x.f4 = some (x.f0.map cvLeg, x.f1, x.f2, x.f3, x.f4) := fun k hk => toExploration_eq hb0 (by omega) (by omega) (by omega) (by omega) (by omega)
  have q : ∀ k, K ≤ k → laws_eqExploration.f k (x.f0.map cvLeg) x.f1 x.f2 x.f3 x.f4 (x.f0.map cvLeg) x.f1 x.f2 x.f3 x.f4 = some true := fun k hk => eqExploration_eq (by omega) (by omega) (by omega) (by omega) (by omega) (by omega)
  refine ⟨K + 1, ?_⟩
  unfold laws_FnExactSpareLight.f laws_szExploration.f laws_szLegS.f laws_szBoolS.f
  simp (disch := omega) only [t, q, e1, e2, laws_FnExactSpareLight.j0, Option.bind_some, bne_self_eq_false, Bool.false_eq_true, if_false, if_true]
  by_cases s1 : wrap64 (1048576 - (x.f0.length : Int)) < 0
  · simp [if_pos s1]
  · simp only [if_neg s1, Option.bind_some]
    by_cases s2 : wrap64 (wrap64 (1048576 - (x.f0.length : Int)) - (x.f1.length : Int)) < 0
    · simp [if_pos s2]
    · simp only [if_neg s2, Option.bind_some]
      by_cases s3 : wrap64 (wrap64 (wrap64 (1048576 - (x.f0.length : Int)) - (x.f1.length : Int)) - (x.f2.length : Int)) < 0
      · simp [if_pos s3]
      · simp only [if_neg s3, Option.bind_some]
end Go.Proofs.Ythmjimboajmhmaa.Pr.Pure

