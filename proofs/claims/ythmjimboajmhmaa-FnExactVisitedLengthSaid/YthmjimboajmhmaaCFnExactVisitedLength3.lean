/-
What is proved: parts of the law FnExactVisitedLength: what the functions that it reaches compute, and the plain law.
Conditions: those of each theorem.
-/
import Derived.Test.YthmjimboajmhmaaCFnExactVisitedLength2
namespace Go.Proofs.Ythmjimboajmhmaa.Pr
open Go.RowKit Go.Proofs.YthmjimboajmhmaaW.PrintWords Go.Proofs.YthmjimboajmhmaaW.PrintLast Go.Proofs.YthmjimboajmhmaaW.PrintMore
attribute [local go_sem] max2_int min2_int max_two min_two max_three min_three max_four min_four   -- for this text's walks alone
set_option linter.unusedVariables false
set_option linter.unusedSimpArgs false

/-! ### impl_VisitedLength: function 27 -/
def impl_VisitedLength.l0 : Nat → Int → List (S37) → Int → Int → List (S37) → List Bool → List Bool → Int → Int → Option (Int × Bool)
  | 0, _, _, _, _, _, _, _, _, _ => none
  | k + 1, x4, x11, x12, x13, x829000, x829001, x829002, x829003, x829004 => if x13 < x12 then (if 0 ≤ x13 then (if x13 < (x11.length : Int) then (if 0 ≤ ((rd_T37 x11 x13).f0) then (if ((rd_T37 x11 x13).f0) < (x829001.length : Int) then (if rdOf false x829001 ((rd_T37 x11 x13).f0) = true then (if 0 ≤ ((rd_T37 x11 x13).f1) then (if ((rd_T37 x11 x13).f1) < (x829001.length : Int) then (if rdOf false x829001 ((rd_T37 x11 x13).f1) = true then (impl_VisitedLength.l0 k (wrap64 (x4 + ((rd_T37 x11 x13).f2))) x11 x12 (wrap64 (x13 + 1)) x829000 x829001 x829002 x829003 x829004) else (impl_VisitedLength.l0 k x4 x11 x12 (wrap64 (x13 + 1)) x829000 x829001 x829002 x829003 x829004)) else (none)) else (none)) else (impl_VisitedLength.l0 k x4 x11 x12 (wrap64 (x13 + 1)) x829000 x829001 x829002 x829003 x829004)) else (none)) else (none)) else (none)) else (none)) else (some (x4, true))
def impl_VisitedLength.f (k : Nat) (l0_0 : List (S37)) (l0_1 : List Bool) (l0_2 : List Bool) (a0_3 : Int) (a0_4 : Int) : Option (Int × Bool) := (impl_IsExploration.f k l0_0 l0_1 l0_2 a0_3 a0_4).bind fun t829 => (if t829 = true then (impl_VisitedLength.l0 k 0 l0_0 (l0_0.length : Int) 0 l0_0 l0_1 l0_2 a0_3 a0_4) else (some (0, false)))
theorem impl_VisitedLength.mono_l : ∀ k, (∀ y0 y1 y2 y3 y4 y5 y6 y7 y8, LeO (impl_VisitedLength.l0 k y0 y1 y2 y3 y4 y5 y6 y7 y8) (impl_VisitedLength.l0 (k + 1) y0 y1 y2 y3 y4 y5 y6 y7 y8))
  | 0 => fun _ _ _ _ _ _ _ _ _ r h => by simp [impl_VisitedLength.l0] at h
  | k + 1 => by
    have ih0 := impl_VisitedLength.mono_l k
    · intro y0 y1 y2 y3 y4 y5 y6 y7 y8
      unfold impl_VisitedLength.l0
      repeat' first
      | (with_reducible exact ih0 _ _ _ _ _ _ _ _ _)
      | (with_reducible exact impl_IsExploration.mono _ _ _ _ _ _)
      | (with_reducible exact LeO.refl _)
      | (with_reducible exact LeO.none _)
      | (with_reducible refine LeO.ite ?_ ?_)
      | (with_reducible refine LeO.bind ?_ (fun _ => ?_))
      | exact ih0 _ _ _ _ _ _ _ _ _
      | exact impl_IsExploration.mono _ _ _ _ _ _
      | exact LeO.none _
      | refine LeO.ite ?_ ?_
      | refine LeO.bind ?_ (fun _ => ?_)
theorem impl_VisitedLength.mono : ∀ a0 a1 a2 a3 a4 k, LeO (impl_VisitedLength.f k a0 a1 a2 a3 a4) (impl_VisitedLength.f (k + 1) a0 a1 a2 a3 a4) := by
  intro a0 a1 a2 a3 a4 k
  have ih0 := impl_VisitedLength.mono_l k
  unfold impl_VisitedLength.f
  repeat' first
      | (with_reducible exact ih0 _ _ _ _ _ _ _ _ _)
      | (with_reducible exact impl_IsExploration.mono _ _ _ _ _ _)
      | (with_reducible exact LeO.refl _)
      | (with_reducible exact LeO.none _)
      | (with_reducible refine LeO.ite ?_ ?_)
      | (with_reducible refine LeO.bind ?_ (fun _ => ?_))
      | exact ih0 _ _ _ _ _ _ _ _ _
      | exact impl_IsExploration.mono _ _ _ _ _ _
      | exact LeO.none _
      | refine LeO.ite ?_ ?_
      | refine LeO.bind ?_ (fun _ => ?_)
set_option maxHeartbeats 8000000 in
set_option maxRecDepth 100000 in
theorem impl_VisitedLength.calls (k : Nat) (A0_0 : Option Addr) (c0_0 : Nat) (l0_0 : List (S37)) (A0_1 : Option Addr) (c0_1 : Nat) (l0_1 : List Bool) (A0_2 : Option Addr) (c0_2 : Nat) (l0_2 : List Bool) (a0_3 : Int) (a0_4 : Int) (r1 : Int) (r2 : Bool) (w : World) (hr0_0 : Kd.C k37 w A0_0 l0_0.length l0_0) (hc0_0 : l0_0.length ≤ c0_0) (hr0_1 : Kd.C Kd.bool w A0_1 l0_1.length l0_1) (hc0_1 : l0_1.length ≤ c0_1) (hr0_2 : Kd.C Kd.bool w A0_2 l0_2.length l0_2) (hc0_2 : l0_2.length ≤ c0_2) (h : impl_VisitedLength.f k l0_0 l0_1 l0_2 a0_3 a0_4 = some (r1, r2)) :
    Calls Try.prog 27 #[.agg #[.slice A0_0 l0_0.length c0_0, .slice A0_1 l0_1.length c0_1, .slice A0_2 l0_2.length c0_2, .int .i64 a0_3, .int .i64 a0_4]] w fun e w' => e = .returned (.tuple #[.int .i64 r1, .bool r2]) ∧ Below w.heap.size w w' := by
  have hu30 := Try.underlying30
  have hu37 := Try.underlying37
  have HR0_0 := Aside0.mk hr0_0
  have HC0_0 := Aside0.mk hc0_0
  clear hr0_0 hc0_0
  have HR0_1 := Aside0.mk hr0_1
  have HC0_1 := Aside0.mk hc0_1
  clear hr0_1 hc0_1
  have HR0_2 := Aside0.mk hr0_2
  have HC0_2 := Aside0.mk hc0_2
  clear hr0_2 hc0_2
  have HB := Aside0.mk (Below.refl w.heap.size w)
  have H : ((impl_IsExploration.f k l0_0 l0_1 l0_2 a0_3 a0_4).bind fun t829 => (if t829 = true then (impl_VisitedLength.l0 k 0 l0_0 (l0_0.length : Int) 0 l0_0 l0_1 l0_2 a0_3 a0_4) else (some (0, false)))) = some (r1, r2) := h
  clear h
  replace H := Option.bind_eq_some_iff.mp H
  obtain ⟨t829, A20, H⟩ := H
  replace H : (if t829 = true then (impl_VisitedLength.l0 k 0 l0_0 (l0_0.length : Int) 0 l0_0 l0_1 l0_2 a0_3 a0_4) else (some (0, false))) = some (r1, r2) := H
  have A2 := Aside0.mk A20
  clear A20
  by_cases c3 : t829 = true
  · subst c3
    have H1 : (impl_VisitedLength.l0 k 0 l0_0 (l0_0.length : Int) 0 l0_0 l0_1 l0_2 a0_3 a0_4) = some (r1, r2) := by rw [if_pos rfl] at H; exact H
    clear H
    have H := H1
    clear H1
    have H' := Aside0.mk H
    clear H
    go_enter Try.func27, Try.ntmps27
    go_wp2_with (first | ((with_reducible refine gate_dst (N := 1) rfl ?_); refine box_event ?hg (N := 1) ?hd (cs := #[.slice A0_0 l0_0.length c0_0, .slice A0_1 l0_1.length c0_1, .slice A0_2 l0_2.length c0_2, .int .i64 a0_3, .int .i64 a0_4]) (t := 30) ?hr ?_; (case hd => rfl); (case hg => rfl); (case hr => first | (go_simp; done) | (go_simp; rfl)); intro gb828 hg w4 hbox hb; have n0_ := Aside0.mk (below_step (by repeat (first | (with_reducible first | exact HB.out | apply below_alloc | apply pw_below_drewN | apply below_drew1) | exact HB.out)) hb); have n1_ := Aside0.mk (hbox); have n2_ := Aside0.mk ((by rw [hg]; exact (below_size (by repeat (first | (with_reducible first | exact HB.out | apply below_alloc | apply pw_below_drewN | apply below_drew1) | exact HB.out))) : w.heap.size ≤ gb828)); have n3_ := Aside0.mk ((by rw [hg]; exact (below_size (by repeat (first | (with_reducible first | exact HB.out | apply below_alloc | apply pw_below_drewN | apply below_drew1) | exact HB.out))) : w.heap.size ≤ gb828)); clear HB; have HB := n0_; have BK828 := n1_; have GW828 := n2_; have GE828 := n3_; clear n0_ n1_ n2_ n3_; clear hb hbox hg; have hcz5_0 : w4.cell? ⟨gb828, 0, none⟩ = some (.slice A0_0 l0_0.length c0_0) := (blk_cell BK828.out 0).trans rfl; have hcz5_1 : w4.cell? ⟨gb828, 1, none⟩ = some (.slice A0_1 l0_1.length c0_1) := (blk_cell BK828.out 1).trans rfl; have hcz5_2 : w4.cell? ⟨gb828, 2, none⟩ = some (.slice A0_2 l0_2.length c0_2) := (blk_cell BK828.out 2).trans rfl; have hcz5_3 : w4.cell? ⟨gb828, 3, none⟩ = some (.int .i64 a0_3) := (blk_cell BK828.out 3).trans rfl; have hcz5_4 : w4.cell? ⟨gb828, 4, none⟩ = some (.int .i64 a0_4) := (blk_cell BK828.out 4).trans rfl; have hfz5_0 := blk_frozen BK828.out 0; have hfz5_1 := blk_frozen BK828.out 1; have hfz5_2 := blk_frozen BK828.out 2; have hfz5_3 := blk_frozen BK828.out 3; have hfz5_4 := blk_frozen BK828.out 4) | ((with_reducible refine gate_callee (f := 18) rfl ?_); refine goesL_ (some 8) rfl rfl Try.func18 (by kernel_rfl) rfl #[.agg #[.slice A0_0 l0_0.length c0_0, .slice A0_1 l0_1.length c0_1, .slice A0_2 l0_2.length c0_2, .int .i64 a0_3, .int .i64 a0_4]] rfl (by (try simp only [List.map_toArray, List.map_cons, List.map_nil]); first | done | rfl | (simp only [List.length_drop, List.length_take]; rfl)) ?_; (with_reducible refine (impl_IsExploration.calls k _ _ l0_0 _ _ l0_1 _ _ l0_2 a0_3 a0_4 true _ ?side1 ?side2 ?side3 ?side4 ?side5 ?side6 A2.out).mono ?_); (case side1 => repeat (first | exact (Kd.C_below HR0_0.out HB.out) | (with_reducible refine Kd.C_alloc ?_ _) | (with_reducible refine Kd.C_drewN ?_ _) | (with_reducible refine Kd.C_drew ?_))); (case side2 => exact HC0_0.out); (case side3 => repeat (first | exact (Kd.C_below HR0_1.out HB.out) | (with_reducible refine Kd.C_alloc ?_ _) | (with_reducible refine Kd.C_drewN ?_ _) | (with_reducible refine Kd.C_drew ?_))); (case side4 => exact HC0_1.out); (case side5 => repeat (first | exact (Kd.C_below HR0_2.out HB.out) | (with_reducible refine Kd.C_alloc ?_ _) | (with_reducible refine Kd.C_drewN ?_ _) | (with_reducible refine Kd.C_drew ?_))); (case side6 => exact HC0_2.out); rintro e w6 ⟨rfl, hb⟩; refine ⟨_, rfl, ?_⟩; have n0_ := Aside0.mk (blk_below (g := gb828) (o := .cells #[.slice A0_0 l0_0.length c0_0, .slice A0_1 l0_1.length c0_1, .slice A0_2 l0_2.length c0_2, .int .i64 a0_3, .int .i64 a0_4] 30 (0, 0)) (by (with_reducible repeat (first | refine blk_drewN ?_ _ | refine blk_drew ?_ | refine blk_alloc ?_ _)); exact BK828.out) hb); have n1_ := Aside0.mk (below_step (by repeat (first | (with_reducible first | exact HB.out | apply below_alloc | apply pw_below_drewN | apply below_drew1 | refine below_set ?_ GE828.out) | exact HB.out)) hb); clear BK828; clear HB; have BK828 := n0_; have HB := n1_; clear n0_ n1_; (try clear hb); (try clear hb2); (try clear hk); (try clear hi); have hcz7_0 : w6.cell? ⟨gb828, 0, none⟩ = some (.slice A0_0 l0_0.length c0_0) := (blk_cell BK828.out 0).trans rfl; have hcz7_1 : w6.cell? ⟨gb828, 1, none⟩ = some (.slice A0_1 l0_1.length c0_1) := (blk_cell BK828.out 1).trans rfl; have hcz7_2 : w6.cell? ⟨gb828, 2, none⟩ = some (.slice A0_2 l0_2.length c0_2) := (blk_cell BK828.out 2).trans rfl; have hcz7_3 : w6.cell? ⟨gb828, 3, none⟩ = some (.int .i64 a0_3) := (blk_cell BK828.out 3).trans rfl; have hcz7_4 : w6.cell? ⟨gb828, 4, none⟩ = some (.int .i64 a0_4) := (blk_cell BK828.out 4).trans rfl; have hfz7_0 := blk_frozen BK828.out 0; have hfz7_1 := blk_frozen BK828.out 1; have hfz7_2 := blk_frozen BK828.out 2; have hfz7_3 := blk_frozen BK828.out 3; have hfz7_4 := blk_frozen BK828.out 4))
    go_loopg [4, 13] k (fun kq v4 v13 w' => ∃ (x4_1 : Int) (x13_1 : Int), v4 = .int .i64 x4_1 ∧ v13 = .int .i64 x13_1 ∧ Aside0 (impl_VisitedLength.l0 kq x4_1 l0_0 (l0_0.length : Int) x13_1 l0_0 l0_1 l0_2 a0_3 a0_4 = some (r1, r2)) ∧ Aside0 (kq ≤ k) ∧ Aside0 (w'.heap[gb828]? = some (.cells #[(.slice A0_0 l0_0.length c0_0), (.slice A0_1 l0_1.length c0_1), (.slice A0_2 l0_2.length c0_2), .int .i64 a0_3, .int .i64 a0_4] 30 (0, 0))) ∧ Aside0 (Below w.heap.size w w'))
    case atStart => exact ⟨(0), (0), (by first | rfl | (simp; done) | (simp [*]; done)), (by first | rfl | (simp; done) | (simp [*]; done)), H', ⟨Nat.le_refl _⟩, ⟨by (with_reducible repeat (first | refine blk_drewN ?_ _ | refine blk_drew ?_ | refine blk_alloc ?_ _)); exact BK828.out⟩, ⟨by repeat (first | (with_reducible first | exact HB.out | apply below_alloc | apply pw_below_drewN | apply below_drew1 | refine below_set ?_ GE828.out) | exact HB.out)⟩⟩
    case round =>
      clear H'
      try clear c1
      try clear c2
      try clear p2
      try clear c3
      try clear hcz5_0
      try clear hcz5_1
      try clear hcz5_2
      try clear hcz5_3
      try clear hcz5_4
      try clear hcz7_0
      try clear hcz7_1
      try clear hcz7_2
      try clear hcz7_3
      try clear hcz7_4
      try clear hfz5_0
      try clear hfz5_1
      try clear hfz5_2
      try clear hfz5_3
      try clear hfz5_4
      try clear hfz7_0
      try clear hfz7_1
      try clear hfz7_2
      try clear hfz7_3
      try clear hfz7_4
      obtain ⟨x4_1, x13_1, rfl, rfl, HA, HK1, BK828, HB⟩ := hrel
      cases gk with
      | zero => exact absurd HA.out (by simp [impl_VisitedLength.l0])
      | succ k1 =>
        have H := HA.out
        clear HA
        simp only [impl_VisitedLength.l0] at H
        by_cases c8 : x13_1 < (l0_0.length : Int)
        · rw [if_pos c8] at H
          have c8b0 : decide (x13_1 < (l0_0.length : Int)) = true := decide_eq_true c8
          clear c8
          by_cases c9 : 0 ≤ x13_1
          · rw [if_pos c9] at H
            have c9b0 : decide (0 ≤ x13_1) = true := decide_eq_true c9
            clear c9
            by_cases c10 : x13_1 < (l0_0.length : Int)
            · rw [if_pos c10] at H
              have c10b0 : decide (x13_1 < (l0_0.length : Int)) = true := decide_eq_true c10
              clear c10
              by_cases c11 : 0 ≤ ((rd_T37 l0_0 x13_1).f0)
              · rw [if_pos c11] at H
                have c11b0 : decide (0 ≤ ((rd_T37 l0_0 x13_1).f0)) = true := decide_eq_true c11
                clear c11
                by_cases c12 : ((rd_T37 l0_0 x13_1).f0) < (l0_1.length : Int)
                · rw [if_pos c12] at H
                  have c12b0 : decide (((rd_T37 l0_0 x13_1).f0) < (l0_1.length : Int)) = true := decide_eq_true c12
                  clear c12
                  obtain ⟨bq13, hbq13⟩ : ∃ b_ : Bool, b_ = (rdOf false l0_1 ((rd_T37 l0_0 x13_1).f0)) := ⟨_, rfl⟩
                  replace H : (if bq13 = true then (if 0 ≤ ((rd_T37 l0_0 x13_1).f1) then (if ((rd_T37 l0_0 x13_1).f1) < (l0_1.length : Int) then (if rdOf false l0_1 ((rd_T37 l0_0 x13_1).f1) = true then (impl_VisitedLength.l0 k1 (wrap64 (x4_1 + ((rd_T37 l0_0 x13_1).f2))) l0_0 (l0_0.length : Int) (wrap64 (x13_1 + 1)) l0_0 l0_1 l0_2 a0_3 a0_4) else (impl_VisitedLength.l0 k1 x4_1 l0_0 (l0_0.length : Int) (wrap64 (x13_1 + 1)) l0_0 l0_1 l0_2 a0_3 a0_4)) else (none)) else (none)) else (impl_VisitedLength.l0 k1 x4_1 l0_0 (l0_0.length : Int) (wrap64 (x13_1 + 1)) l0_0 l0_1 l0_2 a0_3 a0_4)) = some (r1, r2) := by rw [← hbq13] at H; exact H
                  have Nbq13 := Aside0.mk hbq13
                  clear hbq13
                  by_cases c14 : bq13 = true
                  · subst c14
                    have H1 : (if 0 ≤ ((rd_T37 l0_0 x13_1).f1) then (if ((rd_T37 l0_0 x13_1).f1) < (l0_1.length : Int) then (if rdOf false l0_1 ((rd_T37 l0_0 x13_1).f1) = true then (impl_VisitedLength.l0 k1 (wrap64 (x4_1 + ((rd_T37 l0_0 x13_1).f2))) l0_0 (l0_0.length : Int) (wrap64 (x13_1 + 1)) l0_0 l0_1 l0_2 a0_3 a0_4) else (impl_VisitedLength.l0 k1 x4_1 l0_0 (l0_0.length : Int) (wrap64 (x13_1 + 1)) l0_0 l0_1 l0_2 a0_3 a0_4)) else (none)) else (none)) = some (r1, r2) := by rw [if_pos rfl] at H; exact H
                    clear H
                    have H := H1
                    clear H1
                    by_cases c15 : 0 ≤ ((rd_T37 l0_0 x13_1).f1)
                    · rw [if_pos c15] at H
                      have c15b0 : decide (0 ≤ ((rd_T37 l0_0 x13_1).f1)) = true := decide_eq_true c15
                      clear c15
                      by_cases c16 : ((rd_T37 l0_0 x13_1).f1) < (l0_1.length : Int)
                      · rw [if_pos c16] at H
                        have c16b0 : decide (((rd_T37 l0_0 x13_1).f1) < (l0_1.length : Int)) = true := decide_eq_true c16
                        clear c16
                        obtain ⟨bq17, hbq17⟩ : ∃ b_ : Bool, b_ = (rdOf false l0_1 ((rd_T37 l0_0 x13_1).f1)) := ⟨_, rfl⟩
                        replace H : (if bq17 = true then (impl_VisitedLength.l0 k1 (wrap64 (x4_1 + ((rd_T37 l0_0 x13_1).f2))) l0_0 (l0_0.length : Int) (wrap64 (x13_1 + 1)) l0_0 l0_1 l0_2 a0_3 a0_4) else (impl_VisitedLength.l0 k1 x4_1 l0_0 (l0_0.length : Int) (wrap64 (x13_1 + 1)) l0_0 l0_1 l0_2 a0_3 a0_4)) = some (r1, r2) := by rw [← hbq17] at H; exact H
                        have Nbq17 := Aside0.mk hbq17
                        clear hbq17
                        by_cases c18 : bq17 = true
                        · subst c18
                          have H1 : (impl_VisitedLength.l0 k1 (wrap64 (x4_1 + ((rd_T37 l0_0 x13_1).f2))) l0_0 (l0_0.length : Int) (wrap64 (x13_1 + 1)) l0_0 l0_1 l0_2 a0_3 a0_4) = some (r1, r2) := by rw [if_pos rfl] at H; exact H
                          clear H
                          have H := H1
                          clear H1
                          have H' := Aside0.mk H
                          clear H
                          have p830 : 0 ≤ (x13_1 : Int) := of_decide_eq_true (by first | (with_reducible assumption) | assumption)
                          have q830 : x13_1 < (l0_0.length : Int) := of_decide_eq_true (by first | (with_reducible assumption) | assumption)
                          obtain ⟨ad830, e830, hx830_0, hx830_1, hx830_2, hx830_3, hx830_4⟩ := at_T37 HR0_0.out x13_1 p830 q830
                          cases e830
                          replace hx830_0 := (HB.out.cell (World.block_lt_of_cell? w _ hx830_0)).trans hx830_0
                          replace hx830_1 := (HB.out.cell (World.block_lt_of_cell? w _ hx830_1)).trans hx830_1
                          replace hx830_2 := (HB.out.cell (World.block_lt_of_cell? w _ hx830_2)).trans hx830_2
                          replace hx830_3 := (HB.out.cell (World.block_lt_of_cell? w _ hx830_3)).trans hx830_3
                          replace hx830_4 := (HB.out.cell (World.block_lt_of_cell? w _ hx830_4)).trans hx830_4
                          replace p830 := eq_true p830
                          replace q830 := eq_true q830
                          go_wp2_with (first | ((with_reducible refine gate_dst (N := 6) rfl ?_); refine box_event ?hg (N := 6) ?hd (cs := #[.int .i64 0, .int .i64 0, .int .i64 0, .int .i64 0, .int .i64 0]) (t := 37) ?hr ?_; (case hd => rfl); (case hg => rfl); (case hr => first | (go_simp; done) | (go_simp; rfl)); intro gb831 hg w19 hbox hb; have n0_ := Aside0.mk (blk_below (g := gb828) (o := .cells #[.slice (some ad830) l0_0.length c0_0, .slice A0_1 l0_1.length c0_1, .slice A0_2 l0_2.length c0_2, .int .i64 a0_3, .int .i64 a0_4] 30 (0, 0)) (by (with_reducible repeat (first | refine blk_drewN ?_ _ | refine blk_drew ?_ | refine blk_alloc ?_ _)); exact BK828.out) hb); have n1_ := Aside0.mk (below_step (by repeat (first | (with_reducible first | exact HB.out | apply below_alloc | apply pw_below_drewN | apply below_drew1 | refine below_set ?_ GE828.out) | exact HB.out)) hb); have n2_ := Aside0.mk (hbox); have n3_ := Aside0.mk ((by rw [hg]; exact (below_size (by repeat (first | (with_reducible first | exact HB.out | apply below_alloc | apply pw_below_drewN | apply below_drew1 | refine below_set ?_ GE828.out) | exact HB.out))) : w.heap.size ≤ gb831)); have n4_ := Aside0.mk ((by rw [hg]; exact (below_size (by repeat (first | (with_reducible first | exact HB.out | apply below_alloc | apply pw_below_drewN | apply below_drew1 | refine below_set ?_ GE828.out) | exact HB.out))) : w.heap.size ≤ gb831)); have n5_ := Aside0.mk ((by rw [hg]; exact Nat.ne_of_lt (blk_lt (g := gb828) (o := .cells #[.slice (some ad830) l0_0.length c0_0, .slice A0_1 l0_1.length c0_1, .slice A0_2 l0_2.length c0_2, .int .i64 a0_3, .int .i64 a0_4] 30 (0, 0)) (by (with_reducible repeat (first | refine blk_drewN ?_ _ | refine blk_drew ?_ | refine blk_alloc ?_ _)); exact BK828.out)) : gb828 ≠ gb831)); have n6_ := Aside0.mk ((by rw [hg]; exact Nat.ne_of_gt (blk_lt (g := gb828) (o := .cells #[.slice (some ad830) l0_0.length c0_0, .slice A0_1 l0_1.length c0_1, .slice A0_2 l0_2.length c0_2, .int .i64 a0_3, .int .i64 a0_4] 30 (0, 0)) (by (with_reducible repeat (first | refine blk_drewN ?_ _ | refine blk_drew ?_ | refine blk_alloc ?_ _)); exact BK828.out)) : gb831 ≠ gb828)); clear BK828; clear HB; have BK828 := n0_; have HB := n1_; have BK831 := n2_; have GW831 := n3_; have GE831 := n4_; have NB828_831 := n5_; have NB831_828 := n6_; clear n0_ n1_ n2_ n3_ n4_ n5_ n6_; clear hb hbox hg; have hnb20 := NB831_828.out; have hnc20 := NB828_831.out; have hcz21_0 : w19.cell? ⟨gb831, 0, none⟩ = some (.int .i64 0) := (blk_cell BK831.out 0).trans rfl; have hcz21_1 : w19.cell? ⟨gb831, 1, none⟩ = some (.int .i64 0) := (blk_cell BK831.out 1).trans rfl; have hcz21_2 : w19.cell? ⟨gb831, 2, none⟩ = some (.int .i64 0) := (blk_cell BK831.out 2).trans rfl; have hcz21_3 : w19.cell? ⟨gb831, 3, none⟩ = some (.int .i64 0) := (blk_cell BK831.out 3).trans rfl; have hcz21_4 : w19.cell? ⟨gb831, 4, none⟩ = some (.int .i64 0) := (blk_cell BK831.out 4).trans rfl; have hfz21_0 := blk_frozen BK831.out 0; have hfz21_1 := blk_frozen BK831.out 1; have hfz21_2 := blk_frozen BK831.out 2; have hfz21_3 := blk_frozen BK831.out 3; have hfz21_4 := blk_frozen BK831.out 4; have hcz22_0 : w19.cell? ⟨gb828, 0, none⟩ = some (.slice (some ad830) l0_0.length c0_0) := (blk_cell BK828.out 0).trans rfl; have hcz22_1 : w19.cell? ⟨gb828, 1, none⟩ = some (.slice A0_1 l0_1.length c0_1) := (blk_cell BK828.out 1).trans rfl; have hcz22_2 : w19.cell? ⟨gb828, 2, none⟩ = some (.slice A0_2 l0_2.length c0_2) := (blk_cell BK828.out 2).trans rfl; have hcz22_3 : w19.cell? ⟨gb828, 3, none⟩ = some (.int .i64 a0_3) := (blk_cell BK828.out 3).trans rfl; have hcz22_4 : w19.cell? ⟨gb828, 4, none⟩ = some (.int .i64 a0_4) := (blk_cell BK828.out 4).trans rfl; have hfz22_0 := blk_frozen BK828.out 0; have hfz22_1 := blk_frozen BK828.out 1; have hfz22_2 := blk_frozen BK828.out 2; have hfz22_3 := blk_frozen BK828.out 3; have hfz22_4 := blk_frozen BK828.out 4; have p832 : 0 ≤ (((rd_T37 l0_0 x13_1).f0) : Int) := of_decide_eq_true (by first | (with_reducible assumption) | assumption); have q832 : ((rd_T37 l0_0 x13_1).f0) < (l0_1.length : Int) := of_decide_eq_true (by first | (with_reducible assumption) | assumption); obtain ⟨ad832, e832, hx832_0⟩ := Kd.at_bool HR0_1.out ((rd_T37 l0_0 x13_1).f0) p832 q832; (try rw [← Nbq13.out] at hx832_0); (try rw [← Nbq17.out] at hx832_0); cases e832; have hn832_0 : ad832.block ≠ gb831 := Nat.ne_of_lt (Nat.lt_of_lt_of_le (by have := World.block_lt_of_cell? _ _ hx832_0; first | rwa [add_block] at this | exact this) GW831.out); have hn832_1 : ad832.block ≠ gb831 := Nat.ne_of_lt (Nat.lt_of_lt_of_le (by have := World.block_lt_of_cell? _ _ hx832_0; first | rwa [add_block] at this | exact this) GW831.out); have hn832_2 : ad832.block ≠ gb831 := Nat.ne_of_lt (Nat.lt_of_lt_of_le (by have := World.block_lt_of_cell? _ _ hx832_0; first | rwa [add_block] at this | exact this) GW831.out); have hn832_3 : ad832.block ≠ gb831 := Nat.ne_of_lt (Nat.lt_of_lt_of_le (by have := World.block_lt_of_cell? _ _ hx832_0; first | rwa [add_block] at this | exact this) GW831.out); have hn832_4 : ad832.block ≠ gb831 := Nat.ne_of_lt (Nat.lt_of_lt_of_le (by have := World.block_lt_of_cell? _ _ hx832_0; first | rwa [add_block] at this | exact this) GW831.out); replace hx832_0 := (HB.out.cell (World.block_lt_of_cell? w _ hx832_0)).trans hx832_0; replace hx832_0 := (cell_far (p := ⟨gb831, 0, none⟩) (by first | (rw [add_block]; exact hn832_0) | (show (Addr.add _ _).block ≠ _; rw [add_block]; exact hn832_0) | exact hn832_0) (.int .i64 ((rd_T37 l0_0 x13_1).f0))).trans hx832_0; replace hx832_0 := (cell_far (p := ⟨gb831, 1, none⟩) (by first | (rw [add_block]; exact hn832_1) | (show (Addr.add _ _).block ≠ _; rw [add_block]; exact hn832_1) | exact hn832_1) (.int .i64 ((rd_T37 l0_0 x13_1).f1))).trans hx832_0; replace hx832_0 := (cell_far (p := ⟨gb831, 2, none⟩) (by first | (rw [add_block]; exact hn832_2) | (show (Addr.add _ _).block ≠ _; rw [add_block]; exact hn832_2) | exact hn832_2) (.int .i64 ((rd_T37 l0_0 x13_1).f2))).trans hx832_0; replace hx832_0 := (cell_far (p := ⟨gb831, 3, none⟩) (by first | (rw [add_block]; exact hn832_3) | (show (Addr.add _ _).block ≠ _; rw [add_block]; exact hn832_3) | exact hn832_3) (.int .i64 ((rd_T37 l0_0 x13_1).f3))).trans hx832_0; replace hx832_0 := (cell_far (p := ⟨gb831, 4, none⟩) (by first | (rw [add_block]; exact hn832_4) | (show (Addr.add _ _).block ≠ _; rw [add_block]; exact hn832_4) | exact hn832_4) (.int .i64 ((rd_T37 l0_0 x13_1).f4))).trans hx832_0; clear hn832_0; clear hn832_1; clear hn832_2; clear hn832_3; clear hn832_4; replace p832 := eq_true p832; replace q832 := eq_true q832; have p833 : 0 ≤ (((rd_T37 l0_0 x13_1).f1) : Int) := of_decide_eq_true (by first | (with_reducible assumption) | assumption); have q833 : ((rd_T37 l0_0 x13_1).f1) < (l0_1.length : Int) := of_decide_eq_true (by first | (with_reducible assumption) | assumption); obtain ⟨ad833, e833, hx833_0⟩ := Kd.at_bool HR0_1.out ((rd_T37 l0_0 x13_1).f1) p833 q833; (try rw [← Nbq13.out] at hx833_0); (try rw [← Nbq17.out] at hx833_0); obtain rfl : ad832 = ad833 := (by injection e833); have hn833_0 : ad832.block ≠ gb831 := Nat.ne_of_lt (Nat.lt_of_lt_of_le (by have := World.block_lt_of_cell? _ _ hx833_0; first | rwa [add_block] at this | exact this) GW831.out); have hn833_1 : ad832.block ≠ gb831 := Nat.ne_of_lt (Nat.lt_of_lt_of_le (by have := World.block_lt_of_cell? _ _ hx833_0; first | rwa [add_block] at this | exact this) GW831.out); have hn833_2 : ad832.block ≠ gb831 := Nat.ne_of_lt (Nat.lt_of_lt_of_le (by have := World.block_lt_of_cell? _ _ hx833_0; first | rwa [add_block] at this | exact this) GW831.out); have hn833_3 : ad832.block ≠ gb831 := Nat.ne_of_lt (Nat.lt_of_lt_of_le (by have := World.block_lt_of_cell? _ _ hx833_0; first | rwa [add_block] at this | exact this) GW831.out); have hn833_4 : ad832.block ≠ gb831 := Nat.ne_of_lt (Nat.lt_of_lt_of_le (by have := World.block_lt_of_cell? _ _ hx833_0; first | rwa [add_block] at this | exact this) GW831.out); replace hx833_0 := (HB.out.cell (World.block_lt_of_cell? w _ hx833_0)).trans hx833_0; replace hx833_0 := (cell_far (p := ⟨gb831, 0, none⟩) (by first | (rw [add_block]; exact hn833_0) | (show (Addr.add _ _).block ≠ _; rw [add_block]; exact hn833_0) | exact hn833_0) (.int .i64 ((rd_T37 l0_0 x13_1).f0))).trans hx833_0; replace hx833_0 := (cell_far (p := ⟨gb831, 1, none⟩) (by first | (rw [add_block]; exact hn833_1) | (show (Addr.add _ _).block ≠ _; rw [add_block]; exact hn833_1) | exact hn833_1) (.int .i64 ((rd_T37 l0_0 x13_1).f1))).trans hx833_0; replace hx833_0 := (cell_far (p := ⟨gb831, 2, none⟩) (by first | (rw [add_block]; exact hn833_2) | (show (Addr.add _ _).block ≠ _; rw [add_block]; exact hn833_2) | exact hn833_2) (.int .i64 ((rd_T37 l0_0 x13_1).f2))).trans hx833_0; replace hx833_0 := (cell_far (p := ⟨gb831, 3, none⟩) (by first | (rw [add_block]; exact hn833_3) | (show (Addr.add _ _).block ≠ _; rw [add_block]; exact hn833_3) | exact hn833_3) (.int .i64 ((rd_T37 l0_0 x13_1).f3))).trans hx833_0; replace hx833_0 := (cell_far (p := ⟨gb831, 4, none⟩) (by first | (rw [add_block]; exact hn833_4) | (show (Addr.add _ _).block ≠ _; rw [add_block]; exact hn833_4) | exact hn833_4) (.int .i64 ((rd_T37 l0_0 x13_1).f4))).trans hx833_0; clear hn833_0; clear hn833_1; clear hn833_2; clear hn833_3; clear hn833_4; replace p833 := eq_true p833; replace q833 := eq_true q833))
                          go_roundg k1
                          case measure => have := HK1.out; omega
                          case rel => exact ⟨(wrap64 (x4_1 + ((rd_T37 l0_0 x13_1).f2))), (wrap64 (x13_1 + 1)), (by first | rfl | (simp; done) | (simp [*]; done)), (by first | rfl | (simp; done) | (simp [*]; done)), H', ⟨by have := HK1.out; omega⟩, ⟨by (with_reducible repeat (first | refine blk_drewN ?_ _ | refine blk_drew ?_ | refine blk_alloc ?_ _)); refine blk_far ?_ NB828_831.out _; (with_reducible repeat (first | refine blk_drewN ?_ _ | refine blk_drew ?_ | refine blk_alloc ?_ _)); refine blk_far ?_ NB828_831.out _; (with_reducible repeat (first | refine blk_drewN ?_ _ | refine blk_drew ?_ | refine blk_alloc ?_ _)); refine blk_far ?_ NB828_831.out _; (with_reducible repeat (first | refine blk_drewN ?_ _ | refine blk_drew ?_ | refine blk_alloc ?_ _)); refine blk_far ?_ NB828_831.out _; (with_reducible repeat (first | refine blk_drewN ?_ _ | refine blk_drew ?_ | refine blk_alloc ?_ _)); refine blk_far ?_ NB828_831.out _; (with_reducible repeat (first | refine blk_drewN ?_ _ | refine blk_drew ?_ | refine blk_alloc ?_ _)); exact BK828.out⟩, ⟨by repeat (first | (with_reducible first | exact HB.out | apply below_alloc | apply pw_below_drewN | apply below_drew1 | refine below_set ?_ GE828.out | refine below_set ?_ GE831.out) | exact HB.out)⟩⟩
                        · replace c18 := Bool.eq_false_iff.mpr c18
                          subst c18
                          have H1 : (impl_VisitedLength.l0 k1 x4_1 l0_0 (l0_0.length : Int) (wrap64 (x13_1 + 1)) l0_0 l0_1 l0_2 a0_3 a0_4) = some (r1, r2) := by rw [if_neg (show ¬ (false = true) by decide)] at H; exact H
                          clear H
                          have H := H1
                          clear H1
                          have H' := Aside0.mk H
                          clear H
                          have p830 : 0 ≤ (x13_1 : Int) := of_decide_eq_true (by first | (with_reducible assumption) | assumption)
                          have q830 : x13_1 < (l0_0.length : Int) := of_decide_eq_true (by first | (with_reducible assumption) | assumption)
                          obtain ⟨ad830, e830, hx830_0, hx830_1, hx830_2, hx830_3, hx830_4⟩ := at_T37 HR0_0.out x13_1 p830 q830
                          cases e830
                          replace hx830_0 := (HB.out.cell (World.block_lt_of_cell? w _ hx830_0)).trans hx830_0
                          replace hx830_1 := (HB.out.cell (World.block_lt_of_cell? w _ hx830_1)).trans hx830_1
                          replace hx830_2 := (HB.out.cell (World.block_lt_of_cell? w _ hx830_2)).trans hx830_2
                          replace hx830_3 := (HB.out.cell (World.block_lt_of_cell? w _ hx830_3)).trans hx830_3
                          replace hx830_4 := (HB.out.cell (World.block_lt_of_cell? w _ hx830_4)).trans hx830_4
                          replace p830 := eq_true p830
                          replace q830 := eq_true q830
                          go_wp2_with (first | ((with_reducible refine gate_dst (N := 6) rfl ?_); refine box_event ?hg (N := 6) ?hd (cs := #[.int .i64 0, .int .i64 0, .int .i64 0, .int .i64 0, .int .i64 0]) (t := 37) ?hr ?_; (case hd => rfl); (case hg => rfl); (case hr => first | (go_simp; done) | (go_simp; rfl)); intro gb831 hg w23 hbox hb; have n0_ := Aside0.mk (blk_below (g := gb828) (o := .cells #[.slice (some ad830) l0_0.length c0_0, .slice A0_1 l0_1.length c0_1, .slice A0_2 l0_2.length c0_2, .int .i64 a0_3, .int .i64 a0_4] 30 (0, 0)) (by (with_reducible repeat (first | refine blk_drewN ?_ _ | refine blk_drew ?_ | refine blk_alloc ?_ _)); exact BK828.out) hb); have n1_ := Aside0.mk (below_step (by repeat (first | (with_reducible first | exact HB.out | apply below_alloc | apply pw_below_drewN | apply below_drew1 | refine below_set ?_ GE828.out) | exact HB.out)) hb); have n2_ := Aside0.mk (hbox); have n3_ := Aside0.mk ((by rw [hg]; exact (below_size (by repeat (first | (with_reducible first | exact HB.out | apply below_alloc | apply pw_below_drewN | apply below_drew1 | refine below_set ?_ GE828.out) | exact HB.out))) : w.heap.size ≤ gb831)); have n4_ := Aside0.mk ((by rw [hg]; exact (below_size (by repeat (first | (with_reducible first | exact HB.out | apply below_alloc | apply pw_below_drewN | apply below_drew1 | refine below_set ?_ GE828.out) | exact HB.out))) : w.heap.size ≤ gb831)); have n5_ := Aside0.mk ((by rw [hg]; exact Nat.ne_of_lt (blk_lt (g := gb828) (o := .cells #[.slice (some ad830) l0_0.length c0_0, .slice A0_1 l0_1.length c0_1, .slice A0_2 l0_2.length c0_2, .int .i64 a0_3, .int .i64 a0_4] 30 (0, 0)) (by (with_reducible repeat (first | refine blk_drewN ?_ _ | refine blk_drew ?_ | refine blk_alloc ?_ _)); exact BK828.out)) : gb828 ≠ gb831)); have n6_ := Aside0.mk ((by rw [hg]; exact Nat.ne_of_gt (blk_lt (g := gb828) (o := .cells #[.slice (some ad830) l0_0.length c0_0, .slice A0_1 l0_1.length c0_1, .slice A0_2 l0_2.length c0_2, .int .i64 a0_3, .int .i64 a0_4] 30 (0, 0)) (by (with_reducible repeat (first | refine blk_drewN ?_ _ | refine blk_drew ?_ | refine blk_alloc ?_ _)); exact BK828.out)) : gb831 ≠ gb828)); clear BK828; clear HB; have BK828 := n0_; have HB := n1_; have BK831 := n2_; have GW831 := n3_; have GE831 := n4_; have NB828_831 := n5_; have NB831_828 := n6_; clear n0_ n1_ n2_ n3_ n4_ n5_ n6_; clear hb hbox hg; have hnb24 := NB831_828.out; have hnc24 := NB828_831.out; have hcz25_0 : w23.cell? ⟨gb831, 0, none⟩ = some (.int .i64 0) := (blk_cell BK831.out 0).trans rfl; have hcz25_1 : w23.cell? ⟨gb831, 1, none⟩ = some (.int .i64 0) := (blk_cell BK831.out 1).trans rfl; have hcz25_2 : w23.cell? ⟨gb831, 2, none⟩ = some (.int .i64 0) := (blk_cell BK831.out 2).trans rfl; have hcz25_3 : w23.cell? ⟨gb831, 3, none⟩ = some (.int .i64 0) := (blk_cell BK831.out 3).trans rfl; have hcz25_4 : w23.cell? ⟨gb831, 4, none⟩ = some (.int .i64 0) := (blk_cell BK831.out 4).trans rfl; have hfz25_0 := blk_frozen BK831.out 0; have hfz25_1 := blk_frozen BK831.out 1; have hfz25_2 := blk_frozen BK831.out 2; have hfz25_3 := blk_frozen BK831.out 3; have hfz25_4 := blk_frozen BK831.out 4; have hcz26_0 : w23.cell? ⟨gb828, 0, none⟩ = some (.slice (some ad830) l0_0.length c0_0) := (blk_cell BK828.out 0).trans rfl; have hcz26_1 : w23.cell? ⟨gb828, 1, none⟩ = some (.slice A0_1 l0_1.length c0_1) := (blk_cell BK828.out 1).trans rfl; have hcz26_2 : w23.cell? ⟨gb828, 2, none⟩ = some (.slice A0_2 l0_2.length c0_2) := (blk_cell BK828.out 2).trans rfl; have hcz26_3 : w23.cell? ⟨gb828, 3, none⟩ = some (.int .i64 a0_3) := (blk_cell BK828.out 3).trans rfl; have hcz26_4 : w23.cell? ⟨gb828, 4, none⟩ = some (.int .i64 a0_4) := (blk_cell BK828.out 4).trans rfl; have hfz26_0 := blk_frozen BK828.out 0; have hfz26_1 := blk_frozen BK828.out 1; have hfz26_2 := blk_frozen BK828.out 2; have hfz26_3 := blk_frozen BK828.out 3; have hfz26_4 := blk_frozen BK828.out 4; have p832 : 0 ≤ (((rd_T37 l0_0 x13_1).f0) : Int) := of_decide_eq_true (by first | (with_reducible assumption) | assumption); have q832 : ((rd_T37 l0_0 x13_1).f0) < (l0_1.length : Int) := of_decide_eq_true (by first | (with_reducible assumption) | assumption); obtain ⟨ad832, e832, hx832_0⟩ := Kd.at_bool HR0_1.out ((rd_T37 l0_0 x13_1).f0) p832 q832; (try rw [← Nbq13.out] at hx832_0); (try rw [← Nbq17.out] at hx832_0); cases e832; have hn832_0 : ad832.block ≠ gb831 := Nat.ne_of_lt (Nat.lt_of_lt_of_le (by have := World.block_lt_of_cell? _ _ hx832_0; first | rwa [add_block] at this | exact this) GW831.out); have hn832_1 : ad832.block ≠ gb831 := Nat.ne_of_lt (Nat.lt_of_lt_of_le (by have := World.block_lt_of_cell? _ _ hx832_0; first | rwa [add_block] at this | exact this) GW831.out); have hn832_2 : ad832.block ≠ gb831 := Nat.ne_of_lt (Nat.lt_of_lt_of_le (by have := World.block_lt_of_cell? _ _ hx832_0; first | rwa [add_block] at this | exact this) GW831.out); have hn832_3 : ad832.block ≠ gb831 := Nat.ne_of_lt (Nat.lt_of_lt_of_le (by have := World.block_lt_of_cell? _ _ hx832_0; first | rwa [add_block] at this | exact this) GW831.out); have hn832_4 : ad832.block ≠ gb831 := Nat.ne_of_lt (Nat.lt_of_lt_of_le (by have := World.block_lt_of_cell? _ _ hx832_0; first | rwa [add_block] at this | exact this) GW831.out); replace hx832_0 := (HB.out.cell (World.block_lt_of_cell? w _ hx832_0)).trans hx832_0; replace hx832_0 := (cell_far (p := ⟨gb831, 0, none⟩) (by first | (rw [add_block]; exact hn832_0) | (show (Addr.add _ _).block ≠ _; rw [add_block]; exact hn832_0) | exact hn832_0) (.int .i64 ((rd_T37 l0_0 x13_1).f0))).trans hx832_0; replace hx832_0 := (cell_far (p := ⟨gb831, 1, none⟩) (by first | (rw [add_block]; exact hn832_1) | (show (Addr.add _ _).block ≠ _; rw [add_block]; exact hn832_1) | exact hn832_1) (.int .i64 ((rd_T37 l0_0 x13_1).f1))).trans hx832_0; replace hx832_0 := (cell_far (p := ⟨gb831, 2, none⟩) (by first | (rw [add_block]; exact hn832_2) | (show (Addr.add _ _).block ≠ _; rw [add_block]; exact hn832_2) | exact hn832_2) (.int .i64 ((rd_T37 l0_0 x13_1).f2))).trans hx832_0; replace hx832_0 := (cell_far (p := ⟨gb831, 3, none⟩) (by first | (rw [add_block]; exact hn832_3) | (show (Addr.add _ _).block ≠ _; rw [add_block]; exact hn832_3) | exact hn832_3) (.int .i64 ((rd_T37 l0_0 x13_1).f3))).trans hx832_0; replace hx832_0 := (cell_far (p := ⟨gb831, 4, none⟩) (by first | (rw [add_block]; exact hn832_4) | (show (Addr.add _ _).block ≠ _; rw [add_block]; exact hn832_4) | exact hn832_4) (.int .i64 ((rd_T37 l0_0 x13_1).f4))).trans hx832_0; clear hn832_0; clear hn832_1; clear hn832_2; clear hn832_3; clear hn832_4; replace p832 := eq_true p832; replace q832 := eq_true q832; have p833 : 0 ≤ (((rd_T37 l0_0 x13_1).f1) : Int) := of_decide_eq_true (by first | (with_reducible assumption) | assumption); have q833 : ((rd_T37 l0_0 x13_1).f1) < (l0_1.length : Int) := of_decide_eq_true (by first | (with_reducible assumption) | assumption); obtain ⟨ad833, e833, hx833_0⟩ := Kd.at_bool HR0_1.out ((rd_T37 l0_0 x13_1).f1) p833 q833; (try rw [← Nbq13.out] at hx833_0); (try rw [← Nbq17.out] at hx833_0); obtain rfl : ad832 = ad833 := (by injection e833); have hn833_0 : ad832.block ≠ gb831 := Nat.ne_of_lt (Nat.lt_of_lt_of_le (by have := World.block_lt_of_cell? _ _ hx833_0; first | rwa [add_block] at this | exact this) GW831.out); have hn833_1 : ad832.block ≠ gb831 := Nat.ne_of_lt (Nat.lt_of_lt_of_le (by have := World.block_lt_of_cell? _ _ hx833_0; first | rwa [add_block] at this | exact this) GW831.out); have hn833_2 : ad832.block ≠ gb831 := Nat.ne_of_lt (Nat.lt_of_lt_of_le (by have := World.block_lt_of_cell? _ _ hx833_0; first | rwa [add_block] at this | exact this) GW831.out); have hn833_3 : ad832.block ≠ gb831 := Nat.ne_of_lt (Nat.lt_of_lt_of_le (by have := World.block_lt_of_cell? _ _ hx833_0; first | rwa [add_block] at this | exact this) GW831.out); have hn833_4 : ad832.block ≠ gb831 := Nat.ne_of_lt (Nat.lt_of_lt_of_le (by have := World.block_lt_of_cell? _ _ hx833_0; first | rwa [add_block] at this | exact this) GW831.out); replace hx833_0 := (HB.out.cell (World.block_lt_of_cell? w _ hx833_0)).trans hx833_0; replace hx833_0 := (cell_far (p := ⟨gb831, 0, none⟩) (by first | (rw [add_block]; exact hn833_0) | (show (Addr.add _ _).block ≠ _; rw [add_block]; exact hn833_0) | exact hn833_0) (.int .i64 ((rd_T37 l0_0 x13_1).f0))).trans hx833_0; replace hx833_0 := (cell_far (p := ⟨gb831, 1, none⟩) (by first | (rw [add_block]; exact hn833_1) | (show (Addr.add _ _).block ≠ _; rw [add_block]; exact hn833_1) | exact hn833_1) (.int .i64 ((rd_T37 l0_0 x13_1).f1))).trans hx833_0; replace hx833_0 := (cell_far (p := ⟨gb831, 2, none⟩) (by first | (rw [add_block]; exact hn833_2) | (show (Addr.add _ _).block ≠ _; rw [add_block]; exact hn833_2) | exact hn833_2) (.int .i64 ((rd_T37 l0_0 x13_1).f2))).trans hx833_0; replace hx833_0 := (cell_far (p := ⟨gb831, 3, none⟩) (by first | (rw [add_block]; exact hn833_3) | (show (Addr.add _ _).block ≠ _; rw [add_block]; exact hn833_3) | exact hn833_3) (.int .i64 ((rd_T37 l0_0 x13_1).f3))).trans hx833_0; replace hx833_0 := (cell_far (p := ⟨gb831, 4, none⟩) (by first | (rw [add_block]; exact hn833_4) | (show (Addr.add _ _).block ≠ _; rw [add_block]; exact hn833_4) | exact hn833_4) (.int .i64 ((rd_T37 l0_0 x13_1).f4))).trans hx833_0; clear hn833_0; clear hn833_1; clear hn833_2; clear hn833_3; clear hn833_4; replace p833 := eq_true p833; replace q833 := eq_true q833))
                          go_roundg k1
                          case measure => have := HK1.out; omega
                          case rel => exact ⟨(x4_1), (wrap64 (x13_1 + 1)), (by first | rfl | (simp; done) | (simp [*]; done)), (by first | rfl | (simp; done) | (simp [*]; done)), H', ⟨by have := HK1.out; omega⟩, ⟨by (with_reducible repeat (first | refine blk_drewN ?_ _ | refine blk_drew ?_ | refine blk_alloc ?_ _)); refine blk_far ?_ NB828_831.out _; (with_reducible repeat (first | refine blk_drewN ?_ _ | refine blk_drew ?_ | refine blk_alloc ?_ _)); refine blk_far ?_ NB828_831.out _; (with_reducible repeat (first | refine blk_drewN ?_ _ | refine blk_drew ?_ | refine blk_alloc ?_ _)); refine blk_far ?_ NB828_831.out _; (with_reducible repeat (first | refine blk_drewN ?_ _ | refine blk_drew ?_ | refine blk_alloc ?_ _)); refine blk_far ?_ NB828_831.out _; (with_reducible repeat (first | refine blk_drewN ?_ _ | refine blk_drew ?_ | refine blk_alloc ?_ _)); refine blk_far ?_ NB828_831.out _; (with_reducible repeat (first | refine blk_drewN ?_ _ | refine blk_drew ?_ | refine blk_alloc ?_ _)); exact BK828.out⟩, ⟨by repeat (first | (with_reducible first | exact HB.out | apply below_alloc | apply pw_below_drewN | apply below_drew1 | refine below_set ?_ GE828.out | refine below_set ?_ GE831.out) | exact HB.out)⟩⟩
                      · rw [if_neg c16] at H
                        exact absurd H (by simp)
                    · rw [if_neg c15] at H
                      exact absurd H (by simp)
                  · replace c14 := Bool.eq_false_iff.mpr c14
                    subst c14
                    have H1 : (impl_VisitedLength.l0 k1 x4_1 l0_0 (l0_0.length : Int) (wrap64 (x13_1 + 1)) l0_0 l0_1 l0_2 a0_3 a0_4) = some (r1, r2) := by rw [if_neg (show ¬ (false = true) by decide)] at H; exact H
                    clear H
                    have H := H1
                    clear H1
                    have H' := Aside0.mk H
                    clear H
                    have p830 : 0 ≤ (x13_1 : Int) := of_decide_eq_true (by first | (with_reducible assumption) | assumption)
                    have q830 : x13_1 < (l0_0.length : Int) := of_decide_eq_true (by first | (with_reducible assumption) | assumption)
                    obtain ⟨ad830, e830, hx830_0, hx830_1, hx830_2, hx830_3, hx830_4⟩ := at_T37 HR0_0.out x13_1 p830 q830
                    cases e830
                    replace hx830_0 := (HB.out.cell (World.block_lt_of_cell? w _ hx830_0)).trans hx830_0
                    replace hx830_1 := (HB.out.cell (World.block_lt_of_cell? w _ hx830_1)).trans hx830_1
                    replace hx830_2 := (HB.out.cell (World.block_lt_of_cell? w _ hx830_2)).trans hx830_2
                    replace hx830_3 := (HB.out.cell (World.block_lt_of_cell? w _ hx830_3)).trans hx830_3
                    replace hx830_4 := (HB.out.cell (World.block_lt_of_cell? w _ hx830_4)).trans hx830_4
                    replace p830 := eq_true p830
                    replace q830 := eq_true q830
                    go_wp2_with (first | ((with_reducible refine gate_dst (N := 6) rfl ?_); refine box_event ?hg (N := 6) ?hd (cs := #[.int .i64 0, .int .i64 0, .int .i64 0, .int .i64 0, .int .i64 0]) (t := 37) ?hr ?_; (case hd => rfl); (case hg => rfl); (case hr => first | (go_simp; done) | (go_simp; rfl)); intro gb831 hg w27 hbox hb; have n0_ := Aside0.mk (blk_below (g := gb828) (o := .cells #[.slice (some ad830) l0_0.length c0_0, .slice A0_1 l0_1.length c0_1, .slice A0_2 l0_2.length c0_2, .int .i64 a0_3, .int .i64 a0_4] 30 (0, 0)) (by (with_reducible repeat (first | refine blk_drewN ?_ _ | refine blk_drew ?_ | refine blk_alloc ?_ _)); exact BK828.out) hb); have n1_ := Aside0.mk (below_step (by repeat (first | (with_reducible first | exact HB.out | apply below_alloc | apply pw_below_drewN | apply below_drew1 | refine below_set ?_ GE828.out) | exact HB.out)) hb); have n2_ := Aside0.mk (hbox); have n3_ := Aside0.mk ((by rw [hg]; exact (below_size (by repeat (first | (with_reducible first | exact HB.out | apply below_alloc | apply pw_below_drewN | apply below_drew1 | refine below_set ?_ GE828.out) | exact HB.out))) : w.heap.size ≤ gb831)); have n4_ := Aside0.mk ((by rw [hg]; exact (below_size (by repeat (first | (with_reducible first | exact HB.out | apply below_alloc | apply pw_below_drewN | apply below_drew1 | refine below_set ?_ GE828.out) | exact HB.out))) : w.heap.size ≤ gb831)); have n5_ := Aside0.mk ((by rw [hg]; exact Nat.ne_of_lt (blk_lt (g := gb828) (o := .cells #[.slice (some ad830) l0_0.length c0_0, .slice A0_1 l0_1.length c0_1, .slice A0_2 l0_2.length c0_2, .int .i64 a0_3, .int .i64 a0_4] 30 (0, 0)) (by (with_reducible repeat (first | refine blk_drewN ?_ _ | refine blk_drew ?_ | refine blk_alloc ?_ _)); exact BK828.out)) : gb828 ≠ gb831)); have n6_ := Aside0.mk ((by rw [hg]; exact Nat.ne_of_gt (blk_lt (g := gb828) (o := .cells #[.slice (some ad830) l0_0.length c0_0, .slice A0_1 l0_1.length c0_1, .slice A0_2 l0_2.length c0_2, .int .i64 a0_3, .int .i64 a0_4] 30 (0, 0)) (by (with_reducible repeat (first | refine blk_drewN ?_ _ | refine blk_drew ?_ | refine blk_alloc ?_ _)); exact BK828.out)) : gb831 ≠ gb828)); clear BK828; clear HB; have BK828 := n0_; have HB := n1_; have BK831 := n2_; have GW831 := n3_; have GE831 := n4_; have NB828_831 := n5_; have NB831_828 := n6_; clear n0_ n1_ n2_ n3_ n4_ n5_ n6_; clear hb hbox hg; have hnb28 := NB831_828.out; have hnc28 := NB828_831.out; have hcz29_0 : w27.cell? ⟨gb831, 0, none⟩ = some (.int .i64 0) := (blk_cell BK831.out 0).trans rfl; have hcz29_1 : w27.cell? ⟨gb831, 1, none⟩ = some (.int .i64 0) := (blk_cell BK831.out 1).trans rfl; have hcz29_2 : w27.cell? ⟨gb831, 2, none⟩ = some (.int .i64 0) := (blk_cell BK831.out 2).trans rfl; have hcz29_3 : w27.cell? ⟨gb831, 3, none⟩ = some (.int .i64 0) := (blk_cell BK831.out 3).trans rfl; have hcz29_4 : w27.cell? ⟨gb831, 4, none⟩ = some (.int .i64 0) := (blk_cell BK831.out 4).trans rfl; have hfz29_0 := blk_frozen BK831.out 0; have hfz29_1 := blk_frozen BK831.out 1; have hfz29_2 := blk_frozen BK831.out 2; have hfz29_3 := blk_frozen BK831.out 3; have hfz29_4 := blk_frozen BK831.out 4; have hcz30_0 : w27.cell? ⟨gb828, 0, none⟩ = some (.slice (some ad830) l0_0.length c0_0) := (blk_cell BK828.out 0).trans rfl; have hcz30_1 : w27.cell? ⟨gb828, 1, none⟩ = some (.slice A0_1 l0_1.length c0_1) := (blk_cell BK828.out 1).trans rfl; have hcz30_2 : w27.cell? ⟨gb828, 2, none⟩ = some (.slice A0_2 l0_2.length c0_2) := (blk_cell BK828.out 2).trans rfl; have hcz30_3 : w27.cell? ⟨gb828, 3, none⟩ = some (.int .i64 a0_3) := (blk_cell BK828.out 3).trans rfl; have hcz30_4 : w27.cell? ⟨gb828, 4, none⟩ = some (.int .i64 a0_4) := (blk_cell BK828.out 4).trans rfl; have hfz30_0 := blk_frozen BK828.out 0; have hfz30_1 := blk_frozen BK828.out 1; have hfz30_2 := blk_frozen BK828.out 2; have hfz30_3 := blk_frozen BK828.out 3; have hfz30_4 := blk_frozen BK828.out 4; have p832 : 0 ≤ (((rd_T37 l0_0 x13_1).f0) : Int) := of_decide_eq_true (by first | (with_reducible assumption) | assumption); have q832 : ((rd_T37 l0_0 x13_1).f0) < (l0_1.length : Int) := of_decide_eq_true (by first | (with_reducible assumption) | assumption); obtain ⟨ad832, e832, hx832_0⟩ := Kd.at_bool HR0_1.out ((rd_T37 l0_0 x13_1).f0) p832 q832; (try rw [← Nbq13.out] at hx832_0); cases e832; have hn832_0 : ad832.block ≠ gb831 := Nat.ne_of_lt (Nat.lt_of_lt_of_le (by have := World.block_lt_of_cell? _ _ hx832_0; first | rwa [add_block] at this | exact this) GW831.out); have hn832_1 : ad832.block ≠ gb831 := Nat.ne_of_lt (Nat.lt_of_lt_of_le (by have := World.block_lt_of_cell? _ _ hx832_0; first | rwa [add_block] at this | exact this) GW831.out); have hn832_2 : ad832.block ≠ gb831 := Nat.ne_of_lt (Nat.lt_of_lt_of_le (by have := World.block_lt_of_cell? _ _ hx832_0; first | rwa [add_block] at this | exact this) GW831.out); have hn832_3 : ad832.block ≠ gb831 := Nat.ne_of_lt (Nat.lt_of_lt_of_le (by have := World.block_lt_of_cell? _ _ hx832_0; first | rwa [add_block] at this | exact this) GW831.out); have hn832_4 : ad832.block ≠ gb831 := Nat.ne_of_lt (Nat.lt_of_lt_of_le (by have := World.block_lt_of_cell? _ _ hx832_0; first | rwa [add_block] at this | exact this) GW831.out); replace hx832_0 := (HB.out.cell (World.block_lt_of_cell? w _ hx832_0)).trans hx832_0; replace hx832_0 := (cell_far (p := ⟨gb831, 0, none⟩) (by first | (rw [add_block]; exact hn832_0) | (show (Addr.add _ _).block ≠ _; rw [add_block]; exact hn832_0) | exact hn832_0) (.int .i64 ((rd_T37 l0_0 x13_1).f0))).trans hx832_0; replace hx832_0 := (cell_far (p := ⟨gb831, 1, none⟩) (by first | (rw [add_block]; exact hn832_1) | (show (Addr.add _ _).block ≠ _; rw [add_block]; exact hn832_1) | exact hn832_1) (.int .i64 ((rd_T37 l0_0 x13_1).f1))).trans hx832_0; replace hx832_0 := (cell_far (p := ⟨gb831, 2, none⟩) (by first | (rw [add_block]; exact hn832_2) | (show (Addr.add _ _).block ≠ _; rw [add_block]; exact hn832_2) | exact hn832_2) (.int .i64 ((rd_T37 l0_0 x13_1).f2))).trans hx832_0; replace hx832_0 := (cell_far (p := ⟨gb831, 3, none⟩) (by first | (rw [add_block]; exact hn832_3) | (show (Addr.add _ _).block ≠ _; rw [add_block]; exact hn832_3) | exact hn832_3) (.int .i64 ((rd_T37 l0_0 x13_1).f3))).trans hx832_0; replace hx832_0 := (cell_far (p := ⟨gb831, 4, none⟩) (by first | (rw [add_block]; exact hn832_4) | (show (Addr.add _ _).block ≠ _; rw [add_block]; exact hn832_4) | exact hn832_4) (.int .i64 ((rd_T37 l0_0 x13_1).f4))).trans hx832_0; clear hn832_0; clear hn832_1; clear hn832_2; clear hn832_3; clear hn832_4; replace p832 := eq_true p832; replace q832 := eq_true q832))
                    go_roundg k1
                    case measure => have := HK1.out; omega
                    case rel => exact ⟨(x4_1), (wrap64 (x13_1 + 1)), (by first | rfl | (simp; done) | (simp [*]; done)), (by first | rfl | (simp; done) | (simp [*]; done)), H', ⟨by have := HK1.out; omega⟩, ⟨by (with_reducible repeat (first | refine blk_drewN ?_ _ | refine blk_drew ?_ | refine blk_alloc ?_ _)); refine blk_far ?_ NB828_831.out _; (with_reducible repeat (first | refine blk_drewN ?_ _ | refine blk_drew ?_ | refine blk_alloc ?_ _)); refine blk_far ?_ NB828_831.out _; (with_reducible repeat (first | refine blk_drewN ?_ _ | refine blk_drew ?_ | refine blk_alloc ?_ _)); refine blk_far ?_ NB828_831.out _; (with_reducible repeat (first | refine blk_drewN ?_ _ | refine blk_drew ?_ | refine blk_alloc ?_ _)); refine blk_far ?_ NB828_831.out _; (with_reducible repeat (first | refine blk_drewN ?_ _ | refine blk_drew ?_ | refine blk_alloc ?_ _)); refine blk_far ?_ NB828_831.out _; (with_reducible repeat (first | refine blk_drewN ?_ _ | refine blk_drew ?_ | refine blk_alloc ?_ _)); exact BK828.out⟩, ⟨by repeat (first | (with_reducible first | exact HB.out | apply below_alloc | apply pw_below_drewN | apply below_drew1 | refine below_set ?_ GE828.out | refine below_set ?_ GE831.out) | exact HB.out)⟩⟩
                · rw [if_neg c12] at H
                  exact absurd H (by simp)
              · rw [if_neg c11] at H
                exact absurd H (by simp)
            · rw [if_neg c10] at H
              exact absurd H (by simp)
          · rw [if_neg c9] at H
            exact absurd H (by simp)
        · rw [if_neg c8] at H
          have c8b0 : decide (x13_1 < (l0_0.length : Int)) = false := decide_eq_false c8
          clear c8
          simp only [Option.some.injEq, Prod.mk.injEq] at H
          obtain ⟨rfl, rfl⟩ := H
          go_wp2
          go_ret2
          exact ⟨by first | rfl | (simp [errW_none, errW_some] <;> rfl) | (simp [*, errW_none, errW_some] <;> rfl), by repeat (first | (with_reducible first | exact HB.out | apply below_alloc | apply pw_below_drewN | apply below_drew1 | refine below_set ?_ GE828.out) | exact HB.out)⟩
  · replace c3 := Bool.eq_false_iff.mpr c3
    subst c3
    have H1 : (some (0, false)) = some (r1, r2) := by rw [if_neg (show ¬ (false = true) by decide)] at H; exact H
    clear H
    have H := H1
    clear H1
    simp only [Option.some.injEq, Prod.mk.injEq] at H
    obtain ⟨rfl, rfl⟩ := H
    go_enter Try.func27, Try.ntmps27
    go_wp2_with (first | ((with_reducible refine gate_dst (N := 1) rfl ?_); refine box_event ?hg (N := 1) ?hd (cs := #[.slice A0_0 l0_0.length c0_0, .slice A0_1 l0_1.length c0_1, .slice A0_2 l0_2.length c0_2, .int .i64 a0_3, .int .i64 a0_4]) (t := 30) ?hr ?_; (case hd => rfl); (case hg => rfl); (case hr => first | (go_simp; done) | (go_simp; rfl)); intro gb828 hg w31 hbox hb; have n0_ := Aside0.mk (below_step (by repeat (first | (with_reducible first | exact HB.out | apply below_alloc | apply pw_below_drewN | apply below_drew1) | exact HB.out)) hb); have n1_ := Aside0.mk (hbox); have n2_ := Aside0.mk ((by rw [hg]; exact (below_size (by repeat (first | (with_reducible first | exact HB.out | apply below_alloc | apply pw_below_drewN | apply below_drew1) | exact HB.out))) : w.heap.size ≤ gb828)); have n3_ := Aside0.mk ((by rw [hg]; exact (below_size (by repeat (first | (with_reducible first | exact HB.out | apply below_alloc | apply pw_below_drewN | apply below_drew1) | exact HB.out))) : w.heap.size ≤ gb828)); clear HB; have HB := n0_; have BK828 := n1_; have GW828 := n2_; have GE828 := n3_; clear n0_ n1_ n2_ n3_; clear hb hbox hg; have hcz32_0 : w31.cell? ⟨gb828, 0, none⟩ = some (.slice A0_0 l0_0.length c0_0) := (blk_cell BK828.out 0).trans rfl; have hcz32_1 : w31.cell? ⟨gb828, 1, none⟩ = some (.slice A0_1 l0_1.length c0_1) := (blk_cell BK828.out 1).trans rfl; have hcz32_2 : w31.cell? ⟨gb828, 2, none⟩ = some (.slice A0_2 l0_2.length c0_2) := (blk_cell BK828.out 2).trans rfl; have hcz32_3 : w31.cell? ⟨gb828, 3, none⟩ = some (.int .i64 a0_3) := (blk_cell BK828.out 3).trans rfl; have hcz32_4 : w31.cell? ⟨gb828, 4, none⟩ = some (.int .i64 a0_4) := (blk_cell BK828.out 4).trans rfl; have hfz32_0 := blk_frozen BK828.out 0; have hfz32_1 := blk_frozen BK828.out 1; have hfz32_2 := blk_frozen BK828.out 2; have hfz32_3 := blk_frozen BK828.out 3; have hfz32_4 := blk_frozen BK828.out 4) | ((with_reducible refine gate_callee (f := 18) rfl ?_); refine goesL_ (some 8) rfl rfl Try.func18 (by kernel_rfl) rfl #[.agg #[.slice A0_0 l0_0.length c0_0, .slice A0_1 l0_1.length c0_1, .slice A0_2 l0_2.length c0_2, .int .i64 a0_3, .int .i64 a0_4]] rfl (by (try simp only [List.map_toArray, List.map_cons, List.map_nil]); first | done | rfl | (simp only [List.length_drop, List.length_take]; rfl)) ?_; (with_reducible refine (impl_IsExploration.calls k _ _ l0_0 _ _ l0_1 _ _ l0_2 a0_3 a0_4 false _ ?side1 ?side2 ?side3 ?side4 ?side5 ?side6 A2.out).mono ?_); (case side1 => repeat (first | exact (Kd.C_below HR0_0.out HB.out) | (with_reducible refine Kd.C_alloc ?_ _) | (with_reducible refine Kd.C_drewN ?_ _) | (with_reducible refine Kd.C_drew ?_))); (case side2 => exact HC0_0.out); (case side3 => repeat (first | exact (Kd.C_below HR0_1.out HB.out) | (with_reducible refine Kd.C_alloc ?_ _) | (with_reducible refine Kd.C_drewN ?_ _) | (with_reducible refine Kd.C_drew ?_))); (case side4 => exact HC0_1.out); (case side5 => repeat (first | exact (Kd.C_below HR0_2.out HB.out) | (with_reducible refine Kd.C_alloc ?_ _) | (with_reducible refine Kd.C_drewN ?_ _) | (with_reducible refine Kd.C_drew ?_))); (case side6 => exact HC0_2.out); rintro e w33 ⟨rfl, hb⟩; refine ⟨_, rfl, ?_⟩; have n0_ := Aside0.mk (blk_below (g := gb828) (o := .cells #[.slice A0_0 l0_0.length c0_0, .slice A0_1 l0_1.length c0_1, .slice A0_2 l0_2.length c0_2, .int .i64 a0_3, .int .i64 a0_4] 30 (0, 0)) (by (with_reducible repeat (first | refine blk_drewN ?_ _ | refine blk_drew ?_ | refine blk_alloc ?_ _)); exact BK828.out) hb); have n1_ := Aside0.mk (below_step (by repeat (first | (with_reducible first | exact HB.out | apply below_alloc | apply pw_below_drewN | apply below_drew1 | refine below_set ?_ GE828.out) | exact HB.out)) hb); clear BK828; clear HB; have BK828 := n0_; have HB := n1_; clear n0_ n1_; (try clear hb); (try clear hb2); (try clear hk); (try clear hi)))
    go_ret2
    exact ⟨by first | rfl | (simp [errW_none, errW_some] <;> rfl) | (simp [*, errW_none, errW_some] <;> rfl), by repeat (first | (with_reducible first | exact HB.out | apply below_alloc | apply pw_below_drewN | apply below_drew1 | refine below_set ?_ GE828.out) | exact HB.out)⟩

end Go.Proofs.Ythmjimboajmhmaa.Pr

namespace Go.Proofs.Ythmjimboajmhmaa.Pr
open Go.RowKit Go.Proofs.YthmjimboajmhmaaW.PrintWords Go.Proofs.YthmjimboajmhmaaW.PrintLast Go.Proofs.YthmjimboajmhmaaW.PrintMore
attribute [local go_sem] max2_int min2_int max_two min_two max_three min_three max_four min_four   -- for this text's walks alone
set_option linter.unusedVariables false
set_option linter.unusedSimpArgs false

/-! ### spec_l25Out: function 88 -/
mutual
def spec_l25Out.l0 : Nat → List (S37) → List Bool → Int → List Int → Int → Option (Int)
  | 0, _, _, _, _, _ => none
  | k + 1, x0, x1, x2, x7, x8 => if x8 < 8 then (if x7.length < 17592186044416 then (spec_l25Out.l0 k x0 x1 x2 (x7 ++ [(-1)]) (wrap64 (x8 + 1))) else (none)) else (if 0 < (x7.length : Int) then (spec_l25Out.l1 k x0 x1 x2 (x7.set (0 : Int).toNat 0) true) else (none))
def spec_l25Out.l1 : Nat → List (S37) → List Bool → Int → List Int → Bool → Option (Int)
  | 0, _, _, _, _, _ => none
  | k + 1, x0, x1, x2, x7, x9 => if x9 = true then (spec_l25Out.l2 k x0 x1 x2 x7 false 0) else (if 0 ≤ x2 then (if x2 < (x7.length : Int) then (some (rd x7 x2)) else (none)) else (none))
def spec_l25Out.l2 : Nat → List (S37) → List Bool → Int → List Int → Bool → Int → Option (Int)
  | 0, _, _, _, _, _, _ => none
  | k + 1, x0, x1, x2, x7, x9, x10 => if x10 < (x0.length : Int) then (if 0 ≤ x10 then (if 0 ≤ ((rd_T37 x0 x10).f0) then (if ((rd_T37 x0 x10).f0) < (x1.length : Int) then (if (rdOf false x1 ((rd_T37 x0 x10).f0) = true) then (if 0 ≤ ((rd_T37 x0 x10).f1) then (if ((rd_T37 x0 x10).f1) < (x1.length : Int) then (spec_l25Out.j3 k x0 x1 x2 x7 x9 x10 ((rd_T37 x0 x10).f0) ((rd_T37 x0 x10).f1) (!(rdOf false x1 ((rd_T37 x0 x10).f1)))) else (none)) else (none)) else (spec_l25Out.j3 k x0 x1 x2 x7 x9 x10 ((rd_T37 x0 x10).f0) ((rd_T37 x0 x10).f1) true)) else (none)) else (none)) else (none)) else (spec_l25Out.l1 k x0 x1 x2 x7 x9)
def spec_l25Out.j3 : Nat → List (S37) → List Bool → Int → List Int → Bool → Int → Int → Int → Bool → Option (Int)
  | 0, _, _, _, _, _, _, _, _, _ => none
  | k + 1, x0, x1, x2, x7, x9, x10, x11, x12, x53 => if x53 = true then (spec_l25Out.l2 k x0 x1 x2 x7 x9 (wrap64 (x10 + 1))) else (if 0 ≤ x11 then (if x11 < (x7.length : Int) then (if 0 ≤ x10 then (if x10 < (x0.length : Int) then (if (rd x7 x11) ≥ 0 then (if 0 ≤ x12 then (if x12 < (x7.length : Int) then (if (rd x7 x12) < 0 then (spec_l25Out.j4 k x0 x1 x2 x7 x9 x10 x11 x12 (wrap64 ((rd x7 x11) + ((rd_T37 x0 x10).f2))) true) else (spec_l25Out.j4 k x0 x1 x2 x7 x9 x10 x11 x12 (wrap64 ((rd x7 x11) + ((rd_T37 x0 x10).f2))) (decide ((wrap64 ((rd x7 x11) + ((rd_T37 x0 x10).f2))) < (rd x7 x12))))) else (none)) else (none)) else (spec_l25Out.j4 k x0 x1 x2 x7 x9 x10 x11 x12 (wrap64 ((rd x7 x11) + ((rd_T37 x0 x10).f2))) false)) else (none)) else (none)) else (none)) else (none))
def spec_l25Out.j4 : Nat → List (S37) → List Bool → Int → List Int → Bool → Int → Int → Int → Int → Bool → Option (Int)
  | 0, _, _, _, _, _, _, _, _, _, _ => none
  | k + 1, x0, x1, x2, x7, x9, x10, x11, x12, x13, x83 => if x83 = true then (if 0 ≤ x12 then (if x12 < (x7.length : Int) then ((some (x7.set (x12 : Int).toNat x13 : List Int)).bind fun y122 => (if 0 ≤ x10 then (if x10 < (x0.length : Int) then (if (rd y122 x12) ≥ 0 then (if 0 ≤ x11 then (if x11 < (x7.length : Int) then (if (rd y122 x11) < 0 then (spec_l25Out.l2 k x0 x1 x2 (y122.set (x11 : Int).toNat (wrap64 ((rd y122 x12) + ((rd_T37 x0 x10).f2)))) true (wrap64 (x10 + 1))) else (if (wrap64 ((rd y122 x12) + ((rd_T37 x0 x10).f2))) < (rd y122 x11) then (spec_l25Out.l2 k x0 x1 x2 (y122.set (x11 : Int).toNat (wrap64 ((rd y122 x12) + ((rd_T37 x0 x10).f2)))) true (wrap64 (x10 + 1))) else (spec_l25Out.l2 k x0 x1 x2 y122 true (wrap64 (x10 + 1))))) else (none)) else (none)) else (spec_l25Out.l2 k x0 x1 x2 y122 true (wrap64 (x10 + 1)))) else (none)) else (none))) else (none)) else (none)) else (if 0 ≤ x12 then (if x12 < (x7.length : Int) then (if 0 ≤ x10 then (if x10 < (x0.length : Int) then (if (rd x7 x12) ≥ 0 then (if 0 ≤ x11 then (if x11 < (x7.length : Int) then (if (rd x7 x11) < 0 then (spec_l25Out.l2 k x0 x1 x2 (x7.set (x11 : Int).toNat (wrap64 ((rd x7 x12) + ((rd_T37 x0 x10).f2)))) true (wrap64 (x10 + 1))) else (if (wrap64 ((rd x7 x12) + ((rd_T37 x0 x10).f2))) < (rd x7 x11) then (spec_l25Out.l2 k x0 x1 x2 (x7.set (x11 : Int).toNat (wrap64 ((rd x7 x12) + ((rd_T37 x0 x10).f2)))) true (wrap64 (x10 + 1))) else (spec_l25Out.l2 k x0 x1 x2 x7 x9 (wrap64 (x10 + 1))))) else (none)) else (none)) else (spec_l25Out.l2 k x0 x1 x2 x7 x9 (wrap64 (x10 + 1)))) else (none)) else (none)) else (none)) else (none))
end
def spec_l25Out.f (k : Nat) (l0 : List (S37)) (l1 : List Bool) (a2 : Int) : Option (Int) := spec_l25Out.l0 k l0 l1 a2 (([] : List Int)) 0
theorem spec_l25Out.mono_l : ∀ k, (∀ y0 y1 y2 y3 y4, LeO (spec_l25Out.l0 k y0 y1 y2 y3 y4) (spec_l25Out.l0 (k + 1) y0 y1 y2 y3 y4)) ∧ (∀ y0 y1 y2 y3 y4, LeO (spec_l25Out.l1 k y0 y1 y2 y3 y4) (spec_l25Out.l1 (k + 1) y0 y1 y2 y3 y4)) ∧ (∀ y0 y1 y2 y3 y4 y5, LeO (spec_l25Out.l2 k y0 y1 y2 y3 y4 y5) (spec_l25Out.l2 (k + 1) y0 y1 y2 y3 y4 y5)) ∧ (∀ y0 y1 y2 y3 y4 y5 y6 y7 y8, LeO (spec_l25Out.j3 k y0 y1 y2 y3 y4 y5 y6 y7 y8) (spec_l25Out.j3 (k + 1) y0 y1 y2 y3 y4 y5 y6 y7 y8)) ∧ (∀ y0 y1 y2 y3 y4 y5 y6 y7 y8 y9, LeO (spec_l25Out.j4 k y0 y1 y2 y3 y4 y5 y6 y7 y8 y9) (spec_l25Out.j4 (k + 1) y0 y1 y2 y3 y4 y5 y6 y7 y8 y9))
  | 0 => ⟨fun _ _ _ _ _ r h => by simp [spec_l25Out.l0] at h, fun _ _ _ _ _ r h => by simp [spec_l25Out.l1] at h, fun _ _ _ _ _ _ r h => by simp [spec_l25Out.l2] at h, fun _ _ _ _ _ _ _ _ _ r h => by simp [spec_l25Out.j3] at h, fun _ _ _ _ _ _ _ _ _ _ r h => by simp [spec_l25Out.j4] at h⟩
  | k + 1 => by
    obtain ⟨ih0, ih1, ih2, ih3, ih4⟩ := spec_l25Out.mono_l k
    refine ⟨?_, ?_, ?_, ?_, ?_⟩
    · intro y0 y1 y2 y3 y4
      unfold spec_l25Out.l0
      repeat' first
      | (with_reducible exact ih0 _ _ _ _ _)
      | (with_reducible exact ih1 _ _ _ _ _)
      | (with_reducible exact ih2 _ _ _ _ _ _)
      | (with_reducible exact ih3 _ _ _ _ _ _ _ _ _)
      | (with_reducible exact ih4 _ _ _ _ _ _ _ _ _ _)
      | (with_reducible exact LeO.refl _)
      | (with_reducible exact LeO.none _)
      | (with_reducible refine LeO.ite ?_ ?_)
      | (with_reducible refine LeO.bind ?_ (fun _ => ?_))
      | exact ih0 _ _ _ _ _
      | exact ih1 _ _ _ _ _
      | exact ih2 _ _ _ _ _ _
      | exact ih3 _ _ _ _ _ _ _ _ _
      | exact ih4 _ _ _ _ _ _ _ _ _ _
      | exact LeO.none _
      | refine LeO.ite ?_ ?_
      | refine LeO.bind ?_ (fun _ => ?_)
    · intro y0 y1 y2 y3 y4
      unfold spec_l25Out.l1
      repeat' first
      | (with_reducible exact ih0 _ _ _ _ _)
      | (with_reducible exact ih1 _ _ _ _ _)
      | (with_reducible exact ih2 _ _ _ _ _ _)
      | (with_reducible exact ih3 _ _ _ _ _ _ _ _ _)
      | (with_reducible exact ih4 _ _ _ _ _ _ _ _ _ _)
      | (with_reducible exact LeO.refl _)
      | (with_reducible exact LeO.none _)
      | (with_reducible refine LeO.ite ?_ ?_)
      | (with_reducible refine LeO.bind ?_ (fun _ => ?_))
      | exact ih0 _ _ _ _ _
      | exact ih1 _ _ _ _ _
      | exact ih2 _ _ _ _ _ _
      | exact ih3 _ _ _ _ _ _ _ _ _
      | exact ih4 _ _ _ _ _ _ _ _ _ _
      | exact LeO.none _
      | refine LeO.ite ?_ ?_
      | refine LeO.bind ?_ (fun _ => ?_)
    · intro y0 y1 y2 y3 y4 y5
      unfold spec_l25Out.l2
      repeat' first
      | (with_reducible exact ih0 _ _ _ _ _)
      | (with_reducible exact ih1 _ _ _ _ _)
      | (with_reducible exact ih2 _ _ _ _ _ _)
      | (with_reducible exact ih3 _ _ _ _ _ _ _ _ _)
      | (with_reducible exact ih4 _ _ _ _ _ _ _ _ _ _)
      | (with_reducible exact LeO.refl _)
      | (with_reducible exact LeO.none _)
      | (with_reducible refine LeO.ite ?_ ?_)
      | (with_reducible refine LeO.bind ?_ (fun _ => ?_))
      | exact ih0 _ _ _ _ _
      | exact ih1 _ _ _ _ _
      | exact ih2 _ _ _ _ _ _
      | exact ih3 _ _ _ _ _ _ _ _ _
      | exact ih4 _ _ _ _ _ _ _ _ _ _
      | exact LeO.none _
      | refine LeO.ite ?_ ?_
      | refine LeO.bind ?_ (fun _ => ?_)
    · intro y0 y1 y2 y3 y4 y5 y6 y7 y8
      unfold spec_l25Out.j3
      repeat' first
      | (with_reducible exact ih0 _ _ _ _ _)
      | (with_reducible exact ih1 _ _ _ _ _)
      | (with_reducible exact ih2 _ _ _ _ _ _)
      | (with_reducible exact ih3 _ _ _ _ _ _ _ _ _)
      | (with_reducible exact ih4 _ _ _ _ _ _ _ _ _ _)
      | (with_reducible exact LeO.refl _)
      | (with_reducible exact LeO.none _)
      | (with_reducible refine LeO.ite ?_ ?_)
      | (with_reducible refine LeO.bind ?_ (fun _ => ?_))
      | exact ih0 _ _ _ _ _
      | exact ih1 _ _ _ _ _
      | exact ih2 _ _ _ _ _ _
      | exact ih3 _ _ _ _ _ _ _ _ _
      | exact ih4 _ _ _ _ _ _ _ _ _ _
      | exact LeO.none _
      | refine LeO.ite ?_ ?_
      | refine LeO.bind ?_ (fun _ => ?_)
    · intro y0 y1 y2 y3 y4 y5 y6 y7 y8 y9
      unfold spec_l25Out.j4
      repeat' first
      | (with_reducible exact ih0 _ _ _ _ _)
      | (with_reducible exact ih1 _ _ _ _ _)
      | (with_reducible exact ih2 _ _ _ _ _ _)
      | (with_reducible exact ih3 _ _ _ _ _ _ _ _ _)
      | (with_reducible exact ih4 _ _ _ _ _ _ _ _ _ _)
      | (with_reducible exact LeO.refl _)
      | (with_reducible exact LeO.none _)
      | (with_reducible refine LeO.ite ?_ ?_)
      | (with_reducible refine LeO.bind ?_ (fun _ => ?_))
      | exact ih0 _ _ _ _ _
      | exact ih1 _ _ _ _ _
      | exact ih2 _ _ _ _ _ _
      | exact ih3 _ _ _ _ _ _ _ _ _
      | exact ih4 _ _ _ _ _ _ _ _ _ _
      | exact LeO.none _
      | refine LeO.ite ?_ ?_
      | refine LeO.bind ?_ (fun _ => ?_)
theorem spec_l25Out.mono : ∀ a0 a1 a2 k, LeO (spec_l25Out.f k a0 a1 a2) (spec_l25Out.f (k + 1) a0 a1 a2) := by
  intro a0 a1 a2 k
  obtain ⟨ih0, ih1, ih2, ih3, ih4⟩ := spec_l25Out.mono_l k
  unfold spec_l25Out.f
  repeat' first
      | (with_reducible exact ih0 _ _ _ _ _)
      | (with_reducible exact ih1 _ _ _ _ _)
      | (with_reducible exact ih2 _ _ _ _ _ _)
      | (with_reducible exact ih3 _ _ _ _ _ _ _ _ _)
      | (with_reducible exact ih4 _ _ _ _ _ _ _ _ _ _)
      | (with_reducible exact LeO.refl _)
      | (with_reducible exact LeO.none _)
      | (with_reducible refine LeO.ite ?_ ?_)
      | (with_reducible refine LeO.bind ?_ (fun _ => ?_))
      | exact ih0 _ _ _ _ _
      | exact ih1 _ _ _ _ _
      | exact ih2 _ _ _ _ _ _
      | exact ih3 _ _ _ _ _ _ _ _ _
      | exact ih4 _ _ _ _ _ _ _ _ _ _
      | exact LeO.none _
      | refine LeO.ite ?_ ?_
      | refine LeO.bind ?_ (fun _ => ?_)
set_option maxHeartbeats 8000000 in
set_option maxRecDepth 100000 in
theorem spec_l25Out.calls (k : Nat) (A0 : Option Addr) (c0 : Nat) (l0 : List (S37)) (A1 : Option Addr) (c1 : Nat) (l1 : List Bool) (a2 : Int) (r : Int) (w : World) (hr0 : Kd.C k37 w A0 l0.length l0) (hc0 : l0.length ≤ c0) (hr1 : Kd.C Kd.bool w A1 l1.length l1) (hc1 : l1.length ≤ c1) (h : spec_l25Out.f k l0 l1 a2 = some r) :
    Calls Try.prog 88 #[.slice A0 l0.length c0, .slice A1 l1.length c1, .int .i64 a2] w fun e w' => e = .returned (.int .i64 r) ∧ Below w.heap.size w w' := by
  have HR0 := Aside0.mk hr0
  have HC0 := Aside0.mk hc0
  clear hr0 hc0
  have HR1 := Aside0.mk hr1
  have HC1 := Aside0.mk hc1
  clear hr1 hc1
  have HB := Aside0.mk (Below.refl w.heap.size w)
  have H : (spec_l25Out.l0 k l0 l1 a2 (([] : List Int)) 0) = some r := h
  clear h
  obtain ⟨y105, hy105⟩ : ∃ y_ : List Int, y_ = (([] : List Int)) := ⟨_, rfl⟩
  replace H : (spec_l25Out.l0 k l0 l1 a2 y105 0) = some r := by first | (rw [hy105]; with_reducible exact H) | (have H2_ := (Option.bind_some _ _).symm.trans H; rw [hy105]; with_reducible exact H2_) | (have H2_ := (Option.bind_some _ _).symm.trans H; with_reducible exact H2_) | with_reducible exact H | (rw [hy105]; exact H) | exact H
  have Ny105 := Aside0.mk hy105
  clear hy105
  have H' := Aside0.mk H
  clear H
  go_enter Try.func88, Try.ntmps88
  go_wp2_with (first | ((with_reducible refine gate_dst (N := 15) rfl ?_); refine Kd.R_lit (Kd.int .i64) _ 3 ?hg (N := 15) ?hd (xs := ([] : List Int)) (inner := []) (ok := fun _ => True) (okp := fun _ => True) ?hr ?hp (fun _ hk => hk) trivial (Below.refl _ _) (Nat.le_refl _) (by simp) ?_; (case hd => rfl); (case hg => rfl); (case hr => first | (go_simp; done) | (go_simp; rfl)); (case hp => exact (Reps.none _ _)); intro v106 w4 ho5 hb hg_ hnew_; clear hg_ hnew_; (first | rw [← Ny105.out] at ho5 | (simp only [Int.reduceToNat] at ho5; rw [← Ny105.out] at ho5)); have n0_ := Aside0.mk (Kd.R_lower ho5 (below_size (by repeat (first | (with_reducible first | exact HB.out | apply below_alloc | apply pw_below_drewN | apply below_drew1) | exact HB.out)))); have n1_ := Aside0.mk (below_step (by repeat (first | (with_reducible first | exact HB.out | apply below_alloc | apply pw_below_drewN | apply below_drew1) | exact HB.out)) hb); clear HB; have HO107 := n0_; have HB := n1_; clear n0_ n1_; clear hb ho5))
  repeat (go_quiet (first | ((with_reducible refine gate_dst (N := 15) rfl ?_); refine Kd.R_lit (Kd.int .i64) _ 3 ?hg (N := 15) ?hd (xs := ([] : List Int)) (inner := []) (ok := fun _ => True) (okp := fun _ => True) ?hr ?hp (fun _ hk => hk) trivial (Below.refl _ _) (Nat.le_refl _) (by simp) ?_; (case hd => rfl); (case hg => rfl); (case hr => first | (go_simp; done) | (go_simp; rfl)); (case hp => exact (Reps.none _ _)); intro v106 w4 ho5 hb hg_ hnew_; clear hg_ hnew_; (first | rw [← Ny105.out] at ho5 | (simp only [Int.reduceToNat] at ho5; rw [← Ny105.out] at ho5)); have n0_ := Aside0.mk (Kd.R_lower ho5 (below_size (by repeat (first | (with_reducible first | exact HB.out | apply below_alloc | apply pw_below_drewN | apply below_drew1) | exact HB.out)))); have n1_ := Aside0.mk (below_step (by repeat (first | (with_reducible first | exact HB.out | apply below_alloc | apply pw_below_drewN | apply below_drew1) | exact HB.out)) hb); clear HB; have HO107 := n0_; have HB := n1_; clear n0_ n1_; clear hb ho5)); try go_wp2_with (first | ((with_reducible refine gate_dst (N := 15) rfl ?_); refine Kd.R_lit (Kd.int .i64) _ 3 ?hg (N := 15) ?hd (xs := ([] : List Int)) (inner := []) (ok := fun _ => True) (okp := fun _ => True) ?hr ?hp (fun _ hk => hk) trivial (Below.refl _ _) (Nat.le_refl _) (by simp) ?_; (case hd => rfl); (case hg => rfl); (case hr => first | (go_simp; done) | (go_simp; rfl)); (case hp => exact (Reps.none _ _)); intro v106 w4 ho5 hb hg_ hnew_; clear hg_ hnew_; (first | rw [← Ny105.out] at ho5 | (simp only [Int.reduceToNat] at ho5; rw [← Ny105.out] at ho5)); have n0_ := Aside0.mk (Kd.R_lower ho5 (below_size (by repeat (first | (with_reducible first | exact HB.out | apply below_alloc | apply pw_below_drewN | apply below_drew1) | exact HB.out)))); have n1_ := Aside0.mk (below_step (by repeat (first | (with_reducible first | exact HB.out | apply below_alloc | apply pw_below_drewN | apply below_drew1) | exact HB.out)) hb); clear HB; have HO107 := n0_; have HB := n1_; clear n0_ n1_; clear hb ho5)))
  go_loopg [7, 8] k (fun kq v7 v8 w' => ∃ (x7_1 : List Int) (x8_1 : Int), v8 = .int .i64 x8_1 ∧ Aside0 (spec_l25Out.l0 kq l0 l1 a2 x7_1 x8_1 = some r) ∧ Aside0 (kq ≤ k) ∧ Aside0 (Kd.R (Kd.int .i64) 3 w' w.heap.size (fun _ => True) v7 x7_1) ∧ Aside0 (Below w.heap.size w w'))
  case atStart => exact ⟨(y105), (0), (by first | rfl | (simp; done) | (simp [*]; done)), H', ⟨Nat.le_refl _⟩, ⟨by (with_reducible repeat (first | apply Kd.R_alloc | apply Kd.R_drewN | apply Kd.R_drew)); exact HO107.out⟩, ⟨by repeat (first | (with_reducible first | exact HB.out | apply below_alloc | apply pw_below_drewN | apply below_drew1) | exact HB.out)⟩⟩
  case round =>
    clear H'
    try clear c1
    try clear p2
    obtain ⟨x7_1, x8_1, rfl, HA, HK1, HO_7, HB⟩ := hrel
    cases gk with
    | zero => exact absurd HA.out (by simp [spec_l25Out.l0])
    | succ k1 =>
      have H := HA.out
      clear HA
      simp only [spec_l25Out.l0] at H
      by_cases c6 : x8_1 < 8
      · rw [if_pos c6] at H
        have c6b0 : decide (x8_1 < 8) = true := decide_eq_true c6
        clear c6
        by_cases c7 : x7_1.length < 17592186044416
        · rw [if_pos c7] at H
          have LMc7 := Aside0.mk c7
          clear c7
          obtain ⟨y108, hy108⟩ : ∃ y_ : List Int, y_ = (x7_1 ++ [(-1)]) := ⟨_, rfl⟩
          replace H : (spec_l25Out.l0 k1 l0 l1 a2 y108 (wrap64 (x8_1 + 1))) = some r := by first | (rw [hy108]; with_reducible exact H) | (have H2_ := (Option.bind_some _ _).symm.trans H; rw [hy108]; with_reducible exact H2_) | (have H2_ := (Option.bind_some _ _).symm.trans H; with_reducible exact H2_) | with_reducible exact H | (rw [hy108]; exact H) | exact H
          have Ny108 := Aside0.mk hy108
          clear hy108
          have H' := Aside0.mk H
          clear H
          go_wp2_with (first | ((with_reducible refine gate_builtin (b := .append) (xs := #[.tmp 20, .tmp 21]) rfl ?_); at_builtin; refine Kd.R_append (Kd.int .i64) (w0 := w) w.heap.size rfl (.tmp 20) (.tmp 21) 60 3 (.int .i64 0) 8 rfl Try.underlying60 info3 rfl (by decide) (by omega) u7 x7_1 (-1) [.int .i64 (-1)] (fun _ => True) (fun _ => False) rfl rfl ?aP (fun _ hk => hk.elim) ?aF ?aO ?aB ?aS ?aL ?_; (case aP => exact rfl); (case aB => exact (by repeat (first | (with_reducible first | exact HB.out | apply below_alloc | apply pw_below_drewN | apply below_drew1) | exact HB.out))); (case aF => exact (fun _ _ => trivial)); (case aO => exact (by (with_reducible repeat (first | apply Kd.R_alloc | apply Kd.R_drewN | apply Kd.R_drew)); exact HO_7.out)); (case aS => exact (below_size (by repeat (first | (with_reducible first | exact HB.out | apply below_alloc | apply pw_below_drewN | apply below_drew1) | exact HB.out)))); (case aL => have := LMc7.out; omega); intro v109 w8 ho hb hg hat; rw [← Ny108.out] at ho; have n0_ := Aside0.mk (hb); have n1_ := Aside0.mk (ho); clear HB; clear HO_7; have HB := n0_; have HO110 := n1_; clear n0_ n1_; clear ho hb hg hat))
          repeat (go_quiet (first | ((with_reducible refine gate_builtin (b := .append) (xs := #[.tmp 20, .tmp 21]) rfl ?_); at_builtin; refine Kd.R_append (Kd.int .i64) (w0 := w) w.heap.size rfl (.tmp 20) (.tmp 21) 60 3 (.int .i64 0) 8 rfl Try.underlying60 info3 rfl (by decide) (by omega) u7 x7_1 (-1) [.int .i64 (-1)] (fun _ => True) (fun _ => False) rfl rfl ?aP (fun _ hk => hk.elim) ?aF ?aO ?aB ?aS ?aL ?_; (case aP => exact rfl); (case aB => exact (by repeat (first | (with_reducible first | exact HB.out | apply below_alloc | apply pw_below_drewN | apply below_drew1) | exact HB.out))); (case aF => exact (fun _ _ => trivial)); (case aO => exact (by (with_reducible repeat (first | apply Kd.R_alloc | apply Kd.R_drewN | apply Kd.R_drew)); exact HO_7.out)); (case aS => exact (below_size (by repeat (first | (with_reducible first | exact HB.out | apply below_alloc | apply pw_below_drewN | apply below_drew1) | exact HB.out)))); (case aL => have := LMc7.out; omega); intro v109 w8 ho hb hg hat; rw [← Ny108.out] at ho; have n0_ := Aside0.mk (hb); have n1_ := Aside0.mk (ho); clear HB; clear HO_7; have HB := n0_; have HO110 := n1_; clear n0_ n1_; clear ho hb hg hat)); try go_wp2_with (first | ((with_reducible refine gate_builtin (b := .append) (xs := #[.tmp 20, .tmp 21]) rfl ?_); at_builtin; refine Kd.R_append (Kd.int .i64) (w0 := w) w.heap.size rfl (.tmp 20) (.tmp 21) 60 3 (.int .i64 0) 8 rfl Try.underlying60 info3 rfl (by decide) (by omega) u7 x7_1 (-1) [.int .i64 (-1)] (fun _ => True) (fun _ => False) rfl rfl ?aP (fun _ hk => hk.elim) ?aF ?aO ?aB ?aS ?aL ?_; (case aP => exact rfl); (case aB => exact (by repeat (first | (with_reducible first | exact HB.out | apply below_alloc | apply pw_below_drewN | apply below_drew1) | exact HB.out))); (case aF => exact (fun _ _ => trivial)); (case aO => exact (by (with_reducible repeat (first | apply Kd.R_alloc | apply Kd.R_drewN | apply Kd.R_drew)); exact HO_7.out)); (case aS => exact (below_size (by repeat (first | (with_reducible first | exact HB.out | apply below_alloc | apply pw_below_drewN | apply below_drew1) | exact HB.out)))); (case aL => have := LMc7.out; omega); intro v109 w8 ho hb hg hat; rw [← Ny108.out] at ho; have n0_ := Aside0.mk (hb); have n1_ := Aside0.mk (ho); clear HB; clear HO_7; have HB := n0_; have HO110 := n1_; clear n0_ n1_; clear ho hb hg hat)))
          go_roundg k1
          case measure => have := HK1.out; omega
          case rel => exact ⟨(y108), (wrap64 (x8_1 + 1)), (by first | rfl | (simp; done) | (simp [*]; done)), H', ⟨by have := HK1.out; omega⟩, ⟨by (with_reducible repeat (first | apply Kd.R_alloc | apply Kd.R_drewN | apply Kd.R_drew)); exact HO110.out⟩, ⟨by repeat (first | (with_reducible first | exact HB.out | apply below_alloc | apply pw_below_drewN | apply below_drew1) | exact HB.out)⟩⟩
        · rw [if_neg c7] at H
          exact absurd H (by simp)
      · rw [if_neg c6] at H
        have c6b0 : decide (x8_1 < 8) = false := decide_eq_false c6
        clear c6
        by_cases c9 : 0 < (x7_1.length : Int)
        · rw [if_pos c9] at H
          have c9b0 : decide (0 < (x7_1.length : Int)) = true := decide_eq_true c9
          have c9b1 : decide (0 < x7_1.length) = true := decide_eq_true (by omega)
          clear c9
          obtain ⟨y111, hy111⟩ : ∃ y_ : List Int, y_ = (x7_1.set (0 : Int).toNat 0) := ⟨_, rfl⟩
          replace H : (spec_l25Out.l1 k1 l0 l1 a2 y111 true) = some r := by first | (rw [hy111]; with_reducible exact H) | (have H2_ := (Option.bind_some _ _).symm.trans H; rw [hy111]; with_reducible exact H2_) | (have H2_ := (Option.bind_some _ _).symm.trans H; with_reducible exact H2_) | with_reducible exact H | (rw [hy111]; exact H) | exact H
          have Ny111 := Aside0.mk hy111
          clear hy111
          have H' := Aside0.mk H
          clear H
          have p10 : 0 ≤ (0 : Int) := (by omega)
          have q10 : (0 : Int) < ((x7_1.length : Int) : Int) := of_decide_eq_true (by first | (with_reducible assumption) | assumption)
          have qi10 : (0 < x7_1.length) = True := eq_true (by omega)
          obtain ⟨go10, co10, eo10, gb10, gl10, cl10, HG10⟩ := Kd.R_form HO_7.out (by omega)
          (first | cases eo10 | (injection eo10 with ea_ en_ ec_; (first | subst ea_ | (injection ea_ with ea_; subst ea_)); subst ec_; clear en_))
          have GB10 := Aside0.mk gb10
          have GG10 := Aside0.mk HG10
          clear gb10 gl10 HG10
          obtain ⟨hx10_0, hf10_0⟩ := Kd.R_celln 0 HO_7.out (0 : Int) p10 q10
          (try rw [show ((0 : Int)).toNat = 0 from rfl] at hx10_0)
          (try simp only [Nat.reduceMul, Nat.zero_mul, Nat.zero_add, Nat.reduceAdd] at hx10_0)
          (try rw [show ((0 : Int)).toNat = 0 from rfl] at hf10_0)
          (try simp only [Nat.reduceMul, Nat.zero_mul, Nat.zero_add, Nat.reduceAdd] at hf10_0)
          replace p10 := eq_true p10
          replace q10 := eq_true q10
          have HP11 := Kd.R_putg HO_7.out (0 : Int) 0
          go_wp2_with (first | ((with_reducible refine gate_store (t := 3) (p := 24) rfl ?_); (try (rw [drewN_self wr]; generalize hq_ : World.drewN wr _ = wr; have n0_ := Aside0.mk (Kd.R_at hq_ HO_7.out); have n1_ := Aside0.mk (below_at hq_ HB.out); clear hq_ HO_7 HB; have HO_7 := n0_; have HB := n1_; clear n0_ n1_; (try (have HP11 := Kd.R_putg HO_7.out (0 : Int) 0)))); refine store_event (t := 3) (p := 24) (v := ?vo_w12) (w1 := (wr.setCell ⟨go10, (0 : Int).toNat, none⟩ (.int .i64 0))) ?hg ?ho ?hn ?hr ?_; (case ho => rfl); (case hg => rfl); (case hn => rfl); (case hr => first | (go_simp; done) | (go_simp; rfl)); intro w12 hw; have hg : wr.grownBy w12 (some go10) := (by rw [hw]; exact HP11.2); have hp_ : Kd.R (Kd.int .i64) 3 w12 w.heap.size (fun _ => True) (.slice (some ⟨go10, 0, none⟩) x7_1.length co10) y111 := (by rw [hw, Ny111.out]; exact HP11.1); clear HP11; have n0_ := Aside0.mk (hp_); have n1_ := Aside0.mk ((by rw [hw]; exact below_set (HB.out) GB10.out : Below w.heap.size w w12)); clear HO_7; clear HB; have HO_7 := n0_; have HB := n1_; clear n0_ n1_; clear hg hw hp_))
          repeat (go_quiet (first | ((with_reducible refine gate_store (t := 3) (p := 24) rfl ?_); (try (rw [drewN_self wr]; generalize hq_ : World.drewN wr _ = wr; have n0_ := Aside0.mk (Kd.R_at hq_ HO_7.out); have n1_ := Aside0.mk (below_at hq_ HB.out); clear hq_ HO_7 HB; have HO_7 := n0_; have HB := n1_; clear n0_ n1_; (try (have HP11 := Kd.R_putg HO_7.out (0 : Int) 0)))); refine store_event (t := 3) (p := 24) (v := ?vo_w12) (w1 := (wr.setCell ⟨go10, (0 : Int).toNat, none⟩ (.int .i64 0))) ?hg ?ho ?hn ?hr ?_; (case ho => rfl); (case hg => rfl); (case hn => rfl); (case hr => first | (go_simp; done) | (go_simp; rfl)); intro w12 hw; have hg : wr.grownBy w12 (some go10) := (by rw [hw]; exact HP11.2); have hp_ : Kd.R (Kd.int .i64) 3 w12 w.heap.size (fun _ => True) (.slice (some ⟨go10, 0, none⟩) x7_1.length co10) y111 := (by rw [hw, Ny111.out]; exact HP11.1); clear HP11; have n0_ := Aside0.mk (hp_); have n1_ := Aside0.mk ((by rw [hw]; exact below_set (HB.out) GB10.out : Below w.heap.size w w12)); clear HO_7; clear HB; have HO_7 := n0_; have HB := n1_; clear n0_ n1_; clear hg hw hp_)); try go_wp2_with (first | ((with_reducible refine gate_store (t := 3) (p := 24) rfl ?_); (try (rw [drewN_self wr]; generalize hq_ : World.drewN wr _ = wr; have n0_ := Aside0.mk (Kd.R_at hq_ HO_7.out); have n1_ := Aside0.mk (below_at hq_ HB.out); clear hq_ HO_7 HB; have HO_7 := n0_; have HB := n1_; clear n0_ n1_; (try (have HP11 := Kd.R_putg HO_7.out (0 : Int) 0)))); refine store_event (t := 3) (p := 24) (v := ?vo_w12) (w1 := (wr.setCell ⟨go10, (0 : Int).toNat, none⟩ (.int .i64 0))) ?hg ?ho ?hn ?hr ?_; (case ho => rfl); (case hg => rfl); (case hn => rfl); (case hr => first | (go_simp; done) | (go_simp; rfl)); intro w12 hw; have hg : wr.grownBy w12 (some go10) := (by rw [hw]; exact HP11.2); have hp_ : Kd.R (Kd.int .i64) 3 w12 w.heap.size (fun _ => True) (.slice (some ⟨go10, 0, none⟩) x7_1.length co10) y111 := (by rw [hw, Ny111.out]; exact HP11.1); clear HP11; have n0_ := Aside0.mk (hp_); have n1_ := Aside0.mk ((by rw [hw]; exact below_set (HB.out) GB10.out : Below w.heap.size w w12)); clear HO_7; clear HB; have HO_7 := n0_; have HB := n1_; clear n0_ n1_; clear hg hw hp_)))
          go_loopg [9] k1 (fun kq v9 w' => ∃ (x7_2 : List Int) (x9_2 : Bool), v9 = .bool x9_2 ∧ Aside0 (spec_l25Out.l1 kq l0 l1 a2 x7_2 x9_2 = some r) ∧ Aside0 (kq ≤ k1) ∧ Aside0 (Kd.R (Kd.int .i64) 3 w' w.heap.size (fun _ => True) (.slice (some ⟨go10, 0, none⟩) x7_1.length co10) x7_2) ∧ Aside0 (Below w.heap.size w w'))
          case atStart => exact ⟨(y111), (true), (by first | rfl | (simp; done) | (simp [*]; done)), H', ⟨Nat.le_refl _⟩, ⟨by (with_reducible repeat (first | apply Kd.R_alloc | apply Kd.R_drewN | apply Kd.R_drew)); exact HO_7.out⟩, ⟨by repeat (first | (with_reducible first | exact HB.out | apply below_alloc | apply pw_below_drewN | apply below_drew1) | exact HB.out)⟩⟩
          case round =>
            clear H'
            try clear c1
            try clear p1
            try clear q1
            try clear hx1
            try clear qi1
            try clear p2
            try clear c6
            try clear c6b0
            try clear p6
            try clear c7
            try clear c8
            try clear c9
            try clear c9b0
            try clear c9b1
            try clear p10
            try clear q10
            try clear hx10
            try clear qi10
            try clear hf10
            try clear hx10_0
            try clear p10
            try clear p2
            try clear q10
            obtain ⟨x7_2, x9_2, rfl, HA, HK2, HO_7, HB⟩ := hrel
            have hl7_2 := (Kd.R_reads' HO_7.out).1
            rw [hl7_2] at HO_7
            (try simp only [hl7_2])
            cases gk with
            | zero => exact absurd HA.out (by simp [spec_l25Out.l1])
            | succ k2 =>
              have H := HA.out
              clear HA
              simp only [spec_l25Out.l1] at H
              by_cases c13 : x9_2 = true
              · subst c13
                have H1 : (spec_l25Out.l2 k2 l0 l1 a2 x7_2 false 0) = some r := by rw [if_pos rfl] at H; exact H
                clear H
                have H := H1
                clear H1
                have H' := Aside0.mk H
                clear H
                go_wp2
                repeat (go_quiet (fail); try go_wp2)
                go_loopg [9, 10] k2 (fun kq v9 v10 w' => ∃ (x7_3 : List Int) (x9_3 : Bool) (x10_3 : Int), v9 = .bool x9_3 ∧ v10 = .int .i64 x10_3 ∧ Aside0 (spec_l25Out.l2 kq l0 l1 a2 x7_3 x9_3 x10_3 = some r) ∧ Aside0 (kq ≤ k2) ∧ Aside0 (Kd.R (Kd.int .i64) 3 w' w.heap.size (fun _ => True) (.slice (some ⟨go10, 0, none⟩) x7_2.length co10) x7_3) ∧ Aside0 (Below w.heap.size w w'))
                case atStart => exact ⟨(x7_2), (false), (0), (by first | rfl | (simp; done) | (simp [*]; done)), (by first | rfl | (simp; done) | (simp [*]; done)), H', ⟨Nat.le_refl _⟩, ⟨by (try simp only [hl7_2]); (with_reducible repeat (first | apply Kd.R_alloc | apply Kd.R_drewN | apply Kd.R_drew)); exact HO_7.out⟩, ⟨by repeat (first | (with_reducible first | exact HB.out | apply below_alloc | apply pw_below_drewN | apply below_drew1) | exact HB.out)⟩⟩
                case round =>
                  clear H'
                  try clear c1
                  try clear p1
                  try clear q1
                  try clear hx1
                  try clear qi1
                  try clear p2
                  try clear c6
                  try clear c6b0
                  try clear p6
                  try clear c7
                  try clear c8
                  try clear c9
                  try clear c9b0
                  try clear c9b1
                  try clear p10
                  try clear q10
                  try clear hx10
                  try clear qi10
                  try clear hf10
                  try clear c13
                  try clear hx10_0
                  try clear p1
                  try clear p10
                  try clear p2
                  try clear p6
                  try clear q1
                  try clear q10
                  obtain ⟨x7_3, x9_3, x10_3, rfl, rfl, HA, HK3, HO_7, HB⟩ := hrel
                  have hl7_3 := (Kd.R_reads' HO_7.out).1
                  rw [hl7_3] at HO_7
                  (try simp only [hl7_3])
                  cases gk with
                  | zero => exact absurd HA.out (by simp [spec_l25Out.l2])
                  | succ k3 =>
                    have H := HA.out
                    clear HA
                    simp only [spec_l25Out.l2] at H
                    by_cases c14 : x10_3 < (l0.length : Int)
                    · rw [if_pos c14] at H
                      have c14b0 : decide (x10_3 < (l0.length : Int)) = true := decide_eq_true c14
                      clear c14
                      by_cases c15 : 0 ≤ x10_3
                      · rw [if_pos c15] at H
                        have c15b0 : decide (0 ≤ x10_3) = true := decide_eq_true c15
                        clear c15
                        have HC16 := Aside0.mk H
                        clear H
                        have p113 : 0 ≤ (x10_3 : Int) := of_decide_eq_true (by first | (with_reducible assumption) | assumption)
                        have q113 : x10_3 < (l0.length : Int) := of_decide_eq_true (by first | (with_reducible assumption) | assumption)
                        obtain ⟨ad113, e113, hx113_0, hx113_1, hx113_2, hx113_3, hx113_4⟩ := at_T37 HR0.out x10_3 p113 q113
                        cases e113
                        replace hx113_0 := (HB.out.cell (World.block_lt_of_cell? w _ hx113_0)).trans hx113_0
                        replace hx113_1 := (HB.out.cell (World.block_lt_of_cell? w _ hx113_1)).trans hx113_1
                        replace hx113_2 := (HB.out.cell (World.block_lt_of_cell? w _ hx113_2)).trans hx113_2
                        replace hx113_3 := (HB.out.cell (World.block_lt_of_cell? w _ hx113_3)).trans hx113_3
                        replace hx113_4 := (HB.out.cell (World.block_lt_of_cell? w _ hx113_4)).trans hx113_4
                        replace p113 := eq_true p113
                        replace q113 := eq_true q113
                        have p114 : 0 ≤ (x10_3 : Int) := of_decide_eq_true (by first | (with_reducible assumption) | assumption)
                        have q114 : x10_3 < (l0.length : Int) := of_decide_eq_true (by first | (with_reducible assumption) | assumption)
                        obtain ⟨ad114, e114, hx114_0, hx114_1, hx114_2, hx114_3, hx114_4⟩ := at_T37 HR0.out x10_3 p114 q114
                        obtain rfl : ad113 = ad114 := (by injection e114)
                        replace hx114_0 := (HB.out.cell (World.block_lt_of_cell? w _ hx114_0)).trans hx114_0
                        replace hx114_1 := (HB.out.cell (World.block_lt_of_cell? w _ hx114_1)).trans hx114_1
                        replace hx114_2 := (HB.out.cell (World.block_lt_of_cell? w _ hx114_2)).trans hx114_2
                        replace hx114_3 := (HB.out.cell (World.block_lt_of_cell? w _ hx114_3)).trans hx114_3
                        replace hx114_4 := (HB.out.cell (World.block_lt_of_cell? w _ hx114_4)).trans hx114_4
                        replace p114 := eq_true p114
                        replace q114 := eq_true q114
                        go_upto_region 14 with (fail)
                        repeat (go_quiet (fail); go_upto_region 14 with (fail))
                        go_cut [53] (fun v53 wc => ∃ (kq : Nat) (x53_15 : Bool), v53 = .bool x53_15 ∧ Aside0 (spec_l25Out.j3 kq l0 l1 a2 x7_3 x9_3 x10_3 ((rd_T37 l0 x10_3).f0) ((rd_T37 l0 x10_3).f1) x53_15 = some r) ∧ Aside0 (kq ≤ k3) ∧ Aside0 (Kd.R (Kd.int .i64) 3 wc w.heap.size (fun _ => True) (.slice (some ⟨go10, 0, none⟩) x7_3.length co10) x7_3) ∧ Aside0 (Below w.heap.size w wc))
                        case first =>
                          have H := HC16.out
                          clear HC16
                          by_cases c17 : 0 ≤ ((rd_T37 l0 x10_3).f0)
                          · rw [if_pos c17] at H
                            have c17b0 : decide (0 ≤ ((rd_T37 l0 x10_3).f0)) = true := decide_eq_true c17
                            clear c17
                            (first | rw [c17b0] | (simp only [i64_w, i32_w]; rw [c17b0]) | skip)
                            by_cases c18 : ((rd_T37 l0 x10_3).f0) < (l1.length : Int)
                            · rw [if_pos c18] at H
                              have c18b0 : decide (((rd_T37 l0 x10_3).f0) < (l1.length : Int)) = true := decide_eq_true c18
                              clear c18
                              obtain ⟨bq19, hbq19⟩ : ∃ b_ : Bool, b_ = (rdOf false l1 ((rd_T37 l0 x10_3).f0)) := ⟨_, rfl⟩
                              replace H : (if (bq19 = true) then (if 0 ≤ ((rd_T37 l0 x10_3).f1) then (if ((rd_T37 l0 x10_3).f1) < (l1.length : Int) then (spec_l25Out.j3 k3 l0 l1 a2 x7_3 x9_3 x10_3 ((rd_T37 l0 x10_3).f0) ((rd_T37 l0 x10_3).f1) (!(rdOf false l1 ((rd_T37 l0 x10_3).f1)))) else (none)) else (none)) else (spec_l25Out.j3 k3 l0 l1 a2 x7_3 x9_3 x10_3 ((rd_T37 l0 x10_3).f0) ((rd_T37 l0 x10_3).f1) true)) = some r := by rw [← hbq19] at H; exact H
                              have Nbq19 := Aside0.mk hbq19
                              clear hbq19
                              by_cases c20 : (bq19 = true)
                              · subst c20
                                have H1 : (if 0 ≤ ((rd_T37 l0 x10_3).f1) then (if ((rd_T37 l0 x10_3).f1) < (l1.length : Int) then (spec_l25Out.j3 k3 l0 l1 a2 x7_3 x9_3 x10_3 ((rd_T37 l0 x10_3).f0) ((rd_T37 l0 x10_3).f1) (!(rdOf false l1 ((rd_T37 l0 x10_3).f1)))) else (none)) else (none)) = some r := by rw [if_pos rfl] at H; exact H
                                clear H
                                have H := H1
                                clear H1
                                by_cases c21 : 0 ≤ ((rd_T37 l0 x10_3).f1)
                                · rw [if_pos c21] at H
                                  have c21b0 : decide (0 ≤ ((rd_T37 l0 x10_3).f1)) = true := decide_eq_true c21
                                  clear c21
                                  by_cases c22 : ((rd_T37 l0 x10_3).f1) < (l1.length : Int)
                                  · rw [if_pos c22] at H
                                    have c22b0 : decide (((rd_T37 l0 x10_3).f1) < (l1.length : Int)) = true := decide_eq_true c22
                                    clear c22
                                    have H' := Aside0.mk H
                                    clear H
                                    have p115 : 0 ≤ (((rd_T37 l0 x10_3).f0) : Int) := of_decide_eq_true (by first | (with_reducible assumption) | assumption)
                                    have q115 : ((rd_T37 l0 x10_3).f0) < (l1.length : Int) := of_decide_eq_true (by first | (with_reducible assumption) | assumption)
                                    obtain ⟨ad115, e115, hx115_0⟩ := Kd.at_bool HR1.out ((rd_T37 l0 x10_3).f0) p115 q115
                                    (try rw [← Nbq19.out] at hx115_0)
                                    cases e115
                                    replace hx115_0 := (HB.out.cell (World.block_lt_of_cell? w _ hx115_0)).trans hx115_0
                                    replace p115 := eq_true p115
                                    replace q115 := eq_true q115
                                    have p116 : 0 ≤ (((rd_T37 l0 x10_3).f1) : Int) := of_decide_eq_true (by first | (with_reducible assumption) | assumption)
                                    have q116 : ((rd_T37 l0 x10_3).f1) < (l1.length : Int) := of_decide_eq_true (by first | (with_reducible assumption) | assumption)
                                    obtain ⟨ad116, e116, hx116_0⟩ := Kd.at_bool HR1.out ((rd_T37 l0 x10_3).f1) p116 q116
                                    (try rw [← Nbq19.out] at hx116_0)
                                    obtain rfl : ad115 = ad116 := (by injection e116)
                                    replace hx116_0 := (HB.out.cell (World.block_lt_of_cell? w _ hx116_0)).trans hx116_0
                                    replace p116 := eq_true p116
                                    replace q116 := eq_true q116
                                    go_wp2
                                    repeat (go_quiet (fail); try go_wp2)
                                    go_meet
                                    case rel => exact ⟨_, (!(rdOf false l1 ((rd_T37 l0 x10_3).f1))), (by first | rfl | (simp; done) | (simp [*]; done)), H', ⟨by have := HK1.out; have := HK2.out; have := HK3.out; first | omega | exact Nat.le_refl _⟩, ⟨by (try simp only [hl7_2]); (try simp only [hl7_3]); (with_reducible repeat (first | apply Kd.R_alloc | apply Kd.R_drewN | apply Kd.R_drew)); exact HO_7.out⟩, ⟨by repeat (first | (with_reducible first | exact HB.out | apply below_alloc | apply pw_below_drewN | apply below_drew1) | exact HB.out)⟩⟩
                                  · rw [if_neg c22] at H
                                    exact absurd H (by simp)
                                · rw [if_neg c21] at H
                                  exact absurd H (by simp)
                              · replace c20 := Bool.eq_false_iff.mpr c20
                                subst c20
                                have H1 : (spec_l25Out.j3 k3 l0 l1 a2 x7_3 x9_3 x10_3 ((rd_T37 l0 x10_3).f0) ((rd_T37 l0 x10_3).f1) true) = some r := by rw [if_neg (show ¬ (false = true) by decide)] at H; exact H
                                clear H
                                have H := H1
                                clear H1
                                have H' := Aside0.mk H
                                clear H
                                have p115 : 0 ≤ (((rd_T37 l0 x10_3).f0) : Int) := of_decide_eq_true (by first | (with_reducible assumption) | assumption)
                                have q115 : ((rd_T37 l0 x10_3).f0) < (l1.length : Int) := of_decide_eq_true (by first | (with_reducible assumption) | assumption)
                                obtain ⟨ad115, e115, hx115_0⟩ := Kd.at_bool HR1.out ((rd_T37 l0 x10_3).f0) p115 q115
                                (try rw [← Nbq19.out] at hx115_0)
                                cases e115
                                replace hx115_0 := (HB.out.cell (World.block_lt_of_cell? w _ hx115_0)).trans hx115_0
                                replace p115 := eq_true p115
                                replace q115 := eq_true q115
                                go_wp2
                                repeat (go_quiet (fail); try go_wp2)
                                go_meet
                                case rel => exact ⟨_, (true), (by first | rfl | (simp; done) | (simp [*]; done)), H', ⟨by have := HK1.out; have := HK2.out; have := HK3.out; first | omega | exact Nat.le_refl _⟩, ⟨by (try simp only [hl7_2]); (try simp only [hl7_3]); (with_reducible repeat (first | apply Kd.R_alloc | apply Kd.R_drewN | apply Kd.R_drew)); exact HO_7.out⟩, ⟨by repeat (first | (with_reducible first | exact HB.out | apply below_alloc | apply pw_below_drewN | apply below_drew1) | exact HB.out)⟩⟩
                            · rw [if_neg c18] at H
                              exact absurd H (by simp)
                          · rw [if_neg c17] at H
                            exact absurd H (by simp)
                        case rest =>
                          clear HC16
                          try clear c1
                          try clear p1
                          try clear q1
                          try clear hx1
                          try clear qi1
                          try clear c2
                          try clear p2
                          try clear c6
                          try clear c6b0
                          try clear p6
                          try clear c7
                          try clear c8
                          try clear c9
                          try clear c9b0
                          try clear c9b1
                          try clear p10
                          try clear q10
                          try clear hx10
                          try clear qi10
                          try clear hf10
                          try clear p11
                          try clear q11
                          try clear hx11
                          try clear c13
                          try clear c14
                          try clear c14b0
                          try clear c15
                          try clear c15b0
                          try clear c17
                          try clear c17b0
                          try clear c18
                          try clear c18b0
                          try clear q19
                          try clear c20
                          try clear c21
                          try clear c21b0
                          try clear c22
                          try clear c22b0
                          try clear hx10_0
                          try clear hx113_0
                          try clear hx113_1
                          try clear hx113_2
                          try clear hx113_3
                          try clear hx113_4
                          try clear hx114_0
                          try clear hx114_1
                          try clear hx114_2
                          try clear hx114_3
                          try clear hx114_4
                          try clear hx115_0
                          try clear hx116_0
                          try clear p1
                          try clear p10
                          try clear p113
                          try clear p114
                          try clear p115
                          try clear p116
                          try clear p2
                          try clear p6
                          try clear q1
                          try clear q10
                          try clear q113
                          try clear q114
                          try clear q115
                          try clear q116
                          obtain ⟨kq, x53_15, rfl, HA, HJ15, HO_7, HB⟩ := hcut
                          cases kq with
                          | zero => exact absurd HA.out (by simp [spec_l25Out.j3])
                          | succ kj15 =>
                            have H := HA.out
                            clear HA
                            simp only [spec_l25Out.j3] at H
                            by_cases c23 : x53_15 = true
                            · subst c23
                              have H1 : (spec_l25Out.l2 kj15 l0 l1 a2 x7_3 x9_3 (wrap64 (x10_3 + 1))) = some r := by rw [if_pos rfl] at H; exact H
                              clear H
                              have H := H1
                              clear H1
                              have H' := Aside0.mk H
                              clear H
                              go_wp2
                              repeat (go_quiet (fail); try go_wp2)
                              (try simp only [← hl7_3])
                              go_roundg kj15
                              case measure => have := HK1.out; have := HK2.out; have := HK3.out; have := HJ15.out; omega
                              case rel => exact ⟨(x7_3), (x9_3), (wrap64 (x10_3 + 1)), (by first | rfl | (simp; done) | (simp [*]; done)), (by first | rfl | (simp; done) | (simp [*]; done)), H', ⟨by have := HK1.out; have := HK2.out; have := HK3.out; have := HJ15.out; omega⟩, ⟨by (try simp only [hl7_2]); (try simp only [hl7_3]); (with_reducible repeat (first | apply Kd.R_alloc | apply Kd.R_drewN | apply Kd.R_drew)); exact HO_7.out⟩, ⟨by repeat (first | (with_reducible first | exact HB.out | apply below_alloc | apply pw_below_drewN | apply below_drew1) | exact HB.out)⟩⟩
                            · replace c23 := Bool.eq_false_iff.mpr c23
                              subst c23
                              have H1 : (if 0 ≤ ((rd_T37 l0 x10_3).f0) then (if ((rd_T37 l0 x10_3).f0) < (x7_3.length : Int) then (if 0 ≤ x10_3 then (if x10_3 < (l0.length : Int) then (if (rd x7_3 ((rd_T37 l0 x10_3).f0)) ≥ 0 then (if 0 ≤ ((rd_T37 l0 x10_3).f1) then (if ((rd_T37 l0 x10_3).f1) < (x7_3.length : Int) then (if (rd x7_3 ((rd_T37 l0 x10_3).f1)) < 0 then (spec_l25Out.j4 kj15 l0 l1 a2 x7_3 x9_3 x10_3 ((rd_T37 l0 x10_3).f0) ((rd_T37 l0 x10_3).f1) (wrap64 ((rd x7_3 ((rd_T37 l0 x10_3).f0)) + ((rd_T37 l0 x10_3).f2))) true) else (spec_l25Out.j4 kj15 l0 l1 a2 x7_3 x9_3 x10_3 ((rd_T37 l0 x10_3).f0) ((rd_T37 l0 x10_3).f1) (wrap64 ((rd x7_3 ((rd_T37 l0 x10_3).f0)) + ((rd_T37 l0 x10_3).f2))) (decide ((wrap64 ((rd x7_3 ((rd_T37 l0 x10_3).f0)) + ((rd_T37 l0 x10_3).f2))) < (rd x7_3 ((rd_T37 l0 x10_3).f1)))))) else (none)) else (none)) else (spec_l25Out.j4 kj15 l0 l1 a2 x7_3 x9_3 x10_3 ((rd_T37 l0 x10_3).f0) ((rd_T37 l0 x10_3).f1) (wrap64 ((rd x7_3 ((rd_T37 l0 x10_3).f0)) + ((rd_T37 l0 x10_3).f2))) false)) else (none)) else (none)) else (none)) else (none)) = some r := by rw [if_neg (show ¬ (false = true) by decide)] at H; exact H
                              clear H
                              have H := H1
                              clear H1
                              by_cases c24 : 0 ≤ ((rd_T37 l0 x10_3).f0)
                              · rw [if_pos c24] at H
                                have c24b0 : decide (0 ≤ ((rd_T37 l0 x10_3).f0)) = true := decide_eq_true c24
                                clear c24
                                by_cases c25 : ((rd_T37 l0 x10_3).f0) < (x7_3.length : Int)
                                · rw [if_pos c25] at H
                                  have c25b0 : decide (((rd_T37 l0 x10_3).f0) < (x7_3.length : Int)) = true := decide_eq_true c25
                                  clear c25
                                  by_cases c26 : 0 ≤ x10_3
                                  · rw [if_pos c26] at H
                                    have c26b0 : decide (0 ≤ x10_3) = true := decide_eq_true c26
                                    clear c26
                                    by_cases c27 : x10_3 < (l0.length : Int)
                                    · rw [if_pos c27] at H
                                      have c27b0 : decide (x10_3 < (l0.length : Int)) = true := decide_eq_true c27
                                      clear c27
                                      have HC28 := Aside0.mk H
                                      clear H
                                      have p117 : 0 ≤ (((rd_T37 l0 x10_3).f0) : Int) := of_decide_eq_true (by first | (with_reducible assumption) | assumption)
                                      have q117 : ((rd_T37 l0 x10_3).f0) < (x7_3.length : Int) := of_decide_eq_true (by first | (with_reducible assumption) | assumption)
                                      obtain ⟨ad117, e117, hx117_0⟩ := Kd.at_int (Kd.R_reads' HO_7.out).2.2 ((rd_T37 l0 x10_3).f0) p117 q117
                                      obtain rfl : (⟨go10, 0, none⟩ : Addr) = ad117 := (by injection e117)
                                      (first | simp only [add_plain] at hx117_0 | simp only [add_at] at hx117_0 | simp only [Addr.add, Nat.zero_add] at hx117_0 | skip)
                                      replace p117 := eq_true p117
                                      replace q117 := eq_true q117
                                      have p118 : 0 ≤ (x10_3 : Int) := of_decide_eq_true (by first | (with_reducible assumption) | assumption)
                                      have q118 : x10_3 < (l0.length : Int) := of_decide_eq_true (by first | (with_reducible assumption) | assumption)
                                      obtain ⟨ad118, e118, hx118_0, hx118_1, hx118_2, hx118_3, hx118_4⟩ := at_T37 HR0.out x10_3 p118 q118
                                      obtain rfl : ad113 = ad118 := (by injection e118)
                                      replace hx118_0 := (HB.out.cell (World.block_lt_of_cell? w _ hx118_0)).trans hx118_0
                                      replace hx118_1 := (HB.out.cell (World.block_lt_of_cell? w _ hx118_1)).trans hx118_1
                                      replace hx118_2 := (HB.out.cell (World.block_lt_of_cell? w _ hx118_2)).trans hx118_2
                                      replace hx118_3 := (HB.out.cell (World.block_lt_of_cell? w _ hx118_3)).trans hx118_3
                                      replace hx118_4 := (HB.out.cell (World.block_lt_of_cell? w _ hx118_4)).trans hx118_4
                                      replace p118 := eq_true p118
                                      replace q118 := eq_true q118
                                      go_upto_region 16 with (fail)
                                      repeat (go_quiet (fail); go_upto_region 16 with (fail))
                                      go_cut [83] (fun v83 wc => ∃ (kq : Nat) (x83_27 : Bool), v83 = .bool x83_27 ∧ Aside0 (spec_l25Out.j4 kq l0 l1 a2 x7_3 x9_3 x10_3 ((rd_T37 l0 x10_3).f0) ((rd_T37 l0 x10_3).f1) (wrap64 ((rd x7_3 ((rd_T37 l0 x10_3).f0)) + ((rd_T37 l0 x10_3).f2))) x83_27 = some r) ∧ Aside0 (kq ≤ kj15) ∧ Aside0 (Kd.R (Kd.int .i64) 3 wc w.heap.size (fun _ => True) (.slice (some ⟨go10, 0, none⟩) x7_3.length co10) x7_3) ∧ Aside0 (Below w.heap.size w wc))
                                      case first =>
                                        have H := HC28.out
                                        clear HC28
                                        by_cases c29 : (rd x7_3 ((rd_T37 l0 x10_3).f0)) ≥ 0
                                        · rw [if_pos c29] at H
                                          have c29b0 : decide (0 ≤ (rd x7_3 ((rd_T37 l0 x10_3).f0))) = true := decide_eq_true c29
                                          clear c29
                                          (first | rw [c29b0] | (simp only [i64_w, i32_w]; rw [c29b0]) | skip)
                                          by_cases c30 : 0 ≤ ((rd_T37 l0 x10_3).f1)
                                          · rw [if_pos c30] at H
                                            have c30b0 : decide (0 ≤ ((rd_T37 l0 x10_3).f1)) = true := decide_eq_true c30
                                            clear c30
                                            by_cases c31 : ((rd_T37 l0 x10_3).f1) < (x7_3.length : Int)
                                            · rw [if_pos c31] at H
                                              have c31b0 : decide (((rd_T37 l0 x10_3).f1) < (x7_3.length : Int)) = true := decide_eq_true c31
                                              clear c31
                                              by_cases c32 : (rd x7_3 ((rd_T37 l0 x10_3).f1)) < 0
                                              · rw [if_pos c32] at H
                                                have c32b0 : decide ((rd x7_3 ((rd_T37 l0 x10_3).f1)) < 0) = true := decide_eq_true c32
                                                clear c32
                                                have H' := Aside0.mk H
                                                clear H
                                                have p119 : 0 ≤ (((rd_T37 l0 x10_3).f0) : Int) := of_decide_eq_true (by first | (with_reducible assumption) | assumption)
                                                have q119 : ((rd_T37 l0 x10_3).f0) < (x7_3.length : Int) := of_decide_eq_true (by first | (with_reducible assumption) | assumption)
                                                obtain ⟨ad119, e119, hx119_0⟩ := Kd.at_int (Kd.R_reads' HO_7.out).2.2 ((rd_T37 l0 x10_3).f0) p119 q119
                                                obtain rfl : (⟨go10, 0, none⟩ : Addr) = ad119 := (by injection e119)
                                                (first | simp only [add_plain] at hx119_0 | simp only [add_at] at hx119_0 | simp only [Addr.add, Nat.zero_add] at hx119_0 | skip)
                                                replace p119 := eq_true p119
                                                replace q119 := eq_true q119
                                                have p120 : 0 ≤ (((rd_T37 l0 x10_3).f1) : Int) := of_decide_eq_true (by first | (with_reducible assumption) | assumption)
                                                have q120 : ((rd_T37 l0 x10_3).f1) < (x7_3.length : Int) := of_decide_eq_true (by first | (with_reducible assumption) | assumption)
                                                obtain ⟨ad120, e120, hx120_0⟩ := Kd.at_int (Kd.R_reads' HO_7.out).2.2 ((rd_T37 l0 x10_3).f1) p120 q120
                                                obtain rfl : (⟨go10, 0, none⟩ : Addr) = ad120 := (by injection e120)
                                                (first | simp only [add_plain] at hx120_0 | simp only [add_at] at hx120_0 | simp only [Addr.add, Nat.zero_add] at hx120_0 | skip)
                                                replace p120 := eq_true p120
                                                replace q120 := eq_true q120
                                                go_wp2
                                                repeat (go_quiet (fail); try go_wp2)
                                                go_meet
                                                case rel => exact ⟨_, (true), (by first | rfl | (simp; done) | (simp [*]; done)), H', ⟨by have := HK1.out; have := HK2.out; have := HK3.out; have := HJ15.out; first | omega | exact Nat.le_refl _⟩, ⟨by (try simp only [hl7_2]); (try simp only [hl7_3]); (with_reducible repeat (first | apply Kd.R_alloc | apply Kd.R_drewN | apply Kd.R_drew)); exact HO_7.out⟩, ⟨by repeat (first | (with_reducible first | exact HB.out | apply below_alloc | apply pw_below_drewN | apply below_drew1) | exact HB.out)⟩⟩
                                              · rw [if_neg c32] at H
                                                have c32b0 : decide ((rd x7_3 ((rd_T37 l0 x10_3).f1)) < 0) = false := decide_eq_false c32
                                                clear c32
                                                have H' := Aside0.mk H
                                                clear H
                                                have p119 : 0 ≤ (((rd_T37 l0 x10_3).f0) : Int) := of_decide_eq_true (by first | (with_reducible assumption) | assumption)
                                                have q119 : ((rd_T37 l0 x10_3).f0) < (x7_3.length : Int) := of_decide_eq_true (by first | (with_reducible assumption) | assumption)
                                                obtain ⟨ad119, e119, hx119_0⟩ := Kd.at_int (Kd.R_reads' HO_7.out).2.2 ((rd_T37 l0 x10_3).f0) p119 q119
                                                obtain rfl : (⟨go10, 0, none⟩ : Addr) = ad119 := (by injection e119)
                                                (first | simp only [add_plain] at hx119_0 | simp only [add_at] at hx119_0 | simp only [Addr.add, Nat.zero_add] at hx119_0 | skip)
                                                replace p119 := eq_true p119
                                                replace q119 := eq_true q119
                                                have p120 : 0 ≤ (((rd_T37 l0 x10_3).f1) : Int) := of_decide_eq_true (by first | (with_reducible assumption) | assumption)
                                                have q120 : ((rd_T37 l0 x10_3).f1) < (x7_3.length : Int) := of_decide_eq_true (by first | (with_reducible assumption) | assumption)
                                                obtain ⟨ad120, e120, hx120_0⟩ := Kd.at_int (Kd.R_reads' HO_7.out).2.2 ((rd_T37 l0 x10_3).f1) p120 q120
                                                obtain rfl : (⟨go10, 0, none⟩ : Addr) = ad120 := (by injection e120)
                                                (first | simp only [add_plain] at hx120_0 | simp only [add_at] at hx120_0 | simp only [Addr.add, Nat.zero_add] at hx120_0 | skip)
                                                replace p120 := eq_true p120
                                                replace q120 := eq_true q120
                                                have p121 : 0 ≤ (((rd_T37 l0 x10_3).f1) : Int) := of_decide_eq_true (by first | (with_reducible assumption) | assumption)
                                                have q121 : ((rd_T37 l0 x10_3).f1) < (x7_3.length : Int) := of_decide_eq_true (by first | (with_reducible assumption) | assumption)
                                                obtain ⟨ad121, e121, hx121_0⟩ := Kd.at_int (Kd.R_reads' HO_7.out).2.2 ((rd_T37 l0 x10_3).f1) p121 q121
                                                obtain rfl : (⟨go10, 0, none⟩ : Addr) = ad121 := (by injection e121)
                                                (first | simp only [add_plain] at hx121_0 | simp only [add_at] at hx121_0 | simp only [Addr.add, Nat.zero_add] at hx121_0 | skip)
                                                replace p121 := eq_true p121
                                                replace q121 := eq_true q121
                                                go_wp2
                                                repeat (go_quiet (fail); try go_wp2)
                                                go_meet
                                                case rel => exact ⟨_, (decide ((wrap64 ((rd x7_3 ((rd_T37 l0 x10_3).f0)) + ((rd_T37 l0 x10_3).f2))) < (rd x7_3 ((rd_T37 l0 x10_3).f1)))), (by first | rfl | (simp; done) | (simp [*]; done)), H', ⟨by have := HK1.out; have := HK2.out; have := HK3.out; have := HJ15.out; first | omega | exact Nat.le_refl _⟩, ⟨by (try simp only [hl7_2]); (try simp only [hl7_3]); (with_reducible repeat (first | apply Kd.R_alloc | apply Kd.R_drewN | apply Kd.R_drew)); exact HO_7.out⟩, ⟨by repeat (first | (with_reducible first | exact HB.out | apply below_alloc | apply pw_below_drewN | apply below_drew1) | exact HB.out)⟩⟩
                                            · rw [if_neg c31] at H
                                              exact absurd H (by simp)
                                          · rw [if_neg c30] at H
                                            exact absurd H (by simp)
                                        · rw [if_neg c29] at H
                                          have c29b0 : decide (0 ≤ (rd x7_3 ((rd_T37 l0 x10_3).f0))) = false := decide_eq_false c29
                                          clear c29
                                          (first | rw [c29b0] | (simp only [i64_w, i32_w]; rw [c29b0]) | skip)
                                          have H' := Aside0.mk H
                                          clear H
                                          have p119 : 0 ≤ (((rd_T37 l0 x10_3).f0) : Int) := of_decide_eq_true (by first | (with_reducible assumption) | assumption)
                                          have q119 : ((rd_T37 l0 x10_3).f0) < (x7_3.length : Int) := of_decide_eq_true (by first | (with_reducible assumption) | assumption)
                                          obtain ⟨ad119, e119, hx119_0⟩ := Kd.at_int (Kd.R_reads' HO_7.out).2.2 ((rd_T37 l0 x10_3).f0) p119 q119
                                          obtain rfl : (⟨go10, 0, none⟩ : Addr) = ad119 := (by injection e119)
                                          (first | simp only [add_plain] at hx119_0 | simp only [add_at] at hx119_0 | simp only [Addr.add, Nat.zero_add] at hx119_0 | skip)
                                          replace p119 := eq_true p119
                                          replace q119 := eq_true q119
                                          go_wp2
                                          repeat (go_quiet (fail); try go_wp2)
                                          go_meet
                                          case rel => exact ⟨_, (false), (by first | rfl | (simp; done) | (simp [*]; done)), H', ⟨by have := HK1.out; have := HK2.out; have := HK3.out; have := HJ15.out; first | omega | exact Nat.le_refl _⟩, ⟨by (try simp only [hl7_2]); (try simp only [hl7_3]); (with_reducible repeat (first | apply Kd.R_alloc | apply Kd.R_drewN | apply Kd.R_drew)); exact HO_7.out⟩, ⟨by repeat (first | (with_reducible first | exact HB.out | apply below_alloc | apply pw_below_drewN | apply below_drew1) | exact HB.out)⟩⟩
                                      case rest =>
                                        clear HC28
                                        try clear c1
                                        try clear p1
                                        try clear q1
                                        try clear hx1
                                        try clear qi1
                                        try clear c2
                                        try clear p2
                                        try clear c3
                                        try clear c6
                                        try clear c6b0
                                        try clear p6
                                        try clear c7
                                        try clear c8
                                        try clear c9
                                        try clear c9b0
                                        try clear c9b1
                                        try clear p10
                                        try clear q10
                                        try clear hx10
                                        try clear qi10
                                        try clear hf10
                                        try clear p11
                                        try clear q11
                                        try clear hx11
                                        try clear p12
                                        try clear q12
                                        try clear hx12
                                        try clear c13
                                        try clear c14
                                        try clear c14b0
                                        try clear c15
                                        try clear c15b0
                                        try clear c17
                                        try clear c17b0
                                        try clear c18
                                        try clear c18b0
                                        try clear q19
                                        try clear c20
                                        try clear c21
                                        try clear c21b0
                                        try clear c22
                                        try clear c22b0
                                        try clear c23
                                        try clear c24
                                        try clear c24b0
                                        try clear c25
                                        try clear c25b0
                                        try clear c26
                                        try clear c26b0
                                        try clear c27
                                        try clear c27b0
                                        try clear c29
                                        try clear c29b0
                                        try clear c30
                                        try clear c30b0
                                        try clear c31
                                        try clear c31b0
                                        try clear c32
                                        try clear c32b0
                                        try clear hx10_0
                                        try clear hx113_0
                                        try clear hx113_1
                                        try clear hx113_2
                                        try clear hx113_3
                                        try clear hx113_4
                                        try clear hx114_0
                                        try clear hx114_1
                                        try clear hx114_2
                                        try clear hx114_3
                                        try clear hx114_4
                                        try clear hx115_0
                                        try clear hx116_0
                                        try clear hx117_0
                                        try clear hx118_0
                                        try clear hx118_1
                                        try clear hx118_2
                                        try clear hx118_3
                                        try clear hx118_4
                                        try clear hx119_0
                                        try clear hx120_0
                                        try clear hx121_0
                                        try clear p1
                                        try clear p10
                                        try clear p11
                                        try clear p113
                                        try clear p114
                                        try clear p115
                                        try clear p116
                                        try clear p117
                                        try clear p118
                                        try clear p119
                                        try clear p120
                                        try clear p121
                                        try clear p2
                                        try clear p6
                                        try clear q1
                                        try clear q10
                                        try clear q11
                                        try clear q113
                                        try clear q114
                                        try clear q115
                                        try clear q116
                                        try clear q117
                                        try clear q118
                                        try clear q119
                                        try clear q120
                                        try clear q121
                                        try clear q19
                                        obtain ⟨kq, x83_27, rfl, HA, HJ27, HO_7, HB⟩ := hcut
                                        cases kq with
                                        | zero => exact absurd HA.out (by simp [spec_l25Out.j4])
                                        | succ kj27 =>
                                          have H := HA.out
                                          clear HA
                                          simp only [spec_l25Out.j4] at H
                                          by_cases c33 : x83_27 = true
                                          · subst c33
                                            have H1 : (if 0 ≤ ((rd_T37 l0 x10_3).f1) then (if ((rd_T37 l0 x10_3).f1) < (x7_3.length : Int) then ((some (x7_3.set (((rd_T37 l0 x10_3).f1) : Int).toNat (wrap64 ((rd x7_3 ((rd_T37 l0 x10_3).f0)) + ((rd_T37 l0 x10_3).f2))) : List Int)).bind fun y122 => (if 0 ≤ x10_3 then (if x10_3 < (l0.length : Int) then (if (rd y122 ((rd_T37 l0 x10_3).f1)) ≥ 0 then (if 0 ≤ ((rd_T37 l0 x10_3).f0) then (if ((rd_T37 l0 x10_3).f0) < (x7_3.length : Int) then (if (rd y122 ((rd_T37 l0 x10_3).f0)) < 0 then (spec_l25Out.l2 kj27 l0 l1 a2 (y122.set (((rd_T37 l0 x10_3).f0) : Int).toNat (wrap64 ((rd y122 ((rd_T37 l0 x10_3).f1)) + ((rd_T37 l0 x10_3).f2)))) true (wrap64 (x10_3 + 1))) else (if (wrap64 ((rd y122 ((rd_T37 l0 x10_3).f1)) + ((rd_T37 l0 x10_3).f2))) < (rd y122 ((rd_T37 l0 x10_3).f0)) then (spec_l25Out.l2 kj27 l0 l1 a2 (y122.set (((rd_T37 l0 x10_3).f0) : Int).toNat (wrap64 ((rd y122 ((rd_T37 l0 x10_3).f1)) + ((rd_T37 l0 x10_3).f2)))) true (wrap64 (x10_3 + 1))) else (spec_l25Out.l2 kj27 l0 l1 a2 y122 true (wrap64 (x10_3 + 1))))) else (none)) else (none)) else (spec_l25Out.l2 kj27 l0 l1 a2 y122 true (wrap64 (x10_3 + 1)))) else (none)) else (none))) else (none)) else (none)) = some r := by rw [if_pos rfl] at H; exact H
                                            clear H
                                            have H := H1
                                            clear H1
                                            by_cases c34 : 0 ≤ ((rd_T37 l0 x10_3).f1)
                                            · rw [if_pos c34] at H
                                              have c34b0 : decide (0 ≤ ((rd_T37 l0 x10_3).f1)) = true := decide_eq_true c34
                                              clear c34
                                              by_cases c35 : ((rd_T37 l0 x10_3).f1) < (x7_3.length : Int)
                                              · rw [if_pos c35] at H
                                                have c35b0 : decide (((rd_T37 l0 x10_3).f1) < (x7_3.length : Int)) = true := decide_eq_true c35
                                                clear c35
                                                obtain ⟨y122, hy122⟩ : ∃ y_ : List Int, y_ = (x7_3.set (((rd_T37 l0 x10_3).f1) : Int).toNat (wrap64 ((rd x7_3 ((rd_T37 l0 x10_3).f0)) + ((rd_T37 l0 x10_3).f2)))) := ⟨_, rfl⟩
                                                replace H : (if 0 ≤ x10_3 then (if x10_3 < (l0.length : Int) then (if (rd y122 ((rd_T37 l0 x10_3).f1)) ≥ 0 then (if 0 ≤ ((rd_T37 l0 x10_3).f0) then (if ((rd_T37 l0 x10_3).f0) < (x7_3.length : Int) then (if (rd y122 ((rd_T37 l0 x10_3).f0)) < 0 then (spec_l25Out.l2 kj27 l0 l1 a2 (y122.set (((rd_T37 l0 x10_3).f0) : Int).toNat (wrap64 ((rd y122 ((rd_T37 l0 x10_3).f1)) + ((rd_T37 l0 x10_3).f2)))) true (wrap64 (x10_3 + 1))) else (if (wrap64 ((rd y122 ((rd_T37 l0 x10_3).f1)) + ((rd_T37 l0 x10_3).f2))) < (rd y122 ((rd_T37 l0 x10_3).f0)) then (spec_l25Out.l2 kj27 l0 l1 a2 (y122.set (((rd_T37 l0 x10_3).f0) : Int).toNat (wrap64 ((rd y122 ((rd_T37 l0 x10_3).f1)) + ((rd_T37 l0 x10_3).f2)))) true (wrap64 (x10_3 + 1))) else (spec_l25Out.l2 kj27 l0 l1 a2 y122 true (wrap64 (x10_3 + 1))))) else (none)) else (none)) else (spec_l25Out.l2 kj27 l0 l1 a2 y122 true (wrap64 (x10_3 + 1)))) else (none)) else (none)) = some r := by first | (rw [hy122]; with_reducible exact H) | (have H2_ := (Option.bind_some _ _).symm.trans H; rw [hy122]; with_reducible exact H2_) | (have H2_ := (Option.bind_some _ _).symm.trans H; with_reducible exact H2_) | with_reducible exact H | (rw [hy122]; exact H) | exact H
                                                have Ny122 := Aside0.mk hy122
                                                clear hy122
                                                by_cases c37 : 0 ≤ x10_3
                                                · rw [if_pos c37] at H
                                                  have c37b0 : decide (0 ≤ x10_3) = true := decide_eq_true c37
                                                  clear c37
                                                  by_cases c38 : x10_3 < (l0.length : Int)
                                                  · rw [if_pos c38] at H
                                                    have c38b0 : decide (x10_3 < (l0.length : Int)) = true := decide_eq_true c38
                                                    clear c38
                                                    by_cases c39 : (rd y122 ((rd_T37 l0 x10_3).f1)) ≥ 0
                                                    · rw [if_pos c39] at H
                                                      have c39b0 : decide (0 ≤ (rd y122 ((rd_T37 l0 x10_3).f1))) = true := decide_eq_true c39
                                                      clear c39
                                                      by_cases c40 : 0 ≤ ((rd_T37 l0 x10_3).f0)
                                                      · rw [if_pos c40] at H
                                                        have c40b0 : decide (0 ≤ ((rd_T37 l0 x10_3).f0)) = true := decide_eq_true c40
                                                        clear c40
                                                        by_cases c41 : ((rd_T37 l0 x10_3).f0) < (x7_3.length : Int)
                                                        · rw [if_pos c41] at H
                                                          have c41b0 : decide (((rd_T37 l0 x10_3).f0) < (x7_3.length : Int)) = true := decide_eq_true c41
                                                          clear c41
                                                          by_cases c42 : (rd y122 ((rd_T37 l0 x10_3).f0)) < 0
                                                          · rw [if_pos c42] at H
                                                            have c42b0 : decide ((rd y122 ((rd_T37 l0 x10_3).f0)) < 0) = true := decide_eq_true c42
                                                            clear c42
                                                            obtain ⟨y127, hy127⟩ : ∃ y_ : List Int, y_ = (y122.set (((rd_T37 l0 x10_3).f0) : Int).toNat (wrap64 ((rd y122 ((rd_T37 l0 x10_3).f1)) + ((rd_T37 l0 x10_3).f2)))) := ⟨_, rfl⟩
                                                            replace H : (spec_l25Out.l2 kj27 l0 l1 a2 y127 true (wrap64 (x10_3 + 1))) = some r := by first | (rw [hy127]; with_reducible exact H) | (have H2_ := (Option.bind_some _ _).symm.trans H; rw [hy127]; with_reducible exact H2_) | (have H2_ := (Option.bind_some _ _).symm.trans H; with_reducible exact H2_) | with_reducible exact H | (rw [hy127]; exact H) | exact H
                                                            have Ny127 := Aside0.mk hy127
                                                            clear hy127
                                                            have H' := Aside0.mk H
                                                            clear H
                                                            have p36 : 0 ≤ (((rd_T37 l0 x10_3).f1) : Int) := of_decide_eq_true (by first | (with_reducible assumption) | assumption)
                                                            have q36 : (((rd_T37 l0 x10_3).f1) : Int) < ((x7_3.length : Int) : Int) := of_decide_eq_true (by first | (with_reducible assumption) | assumption)
                                                            obtain ⟨hx36_0, hf36_0⟩ := Kd.R_celln 0 HO_7.out (((rd_T37 l0 x10_3).f1) : Int) p36 q36
                                                            replace p36 := eq_true p36
                                                            replace q36 := eq_true q36
                                                            have HP44 := Kd.R_putg HO_7.out (((rd_T37 l0 x10_3).f1) : Int) (wrap64 ((rd x7_3 ((rd_T37 l0 x10_3).f0)) + ((rd_T37 l0 x10_3).f2)))
                                                            go_wp2_with (first | ((with_reducible refine gate_store (t := 3) (p := 87) rfl ?_); (try (rw [drewN_self wc]; generalize hq_ : World.drewN wc _ = wc; have n0_ := Aside0.mk (Kd.R_at hq_ HO_7.out); have n1_ := Aside0.mk (below_at hq_ HB.out); clear hq_ HO_7 HB; have HO_7 := n0_; have HB := n1_; clear n0_ n1_; (try (have HP44 := Kd.R_putg HO_7.out (((rd_T37 l0 x10_3).f1) : Int) (wrap64 ((rd x7_3 ((rd_T37 l0 x10_3).f0)) + ((rd_T37 l0 x10_3).f2))))))); refine store_event (t := 3) (p := 87) (v := ?vo_w45) (w1 := (wc.setCell ⟨go10, (((rd_T37 l0 x10_3).f1) : Int).toNat, none⟩ (.int .i64 (wrap64 ((rd x7_3 ((rd_T37 l0 x10_3).f0)) + ((rd_T37 l0 x10_3).f2)))))) ?hg ?ho ?hn ?hr ?_; (case ho => rfl); (case hg => rfl); (case hn => rfl); (case hr => first | (go_simp; done) | (go_simp; rfl)); intro w45 hw; have hg : wc.grownBy w45 (some go10) := (by rw [hw]; exact HP44.2); have hp_ : Kd.R (Kd.int .i64) 3 w45 w.heap.size (fun _ => True) (.slice (some ⟨go10, 0, none⟩) x7_3.length co10) y122 := (by rw [hw, Ny122.out]; exact HP44.1); clear HP44; have n0_ := Aside0.mk (hp_); have n1_ := Aside0.mk ((by rw [hw]; exact below_set (HB.out) GB10.out : Below w.heap.size w w45)); clear HO_7; clear HB; have HO_7 := n0_; have HB := n1_; clear n0_ n1_; clear hg hw hp_; have p123 : 0 ≤ (((rd_T37 l0 x10_3).f1) : Int) := of_decide_eq_true (by first | (with_reducible assumption) | assumption); have q123 : ((rd_T37 l0 x10_3).f1) < (y122.length : Int) := (by have h_ : (((rd_T37 l0 x10_3).f1) : Int) < ((x7_3.length : Int) : Int) := of_decide_eq_true (by first | (with_reducible assumption) | assumption); first | (have e_ := (Kd.R_reads' HO_7.out).1; omega) | simpa only [Ny122.out, List.length_set] using h_); have ql123 : ((((rd_T37 l0 x10_3).f1) : Int) < ((x7_3.length : Int) : Int)) = True := eq_true (of_decide_eq_true (by first | (with_reducible assumption) | assumption)); obtain ⟨ad123, e123, hx123_0⟩ := Kd.at_int (Kd.R_reads' HO_7.out).2.2 ((rd_T37 l0 x10_3).f1) p123 q123; obtain rfl : (⟨go10, 0, none⟩ : Addr) = ad123 := (by injection e123); (first | simp only [add_plain] at hx123_0 | simp only [add_at] at hx123_0 | simp only [Addr.add, Nat.zero_add] at hx123_0 | skip); replace p123 := eq_true p123; replace q123 := eq_true q123; have p124 : 0 ≤ (x10_3 : Int) := of_decide_eq_true (by first | (with_reducible assumption) | assumption); have q124 : x10_3 < (l0.length : Int) := of_decide_eq_true (by first | (with_reducible assumption) | assumption); obtain ⟨ad124, e124, hx124_0, hx124_1, hx124_2, hx124_3, hx124_4⟩ := at_T37 HR0.out x10_3 p124 q124; obtain rfl : ad113 = ad124 := (by injection e124); replace hx124_0 := (HB.out.cell (World.block_lt_of_cell? w _ hx124_0)).trans hx124_0; replace hx124_1 := (HB.out.cell (World.block_lt_of_cell? w _ hx124_1)).trans hx124_1; replace hx124_2 := (HB.out.cell (World.block_lt_of_cell? w _ hx124_2)).trans hx124_2; replace hx124_3 := (HB.out.cell (World.block_lt_of_cell? w _ hx124_3)).trans hx124_3; replace hx124_4 := (HB.out.cell (World.block_lt_of_cell? w _ hx124_4)).trans hx124_4; replace p124 := eq_true p124; replace q124 := eq_true q124; have p125 : 0 ≤ (((rd_T37 l0 x10_3).f1) : Int) := of_decide_eq_true (by first | (with_reducible assumption) | assumption); have q125 : ((rd_T37 l0 x10_3).f1) < (y122.length : Int) := (by have h_ : (((rd_T37 l0 x10_3).f1) : Int) < ((x7_3.length : Int) : Int) := of_decide_eq_true (by first | (with_reducible assumption) | assumption); first | (have e_ := (Kd.R_reads' HO_7.out).1; omega) | simpa only [Ny122.out, List.length_set] using h_); have ql125 : ((((rd_T37 l0 x10_3).f1) : Int) < ((x7_3.length : Int) : Int)) = True := eq_true (of_decide_eq_true (by first | (with_reducible assumption) | assumption)); obtain ⟨ad125, e125, hx125_0⟩ := Kd.at_int (Kd.R_reads' HO_7.out).2.2 ((rd_T37 l0 x10_3).f1) p125 q125; obtain rfl : (⟨go10, 0, none⟩ : Addr) = ad125 := (by injection e125); (first | simp only [add_plain] at hx125_0 | simp only [add_at] at hx125_0 | simp only [Addr.add, Nat.zero_add] at hx125_0 | skip); replace p125 := eq_true p125; replace q125 := eq_true q125; have p126 : 0 ≤ (((rd_T37 l0 x10_3).f0) : Int) := of_decide_eq_true (by first | (with_reducible assumption) | assumption); have q126 : ((rd_T37 l0 x10_3).f0) < (y122.length : Int) := (by have h_ : (((rd_T37 l0 x10_3).f0) : Int) < ((x7_3.length : Int) : Int) := of_decide_eq_true (by first | (with_reducible assumption) | assumption); first | (have e_ := (Kd.R_reads' HO_7.out).1; omega) | simpa only [Ny122.out, List.length_set] using h_); have ql126 : ((((rd_T37 l0 x10_3).f0) : Int) < ((x7_3.length : Int) : Int)) = True := eq_true (of_decide_eq_true (by first | (with_reducible assumption) | assumption)); obtain ⟨ad126, e126, hx126_0⟩ := Kd.at_int (Kd.R_reads' HO_7.out).2.2 ((rd_T37 l0 x10_3).f0) p126 q126; obtain rfl : (⟨go10, 0, none⟩ : Addr) = ad126 := (by injection e126); (first | simp only [add_plain] at hx126_0 | simp only [add_at] at hx126_0 | simp only [Addr.add, Nat.zero_add] at hx126_0 | skip); replace p126 := eq_true p126; replace q126 := eq_true q126; have p43 : 0 ≤ (((rd_T37 l0 x10_3).f0) : Int) := of_decide_eq_true (by first | (with_reducible assumption) | assumption); have q43 : (((rd_T37 l0 x10_3).f0) : Int) < ((x7_3.length : Int) : Int) := of_decide_eq_true (by first | (with_reducible assumption) | assumption); obtain ⟨hx43_0, hf43_0⟩ := Kd.R_celln 0 HO_7.out (((rd_T37 l0 x10_3).f0) : Int) p43 q43; replace p43 := eq_true p43; replace q43 := eq_true q43; obtain ⟨hy46_, hz46_⟩ := Kd.R_celln 0 HO_7.out (((rd_T37 l0 x10_3).f0) : Int) (of_decide_eq_true (by first | (with_reducible assumption) | assumption)) (of_decide_eq_true (by first | (with_reducible assumption) | assumption)); have HP46 := Kd.R_putg HO_7.out (((rd_T37 l0 x10_3).f0) : Int) (wrap64 ((rd y122 ((rd_T37 l0 x10_3).f1)) + ((rd_T37 l0 x10_3).f2)))) | ((with_reducible refine gate_store (t := 3) (p := 121) rfl ?_); (try (rw [drewN_self w45]; generalize hq_ : World.drewN w45 _ = w45; have n0_ := Aside0.mk (Kd.R_at hq_ HO_7.out); have n1_ := Aside0.mk (below_at hq_ HB.out); clear hq_ HO_7 HB; have HO_7 := n0_; have HB := n1_; clear n0_ n1_; (try (obtain ⟨hy46_, hz46_⟩ := Kd.R_celln 0 HO_7.out (((rd_T37 l0 x10_3).f0) : Int) (of_decide_eq_true (by first | (with_reducible assumption) | assumption)) (of_decide_eq_true (by first | (with_reducible assumption) | assumption)))); (try (have HP46 := Kd.R_putg HO_7.out (((rd_T37 l0 x10_3).f0) : Int) (wrap64 ((rd y122 ((rd_T37 l0 x10_3).f1)) + ((rd_T37 l0 x10_3).f2))))))); refine store_event (t := 3) (p := 121) (v := ?vo_w47) (w1 := (w45.setCell ⟨go10, (((rd_T37 l0 x10_3).f0) : Int).toNat, none⟩ (.int .i64 (wrap64 ((rd y122 ((rd_T37 l0 x10_3).f1)) + ((rd_T37 l0 x10_3).f2)))))) ?hg ?ho ?hn ?hr ?_; (case ho => rfl); (case hg => rfl); (case hn => rfl); (case hr => first | (go_simp; done) | (go_simp; rfl)); intro w47 hw; have hg : w45.grownBy w47 (some go10) := (by rw [hw]; exact HP46.2); have hp_ : Kd.R (Kd.int .i64) 3 w47 w.heap.size (fun _ => True) (.slice (some ⟨go10, 0, none⟩) x7_3.length co10) y127 := (by rw [hw, Ny127.out]; exact HP46.1); clear HP46; have n0_ := Aside0.mk (hp_); have n1_ := Aside0.mk ((by rw [hw]; exact below_set (HB.out) GB10.out : Below w.heap.size w w47)); clear HO_7; clear HB; have HO_7 := n0_; have HB := n1_; clear n0_ n1_; clear hg hw hp_))
                                                            repeat (go_quiet (first | ((with_reducible refine gate_store (t := 3) (p := 87) rfl ?_); (try (rw [drewN_self wc]; generalize hq_ : World.drewN wc _ = wc; have n0_ := Aside0.mk (Kd.R_at hq_ HO_7.out); have n1_ := Aside0.mk (below_at hq_ HB.out); clear hq_ HO_7 HB; have HO_7 := n0_; have HB := n1_; clear n0_ n1_; (try (have HP44 := Kd.R_putg HO_7.out (((rd_T37 l0 x10_3).f1) : Int) (wrap64 ((rd x7_3 ((rd_T37 l0 x10_3).f0)) + ((rd_T37 l0 x10_3).f2))))))); refine store_event (t := 3) (p := 87) (v := ?vo_w45) (w1 := (wc.setCell ⟨go10, (((rd_T37 l0 x10_3).f1) : Int).toNat, none⟩ (.int .i64 (wrap64 ((rd x7_3 ((rd_T37 l0 x10_3).f0)) + ((rd_T37 l0 x10_3).f2)))))) ?hg ?ho ?hn ?hr ?_; (case ho => rfl); (case hg => rfl); (case hn => rfl); (case hr => first | (go_simp; done) | (go_simp; rfl)); intro w45 hw; have hg : wc.grownBy w45 (some go10) := (by rw [hw]; exact HP44.2); have hp_ : Kd.R (Kd.int .i64) 3 w45 w.heap.size (fun _ => True) (.slice (some ⟨go10, 0, none⟩) x7_3.length co10) y122 := (by rw [hw, Ny122.out]; exact HP44.1); clear HP44; have n0_ := Aside0.mk (hp_); have n1_ := Aside0.mk ((by rw [hw]; exact below_set (HB.out) GB10.out : Below w.heap.size w w45)); clear HO_7; clear HB; have HO_7 := n0_; have HB := n1_; clear n0_ n1_; clear hg hw hp_; have p123 : 0 ≤ (((rd_T37 l0 x10_3).f1) : Int) := of_decide_eq_true (by first | (with_reducible assumption) | assumption); have q123 : ((rd_T37 l0 x10_3).f1) < (y122.length : Int) := (by have h_ : (((rd_T37 l0 x10_3).f1) : Int) < ((x7_3.length : Int) : Int) := of_decide_eq_true (by first | (with_reducible assumption) | assumption); first | (have e_ := (Kd.R_reads' HO_7.out).1; omega) | simpa only [Ny122.out, List.length_set] using h_); have ql123 : ((((rd_T37 l0 x10_3).f1) : Int) < ((x7_3.length : Int) : Int)) = True := eq_true (of_decide_eq_true (by first | (with_reducible assumption) | assumption)); obtain ⟨ad123, e123, hx123_0⟩ := Kd.at_int (Kd.R_reads' HO_7.out).2.2 ((rd_T37 l0 x10_3).f1) p123 q123; obtain rfl : (⟨go10, 0, none⟩ : Addr) = ad123 := (by injection e123); (first | simp only [add_plain] at hx123_0 | simp only [add_at] at hx123_0 | simp only [Addr.add, Nat.zero_add] at hx123_0 | skip); replace p123 := eq_true p123; replace q123 := eq_true q123; have p124 : 0 ≤ (x10_3 : Int) := of_decide_eq_true (by first | (with_reducible assumption) | assumption); have q124 : x10_3 < (l0.length : Int) := of_decide_eq_true (by first | (with_reducible assumption) | assumption); obtain ⟨ad124, e124, hx124_0, hx124_1, hx124_2, hx124_3, hx124_4⟩ := at_T37 HR0.out x10_3 p124 q124; obtain rfl : ad113 = ad124 := (by injection e124); replace hx124_0 := (HB.out.cell (World.block_lt_of_cell? w _ hx124_0)).trans hx124_0; replace hx124_1 := (HB.out.cell (World.block_lt_of_cell? w _ hx124_1)).trans hx124_1; replace hx124_2 := (HB.out.cell (World.block_lt_of_cell? w _ hx124_2)).trans hx124_2; replace hx124_3 := (HB.out.cell (World.block_lt_of_cell? w _ hx124_3)).trans hx124_3; replace hx124_4 := (HB.out.cell (World.block_lt_of_cell? w _ hx124_4)).trans hx124_4; replace p124 := eq_true p124; replace q124 := eq_true q124; have p125 : 0 ≤ (((rd_T37 l0 x10_3).f1) : Int) := of_decide_eq_true (by first | (with_reducible assumption) | assumption); have q125 : ((rd_T37 l0 x10_3).f1) < (y122.length : Int) := (by have h_ : (((rd_T37 l0 x10_3).f1) : Int) < ((x7_3.length : Int) : Int) := of_decide_eq_true (by first | (with_reducible assumption) | assumption); first | (have e_ := (Kd.R_reads' HO_7.out).1; omega) | simpa only [Ny122.out, List.length_set] using h_); have ql125 : ((((rd_T37 l0 x10_3).f1) : Int) < ((x7_3.length : Int) : Int)) = True := eq_true (of_decide_eq_true (by first | (with_reducible assumption) | assumption)); obtain ⟨ad125, e125, hx125_0⟩ := Kd.at_int (Kd.R_reads' HO_7.out).2.2 ((rd_T37 l0 x10_3).f1) p125 q125; obtain rfl : (⟨go10, 0, none⟩ : Addr) = ad125 := (by injection e125); (first | simp only [add_plain] at hx125_0 | simp only [add_at] at hx125_0 | simp only [Addr.add, Nat.zero_add] at hx125_0 | skip); replace p125 := eq_true p125; replace q125 := eq_true q125; have p126 : 0 ≤ (((rd_T37 l0 x10_3).f0) : Int) := of_decide_eq_true (by first | (with_reducible assumption) | assumption); have q126 : ((rd_T37 l0 x10_3).f0) < (y122.length : Int) := (by have h_ : (((rd_T37 l0 x10_3).f0) : Int) < ((x7_3.length : Int) : Int) := of_decide_eq_true (by first | (with_reducible assumption) | assumption); first | (have e_ := (Kd.R_reads' HO_7.out).1; omega) | simpa only [Ny122.out, List.length_set] using h_); have ql126 : ((((rd_T37 l0 x10_3).f0) : Int) < ((x7_3.length : Int) : Int)) = True := eq_true (of_decide_eq_true (by first | (with_reducible assumption) | assumption)); obtain ⟨ad126, e126, hx126_0⟩ := Kd.at_int (Kd.R_reads' HO_7.out).2.2 ((rd_T37 l0 x10_3).f0) p126 q126; obtain rfl : (⟨go10, 0, none⟩ : Addr) = ad126 := (by injection e126); (first | simp only [add_plain] at hx126_0 | simp only [add_at] at hx126_0 | simp only [Addr.add, Nat.zero_add] at hx126_0 | skip); replace p126 := eq_true p126; replace q126 := eq_true q126; have p43 : 0 ≤ (((rd_T37 l0 x10_3).f0) : Int) := of_decide_eq_true (by first | (with_reducible assumption) | assumption); have q43 : (((rd_T37 l0 x10_3).f0) : Int) < ((x7_3.length : Int) : Int) := of_decide_eq_true (by first | (with_reducible assumption) | assumption); obtain ⟨hx43_0, hf43_0⟩ := Kd.R_celln 0 HO_7.out (((rd_T37 l0 x10_3).f0) : Int) p43 q43; replace p43 := eq_true p43; replace q43 := eq_true q43; obtain ⟨hy46_, hz46_⟩ := Kd.R_celln 0 HO_7.out (((rd_T37 l0 x10_3).f0) : Int) (of_decide_eq_true (by first | (with_reducible assumption) | assumption)) (of_decide_eq_true (by first | (with_reducible assumption) | assumption)); have HP46 := Kd.R_putg HO_7.out (((rd_T37 l0 x10_3).f0) : Int) (wrap64 ((rd y122 ((rd_T37 l0 x10_3).f1)) + ((rd_T37 l0 x10_3).f2)))) | ((with_reducible refine gate_store (t := 3) (p := 121) rfl ?_); (try (rw [drewN_self w45]; generalize hq_ : World.drewN w45 _ = w45; have n0_ := Aside0.mk (Kd.R_at hq_ HO_7.out); have n1_ := Aside0.mk (below_at hq_ HB.out); clear hq_ HO_7 HB; have HO_7 := n0_; have HB := n1_; clear n0_ n1_; (try (obtain ⟨hy46_, hz46_⟩ := Kd.R_celln 0 HO_7.out (((rd_T37 l0 x10_3).f0) : Int) (of_decide_eq_true (by first | (with_reducible assumption) | assumption)) (of_decide_eq_true (by first | (with_reducible assumption) | assumption)))); (try (have HP46 := Kd.R_putg HO_7.out (((rd_T37 l0 x10_3).f0) : Int) (wrap64 ((rd y122 ((rd_T37 l0 x10_3).f1)) + ((rd_T37 l0 x10_3).f2))))))); refine store_event (t := 3) (p := 121) (v := ?vo_w47) (w1 := (w45.setCell ⟨go10, (((rd_T37 l0 x10_3).f0) : Int).toNat, none⟩ (.int .i64 (wrap64 ((rd y122 ((rd_T37 l0 x10_3).f1)) + ((rd_T37 l0 x10_3).f2)))))) ?hg ?ho ?hn ?hr ?_; (case ho => rfl); (case hg => rfl); (case hn => rfl); (case hr => first | (go_simp; done) | (go_simp; rfl)); intro w47 hw; have hg : w45.grownBy w47 (some go10) := (by rw [hw]; exact HP46.2); have hp_ : Kd.R (Kd.int .i64) 3 w47 w.heap.size (fun _ => True) (.slice (some ⟨go10, 0, none⟩) x7_3.length co10) y127 := (by rw [hw, Ny127.out]; exact HP46.1); clear HP46; have n0_ := Aside0.mk (hp_); have n1_ := Aside0.mk ((by rw [hw]; exact below_set (HB.out) GB10.out : Below w.heap.size w w47)); clear HO_7; clear HB; have HO_7 := n0_; have HB := n1_; clear n0_ n1_; clear hg hw hp_)); try go_wp2_with (first | ((with_reducible refine gate_store (t := 3) (p := 87) rfl ?_); (try (rw [drewN_self wc]; generalize hq_ : World.drewN wc _ = wc; have n0_ := Aside0.mk (Kd.R_at hq_ HO_7.out); have n1_ := Aside0.mk (below_at hq_ HB.out); clear hq_ HO_7 HB; have HO_7 := n0_; have HB := n1_; clear n0_ n1_; (try (have HP44 := Kd.R_putg HO_7.out (((rd_T37 l0 x10_3).f1) : Int) (wrap64 ((rd x7_3 ((rd_T37 l0 x10_3).f0)) + ((rd_T37 l0 x10_3).f2))))))); refine store_event (t := 3) (p := 87) (v := ?vo_w45) (w1 := (wc.setCell ⟨go10, (((rd_T37 l0 x10_3).f1) : Int).toNat, none⟩ (.int .i64 (wrap64 ((rd x7_3 ((rd_T37 l0 x10_3).f0)) + ((rd_T37 l0 x10_3).f2)))))) ?hg ?ho ?hn ?hr ?_; (case ho => rfl); (case hg => rfl); (case hn => rfl); (case hr => first | (go_simp; done) | (go_simp; rfl)); intro w45 hw; have hg : wc.grownBy w45 (some go10) := (by rw [hw]; exact HP44.2); have hp_ : Kd.R (Kd.int .i64) 3 w45 w.heap.size (fun _ => True) (.slice (some ⟨go10, 0, none⟩) x7_3.length co10) y122 := (by rw [hw, Ny122.out]; exact HP44.1); clear HP44; have n0_ := Aside0.mk (hp_); have n1_ := Aside0.mk ((by rw [hw]; exact below_set (HB.out) GB10.out : Below w.heap.size w w45)); clear HO_7; clear HB; have HO_7 := n0_; have HB := n1_; clear n0_ n1_; clear hg hw hp_; have p123 : 0 ≤ (((rd_T37 l0 x10_3).f1) : Int) := of_decide_eq_true (by first | (with_reducible assumption) | assumption); have q123 : ((rd_T37 l0 x10_3).f1) < (y122.length : Int) := (by have h_ : (((rd_T37 l0 x10_3).f1) : Int) < ((x7_3.length : Int) : Int) := of_decide_eq_true (by first | (with_reducible assumption) | assumption); first | (have e_ := (Kd.R_reads' HO_7.out).1; omega) | simpa only [Ny122.out, List.length_set] using h_); have ql123 : ((((rd_T37 l0 x10_3).f1) : Int) < ((x7_3.length : Int) : Int)) = True := eq_true (of_decide_eq_true (by first | (with_reducible assumption) | assumption)); obtain ⟨ad123, e123, hx123_0⟩ := Kd.at_int (Kd.R_reads' HO_7.out).2.2 ((rd_T37 l0 x10_3).f1) p123 q123; obtain rfl : (⟨go10, 0, none⟩ : Addr) = ad123 := (by injection e123); (first | simp only [add_plain] at hx123_0 | simp only [add_at] at hx123_0 | simp only [Addr.add, Nat.zero_add] at hx123_0 | skip); replace p123 := eq_true p123; replace q123 := eq_true q123; have p124 : 0 ≤ (x10_3 : Int) := of_decide_eq_true (by first | (with_reducible assumption) | assumption); have q124 : x10_3 < (l0.length : Int) := of_decide_eq_true (by first | (with_reducible assumption) | assumption); obtain ⟨ad124, e124, hx124_0, hx124_1, hx124_2, hx124_3, hx124_4⟩ := at_T37 HR0.out x10_3 p124 q124; obtain rfl : ad113 = ad124 := (by injection e124); replace hx124_0 := (HB.out.cell (World.block_lt_of_cell? w _ hx124_0)).trans hx124_0; replace hx124_1 := (HB.out.cell (World.block_lt_of_cell? w _ hx124_1)).trans hx124_1; replace hx124_2 := (HB.out.cell (World.block_lt_of_cell? w _ hx124_2)).trans hx124_2; replace hx124_3 := (HB.out.cell (World.block_lt_of_cell? w _ hx124_3)).trans hx124_3; replace hx124_4 := (HB.out.cell (World.block_lt_of_cell? w _ hx124_4)).trans hx124_4; replace p124 := eq_true p124; replace q124 := eq_true q124; have p125 : 0 ≤ (((rd_T37 l0 x10_3).f1) : Int) := of_decide_eq_true (by first | (with_reducible assumption) | assumption); have q125 : ((rd_T37 l0 x10_3).f1) < (y122.length : Int) := (by have h_ : (((rd_T37 l0 x10_3).f1) : Int) < ((x7_3.length : Int) : Int) := of_decide_eq_true (by first | (with_reducible assumption) | assumption); first | (have e_ := (Kd.R_reads' HO_7.out).1; omega) | simpa only [Ny122.out, List.length_set] using h_); have ql125 : ((((rd_T37 l0 x10_3).f1) : Int) < ((x7_3.length : Int) : Int)) = True := eq_true (of_decide_eq_true (by first | (with_reducible assumption) | assumption)); obtain ⟨ad125, e125, hx125_0⟩ := Kd.at_int (Kd.R_reads' HO_7.out).2.2 ((rd_T37 l0 x10_3).f1) p125 q125; obtain rfl : (⟨go10, 0, none⟩ : Addr) = ad125 := (by injection e125); (first | simp only [add_plain] at hx125_0 | simp only [add_at] at hx125_0 | simp only [Addr.add, Nat.zero_add] at hx125_0 | skip); replace p125 := eq_true p125; replace q125 := eq_true q125; have p126 : 0 ≤ (((rd_T37 l0 x10_3).f0) : Int) := of_decide_eq_true (by first | (with_reducible assumption) | assumption); have q126 : ((rd_T37 l0 x10_3).f0) < (y122.length : Int) := (by have h_ : (((rd_T37 l0 x10_3).f0) : Int) < ((x7_3.length : Int) : Int) := of_decide_eq_true (by first | (with_reducible assumption) | assumption); first | (have e_ := (Kd.R_reads' HO_7.out).1; omega) | simpa only [Ny122.out, List.length_set] using h_); have ql126 : ((((rd_T37 l0 x10_3).f0) : Int) < ((x7_3.length : Int) : Int)) = True := eq_true (of_decide_eq_true (by first | (with_reducible assumption) | assumption)); obtain ⟨ad126, e126, hx126_0⟩ := Kd.at_int (Kd.R_reads' HO_7.out).2.2 ((rd_T37 l0 x10_3).f0) p126 q126; obtain rfl : (⟨go10, 0, none⟩ : Addr) = ad126 := (by injection e126); (first | simp only [add_plain] at hx126_0 | simp only [add_at] at hx126_0 | simp only [Addr.add, Nat.zero_add] at hx126_0 | skip); replace p126 := eq_true p126; replace q126 := eq_true q126; have p43 : 0 ≤ (((rd_T37 l0 x10_3).f0) : Int) := of_decide_eq_true (by first | (with_reducible assumption) | assumption); have q43 : (((rd_T37 l0 x10_3).f0) : Int) < ((x7_3.length : Int) : Int) := of_decide_eq_true (by first | (with_reducible assumption) | assumption); obtain ⟨hx43_0, hf43_0⟩ := Kd.R_celln 0 HO_7.out (((rd_T37 l0 x10_3).f0) : Int) p43 q43; replace p43 := eq_true p43; replace q43 := eq_true q43; obtain ⟨hy46_, hz46_⟩ := Kd.R_celln 0 HO_7.out (((rd_T37 l0 x10_3).f0) : Int) (of_decide_eq_true (by first | (with_reducible assumption) | assumption)) (of_decide_eq_true (by first | (with_reducible assumption) | assumption)); have HP46 := Kd.R_putg HO_7.out (((rd_T37 l0 x10_3).f0) : Int) (wrap64 ((rd y122 ((rd_T37 l0 x10_3).f1)) + ((rd_T37 l0 x10_3).f2)))) | ((with_reducible refine gate_store (t := 3) (p := 121) rfl ?_); (try (rw [drewN_self w45]; generalize hq_ : World.drewN w45 _ = w45; have n0_ := Aside0.mk (Kd.R_at hq_ HO_7.out); have n1_ := Aside0.mk (below_at hq_ HB.out); clear hq_ HO_7 HB; have HO_7 := n0_; have HB := n1_; clear n0_ n1_; (try (obtain ⟨hy46_, hz46_⟩ := Kd.R_celln 0 HO_7.out (((rd_T37 l0 x10_3).f0) : Int) (of_decide_eq_true (by first | (with_reducible assumption) | assumption)) (of_decide_eq_true (by first | (with_reducible assumption) | assumption)))); (try (have HP46 := Kd.R_putg HO_7.out (((rd_T37 l0 x10_3).f0) : Int) (wrap64 ((rd y122 ((rd_T37 l0 x10_3).f1)) + ((rd_T37 l0 x10_3).f2))))))); refine store_event (t := 3) (p := 121) (v := ?vo_w47) (w1 := (w45.setCell ⟨go10, (((rd_T37 l0 x10_3).f0) : Int).toNat, none⟩ (.int .i64 (wrap64 ((rd y122 ((rd_T37 l0 x10_3).f1)) + ((rd_T37 l0 x10_3).f2)))))) ?hg ?ho ?hn ?hr ?_; (case ho => rfl); (case hg => rfl); (case hn => rfl); (case hr => first | (go_simp; done) | (go_simp; rfl)); intro w47 hw; have hg : w45.grownBy w47 (some go10) := (by rw [hw]; exact HP46.2); have hp_ : Kd.R (Kd.int .i64) 3 w47 w.heap.size (fun _ => True) (.slice (some ⟨go10, 0, none⟩) x7_3.length co10) y127 := (by rw [hw, Ny127.out]; exact HP46.1); clear HP46; have n0_ := Aside0.mk (hp_); have n1_ := Aside0.mk ((by rw [hw]; exact below_set (HB.out) GB10.out : Below w.heap.size w w47)); clear HO_7; clear HB; have HO_7 := n0_; have HB := n1_; clear n0_ n1_; clear hg hw hp_)))
                                                            (try simp only [← hl7_3])
                                                            go_roundg kj27
                                                            case measure => have := HK1.out; have := HK2.out; have := HK3.out; have := HJ15.out; have := HJ27.out; omega
                                                            case rel => exact ⟨(y127), (true), (wrap64 (x10_3 + 1)), (by first | rfl | (simp; done) | (simp [*]; done)), (by first | rfl | (simp; done) | (simp [*]; done)), H', ⟨by have := HK1.out; have := HK2.out; have := HK3.out; have := HJ15.out; have := HJ27.out; omega⟩, ⟨by (try simp only [hl7_2]); (try simp only [hl7_3]); (with_reducible repeat (first | apply Kd.R_alloc | apply Kd.R_drewN | apply Kd.R_drew)); first | exact HO_7.out | (rw [Ny127.out]; exact (Kd.R_putg (Kd.R_drewN HO_7.out _) _ _).1) | (rw [Ny127.out]; exact (Kd.R_putg HO_7.out _ _).1)⟩, ⟨by repeat (first | (with_reducible first | exact HB.out | apply below_alloc | apply pw_below_drewN | apply below_drew1) | exact HB.out | (first | exact below_set (pw_below_drewN HB.out _) GB10.out | exact below_set HB.out GB10.out))⟩⟩
                                                          · rw [if_neg c42] at H
                                                            have c42b0 : decide ((rd y122 ((rd_T37 l0 x10_3).f0)) < 0) = false := decide_eq_false c42
                                                            clear c42
                                                            by_cases c48 : (wrap64 ((rd y122 ((rd_T37 l0 x10_3).f1)) + ((rd_T37 l0 x10_3).f2))) < (rd y122 ((rd_T37 l0 x10_3).f0))
                                                            · rw [if_pos c48] at H
                                                              have c48b0 : decide ((wrap64 ((rd y122 ((rd_T37 l0 x10_3).f1)) + ((rd_T37 l0 x10_3).f2))) < (rd y122 ((rd_T37 l0 x10_3).f0))) = true := decide_eq_true c48
                                                              clear c48
                                                              obtain ⟨y129, hy129⟩ : ∃ y_ : List Int, y_ = (y122.set (((rd_T37 l0 x10_3).f0) : Int).toNat (wrap64 ((rd y122 ((rd_T37 l0 x10_3).f1)) + ((rd_T37 l0 x10_3).f2)))) := ⟨_, rfl⟩
                                                              replace H : (spec_l25Out.l2 kj27 l0 l1 a2 y129 true (wrap64 (x10_3 + 1))) = some r := by first | (rw [hy129]; with_reducible exact H) | (have H2_ := (Option.bind_some _ _).symm.trans H; rw [hy129]; with_reducible exact H2_) | (have H2_ := (Option.bind_some _ _).symm.trans H; with_reducible exact H2_) | with_reducible exact H | (rw [hy129]; exact H) | exact H
                                                              have Ny129 := Aside0.mk hy129
                                                              clear hy129
                                                              have H' := Aside0.mk H
                                                              clear H
                                                              have p36 : 0 ≤ (((rd_T37 l0 x10_3).f1) : Int) := of_decide_eq_true (by first | (with_reducible assumption) | assumption)
                                                              have q36 : (((rd_T37 l0 x10_3).f1) : Int) < ((x7_3.length : Int) : Int) := of_decide_eq_true (by first | (with_reducible assumption) | assumption)
                                                              obtain ⟨hx36_0, hf36_0⟩ := Kd.R_celln 0 HO_7.out (((rd_T37 l0 x10_3).f1) : Int) p36 q36
                                                              replace p36 := eq_true p36
                                                              replace q36 := eq_true q36
                                                              have HP50 := Kd.R_putg HO_7.out (((rd_T37 l0 x10_3).f1) : Int) (wrap64 ((rd x7_3 ((rd_T37 l0 x10_3).f0)) + ((rd_T37 l0 x10_3).f2)))
                                                              go_wp2_with (first | ((with_reducible refine gate_store (t := 3) (p := 87) rfl ?_); (try (rw [drewN_self wc]; generalize hq_ : World.drewN wc _ = wc; have n0_ := Aside0.mk (Kd.R_at hq_ HO_7.out); have n1_ := Aside0.mk (below_at hq_ HB.out); clear hq_ HO_7 HB; have HO_7 := n0_; have HB := n1_; clear n0_ n1_; (try (have HP50 := Kd.R_putg HO_7.out (((rd_T37 l0 x10_3).f1) : Int) (wrap64 ((rd x7_3 ((rd_T37 l0 x10_3).f0)) + ((rd_T37 l0 x10_3).f2))))))); refine store_event (t := 3) (p := 87) (v := ?vo_w51) (w1 := (wc.setCell ⟨go10, (((rd_T37 l0 x10_3).f1) : Int).toNat, none⟩ (.int .i64 (wrap64 ((rd x7_3 ((rd_T37 l0 x10_3).f0)) + ((rd_T37 l0 x10_3).f2)))))) ?hg ?ho ?hn ?hr ?_; (case ho => rfl); (case hg => rfl); (case hn => rfl); (case hr => first | (go_simp; done) | (go_simp; rfl)); intro w51 hw; have hg : wc.grownBy w51 (some go10) := (by rw [hw]; exact HP50.2); have hp_ : Kd.R (Kd.int .i64) 3 w51 w.heap.size (fun _ => True) (.slice (some ⟨go10, 0, none⟩) x7_3.length co10) y122 := (by rw [hw, Ny122.out]; exact HP50.1); clear HP50; have n0_ := Aside0.mk (hp_); have n1_ := Aside0.mk ((by rw [hw]; exact below_set (HB.out) GB10.out : Below w.heap.size w w51)); clear HO_7; clear HB; have HO_7 := n0_; have HB := n1_; clear n0_ n1_; clear hg hw hp_; have p123 : 0 ≤ (((rd_T37 l0 x10_3).f1) : Int) := of_decide_eq_true (by first | (with_reducible assumption) | assumption); have q123 : ((rd_T37 l0 x10_3).f1) < (y122.length : Int) := (by have h_ : (((rd_T37 l0 x10_3).f1) : Int) < ((x7_3.length : Int) : Int) := of_decide_eq_true (by first | (with_reducible assumption) | assumption); first | (have e_ := (Kd.R_reads' HO_7.out).1; omega) | simpa only [Ny122.out, List.length_set] using h_); have ql123 : ((((rd_T37 l0 x10_3).f1) : Int) < ((x7_3.length : Int) : Int)) = True := eq_true (of_decide_eq_true (by first | (with_reducible assumption) | assumption)); obtain ⟨ad123, e123, hx123_0⟩ := Kd.at_int (Kd.R_reads' HO_7.out).2.2 ((rd_T37 l0 x10_3).f1) p123 q123; obtain rfl : (⟨go10, 0, none⟩ : Addr) = ad123 := (by injection e123); (first | simp only [add_plain] at hx123_0 | simp only [add_at] at hx123_0 | simp only [Addr.add, Nat.zero_add] at hx123_0 | skip); replace p123 := eq_true p123; replace q123 := eq_true q123; have p124 : 0 ≤ (x10_3 : Int) := of_decide_eq_true (by first | (with_reducible assumption) | assumption); have q124 : x10_3 < (l0.length : Int) := of_decide_eq_true (by first | (with_reducible assumption) | assumption); obtain ⟨ad124, e124, hx124_0, hx124_1, hx124_2, hx124_3, hx124_4⟩ := at_T37 HR0.out x10_3 p124 q124; obtain rfl : ad113 = ad124 := (by injection e124); replace hx124_0 := (HB.out.cell (World.block_lt_of_cell? w _ hx124_0)).trans hx124_0; replace hx124_1 := (HB.out.cell (World.block_lt_of_cell? w _ hx124_1)).trans hx124_1; replace hx124_2 := (HB.out.cell (World.block_lt_of_cell? w _ hx124_2)).trans hx124_2; replace hx124_3 := (HB.out.cell (World.block_lt_of_cell? w _ hx124_3)).trans hx124_3; replace hx124_4 := (HB.out.cell (World.block_lt_of_cell? w _ hx124_4)).trans hx124_4; replace p124 := eq_true p124; replace q124 := eq_true q124; have p125 : 0 ≤ (((rd_T37 l0 x10_3).f1) : Int) := of_decide_eq_true (by first | (with_reducible assumption) | assumption); have q125 : ((rd_T37 l0 x10_3).f1) < (y122.length : Int) := (by have h_ : (((rd_T37 l0 x10_3).f1) : Int) < ((x7_3.length : Int) : Int) := of_decide_eq_true (by first | (with_reducible assumption) | assumption); first | (have e_ := (Kd.R_reads' HO_7.out).1; omega) | simpa only [Ny122.out, List.length_set] using h_); have ql125 : ((((rd_T37 l0 x10_3).f1) : Int) < ((x7_3.length : Int) : Int)) = True := eq_true (of_decide_eq_true (by first | (with_reducible assumption) | assumption)); obtain ⟨ad125, e125, hx125_0⟩ := Kd.at_int (Kd.R_reads' HO_7.out).2.2 ((rd_T37 l0 x10_3).f1) p125 q125; obtain rfl : (⟨go10, 0, none⟩ : Addr) = ad125 := (by injection e125); (first | simp only [add_plain] at hx125_0 | simp only [add_at] at hx125_0 | simp only [Addr.add, Nat.zero_add] at hx125_0 | skip); replace p125 := eq_true p125; replace q125 := eq_true q125; have p126 : 0 ≤ (((rd_T37 l0 x10_3).f0) : Int) := of_decide_eq_true (by first | (with_reducible assumption) | assumption); have q126 : ((rd_T37 l0 x10_3).f0) < (y122.length : Int) := (by have h_ : (((rd_T37 l0 x10_3).f0) : Int) < ((x7_3.length : Int) : Int) := of_decide_eq_true (by first | (with_reducible assumption) | assumption); first | (have e_ := (Kd.R_reads' HO_7.out).1; omega) | simpa only [Ny122.out, List.length_set] using h_); have ql126 : ((((rd_T37 l0 x10_3).f0) : Int) < ((x7_3.length : Int) : Int)) = True := eq_true (of_decide_eq_true (by first | (with_reducible assumption) | assumption)); obtain ⟨ad126, e126, hx126_0⟩ := Kd.at_int (Kd.R_reads' HO_7.out).2.2 ((rd_T37 l0 x10_3).f0) p126 q126; obtain rfl : (⟨go10, 0, none⟩ : Addr) = ad126 := (by injection e126); (first | simp only [add_plain] at hx126_0 | simp only [add_at] at hx126_0 | simp only [Addr.add, Nat.zero_add] at hx126_0 | skip); replace p126 := eq_true p126; replace q126 := eq_true q126; have p128 : 0 ≤ (((rd_T37 l0 x10_3).f0) : Int) := of_decide_eq_true (by first | (with_reducible assumption) | assumption); have q128 : ((rd_T37 l0 x10_3).f0) < (y122.length : Int) := (by have h_ : (((rd_T37 l0 x10_3).f0) : Int) < ((x7_3.length : Int) : Int) := of_decide_eq_true (by first | (with_reducible assumption) | assumption); first | (have e_ := (Kd.R_reads' HO_7.out).1; omega) | simpa only [Ny122.out, List.length_set] using h_); have ql128 : ((((rd_T37 l0 x10_3).f0) : Int) < ((x7_3.length : Int) : Int)) = True := eq_true (of_decide_eq_true (by first | (with_reducible assumption) | assumption)); obtain ⟨ad128, e128, hx128_0⟩ := Kd.at_int (Kd.R_reads' HO_7.out).2.2 ((rd_T37 l0 x10_3).f0) p128 q128; obtain rfl : (⟨go10, 0, none⟩ : Addr) = ad128 := (by injection e128); (first | simp only [add_plain] at hx128_0 | simp only [add_at] at hx128_0 | simp only [Addr.add, Nat.zero_add] at hx128_0 | skip); replace p128 := eq_true p128; replace q128 := eq_true q128; have p49 : 0 ≤ (((rd_T37 l0 x10_3).f0) : Int) := of_decide_eq_true (by first | (with_reducible assumption) | assumption); have q49 : (((rd_T37 l0 x10_3).f0) : Int) < ((x7_3.length : Int) : Int) := of_decide_eq_true (by first | (with_reducible assumption) | assumption); obtain ⟨hx49_0, hf49_0⟩ := Kd.R_celln 0 HO_7.out (((rd_T37 l0 x10_3).f0) : Int) p49 q49; replace p49 := eq_true p49; replace q49 := eq_true q49; obtain ⟨hy52_, hz52_⟩ := Kd.R_celln 0 HO_7.out (((rd_T37 l0 x10_3).f0) : Int) (of_decide_eq_true (by first | (with_reducible assumption) | assumption)) (of_decide_eq_true (by first | (with_reducible assumption) | assumption)); have HP52 := Kd.R_putg HO_7.out (((rd_T37 l0 x10_3).f0) : Int) (wrap64 ((rd y122 ((rd_T37 l0 x10_3).f1)) + ((rd_T37 l0 x10_3).f2)))) | ((with_reducible refine gate_store (t := 3) (p := 121) rfl ?_); (try (rw [drewN_self w51]; generalize hq_ : World.drewN w51 _ = w51; have n0_ := Aside0.mk (Kd.R_at hq_ HO_7.out); have n1_ := Aside0.mk (below_at hq_ HB.out); clear hq_ HO_7 HB; have HO_7 := n0_; have HB := n1_; clear n0_ n1_; (try (obtain ⟨hy52_, hz52_⟩ := Kd.R_celln 0 HO_7.out (((rd_T37 l0 x10_3).f0) : Int) (of_decide_eq_true (by first | (with_reducible assumption) | assumption)) (of_decide_eq_true (by first | (with_reducible assumption) | assumption)))); (try (have HP52 := Kd.R_putg HO_7.out (((rd_T37 l0 x10_3).f0) : Int) (wrap64 ((rd y122 ((rd_T37 l0 x10_3).f1)) + ((rd_T37 l0 x10_3).f2))))))); refine store_event (t := 3) (p := 121) (v := ?vo_w53) (w1 := (w51.setCell ⟨go10, (((rd_T37 l0 x10_3).f0) : Int).toNat, none⟩ (.int .i64 (wrap64 ((rd y122 ((rd_T37 l0 x10_3).f1)) + ((rd_T37 l0 x10_3).f2)))))) ?hg ?ho ?hn ?hr ?_; (case ho => rfl); (case hg => rfl); (case hn => rfl); (case hr => first | (go_simp; done) | (go_simp; rfl)); intro w53 hw; have hg : w51.grownBy w53 (some go10) := (by rw [hw]; exact HP52.2); have hp_ : Kd.R (Kd.int .i64) 3 w53 w.heap.size (fun _ => True) (.slice (some ⟨go10, 0, none⟩) x7_3.length co10) y129 := (by rw [hw, Ny129.out]; exact HP52.1); clear HP52; have n0_ := Aside0.mk (hp_); have n1_ := Aside0.mk ((by rw [hw]; exact below_set (HB.out) GB10.out : Below w.heap.size w w53)); clear HO_7; clear HB; have HO_7 := n0_; have HB := n1_; clear n0_ n1_; clear hg hw hp_))
                                                              repeat (go_quiet (first | ((with_reducible refine gate_store (t := 3) (p := 87) rfl ?_); (try (rw [drewN_self wc]; generalize hq_ : World.drewN wc _ = wc; have n0_ := Aside0.mk (Kd.R_at hq_ HO_7.out); have n1_ := Aside0.mk (below_at hq_ HB.out); clear hq_ HO_7 HB; have HO_7 := n0_; have HB := n1_; clear n0_ n1_; (try (have HP50 := Kd.R_putg HO_7.out (((rd_T37 l0 x10_3).f1) : Int) (wrap64 ((rd x7_3 ((rd_T37 l0 x10_3).f0)) + ((rd_T37 l0 x10_3).f2))))))); refine store_event (t := 3) (p := 87) (v := ?vo_w51) (w1 := (wc.setCell ⟨go10, (((rd_T37 l0 x10_3).f1) : Int).toNat, none⟩ (.int .i64 (wrap64 ((rd x7_3 ((rd_T37 l0 x10_3).f0)) + ((rd_T37 l0 x10_3).f2)))))) ?hg ?ho ?hn ?hr ?_; (case ho => rfl); (case hg => rfl); (case hn => rfl); (case hr => first | (go_simp; done) | (go_simp; rfl)); intro w51 hw; have hg : wc.grownBy w51 (some go10) := (by rw [hw]; exact HP50.2); have hp_ : Kd.R (Kd.int .i64) 3 w51 w.heap.size (fun _ => True) (.slice (some ⟨go10, 0, none⟩) x7_3.length co10) y122 := (by rw [hw, Ny122.out]; exact HP50.1); clear HP50; have n0_ := Aside0.mk (hp_); have n1_ := Aside0.mk ((by rw [hw]; exact below_set (HB.out) GB10.out : Below w.heap.size w w51)); clear HO_7; clear HB; have HO_7 := n0_; have HB := n1_; clear n0_ n1_; clear hg hw hp_; have p123 : 0 ≤ (((rd_T37 l0 x10_3).f1) : Int) := of_decide_eq_true (by first | (with_reducible assumption) | assumption); have q123 : ((rd_T37 l0 x10_3).f1) < (y122.length : Int) := (by have h_ : (((rd_T37 l0 x10_3).f1) : Int) < ((x7_3.length : Int) : Int) := of_decide_eq_true (by first | (with_reducible assumption) | assumption); first | (have e_ := (Kd.R_reads' HO_7.out).1; omega) | simpa only [Ny122.out, List.length_set] using h_); have ql123 : ((((rd_T37 l0 x10_3).f1) : Int) < ((x7_3.length : Int) : Int)) = True := eq_true (of_decide_eq_true (by first | (with_reducible assumption) | assumption)); obtain ⟨ad123, e123, hx123_0⟩ := Kd.at_int (Kd.R_reads' HO_7.out).2.2 ((rd_T37 l0 x10_3).f1) p123 q123; obtain rfl : (⟨go10, 0, none⟩ : Addr) = ad123 := (by injection e123); (first | simp only [add_plain] at hx123_0 | simp only [add_at] at hx123_0 | simp only [Addr.add, Nat.zero_add] at hx123_0 | skip); replace p123 := eq_true p123; replace q123 := eq_true q123; have p124 : 0 ≤ (x10_3 : Int) := of_decide_eq_true (by first | (with_reducible assumption) | assumption); have q124 : x10_3 < (l0.length : Int) := of_decide_eq_true (by first | (with_reducible assumption) | assumption); obtain ⟨ad124, e124, hx124_0, hx124_1, hx124_2, hx124_3, hx124_4⟩ := at_T37 HR0.out x10_3 p124 q124; obtain rfl : ad113 = ad124 := (by injection e124); replace hx124_0 := (HB.out.cell (World.block_lt_of_cell? w _ hx124_0)).trans hx124_0; replace hx124_1 := (HB.out.cell (World.block_lt_of_cell? w _ hx124_1)).trans hx124_1; replace hx124_2 := (HB.out.cell (World.block_lt_of_cell? w _ hx124_2)).trans hx124_2; replace hx124_3 := (HB.out.cell (World.block_lt_of_cell? w _ hx124_3)).trans hx124_3; replace hx124_4 := (HB.out.cell (World.block_lt_of_cell? w _ hx124_4)).trans hx124_4; replace p124 := eq_true p124; replace q124 := eq_true q124; have p125 : 0 ≤ (((rd_T37 l0 x10_3).f1) : Int) := of_decide_eq_true (by first | (with_reducible assumption) | assumption); have q125 : ((rd_T37 l0 x10_3).f1) < (y122.length : Int) := (by have h_ : (((rd_T37 l0 x10_3).f1) : Int) < ((x7_3.length : Int) : Int) := of_decide_eq_true (by first | (with_reducible assumption) | assumption); first | (have e_ := (Kd.R_reads' HO_7.out).1; omega) | simpa only [Ny122.out, List.length_set] using h_); have ql125 : ((((rd_T37 l0 x10_3).f1) : Int) < ((x7_3.length : Int) : Int)) = True := eq_true (of_decide_eq_true (by first | (with_reducible assumption) | assumption)); obtain ⟨ad125, e125, hx125_0⟩ := Kd.at_int (Kd.R_reads' HO_7.out).2.2 ((rd_T37 l0 x10_3).f1) p125 q125; obtain rfl : (⟨go10, 0, none⟩ : Addr) = ad125 := (by injection e125); (first | simp only [add_plain] at hx125_0 | simp only [add_at] at hx125_0 | simp only [Addr.add, Nat.zero_add] at hx125_0 | skip); replace p125 := eq_true p125; replace q125 := eq_true q125; have p126 : 0 ≤ (((rd_T37 l0 x10_3).f0) : Int) := of_decide_eq_true (by first | (with_reducible assumption) | assumption); have q126 : ((rd_T37 l0 x10_3).f0) < (y122.length : Int) := (by have h_ : (((rd_T37 l0 x10_3).f0) : Int) < ((x7_3.length : Int) : Int) := of_decide_eq_true (by first | (with_reducible assumption) | assumption); first | (have e_ := (Kd.R_reads' HO_7.out).1; omega) | simpa only [Ny122.out, List.length_set] using h_); have ql126 : ((((rd_T37 l0 x10_3).f0) : Int) < ((x7_3.length : Int) : Int)) = True := eq_true (of_decide_eq_true (by first | (with_reducible assumption) | assumption)); obtain ⟨ad126, e126, hx126_0⟩ := Kd.at_int (Kd.R_reads' HO_7.out).2.2 ((rd_T37 l0 x10_3).f0) p126 q126; obtain rfl : (⟨go10, 0, none⟩ : Addr) = ad126 := (by injection e126); (first | simp only [add_plain] at hx126_0 | simp only [add_at] at hx126_0 | simp only [Addr.add, Nat.zero_add] at hx126_0 | skip); replace p126 := eq_true p126; replace q126 := eq_true q126; have p128 : 0 ≤ (((rd_T37 l0 x10_3).f0) : Int) := of_decide_eq_true (by first | (with_reducible assumption) | assumption); have q128 : ((rd_T37 l0 x10_3).f0) < (y122.length : Int) := (by have h_ : (((rd_T37 l0 x10_3).f0) : Int) < ((x7_3.length : Int) : Int) := of_decide_eq_true (by first | (with_reducible assumption) | assumption); first | (have e_ := (Kd.R_reads' HO_7.out).1; omega) | simpa only [Ny122.out, List.length_set] using h_); have ql128 : ((((rd_T37 l0 x10_3).f0) : Int) < ((x7_3.length : Int) : Int)) = True := eq_true (of_decide_eq_true (by first | (with_reducible assumption) | assumption)); obtain ⟨ad128, e128, hx128_0⟩ := Kd.at_int (Kd.R_reads' HO_7.out).2.2 ((rd_T37 l0 x10_3).f0) p128 q128; obtain rfl : (⟨go10, 0, none⟩ : Addr) = ad128 := (by injection e128); (first | simp only [add_plain] at hx128_0 | simp only [add_at] at hx128_0 | simp only [Addr.add, Nat.zero_add] at hx128_0 | skip); replace p128 := eq_true p128; replace q128 := eq_true q128; have p49 : 0 ≤ (((rd_T37 l0 x10_3).f0) : Int) := of_decide_eq_true (by first | (with_reducible assumption) | assumption); have q49 : (((rd_T37 l0 x10_3).f0) : Int) < ((x7_3.length : Int) : Int) := of_decide_eq_true (by first | (with_reducible assumption) | assumption); obtain ⟨hx49_0, hf49_0⟩ := Kd.R_celln 0 HO_7.out (((rd_T37 l0 x10_3).f0) : Int) p49 q49; replace p49 := eq_true p49; replace q49 := eq_true q49; obtain ⟨hy52_, hz52_⟩ := Kd.R_celln 0 HO_7.out (((rd_T37 l0 x10_3).f0) : Int) (of_decide_eq_true (by first | (with_reducible assumption) | assumption)) (of_decide_eq_true (by first | (with_reducible assumption) | assumption)); have HP52 := Kd.R_putg HO_7.out (((rd_T37 l0 x10_3).f0) : Int) (wrap64 ((rd y122 ((rd_T37 l0 x10_3).f1)) + ((rd_T37 l0 x10_3).f2)))) | ((with_reducible refine gate_store (t := 3) (p := 121) rfl ?_); (try (rw [drewN_self w51]; generalize hq_ : World.drewN w51 _ = w51; have n0_ := Aside0.mk (Kd.R_at hq_ HO_7.out); have n1_ := Aside0.mk (below_at hq_ HB.out); clear hq_ HO_7 HB; have HO_7 := n0_; have HB := n1_; clear n0_ n1_; (try (obtain ⟨hy52_, hz52_⟩ := Kd.R_celln 0 HO_7.out (((rd_T37 l0 x10_3).f0) : Int) (of_decide_eq_true (by first | (with_reducible assumption) | assumption)) (of_decide_eq_true (by first | (with_reducible assumption) | assumption)))); (try (have HP52 := Kd.R_putg HO_7.out (((rd_T37 l0 x10_3).f0) : Int) (wrap64 ((rd y122 ((rd_T37 l0 x10_3).f1)) + ((rd_T37 l0 x10_3).f2))))))); refine store_event (t := 3) (p := 121) (v := ?vo_w53) (w1 := (w51.setCell ⟨go10, (((rd_T37 l0 x10_3).f0) : Int).toNat, none⟩ (.int .i64 (wrap64 ((rd y122 ((rd_T37 l0 x10_3).f1)) + ((rd_T37 l0 x10_3).f2)))))) ?hg ?ho ?hn ?hr ?_; (case ho => rfl); (case hg => rfl); (case hn => rfl); (case hr => first | (go_simp; done) | (go_simp; rfl)); intro w53 hw; have hg : w51.grownBy w53 (some go10) := (by rw [hw]; exact HP52.2); have hp_ : Kd.R (Kd.int .i64) 3 w53 w.heap.size (fun _ => True) (.slice (some ⟨go10, 0, none⟩) x7_3.length co10) y129 := (by rw [hw, Ny129.out]; exact HP52.1); clear HP52; have n0_ := Aside0.mk (hp_); have n1_ := Aside0.mk ((by rw [hw]; exact below_set (HB.out) GB10.out : Below w.heap.size w w53)); clear HO_7; clear HB; have HO_7 := n0_; have HB := n1_; clear n0_ n1_; clear hg hw hp_)); try go_wp2_with (first | ((with_reducible refine gate_store (t := 3) (p := 87) rfl ?_); (try (rw [drewN_self wc]; generalize hq_ : World.drewN wc _ = wc; have n0_ := Aside0.mk (Kd.R_at hq_ HO_7.out); have n1_ := Aside0.mk (below_at hq_ HB.out); clear hq_ HO_7 HB; have HO_7 := n0_; have HB := n1_; clear n0_ n1_; (try (have HP50 := Kd.R_putg HO_7.out (((rd_T37 l0 x10_3).f1) : Int) (wrap64 ((rd x7_3 ((rd_T37 l0 x10_3).f0)) + ((rd_T37 l0 x10_3).f2))))))); refine store_event (t := 3) (p := 87) (v := ?vo_w51) (w1 := (wc.setCell ⟨go10, (((rd_T37 l0 x10_3).f1) : Int).toNat, none⟩ (.int .i64 (wrap64 ((rd x7_3 ((rd_T37 l0 x10_3).f0)) + ((rd_T37 l0 x10_3).f2)))))) ?hg ?ho ?hn ?hr ?_; (case ho => rfl); (case hg => rfl); (case hn => rfl); (case hr => first | (go_simp; done) | (go_simp; rfl)); intro w51 hw; have hg : wc.grownBy w51 (some go10) := (by rw [hw]; exact HP50.2); have hp_ : Kd.R (Kd.int .i64) 3 w51 w.heap.size (fun _ => True) (.slice (some ⟨go10, 0, none⟩) x7_3.length co10) y122 := (by rw [hw, Ny122.out]; exact HP50.1); clear HP50; have n0_ := Aside0.mk (hp_); have n1_ := Aside0.mk ((by rw [hw]; exact below_set (HB.out) GB10.out : Below w.heap.size w w51)); clear HO_7; clear HB; have HO_7 := n0_; have HB := n1_; clear n0_ n1_; clear hg hw hp_; have p123 : 0 ≤ (((rd_T37 l0 x10_3).f1) : Int) := of_decide_eq_true (by first | (with_reducible assumption) | assumption); have q123 : ((rd_T37 l0 x10_3).f1) < (y122.length : Int) := (by have h_ : (((rd_T37 l0 x10_3).f1) : Int) < ((x7_3.length : Int) : Int) := of_decide_eq_true (by first | (with_reducible assumption) | assumption); first | (have e_ := (Kd.R_reads' HO_7.out).1; omega) | simpa only [Ny122.out, List.length_set] using h_); have ql123 : ((((rd_T37 l0 x10_3).f1) : Int) < ((x7_3.length : Int) : Int)) = True := eq_true (of_decide_eq_true (by first | (with_reducible assumption) | assumption)); obtain ⟨ad123, e123, hx123_0⟩ := Kd.at_int (Kd.R_reads' HO_7.out).2.2 ((rd_T37 l0 x10_3).f1) p123 q123; obtain rfl : (⟨go10, 0, none⟩ : Addr) = ad123 := (by injection e123); (first | simp only [add_plain] at hx123_0 | simp only [add_at] at hx123_0 | simp only [Addr.add, Nat.zero_add] at hx123_0 | skip); replace p123 := eq_true p123; replace q123 := eq_true q123; have p124 : 0 ≤ (x10_3 : Int) := of_decide_eq_true (by first | (with_reducible assumption) | assumption); have q124 : x10_3 < (l0.length : Int) := of_decide_eq_true (by first | (with_reducible assumption) | assumption); obtain ⟨ad124, e124, hx124_0, hx124_1, hx124_2, hx124_3, hx124_4⟩ := at_T37 HR0.out x10_3 p124 q124; obtain rfl : ad113 = ad124 := (by injection e124); replace hx124_0 := (HB.out.cell (World.block_lt_of_cell? w _ hx124_0)).trans hx124_0; replace hx124_1 := (HB.out.cell (World.block_lt_of_cell? w _ hx124_1)).trans hx124_1; replace hx124_2 := (HB.out.cell (World.block_lt_of_cell? w _ hx124_2)).trans hx124_2; replace hx124_3 := (HB.out.cell (World.block_lt_of_cell? w _ hx124_3)).trans hx124_3; replace hx124_4 := (HB.out.cell (World.block_lt_of_cell? w _ hx124_4)).trans hx124_4; replace p124 := eq_true p124; replace q124 := eq_true q124; have p125 : 0 ≤ (((rd_T37 l0 x10_3).f1) : Int) := of_decide_eq_true (by first | (with_reducible assumption) | assumption); have q125 : ((rd_T37 l0 x10_3).f1) < (y122.length : Int) := (by have h_ : (((rd_T37 l0 x10_3).f1) : Int) < ((x7_3.length : Int) : Int) := of_decide_eq_true (by first | (with_reducible assumption) | assumption); first | (have e_ := (Kd.R_reads' HO_7.out).1; omega) | simpa only [Ny122.out, List.length_set] using h_); have ql125 : ((((rd_T37 l0 x10_3).f1) : Int) < ((x7_3.length : Int) : Int)) = True := eq_true (of_decide_eq_true (by first | (with_reducible assumption) | assumption)); obtain ⟨ad125, e125, hx125_0⟩ := Kd.at_int (Kd.R_reads' HO_7.out).2.2 ((rd_T37 l0 x10_3).f1) p125 q125; obtain rfl : (⟨go10, 0, none⟩ : Addr) = ad125 := (by injection e125); (first | simp only [add_plain] at hx125_0 | simp only [add_at] at hx125_0 | simp only [Addr.add, Nat.zero_add] at hx125_0 | skip); replace p125 := eq_true p125; replace q125 := eq_true q125; have p126 : 0 ≤ (((rd_T37 l0 x10_3).f0) : Int) := of_decide_eq_true (by first | (with_reducible assumption) | assumption); have q126 : ((rd_T37 l0 x10_3).f0) < (y122.length : Int) := (by have h_ : (((rd_T37 l0 x10_3).f0) : Int) < ((x7_3.length : Int) : Int) := of_decide_eq_true (by first | (with_reducible assumption) | assumption); first | (have e_ := (Kd.R_reads' HO_7.out).1; omega) | simpa only [Ny122.out, List.length_set] using h_); have ql126 : ((((rd_T37 l0 x10_3).f0) : Int) < ((x7_3.length : Int) : Int)) = True := eq_true (of_decide_eq_true (by first | (with_reducible assumption) | assumption)); obtain ⟨ad126, e126, hx126_0⟩ := Kd.at_int (Kd.R_reads' HO_7.out).2.2 ((rd_T37 l0 x10_3).f0) p126 q126; obtain rfl : (⟨go10, 0, none⟩ : Addr) = ad126 := (by injection e126); (first | simp only [add_plain] at hx126_0 | simp only [add_at] at hx126_0 | simp only [Addr.add, Nat.zero_add] at hx126_0 | skip); replace p126 := eq_true p126; replace q126 := eq_true q126; have p128 : 0 ≤ (((rd_T37 l0 x10_3).f0) : Int) := of_decide_eq_true (by first | (with_reducible assumption) | assumption); have q128 : ((rd_T37 l0 x10_3).f0) < (y122.length : Int) := (by have h_ : (((rd_T37 l0 x10_3).f0) : Int) < ((x7_3.length : Int) : Int) := of_decide_eq_true (by first | (with_reducible assumption) | assumption); first | (have e_ := (Kd.R_reads' HO_7.out).1; omega) | simpa only [Ny122.out, List.length_set] using h_); have ql128 : ((((rd_T37 l0 x10_3).f0) : Int) < ((x7_3.length : Int) : Int)) = True := eq_true (of_decide_eq_true (by first | (with_reducible assumption) | assumption)); obtain ⟨ad128, e128, hx128_0⟩ := Kd.at_int (Kd.R_reads' HO_7.out).2.2 ((rd_T37 l0 x10_3).f0) p128 q128; obtain rfl : (⟨go10, 0, none⟩ : Addr) = ad128 := (by injection e128); (first | simp only [add_plain] at hx128_0 | simp only [add_at] at hx128_0 | simp only [Addr.add, Nat.zero_add] at hx128_0 | skip); replace p128 := eq_true p128; replace q128 := eq_true q128; have p49 : 0 ≤ (((rd_T37 l0 x10_3).f0) : Int) := of_decide_eq_true (by first | (with_reducible assumption) | assumption); have q49 : (((rd_T37 l0 x10_3).f0) : Int) < ((x7_3.length : Int) : Int) := of_decide_eq_true (by first | (with_reducible assumption) | assumption); obtain ⟨hx49_0, hf49_0⟩ := Kd.R_celln 0 HO_7.out (((rd_T37 l0 x10_3).f0) : Int) p49 q49; replace p49 := eq_true p49; replace q49 := eq_true q49; obtain ⟨hy52_, hz52_⟩ := Kd.R_celln 0 HO_7.out (((rd_T37 l0 x10_3).f0) : Int) (of_decide_eq_true (by first | (with_reducible assumption) | assumption)) (of_decide_eq_true (by first | (with_reducible assumption) | assumption)); have HP52 := Kd.R_putg HO_7.out (((rd_T37 l0 x10_3).f0) : Int) (wrap64 ((rd y122 ((rd_T37 l0 x10_3).f1)) + ((rd_T37 l0 x10_3).f2)))) | ((with_reducible refine gate_store (t := 3) (p := 121) rfl ?_); (try (rw [drewN_self w51]; generalize hq_ : World.drewN w51 _ = w51; have n0_ := Aside0.mk (Kd.R_at hq_ HO_7.out); have n1_ := Aside0.mk (below_at hq_ HB.out); clear hq_ HO_7 HB; have HO_7 := n0_; have HB := n1_; clear n0_ n1_; (try (obtain ⟨hy52_, hz52_⟩ := Kd.R_celln 0 HO_7.out (((rd_T37 l0 x10_3).f0) : Int) (of_decide_eq_true (by first | (with_reducible assumption) | assumption)) (of_decide_eq_true (by first | (with_reducible assumption) | assumption)))); (try (have HP52 := Kd.R_putg HO_7.out (((rd_T37 l0 x10_3).f0) : Int) (wrap64 ((rd y122 ((rd_T37 l0 x10_3).f1)) + ((rd_T37 l0 x10_3).f2))))))); refine store_event (t := 3) (p := 121) (v := ?vo_w53) (w1 := (w51.setCell ⟨go10, (((rd_T37 l0 x10_3).f0) : Int).toNat, none⟩ (.int .i64 (wrap64 ((rd y122 ((rd_T37 l0 x10_3).f1)) + ((rd_T37 l0 x10_3).f2)))))) ?hg ?ho ?hn ?hr ?_; (case ho => rfl); (case hg => rfl); (case hn => rfl); (case hr => first | (go_simp; done) | (go_simp; rfl)); intro w53 hw; have hg : w51.grownBy w53 (some go10) := (by rw [hw]; exact HP52.2); have hp_ : Kd.R (Kd.int .i64) 3 w53 w.heap.size (fun _ => True) (.slice (some ⟨go10, 0, none⟩) x7_3.length co10) y129 := (by rw [hw, Ny129.out]; exact HP52.1); clear HP52; have n0_ := Aside0.mk (hp_); have n1_ := Aside0.mk ((by rw [hw]; exact below_set (HB.out) GB10.out : Below w.heap.size w w53)); clear HO_7; clear HB; have HO_7 := n0_; have HB := n1_; clear n0_ n1_; clear hg hw hp_)))
                                                              (try simp only [← hl7_3])
                                                              go_roundg kj27
                                                              case measure => have := HK1.out; have := HK2.out; have := HK3.out; have := HJ15.out; have := HJ27.out; omega
                                                              case rel => exact ⟨(y129), (true), (wrap64 (x10_3 + 1)), (by first | rfl | (simp; done) | (simp [*]; done)), (by first | rfl | (simp; done) | (simp [*]; done)), H', ⟨by have := HK1.out; have := HK2.out; have := HK3.out; have := HJ15.out; have := HJ27.out; omega⟩, ⟨by (try simp only [hl7_2]); (try simp only [hl7_3]); (with_reducible repeat (first | apply Kd.R_alloc | apply Kd.R_drewN | apply Kd.R_drew)); first | exact HO_7.out | (rw [Ny129.out]; exact (Kd.R_putg (Kd.R_drewN HO_7.out _) _ _).1) | (rw [Ny129.out]; exact (Kd.R_putg HO_7.out _ _).1)⟩, ⟨by repeat (first | (with_reducible first | exact HB.out | apply below_alloc | apply pw_below_drewN | apply below_drew1) | exact HB.out | (first | exact below_set (pw_below_drewN HB.out _) GB10.out | exact below_set HB.out GB10.out))⟩⟩
                                                            · rw [if_neg c48] at H
                                                              have c48b0 : decide ((wrap64 ((rd y122 ((rd_T37 l0 x10_3).f1)) + ((rd_T37 l0 x10_3).f2))) < (rd y122 ((rd_T37 l0 x10_3).f0))) = false := decide_eq_false c48
                                                              clear c48
                                                              have H' := Aside0.mk H
                                                              clear H
                                                              have p36 : 0 ≤ (((rd_T37 l0 x10_3).f1) : Int) := of_decide_eq_true (by first | (with_reducible assumption) | assumption)
                                                              have q36 : (((rd_T37 l0 x10_3).f1) : Int) < ((x7_3.length : Int) : Int) := of_decide_eq_true (by first | (with_reducible assumption) | assumption)
                                                              obtain ⟨hx36_0, hf36_0⟩ := Kd.R_celln 0 HO_7.out (((rd_T37 l0 x10_3).f1) : Int) p36 q36
                                                              replace p36 := eq_true p36
                                                              replace q36 := eq_true q36
                                                              have HP54 := Kd.R_putg HO_7.out (((rd_T37 l0 x10_3).f1) : Int) (wrap64 ((rd x7_3 ((rd_T37 l0 x10_3).f0)) + ((rd_T37 l0 x10_3).f2)))
                                                              go_wp2_with (first | ((with_reducible refine gate_store (t := 3) (p := 87) rfl ?_); (try (rw [drewN_self wc]; generalize hq_ : World.drewN wc _ = wc; have n0_ := Aside0.mk (Kd.R_at hq_ HO_7.out); have n1_ := Aside0.mk (below_at hq_ HB.out); clear hq_ HO_7 HB; have HO_7 := n0_; have HB := n1_; clear n0_ n1_; (try (have HP54 := Kd.R_putg HO_7.out (((rd_T37 l0 x10_3).f1) : Int) (wrap64 ((rd x7_3 ((rd_T37 l0 x10_3).f0)) + ((rd_T37 l0 x10_3).f2))))))); refine store_event (t := 3) (p := 87) (v := ?vo_w55) (w1 := (wc.setCell ⟨go10, (((rd_T37 l0 x10_3).f1) : Int).toNat, none⟩ (.int .i64 (wrap64 ((rd x7_3 ((rd_T37 l0 x10_3).f0)) + ((rd_T37 l0 x10_3).f2)))))) ?hg ?ho ?hn ?hr ?_; (case ho => rfl); (case hg => rfl); (case hn => rfl); (case hr => first | (go_simp; done) | (go_simp; rfl)); intro w55 hw; have hg : wc.grownBy w55 (some go10) := (by rw [hw]; exact HP54.2); have hp_ : Kd.R (Kd.int .i64) 3 w55 w.heap.size (fun _ => True) (.slice (some ⟨go10, 0, none⟩) x7_3.length co10) y122 := (by rw [hw, Ny122.out]; exact HP54.1); clear HP54; have n0_ := Aside0.mk (hp_); have n1_ := Aside0.mk ((by rw [hw]; exact below_set (HB.out) GB10.out : Below w.heap.size w w55)); clear HO_7; clear HB; have HO_7 := n0_; have HB := n1_; clear n0_ n1_; clear hg hw hp_; have p123 : 0 ≤ (((rd_T37 l0 x10_3).f1) : Int) := of_decide_eq_true (by first | (with_reducible assumption) | assumption); have q123 : ((rd_T37 l0 x10_3).f1) < (y122.length : Int) := (by have h_ : (((rd_T37 l0 x10_3).f1) : Int) < ((x7_3.length : Int) : Int) := of_decide_eq_true (by first | (with_reducible assumption) | assumption); first | (have e_ := (Kd.R_reads' HO_7.out).1; omega) | simpa only [Ny122.out, List.length_set] using h_); have ql123 : ((((rd_T37 l0 x10_3).f1) : Int) < ((x7_3.length : Int) : Int)) = True := eq_true (of_decide_eq_true (by first | (with_reducible assumption) | assumption)); obtain ⟨ad123, e123, hx123_0⟩ := Kd.at_int (Kd.R_reads' HO_7.out).2.2 ((rd_T37 l0 x10_3).f1) p123 q123; obtain rfl : (⟨go10, 0, none⟩ : Addr) = ad123 := (by injection e123); (first | simp only [add_plain] at hx123_0 | simp only [add_at] at hx123_0 | simp only [Addr.add, Nat.zero_add] at hx123_0 | skip); replace p123 := eq_true p123; replace q123 := eq_true q123; have p124 : 0 ≤ (x10_3 : Int) := of_decide_eq_true (by first | (with_reducible assumption) | assumption); have q124 : x10_3 < (l0.length : Int) := of_decide_eq_true (by first | (with_reducible assumption) | assumption); obtain ⟨ad124, e124, hx124_0, hx124_1, hx124_2, hx124_3, hx124_4⟩ := at_T37 HR0.out x10_3 p124 q124; obtain rfl : ad113 = ad124 := (by injection e124); replace hx124_0 := (HB.out.cell (World.block_lt_of_cell? w _ hx124_0)).trans hx124_0; replace hx124_1 := (HB.out.cell (World.block_lt_of_cell? w _ hx124_1)).trans hx124_1; replace hx124_2 := (HB.out.cell (World.block_lt_of_cell? w _ hx124_2)).trans hx124_2; replace hx124_3 := (HB.out.cell (World.block_lt_of_cell? w _ hx124_3)).trans hx124_3; replace hx124_4 := (HB.out.cell (World.block_lt_of_cell? w _ hx124_4)).trans hx124_4; replace p124 := eq_true p124; replace q124 := eq_true q124; have p125 : 0 ≤ (((rd_T37 l0 x10_3).f1) : Int) := of_decide_eq_true (by first | (with_reducible assumption) | assumption); have q125 : ((rd_T37 l0 x10_3).f1) < (y122.length : Int) := (by have h_ : (((rd_T37 l0 x10_3).f1) : Int) < ((x7_3.length : Int) : Int) := of_decide_eq_true (by first | (with_reducible assumption) | assumption); first | (have e_ := (Kd.R_reads' HO_7.out).1; omega) | simpa only [Ny122.out, List.length_set] using h_); have ql125 : ((((rd_T37 l0 x10_3).f1) : Int) < ((x7_3.length : Int) : Int)) = True := eq_true (of_decide_eq_true (by first | (with_reducible assumption) | assumption)); obtain ⟨ad125, e125, hx125_0⟩ := Kd.at_int (Kd.R_reads' HO_7.out).2.2 ((rd_T37 l0 x10_3).f1) p125 q125; obtain rfl : (⟨go10, 0, none⟩ : Addr) = ad125 := (by injection e125); (first | simp only [add_plain] at hx125_0 | simp only [add_at] at hx125_0 | simp only [Addr.add, Nat.zero_add] at hx125_0 | skip); replace p125 := eq_true p125; replace q125 := eq_true q125; have p126 : 0 ≤ (((rd_T37 l0 x10_3).f0) : Int) := of_decide_eq_true (by first | (with_reducible assumption) | assumption); have q126 : ((rd_T37 l0 x10_3).f0) < (y122.length : Int) := (by have h_ : (((rd_T37 l0 x10_3).f0) : Int) < ((x7_3.length : Int) : Int) := of_decide_eq_true (by first | (with_reducible assumption) | assumption); first | (have e_ := (Kd.R_reads' HO_7.out).1; omega) | simpa only [Ny122.out, List.length_set] using h_); have ql126 : ((((rd_T37 l0 x10_3).f0) : Int) < ((x7_3.length : Int) : Int)) = True := eq_true (of_decide_eq_true (by first | (with_reducible assumption) | assumption)); obtain ⟨ad126, e126, hx126_0⟩ := Kd.at_int (Kd.R_reads' HO_7.out).2.2 ((rd_T37 l0 x10_3).f0) p126 q126; obtain rfl : (⟨go10, 0, none⟩ : Addr) = ad126 := (by injection e126); (first | simp only [add_plain] at hx126_0 | simp only [add_at] at hx126_0 | simp only [Addr.add, Nat.zero_add] at hx126_0 | skip); replace p126 := eq_true p126; replace q126 := eq_true q126; have p128 : 0 ≤ (((rd_T37 l0 x10_3).f0) : Int) := of_decide_eq_true (by first | (with_reducible assumption) | assumption); have q128 : ((rd_T37 l0 x10_3).f0) < (y122.length : Int) := (by have h_ : (((rd_T37 l0 x10_3).f0) : Int) < ((x7_3.length : Int) : Int) := of_decide_eq_true (by first | (with_reducible assumption) | assumption); first | (have e_ := (Kd.R_reads' HO_7.out).1; omega) | simpa only [Ny122.out, List.length_set] using h_); have ql128 : ((((rd_T37 l0 x10_3).f0) : Int) < ((x7_3.length : Int) : Int)) = True := eq_true (of_decide_eq_true (by first | (with_reducible assumption) | assumption)); obtain ⟨ad128, e128, hx128_0⟩ := Kd.at_int (Kd.R_reads' HO_7.out).2.2 ((rd_T37 l0 x10_3).f0) p128 q128; obtain rfl : (⟨go10, 0, none⟩ : Addr) = ad128 := (by injection e128); (first | simp only [add_plain] at hx128_0 | simp only [add_at] at hx128_0 | simp only [Addr.add, Nat.zero_add] at hx128_0 | skip); replace p128 := eq_true p128; replace q128 := eq_true q128))
                                                              repeat (go_quiet (first | ((with_reducible refine gate_store (t := 3) (p := 87) rfl ?_); (try (rw [drewN_self wc]; generalize hq_ : World.drewN wc _ = wc; have n0_ := Aside0.mk (Kd.R_at hq_ HO_7.out); have n1_ := Aside0.mk (below_at hq_ HB.out); clear hq_ HO_7 HB; have HO_7 := n0_; have HB := n1_; clear n0_ n1_; (try (have HP54 := Kd.R_putg HO_7.out (((rd_T37 l0 x10_3).f1) : Int) (wrap64 ((rd x7_3 ((rd_T37 l0 x10_3).f0)) + ((rd_T37 l0 x10_3).f2))))))); refine store_event (t := 3) (p := 87) (v := ?vo_w55) (w1 := (wc.setCell ⟨go10, (((rd_T37 l0 x10_3).f1) : Int).toNat, none⟩ (.int .i64 (wrap64 ((rd x7_3 ((rd_T37 l0 x10_3).f0)) + ((rd_T37 l0 x10_3).f2)))))) ?hg ?ho ?hn ?hr ?_; (case ho => rfl); (case hg => rfl); (case hn => rfl); (case hr => first | (go_simp; done) | (go_simp; rfl)); intro w55 hw; have hg : wc.grownBy w55 (some go10) := (by rw [hw]; exact HP54.2); have hp_ : Kd.R (Kd.int .i64) 3 w55 w.heap.size (fun _ => True) (.slice (some ⟨go10, 0, none⟩) x7_3.length co10) y122 := (by rw [hw, Ny122.out]; exact HP54.1); clear HP54; have n0_ := Aside0.mk (hp_); have n1_ := Aside0.mk ((by rw [hw]; exact below_set (HB.out) GB10.out : Below w.heap.size w w55)); clear HO_7; clear HB; have HO_7 := n0_; have HB := n1_; clear n0_ n1_; clear hg hw hp_; have p123 : 0 ≤ (((rd_T37 l0 x10_3).f1) : Int) := of_decide_eq_true (by first | (with_reducible assumption) | assumption); have q123 : ((rd_T37 l0 x10_3).f1) < (y122.length : Int) := (by have h_ : (((rd_T37 l0 x10_3).f1) : Int) < ((x7_3.length : Int) : Int) := of_decide_eq_true (by first | (with_reducible assumption) | assumption); first | (have e_ := (Kd.R_reads' HO_7.out).1; omega) | simpa only [Ny122.out, List.length_set] using h_); have ql123 : ((((rd_T37 l0 x10_3).f1) : Int) < ((x7_3.length : Int) : Int)) = True := eq_true (of_decide_eq_true (by first | (with_reducible assumption) | assumption)); obtain ⟨ad123, e123, hx123_0⟩ := Kd.at_int (Kd.R_reads' HO_7.out).2.2 ((rd_T37 l0 x10_3).f1) p123 q123; obtain rfl : (⟨go10, 0, none⟩ : Addr) = ad123 := (by injection e123); (first | simp only [add_plain] at hx123_0 | simp only [add_at] at hx123_0 | simp only [Addr.add, Nat.zero_add] at hx123_0 | skip); replace p123 := eq_true p123; replace q123 := eq_true q123; have p124 : 0 ≤ (x10_3 : Int) := of_decide_eq_true (by first | (with_reducible assumption) | assumption); have q124 : x10_3 < (l0.length : Int) := of_decide_eq_true (by first | (with_reducible assumption) | assumption); obtain ⟨ad124, e124, hx124_0, hx124_1, hx124_2, hx124_3, hx124_4⟩ := at_T37 HR0.out x10_3 p124 q124; obtain rfl : ad113 = ad124 := (by injection e124); replace hx124_0 := (HB.out.cell (World.block_lt_of_cell? w _ hx124_0)).trans hx124_0; replace hx124_1 := (HB.out.cell (World.block_lt_of_cell? w _ hx124_1)).trans hx124_1; replace hx124_2 := (HB.out.cell (World.block_lt_of_cell? w _ hx124_2)).trans hx124_2; replace hx124_3 := (HB.out.cell (World.block_lt_of_cell? w _ hx124_3)).trans hx124_3; replace hx124_4 := (HB.out.cell (World.block_lt_of_cell? w _ hx124_4)).trans hx124_4; replace p124 := eq_true p124; replace q124 := eq_true q124; have p125 : 0 ≤ (((rd_T37 l0 x10_3).f1) : Int) := of_decide_eq_true (by first | (with_reducible assumption) | assumption); have q125 : ((rd_T37 l0 x10_3).f1) < (y122.length : Int) := (by have h_ : (((rd_T37 l0 x10_3).f1) : Int) < ((x7_3.length : Int) : Int) := of_decide_eq_true (by first | (with_reducible assumption) | assumption); first | (have e_ := (Kd.R_reads' HO_7.out).1; omega) | simpa only [Ny122.out, List.length_set] using h_); have ql125 : ((((rd_T37 l0 x10_3).f1) : Int) < ((x7_3.length : Int) : Int)) = True := eq_true (of_decide_eq_true (by first | (with_reducible assumption) | assumption)); obtain ⟨ad125, e125, hx125_0⟩ := Kd.at_int (Kd.R_reads' HO_7.out).2.2 ((rd_T37 l0 x10_3).f1) p125 q125; obtain rfl : (⟨go10, 0, none⟩ : Addr) = ad125 := (by injection e125); (first | simp only [add_plain] at hx125_0 | simp only [add_at] at hx125_0 | simp only [Addr.add, Nat.zero_add] at hx125_0 | skip); replace p125 := eq_true p125; replace q125 := eq_true q125; have p126 : 0 ≤ (((rd_T37 l0 x10_3).f0) : Int) := of_decide_eq_true (by first | (with_reducible assumption) | assumption); have q126 : ((rd_T37 l0 x10_3).f0) < (y122.length : Int) := (by have h_ : (((rd_T37 l0 x10_3).f0) : Int) < ((x7_3.length : Int) : Int) := of_decide_eq_true (by first | (with_reducible assumption) | assumption); first | (have e_ := (Kd.R_reads' HO_7.out).1; omega) | simpa only [Ny122.out, List.length_set] using h_); have ql126 : ((((rd_T37 l0 x10_3).f0) : Int) < ((x7_3.length : Int) : Int)) = True := eq_true (of_decide_eq_true (by first | (with_reducible assumption) | assumption)); obtain ⟨ad126, e126, hx126_0⟩ := Kd.at_int (Kd.R_reads' HO_7.out).2.2 ((rd_T37 l0 x10_3).f0) p126 q126; obtain rfl : (⟨go10, 0, none⟩ : Addr) = ad126 := (by injection e126); (first | simp only [add_plain] at hx126_0 | simp only [add_at] at hx126_0 | simp only [Addr.add, Nat.zero_add] at hx126_0 | skip); replace p126 := eq_true p126; replace q126 := eq_true q126; have p128 : 0 ≤ (((rd_T37 l0 x10_3).f0) : Int) := of_decide_eq_true (by first | (with_reducible assumption) | assumption); have q128 : ((rd_T37 l0 x10_3).f0) < (y122.length : Int) := (by have h_ : (((rd_T37 l0 x10_3).f0) : Int) < ((x7_3.length : Int) : Int) := of_decide_eq_true (by first | (with_reducible assumption) | assumption); first | (have e_ := (Kd.R_reads' HO_7.out).1; omega) | simpa only [Ny122.out, List.length_set] using h_); have ql128 : ((((rd_T37 l0 x10_3).f0) : Int) < ((x7_3.length : Int) : Int)) = True := eq_true (of_decide_eq_true (by first | (with_reducible assumption) | assumption)); obtain ⟨ad128, e128, hx128_0⟩ := Kd.at_int (Kd.R_reads' HO_7.out).2.2 ((rd_T37 l0 x10_3).f0) p128 q128; obtain rfl : (⟨go10, 0, none⟩ : Addr) = ad128 := (by injection e128); (first | simp only [add_plain] at hx128_0 | simp only [add_at] at hx128_0 | simp only [Addr.add, Nat.zero_add] at hx128_0 | skip); replace p128 := eq_true p128; replace q128 := eq_true q128)); try go_wp2_with (first | ((with_reducible refine gate_store (t := 3) (p := 87) rfl ?_); (try (rw [drewN_self wc]; generalize hq_ : World.drewN wc _ = wc; have n0_ := Aside0.mk (Kd.R_at hq_ HO_7.out); have n1_ := Aside0.mk (below_at hq_ HB.out); clear hq_ HO_7 HB; have HO_7 := n0_; have HB := n1_; clear n0_ n1_; (try (have HP54 := Kd.R_putg HO_7.out (((rd_T37 l0 x10_3).f1) : Int) (wrap64 ((rd x7_3 ((rd_T37 l0 x10_3).f0)) + ((rd_T37 l0 x10_3).f2))))))); refine store_event (t := 3) (p := 87) (v := ?vo_w55) (w1 := (wc.setCell ⟨go10, (((rd_T37 l0 x10_3).f1) : Int).toNat, none⟩ (.int .i64 (wrap64 ((rd x7_3 ((rd_T37 l0 x10_3).f0)) + ((rd_T37 l0 x10_3).f2)))))) ?hg ?ho ?hn ?hr ?_; (case ho => rfl); (case hg => rfl); (case hn => rfl); (case hr => first | (go_simp; done) | (go_simp; rfl)); intro w55 hw; have hg : wc.grownBy w55 (some go10) := (by rw [hw]; exact HP54.2); have hp_ : Kd.R (Kd.int .i64) 3 w55 w.heap.size (fun _ => True) (.slice (some ⟨go10, 0, none⟩) x7_3.length co10) y122 := (by rw [hw, Ny122.out]; exact HP54.1); clear HP54; have n0_ := Aside0.mk (hp_); have n1_ := Aside0.mk ((by rw [hw]; exact below_set (HB.out) GB10.out : Below w.heap.size w w55)); clear HO_7; clear HB; have HO_7 := n0_; have HB := n1_; clear n0_ n1_; clear hg hw hp_; have p123 : 0 ≤ (((rd_T37 l0 x10_3).f1) : Int) := of_decide_eq_true (by first | (with_reducible assumption) | assumption); have q123 : ((rd_T37 l0 x10_3).f1) < (y122.length : Int) := (by have h_ : (((rd_T37 l0 x10_3).f1) : Int) < ((x7_3.length : Int) : Int) := of_decide_eq_true (by first | (with_reducible assumption) | assumption); first | (have e_ := (Kd.R_reads' HO_7.out).1; omega) | simpa only [Ny122.out, List.length_set] using h_); have ql123 : ((((rd_T37 l0 x10_3).f1) : Int) < ((x7_3.length : Int) : Int)) = True := eq_true (of_decide_eq_true (by first | (with_reducible assumption) | assumption)); obtain ⟨ad123, e123, hx123_0⟩ := Kd.at_int (Kd.R_reads' HO_7.out).2.2 ((rd_T37 l0 x10_3).f1) p123 q123; obtain rfl : (⟨go10, 0, none⟩ : Addr) = ad123 := (by injection e123); (first | simp only [add_plain] at hx123_0 | simp only [add_at] at hx123_0 | simp only [Addr.add, Nat.zero_add] at hx123_0 | skip); replace p123 := eq_true p123; replace q123 := eq_true q123; have p124 : 0 ≤ (x10_3 : Int) := of_decide_eq_true (by first | (with_reducible assumption) | assumption); have q124 : x10_3 < (l0.length : Int) := of_decide_eq_true (by first | (with_reducible assumption) | assumption); obtain ⟨ad124, e124, hx124_0, hx124_1, hx124_2, hx124_3, hx124_4⟩ := at_T37 HR0.out x10_3 p124 q124; obtain rfl : ad113 = ad124 := (by injection e124); replace hx124_0 := (HB.out.cell (World.block_lt_of_cell? w _ hx124_0)).trans hx124_0; replace hx124_1 := (HB.out.cell (World.block_lt_of_cell? w _ hx124_1)).trans hx124_1; replace hx124_2 := (HB.out.cell (World.block_lt_of_cell? w _ hx124_2)).trans hx124_2; replace hx124_3 := (HB.out.cell (World.block_lt_of_cell? w _ hx124_3)).trans hx124_3; replace hx124_4 := (HB.out.cell (World.block_lt_of_cell? w _ hx124_4)).trans hx124_4; replace p124 := eq_true p124; replace q124 := eq_true q124; have p125 : 0 ≤ (((rd_T37 l0 x10_3).f1) : Int) := of_decide_eq_true (by first | (with_reducible assumption) | assumption); have q125 : ((rd_T37 l0 x10_3).f1) < (y122.length : Int) := (by have h_ : (((rd_T37 l0 x10_3).f1) : Int) < ((x7_3.length : Int) : Int) := of_decide_eq_true (by first | (with_reducible assumption) | assumption); first | (have e_ := (Kd.R_reads' HO_7.out).1; omega) | simpa only [Ny122.out, List.length_set] using h_); have ql125 : ((((rd_T37 l0 x10_3).f1) : Int) < ((x7_3.length : Int) : Int)) = True := eq_true (of_decide_eq_true (by first | (with_reducible assumption) | assumption)); obtain ⟨ad125, e125, hx125_0⟩ := Kd.at_int (Kd.R_reads' HO_7.out).2.2 ((rd_T37 l0 x10_3).f1) p125 q125; obtain rfl : (⟨go10, 0, none⟩ : Addr) = ad125 := (by injection e125); (first | simp only [add_plain] at hx125_0 | simp only [add_at] at hx125_0 | simp only [Addr.add, Nat.zero_add] at hx125_0 | skip); replace p125 := eq_true p125; replace q125 := eq_true q125; have p126 : 0 ≤ (((rd_T37 l0 x10_3).f0) : Int) := of_decide_eq_true (by first | (with_reducible assumption) | assumption); have q126 : ((rd_T37 l0 x10_3).f0) < (y122.length : Int) := (by have h_ : (((rd_T37 l0 x10_3).f0) : Int) < ((x7_3.length : Int) : Int) := of_decide_eq_true (by first | (with_reducible assumption) | assumption); first | (have e_ := (Kd.R_reads' HO_7.out).1; omega) | simpa only [Ny122.out, List.length_set] using h_); have ql126 : ((((rd_T37 l0 x10_3).f0) : Int) < ((x7_3.length : Int) : Int)) = True := eq_true (of_decide_eq_true (by first | (with_reducible assumption) | assumption)); obtain ⟨ad126, e126, hx126_0⟩ := Kd.at_int (Kd.R_reads' HO_7.out).2.2 ((rd_T37 l0 x10_3).f0) p126 q126; obtain rfl : (⟨go10, 0, none⟩ : Addr) = ad126 := (by injection e126); (first | simp only [add_plain] at hx126_0 | simp only [add_at] at hx126_0 | simp only [Addr.add, Nat.zero_add] at hx126_0 | skip); replace p126 := eq_true p126; replace q126 := eq_true q126; have p128 : 0 ≤ (((rd_T37 l0 x10_3).f0) : Int) := of_decide_eq_true (by first | (with_reducible assumption) | assumption); have q128 : ((rd_T37 l0 x10_3).f0) < (y122.length : Int) := (by have h_ : (((rd_T37 l0 x10_3).f0) : Int) < ((x7_3.length : Int) : Int) := of_decide_eq_true (by first | (with_reducible assumption) | assumption); first | (have e_ := (Kd.R_reads' HO_7.out).1; omega) | simpa only [Ny122.out, List.length_set] using h_); have ql128 : ((((rd_T37 l0 x10_3).f0) : Int) < ((x7_3.length : Int) : Int)) = True := eq_true (of_decide_eq_true (by first | (with_reducible assumption) | assumption)); obtain ⟨ad128, e128, hx128_0⟩ := Kd.at_int (Kd.R_reads' HO_7.out).2.2 ((rd_T37 l0 x10_3).f0) p128 q128; obtain rfl : (⟨go10, 0, none⟩ : Addr) = ad128 := (by injection e128); (first | simp only [add_plain] at hx128_0 | simp only [add_at] at hx128_0 | simp only [Addr.add, Nat.zero_add] at hx128_0 | skip); replace p128 := eq_true p128; replace q128 := eq_true q128)))
                                                              (try simp only [← hl7_3])
                                                              go_roundg kj27
                                                              case measure => have := HK1.out; have := HK2.out; have := HK3.out; have := HJ15.out; have := HJ27.out; omega
                                                              case rel => exact ⟨(y122), (true), (wrap64 (x10_3 + 1)), (by first | rfl | (simp; done) | (simp [*]; done)), (by first | rfl | (simp; done) | (simp [*]; done)), H', ⟨by have := HK1.out; have := HK2.out; have := HK3.out; have := HJ15.out; have := HJ27.out; omega⟩, ⟨by (try simp only [hl7_2]); (try simp only [hl7_3]); (with_reducible repeat (first | apply Kd.R_alloc | apply Kd.R_drewN | apply Kd.R_drew)); first | exact HO_7.out | (rw [Ny122.out]; exact (Kd.R_putg (Kd.R_drewN HO_7.out _) _ _).1) | (rw [Ny122.out]; exact (Kd.R_putg HO_7.out _ _).1)⟩, ⟨by repeat (first | (with_reducible first | exact HB.out | apply below_alloc | apply pw_below_drewN | apply below_drew1) | exact HB.out | (first | exact below_set (pw_below_drewN HB.out _) GB10.out | exact below_set HB.out GB10.out))⟩⟩
                                                        · rw [if_neg c41] at H
                                                          exact absurd H (by simp)
                                                      · rw [if_neg c40] at H
                                                        exact absurd H (by simp)
                                                    · rw [if_neg c39] at H
                                                      have c39b0 : decide (0 ≤ (rd y122 ((rd_T37 l0 x10_3).f1))) = false := decide_eq_false c39
                                                      clear c39
                                                      have H' := Aside0.mk H
                                                      clear H
                                                      have p36 : 0 ≤ (((rd_T37 l0 x10_3).f1) : Int) := of_decide_eq_true (by first | (with_reducible assumption) | assumption)
                                                      have q36 : (((rd_T37 l0 x10_3).f1) : Int) < ((x7_3.length : Int) : Int) := of_decide_eq_true (by first | (with_reducible assumption) | assumption)
                                                      obtain ⟨hx36_0, hf36_0⟩ := Kd.R_celln 0 HO_7.out (((rd_T37 l0 x10_3).f1) : Int) p36 q36
                                                      replace p36 := eq_true p36
                                                      replace q36 := eq_true q36
                                                      have HP56 := Kd.R_putg HO_7.out (((rd_T37 l0 x10_3).f1) : Int) (wrap64 ((rd x7_3 ((rd_T37 l0 x10_3).f0)) + ((rd_T37 l0 x10_3).f2)))
                                                      go_wp2_with (first | ((with_reducible refine gate_store (t := 3) (p := 87) rfl ?_); (try (rw [drewN_self wc]; generalize hq_ : World.drewN wc _ = wc; have n0_ := Aside0.mk (Kd.R_at hq_ HO_7.out); have n1_ := Aside0.mk (below_at hq_ HB.out); clear hq_ HO_7 HB; have HO_7 := n0_; have HB := n1_; clear n0_ n1_; (try (have HP56 := Kd.R_putg HO_7.out (((rd_T37 l0 x10_3).f1) : Int) (wrap64 ((rd x7_3 ((rd_T37 l0 x10_3).f0)) + ((rd_T37 l0 x10_3).f2))))))); refine store_event (t := 3) (p := 87) (v := ?vo_w57) (w1 := (wc.setCell ⟨go10, (((rd_T37 l0 x10_3).f1) : Int).toNat, none⟩ (.int .i64 (wrap64 ((rd x7_3 ((rd_T37 l0 x10_3).f0)) + ((rd_T37 l0 x10_3).f2)))))) ?hg ?ho ?hn ?hr ?_; (case ho => rfl); (case hg => rfl); (case hn => rfl); (case hr => first | (go_simp; done) | (go_simp; rfl)); intro w57 hw; have hg : wc.grownBy w57 (some go10) := (by rw [hw]; exact HP56.2); have hp_ : Kd.R (Kd.int .i64) 3 w57 w.heap.size (fun _ => True) (.slice (some ⟨go10, 0, none⟩) x7_3.length co10) y122 := (by rw [hw, Ny122.out]; exact HP56.1); clear HP56; have n0_ := Aside0.mk (hp_); have n1_ := Aside0.mk ((by rw [hw]; exact below_set (HB.out) GB10.out : Below w.heap.size w w57)); clear HO_7; clear HB; have HO_7 := n0_; have HB := n1_; clear n0_ n1_; clear hg hw hp_; have p123 : 0 ≤ (((rd_T37 l0 x10_3).f1) : Int) := of_decide_eq_true (by first | (with_reducible assumption) | assumption); have q123 : ((rd_T37 l0 x10_3).f1) < (y122.length : Int) := (by have h_ : (((rd_T37 l0 x10_3).f1) : Int) < ((x7_3.length : Int) : Int) := of_decide_eq_true (by first | (with_reducible assumption) | assumption); first | (have e_ := (Kd.R_reads' HO_7.out).1; omega) | simpa only [Ny122.out, List.length_set] using h_); have ql123 : ((((rd_T37 l0 x10_3).f1) : Int) < ((x7_3.length : Int) : Int)) = True := eq_true (of_decide_eq_true (by first | (with_reducible assumption) | assumption)); obtain ⟨ad123, e123, hx123_0⟩ := Kd.at_int (Kd.R_reads' HO_7.out).2.2 ((rd_T37 l0 x10_3).f1) p123 q123; obtain rfl : (⟨go10, 0, none⟩ : Addr) = ad123 := (by injection e123); (first | simp only [add_plain] at hx123_0 | simp only [add_at] at hx123_0 | simp only [Addr.add, Nat.zero_add] at hx123_0 | skip); replace p123 := eq_true p123; replace q123 := eq_true q123; have p124 : 0 ≤ (x10_3 : Int) := of_decide_eq_true (by first | (with_reducible assumption) | assumption); have q124 : x10_3 < (l0.length : Int) := of_decide_eq_true (by first | (with_reducible assumption) | assumption); obtain ⟨ad124, e124, hx124_0, hx124_1, hx124_2, hx124_3, hx124_4⟩ := at_T37 HR0.out x10_3 p124 q124; obtain rfl : ad113 = ad124 := (by injection e124); replace hx124_0 := (HB.out.cell (World.block_lt_of_cell? w _ hx124_0)).trans hx124_0; replace hx124_1 := (HB.out.cell (World.block_lt_of_cell? w _ hx124_1)).trans hx124_1; replace hx124_2 := (HB.out.cell (World.block_lt_of_cell? w _ hx124_2)).trans hx124_2; replace hx124_3 := (HB.out.cell (World.block_lt_of_cell? w _ hx124_3)).trans hx124_3; replace hx124_4 := (HB.out.cell (World.block_lt_of_cell? w _ hx124_4)).trans hx124_4; replace p124 := eq_true p124; replace q124 := eq_true q124; have p125 : 0 ≤ (((rd_T37 l0 x10_3).f1) : Int) := of_decide_eq_true (by first | (with_reducible assumption) | assumption); have q125 : ((rd_T37 l0 x10_3).f1) < (y122.length : Int) := (by have h_ : (((rd_T37 l0 x10_3).f1) : Int) < ((x7_3.length : Int) : Int) := of_decide_eq_true (by first | (with_reducible assumption) | assumption); first | (have e_ := (Kd.R_reads' HO_7.out).1; omega) | simpa only [Ny122.out, List.length_set] using h_); have ql125 : ((((rd_T37 l0 x10_3).f1) : Int) < ((x7_3.length : Int) : Int)) = True := eq_true (of_decide_eq_true (by first | (with_reducible assumption) | assumption)); obtain ⟨ad125, e125, hx125_0⟩ := Kd.at_int (Kd.R_reads' HO_7.out).2.2 ((rd_T37 l0 x10_3).f1) p125 q125; obtain rfl : (⟨go10, 0, none⟩ : Addr) = ad125 := (by injection e125); (first | simp only [add_plain] at hx125_0 | simp only [add_at] at hx125_0 | simp only [Addr.add, Nat.zero_add] at hx125_0 | skip); replace p125 := eq_true p125; replace q125 := eq_true q125))
                                                      repeat (go_quiet (first | ((with_reducible refine gate_store (t := 3) (p := 87) rfl ?_); (try (rw [drewN_self wc]; generalize hq_ : World.drewN wc _ = wc; have n0_ := Aside0.mk (Kd.R_at hq_ HO_7.out); have n1_ := Aside0.mk (below_at hq_ HB.out); clear hq_ HO_7 HB; have HO_7 := n0_; have HB := n1_; clear n0_ n1_; (try (have HP56 := Kd.R_putg HO_7.out (((rd_T37 l0 x10_3).f1) : Int) (wrap64 ((rd x7_3 ((rd_T37 l0 x10_3).f0)) + ((rd_T37 l0 x10_3).f2))))))); refine store_event (t := 3) (p := 87) (v := ?vo_w57) (w1 := (wc.setCell ⟨go10, (((rd_T37 l0 x10_3).f1) : Int).toNat, none⟩ (.int .i64 (wrap64 ((rd x7_3 ((rd_T37 l0 x10_3).f0)) + ((rd_T37 l0 x10_3).f2)))))) ?hg ?ho ?hn ?hr ?_; (case ho => rfl); (case hg => rfl); (case hn => rfl); (case hr => first | (go_simp; done) | (go_simp; rfl)); intro w57 hw; have hg : wc.grownBy w57 (some go10) := (by rw [hw]; exact HP56.2); have hp_ : Kd.R (Kd.int .i64) 3 w57 w.heap.size (fun _ => True) (.slice (some ⟨go10, 0, none⟩) x7_3.length co10) y122 := (by rw [hw, Ny122.out]; exact HP56.1); clear HP56; have n0_ := Aside0.mk (hp_); have n1_ := Aside0.mk ((by rw [hw]; exact below_set (HB.out) GB10.out : Below w.heap.size w w57)); clear HO_7; clear HB; have HO_7 := n0_; have HB := n1_; clear n0_ n1_; clear hg hw hp_; have p123 : 0 ≤ (((rd_T37 l0 x10_3).f1) : Int) := of_decide_eq_true (by first | (with_reducible assumption) | assumption); have q123 : ((rd_T37 l0 x10_3).f1) < (y122.length : Int) := (by have h_ : (((rd_T37 l0 x10_3).f1) : Int) < ((x7_3.length : Int) : Int) := of_decide_eq_true (by first | (with_reducible assumption) | assumption); first | (have e_ := (Kd.R_reads' HO_7.out).1; omega) | simpa only [Ny122.out, List.length_set] using h_); have ql123 : ((((rd_T37 l0 x10_3).f1) : Int) < ((x7_3.length : Int) : Int)) = True := eq_true (of_decide_eq_true (by first | (with_reducible assumption) | assumption)); obtain ⟨ad123, e123, hx123_0⟩ := Kd.at_int (Kd.R_reads' HO_7.out).2.2 ((rd_T37 l0 x10_3).f1) p123 q123; obtain rfl : (⟨go10, 0, none⟩ : Addr) = ad123 := (by injection e123); (first | simp only [add_plain] at hx123_0 | simp only [add_at] at hx123_0 | simp only [Addr.add, Nat.zero_add] at hx123_0 | skip); replace p123 := eq_true p123; replace q123 := eq_true q123; have p124 : 0 ≤ (x10_3 : Int) := of_decide_eq_true (by first | (with_reducible assumption) | assumption); have q124 : x10_3 < (l0.length : Int) := of_decide_eq_true (by first | (with_reducible assumption) | assumption); obtain ⟨ad124, e124, hx124_0, hx124_1, hx124_2, hx124_3, hx124_4⟩ := at_T37 HR0.out x10_3 p124 q124; obtain rfl : ad113 = ad124 := (by injection e124); replace hx124_0 := (HB.out.cell (World.block_lt_of_cell? w _ hx124_0)).trans hx124_0; replace hx124_1 := (HB.out.cell (World.block_lt_of_cell? w _ hx124_1)).trans hx124_1; replace hx124_2 := (HB.out.cell (World.block_lt_of_cell? w _ hx124_2)).trans hx124_2; replace hx124_3 := (HB.out.cell (World.block_lt_of_cell? w _ hx124_3)).trans hx124_3; replace hx124_4 := (HB.out.cell (World.block_lt_of_cell? w _ hx124_4)).trans hx124_4; replace p124 := eq_true p124; replace q124 := eq_true q124; have p125 : 0 ≤ (((rd_T37 l0 x10_3).f1) : Int) := of_decide_eq_true (by first | (with_reducible assumption) | assumption); have q125 : ((rd_T37 l0 x10_3).f1) < (y122.length : Int) := (by have h_ : (((rd_T37 l0 x10_3).f1) : Int) < ((x7_3.length : Int) : Int) := of_decide_eq_true (by first | (with_reducible assumption) | assumption); first | (have e_ := (Kd.R_reads' HO_7.out).1; omega) | simpa only [Ny122.out, List.length_set] using h_); have ql125 : ((((rd_T37 l0 x10_3).f1) : Int) < ((x7_3.length : Int) : Int)) = True := eq_true (of_decide_eq_true (by first | (with_reducible assumption) | assumption)); obtain ⟨ad125, e125, hx125_0⟩ := Kd.at_int (Kd.R_reads' HO_7.out).2.2 ((rd_T37 l0 x10_3).f1) p125 q125; obtain rfl : (⟨go10, 0, none⟩ : Addr) = ad125 := (by injection e125); (first | simp only [add_plain] at hx125_0 | simp only [add_at] at hx125_0 | simp only [Addr.add, Nat.zero_add] at hx125_0 | skip); replace p125 := eq_true p125; replace q125 := eq_true q125)); try go_wp2_with (first | ((with_reducible refine gate_store (t := 3) (p := 87) rfl ?_); (try (rw [drewN_self wc]; generalize hq_ : World.drewN wc _ = wc; have n0_ := Aside0.mk (Kd.R_at hq_ HO_7.out); have n1_ := Aside0.mk (below_at hq_ HB.out); clear hq_ HO_7 HB; have HO_7 := n0_; have HB := n1_; clear n0_ n1_; (try (have HP56 := Kd.R_putg HO_7.out (((rd_T37 l0 x10_3).f1) : Int) (wrap64 ((rd x7_3 ((rd_T37 l0 x10_3).f0)) + ((rd_T37 l0 x10_3).f2))))))); refine store_event (t := 3) (p := 87) (v := ?vo_w57) (w1 := (wc.setCell ⟨go10, (((rd_T37 l0 x10_3).f1) : Int).toNat, none⟩ (.int .i64 (wrap64 ((rd x7_3 ((rd_T37 l0 x10_3).f0)) + ((rd_T37 l0 x10_3).f2)))))) ?hg ?ho ?hn ?hr ?_; (case ho => rfl); (case hg => rfl); (case hn => rfl); (case hr => first | (go_simp; done) | (go_simp; rfl)); intro w57 hw; have hg : wc.grownBy w57 (some go10) := (by rw [hw]; exact HP56.2); have hp_ : Kd.R (Kd.int .i64) 3 w57 w.heap.size (fun _ => True) (.slice (some ⟨go10, 0, none⟩) x7_3.length co10) y122 := (by rw [hw, Ny122.out]; exact HP56.1); clear HP56; have n0_ := Aside0.mk (hp_); have n1_ := Aside0.mk ((by rw [hw]; exact below_set (HB.out) GB10.out : Below w.heap.size w w57)); clear HO_7; clear HB; have HO_7 := n0_; have HB := n1_; clear n0_ n1_; clear hg hw hp_; have p123 : 0 ≤ (((rd_T37 l0 x10_3).f1) : Int) := of_decide_eq_true (by first | (with_reducible assumption) | assumption); have q123 : ((rd_T37 l0 x10_3).f1) < (y122.length : Int) := (by have h_ : (((rd_T37 l0 x10_3).f1) : Int) < ((x7_3.length : Int) : Int) := of_decide_eq_true (by first | (with_reducible assumption) | assumption); first | (have e_ := (Kd.R_reads' HO_7.out).1; omega) | simpa only [Ny122.out, List.length_set] using h_); have ql123 : ((((rd_T37 l0 x10_3).f1) : Int) < ((x7_3.length : Int) : Int)) = True := eq_true (of_decide_eq_true (by first | (with_reducible assumption) | assumption)); obtain ⟨ad123, e123, hx123_0⟩ := Kd.at_int (Kd.R_reads' HO_7.out).2.2 ((rd_T37 l0 x10_3).f1) p123 q123; obtain rfl : (⟨go10, 0, none⟩ : Addr) = ad123 := (by injection e123); (first | simp only [add_plain] at hx123_0 | simp only [add_at] at hx123_0 | simp only [Addr.add, Nat.zero_add] at hx123_0 | skip); replace p123 := eq_true p123; replace q123 := eq_true q123; have p124 : 0 ≤ (x10_3 : Int) := of_decide_eq_true (by first | (with_reducible assumption) | assumption); have q124 : x10_3 < (l0.length : Int) := of_decide_eq_true (by first | (with_reducible assumption) | assumption); obtain ⟨ad124, e124, hx124_0, hx124_1, hx124_2, hx124_3, hx124_4⟩ := at_T37 HR0.out x10_3 p124 q124; obtain rfl : ad113 = ad124 := (by injection e124); replace hx124_0 := (HB.out.cell (World.block_lt_of_cell? w _ hx124_0)).trans hx124_0; replace hx124_1 := (HB.out.cell (World.block_lt_of_cell? w _ hx124_1)).trans hx124_1; replace hx124_2 := (HB.out.cell (World.block_lt_of_cell? w _ hx124_2)).trans hx124_2; replace hx124_3 := (HB.out.cell (World.block_lt_of_cell? w _ hx124_3)).trans hx124_3; replace hx124_4 := (HB.out.cell (World.block_lt_of_cell? w _ hx124_4)).trans hx124_4; replace p124 := eq_true p124; replace q124 := eq_true q124; have p125 : 0 ≤ (((rd_T37 l0 x10_3).f1) : Int) := of_decide_eq_true (by first | (with_reducible assumption) | assumption); have q125 : ((rd_T37 l0 x10_3).f1) < (y122.length : Int) := (by have h_ : (((rd_T37 l0 x10_3).f1) : Int) < ((x7_3.length : Int) : Int) := of_decide_eq_true (by first | (with_reducible assumption) | assumption); first | (have e_ := (Kd.R_reads' HO_7.out).1; omega) | simpa only [Ny122.out, List.length_set] using h_); have ql125 : ((((rd_T37 l0 x10_3).f1) : Int) < ((x7_3.length : Int) : Int)) = True := eq_true (of_decide_eq_true (by first | (with_reducible assumption) | assumption)); obtain ⟨ad125, e125, hx125_0⟩ := Kd.at_int (Kd.R_reads' HO_7.out).2.2 ((rd_T37 l0 x10_3).f1) p125 q125; obtain rfl : (⟨go10, 0, none⟩ : Addr) = ad125 := (by injection e125); (first | simp only [add_plain] at hx125_0 | simp only [add_at] at hx125_0 | simp only [Addr.add, Nat.zero_add] at hx125_0 | skip); replace p125 := eq_true p125; replace q125 := eq_true q125)))
                                                      (try simp only [← hl7_3])
                                                      go_roundg kj27
                                                      case measure => have := HK1.out; have := HK2.out; have := HK3.out; have := HJ15.out; have := HJ27.out; omega
                                                      case rel => exact ⟨(y122), (true), (wrap64 (x10_3 + 1)), (by first | rfl | (simp; done) | (simp [*]; done)), (by first | rfl | (simp; done) | (simp [*]; done)), H', ⟨by have := HK1.out; have := HK2.out; have := HK3.out; have := HJ15.out; have := HJ27.out; omega⟩, ⟨by (try simp only [hl7_2]); (try simp only [hl7_3]); (with_reducible repeat (first | apply Kd.R_alloc | apply Kd.R_drewN | apply Kd.R_drew)); first | exact HO_7.out | (rw [Ny122.out]; exact (Kd.R_putg (Kd.R_drewN HO_7.out _) _ _).1) | (rw [Ny122.out]; exact (Kd.R_putg HO_7.out _ _).1)⟩, ⟨by repeat (first | (with_reducible first | exact HB.out | apply below_alloc | apply pw_below_drewN | apply below_drew1) | exact HB.out | (first | exact below_set (pw_below_drewN HB.out _) GB10.out | exact below_set HB.out GB10.out))⟩⟩
                                                  · rw [if_neg c38] at H
                                                    exact absurd H (by simp)
                                                · rw [if_neg c37] at H
                                                  exact absurd H (by simp)
                                              · rw [if_neg c35] at H
                                                exact absurd H (by simp)
                                            · rw [if_neg c34] at H
                                              exact absurd H (by simp)
                                          · replace c33 := Bool.eq_false_iff.mpr c33
                                            subst c33
                                            have H1 : (if 0 ≤ ((rd_T37 l0 x10_3).f1) then (if ((rd_T37 l0 x10_3).f1) < (x7_3.length : Int) then (if 0 ≤ x10_3 then (if x10_3 < (l0.length : Int) then (if (rd x7_3 ((rd_T37 l0 x10_3).f1)) ≥ 0 then (if 0 ≤ ((rd_T37 l0 x10_3).f0) then (if ((rd_T37 l0 x10_3).f0) < (x7_3.length : Int) then (if (rd x7_3 ((rd_T37 l0 x10_3).f0)) < 0 then (spec_l25Out.l2 kj27 l0 l1 a2 (x7_3.set (((rd_T37 l0 x10_3).f0) : Int).toNat (wrap64 ((rd x7_3 ((rd_T37 l0 x10_3).f1)) + ((rd_T37 l0 x10_3).f2)))) true (wrap64 (x10_3 + 1))) else (if (wrap64 ((rd x7_3 ((rd_T37 l0 x10_3).f1)) + ((rd_T37 l0 x10_3).f2))) < (rd x7_3 ((rd_T37 l0 x10_3).f0)) then (spec_l25Out.l2 kj27 l0 l1 a2 (x7_3.set (((rd_T37 l0 x10_3).f0) : Int).toNat (wrap64 ((rd x7_3 ((rd_T37 l0 x10_3).f1)) + ((rd_T37 l0 x10_3).f2)))) true (wrap64 (x10_3 + 1))) else (spec_l25Out.l2 kj27 l0 l1 a2 x7_3 x9_3 (wrap64 (x10_3 + 1))))) else (none)) else (none)) else (spec_l25Out.l2 kj27 l0 l1 a2 x7_3 x9_3 (wrap64 (x10_3 + 1)))) else (none)) else (none)) else (none)) else (none)) = some r := by rw [if_neg (show ¬ (false = true) by decide)] at H; exact H
                                            clear H
                                            have H := H1
                                            clear H1
                                            by_cases c58 : 0 ≤ ((rd_T37 l0 x10_3).f1)
                                            · rw [if_pos c58] at H
                                              have c58b0 : decide (0 ≤ ((rd_T37 l0 x10_3).f1)) = true := decide_eq_true c58
                                              clear c58
                                              by_cases c59 : ((rd_T37 l0 x10_3).f1) < (x7_3.length : Int)
                                              · rw [if_pos c59] at H
                                                have c59b0 : decide (((rd_T37 l0 x10_3).f1) < (x7_3.length : Int)) = true := decide_eq_true c59
                                                clear c59
                                                by_cases c60 : 0 ≤ x10_3
                                                · rw [if_pos c60] at H
                                                  have c60b0 : decide (0 ≤ x10_3) = true := decide_eq_true c60
                                                  clear c60
                                                  by_cases c61 : x10_3 < (l0.length : Int)
                                                  · rw [if_pos c61] at H
                                                    have c61b0 : decide (x10_3 < (l0.length : Int)) = true := decide_eq_true c61
                                                    clear c61
                                                    by_cases c62 : (rd x7_3 ((rd_T37 l0 x10_3).f1)) ≥ 0
                                                    · rw [if_pos c62] at H
                                                      have c62b0 : decide (0 ≤ (rd x7_3 ((rd_T37 l0 x10_3).f1))) = true := decide_eq_true c62
                                                      clear c62
                                                      by_cases c63 : 0 ≤ ((rd_T37 l0 x10_3).f0)
                                                      · rw [if_pos c63] at H
                                                        have c63b0 : decide (0 ≤ ((rd_T37 l0 x10_3).f0)) = true := decide_eq_true c63
                                                        clear c63
                                                        by_cases c64 : ((rd_T37 l0 x10_3).f0) < (x7_3.length : Int)
                                                        · rw [if_pos c64] at H
                                                          have c64b0 : decide (((rd_T37 l0 x10_3).f0) < (x7_3.length : Int)) = true := decide_eq_true c64
                                                          clear c64
                                                          by_cases c65 : (rd x7_3 ((rd_T37 l0 x10_3).f0)) < 0
                                                          · rw [if_pos c65] at H
                                                            have c65b0 : decide ((rd x7_3 ((rd_T37 l0 x10_3).f0)) < 0) = true := decide_eq_true c65
                                                            clear c65
                                                            obtain ⟨y134, hy134⟩ : ∃ y_ : List Int, y_ = (x7_3.set (((rd_T37 l0 x10_3).f0) : Int).toNat (wrap64 ((rd x7_3 ((rd_T37 l0 x10_3).f1)) + ((rd_T37 l0 x10_3).f2)))) := ⟨_, rfl⟩
                                                            replace H : (spec_l25Out.l2 kj27 l0 l1 a2 y134 true (wrap64 (x10_3 + 1))) = some r := by first | (rw [hy134]; with_reducible exact H) | (have H2_ := (Option.bind_some _ _).symm.trans H; rw [hy134]; with_reducible exact H2_) | (have H2_ := (Option.bind_some _ _).symm.trans H; with_reducible exact H2_) | with_reducible exact H | (rw [hy134]; exact H) | exact H
                                                            have Ny134 := Aside0.mk hy134
                                                            clear hy134
                                                            have H' := Aside0.mk H
                                                            clear H
                                                            have p130 : 0 ≤ (((rd_T37 l0 x10_3).f1) : Int) := of_decide_eq_true (by first | (with_reducible assumption) | assumption)
                                                            have q130 : ((rd_T37 l0 x10_3).f1) < (x7_3.length : Int) := of_decide_eq_true (by first | (with_reducible assumption) | assumption)
                                                            obtain ⟨ad130, e130, hx130_0⟩ := Kd.at_int (Kd.R_reads' HO_7.out).2.2 ((rd_T37 l0 x10_3).f1) p130 q130
                                                            obtain rfl : (⟨go10, 0, none⟩ : Addr) = ad130 := (by injection e130)
                                                            (first | simp only [add_plain] at hx130_0 | simp only [add_at] at hx130_0 | simp only [Addr.add, Nat.zero_add] at hx130_0 | skip)
                                                            replace p130 := eq_true p130
                                                            replace q130 := eq_true q130
                                                            have p131 : 0 ≤ (x10_3 : Int) := of_decide_eq_true (by first | (with_reducible assumption) | assumption)
                                                            have q131 : x10_3 < (l0.length : Int) := of_decide_eq_true (by first | (with_reducible assumption) | assumption)
                                                            obtain ⟨ad131, e131, hx131_0, hx131_1, hx131_2, hx131_3, hx131_4⟩ := at_T37 HR0.out x10_3 p131 q131
                                                            obtain rfl : ad113 = ad131 := (by injection e131)
                                                            replace hx131_0 := (HB.out.cell (World.block_lt_of_cell? w _ hx131_0)).trans hx131_0
                                                            replace hx131_1 := (HB.out.cell (World.block_lt_of_cell? w _ hx131_1)).trans hx131_1
                                                            replace hx131_2 := (HB.out.cell (World.block_lt_of_cell? w _ hx131_2)).trans hx131_2
                                                            replace hx131_3 := (HB.out.cell (World.block_lt_of_cell? w _ hx131_3)).trans hx131_3
                                                            replace hx131_4 := (HB.out.cell (World.block_lt_of_cell? w _ hx131_4)).trans hx131_4
                                                            replace p131 := eq_true p131
                                                            replace q131 := eq_true q131
                                                            have p132 : 0 ≤ (((rd_T37 l0 x10_3).f1) : Int) := of_decide_eq_true (by first | (with_reducible assumption) | assumption)
                                                            have q132 : ((rd_T37 l0 x10_3).f1) < (x7_3.length : Int) := of_decide_eq_true (by first | (with_reducible assumption) | assumption)
                                                            obtain ⟨ad132, e132, hx132_0⟩ := Kd.at_int (Kd.R_reads' HO_7.out).2.2 ((rd_T37 l0 x10_3).f1) p132 q132
                                                            obtain rfl : (⟨go10, 0, none⟩ : Addr) = ad132 := (by injection e132)
                                                            (first | simp only [add_plain] at hx132_0 | simp only [add_at] at hx132_0 | simp only [Addr.add, Nat.zero_add] at hx132_0 | skip)
                                                            replace p132 := eq_true p132
                                                            replace q132 := eq_true q132
                                                            have p133 : 0 ≤ (((rd_T37 l0 x10_3).f0) : Int) := of_decide_eq_true (by first | (with_reducible assumption) | assumption)
                                                            have q133 : ((rd_T37 l0 x10_3).f0) < (x7_3.length : Int) := of_decide_eq_true (by first | (with_reducible assumption) | assumption)
                                                            obtain ⟨ad133, e133, hx133_0⟩ := Kd.at_int (Kd.R_reads' HO_7.out).2.2 ((rd_T37 l0 x10_3).f0) p133 q133
                                                            obtain rfl : (⟨go10, 0, none⟩ : Addr) = ad133 := (by injection e133)
                                                            (first | simp only [add_plain] at hx133_0 | simp only [add_at] at hx133_0 | simp only [Addr.add, Nat.zero_add] at hx133_0 | skip)
                                                            replace p133 := eq_true p133
                                                            replace q133 := eq_true q133
                                                            have p66 : 0 ≤ (((rd_T37 l0 x10_3).f0) : Int) := of_decide_eq_true (by first | (with_reducible assumption) | assumption)
                                                            have q66 : (((rd_T37 l0 x10_3).f0) : Int) < ((x7_3.length : Int) : Int) := of_decide_eq_true (by first | (with_reducible assumption) | assumption)
                                                            obtain ⟨hx66_0, hf66_0⟩ := Kd.R_celln 0 HO_7.out (((rd_T37 l0 x10_3).f0) : Int) p66 q66
                                                            replace p66 := eq_true p66
                                                            replace q66 := eq_true q66
                                                            have HP67 := Kd.R_putg HO_7.out (((rd_T37 l0 x10_3).f0) : Int) (wrap64 ((rd x7_3 ((rd_T37 l0 x10_3).f1)) + ((rd_T37 l0 x10_3).f2)))
                                                            go_wp2_with (first | ((with_reducible refine gate_store (t := 3) (p := 121) rfl ?_); (try (rw [drewN_self wc]; generalize hq_ : World.drewN wc _ = wc; have n0_ := Aside0.mk (Kd.R_at hq_ HO_7.out); have n1_ := Aside0.mk (below_at hq_ HB.out); clear hq_ HO_7 HB; have HO_7 := n0_; have HB := n1_; clear n0_ n1_; (try (have HP67 := Kd.R_putg HO_7.out (((rd_T37 l0 x10_3).f0) : Int) (wrap64 ((rd x7_3 ((rd_T37 l0 x10_3).f1)) + ((rd_T37 l0 x10_3).f2))))))); refine store_event (t := 3) (p := 121) (v := ?vo_w68) (w1 := (wc.setCell ⟨go10, (((rd_T37 l0 x10_3).f0) : Int).toNat, none⟩ (.int .i64 (wrap64 ((rd x7_3 ((rd_T37 l0 x10_3).f1)) + ((rd_T37 l0 x10_3).f2)))))) ?hg ?ho ?hn ?hr ?_; (case ho => rfl); (case hg => rfl); (case hn => rfl); (case hr => first | (go_simp; done) | (go_simp; rfl)); intro w68 hw; have hg : wc.grownBy w68 (some go10) := (by rw [hw]; exact HP67.2); have hp_ : Kd.R (Kd.int .i64) 3 w68 w.heap.size (fun _ => True) (.slice (some ⟨go10, 0, none⟩) x7_3.length co10) y134 := (by rw [hw, Ny134.out]; exact HP67.1); clear HP67; have n0_ := Aside0.mk (hp_); have n1_ := Aside0.mk ((by rw [hw]; exact below_set (HB.out) GB10.out : Below w.heap.size w w68)); clear HO_7; clear HB; have HO_7 := n0_; have HB := n1_; clear n0_ n1_; clear hg hw hp_))
                                                            repeat (go_quiet (first | ((with_reducible refine gate_store (t := 3) (p := 121) rfl ?_); (try (rw [drewN_self wc]; generalize hq_ : World.drewN wc _ = wc; have n0_ := Aside0.mk (Kd.R_at hq_ HO_7.out); have n1_ := Aside0.mk (below_at hq_ HB.out); clear hq_ HO_7 HB; have HO_7 := n0_; have HB := n1_; clear n0_ n1_; (try (have HP67 := Kd.R_putg HO_7.out (((rd_T37 l0 x10_3).f0) : Int) (wrap64 ((rd x7_3 ((rd_T37 l0 x10_3).f1)) + ((rd_T37 l0 x10_3).f2))))))); refine store_event (t := 3) (p := 121) (v := ?vo_w68) (w1 := (wc.setCell ⟨go10, (((rd_T37 l0 x10_3).f0) : Int).toNat, none⟩ (.int .i64 (wrap64 ((rd x7_3 ((rd_T37 l0 x10_3).f1)) + ((rd_T37 l0 x10_3).f2)))))) ?hg ?ho ?hn ?hr ?_; (case ho => rfl); (case hg => rfl); (case hn => rfl); (case hr => first | (go_simp; done) | (go_simp; rfl)); intro w68 hw; have hg : wc.grownBy w68 (some go10) := (by rw [hw]; exact HP67.2); have hp_ : Kd.R (Kd.int .i64) 3 w68 w.heap.size (fun _ => True) (.slice (some ⟨go10, 0, none⟩) x7_3.length co10) y134 := (by rw [hw, Ny134.out]; exact HP67.1); clear HP67; have n0_ := Aside0.mk (hp_); have n1_ := Aside0.mk ((by rw [hw]; exact below_set (HB.out) GB10.out : Below w.heap.size w w68)); clear HO_7; clear HB; have HO_7 := n0_; have HB := n1_; clear n0_ n1_; clear hg hw hp_)); try go_wp2_with (first | ((with_reducible refine gate_store (t := 3) (p := 121) rfl ?_); (try (rw [drewN_self wc]; generalize hq_ : World.drewN wc _ = wc; have n0_ := Aside0.mk (Kd.R_at hq_ HO_7.out); have n1_ := Aside0.mk (below_at hq_ HB.out); clear hq_ HO_7 HB; have HO_7 := n0_; have HB := n1_; clear n0_ n1_; (try (have HP67 := Kd.R_putg HO_7.out (((rd_T37 l0 x10_3).f0) : Int) (wrap64 ((rd x7_3 ((rd_T37 l0 x10_3).f1)) + ((rd_T37 l0 x10_3).f2))))))); refine store_event (t := 3) (p := 121) (v := ?vo_w68) (w1 := (wc.setCell ⟨go10, (((rd_T37 l0 x10_3).f0) : Int).toNat, none⟩ (.int .i64 (wrap64 ((rd x7_3 ((rd_T37 l0 x10_3).f1)) + ((rd_T37 l0 x10_3).f2)))))) ?hg ?ho ?hn ?hr ?_; (case ho => rfl); (case hg => rfl); (case hn => rfl); (case hr => first | (go_simp; done) | (go_simp; rfl)); intro w68 hw; have hg : wc.grownBy w68 (some go10) := (by rw [hw]; exact HP67.2); have hp_ : Kd.R (Kd.int .i64) 3 w68 w.heap.size (fun _ => True) (.slice (some ⟨go10, 0, none⟩) x7_3.length co10) y134 := (by rw [hw, Ny134.out]; exact HP67.1); clear HP67; have n0_ := Aside0.mk (hp_); have n1_ := Aside0.mk ((by rw [hw]; exact below_set (HB.out) GB10.out : Below w.heap.size w w68)); clear HO_7; clear HB; have HO_7 := n0_; have HB := n1_; clear n0_ n1_; clear hg hw hp_)))
                                                            (try simp only [← hl7_3])
                                                            go_roundg kj27
                                                            case measure => have := HK1.out; have := HK2.out; have := HK3.out; have := HJ15.out; have := HJ27.out; omega
                                                            case rel => exact ⟨(y134), (true), (wrap64 (x10_3 + 1)), (by first | rfl | (simp; done) | (simp [*]; done)), (by first | rfl | (simp; done) | (simp [*]; done)), H', ⟨by have := HK1.out; have := HK2.out; have := HK3.out; have := HJ15.out; have := HJ27.out; omega⟩, ⟨by (try simp only [hl7_2]); (try simp only [hl7_3]); (with_reducible repeat (first | apply Kd.R_alloc | apply Kd.R_drewN | apply Kd.R_drew)); first | exact HO_7.out | (rw [Ny134.out]; exact (Kd.R_putg (Kd.R_drewN HO_7.out _) _ _).1) | (rw [Ny134.out]; exact (Kd.R_putg HO_7.out _ _).1)⟩, ⟨by repeat (first | (with_reducible first | exact HB.out | apply below_alloc | apply pw_below_drewN | apply below_drew1) | exact HB.out | (first | exact below_set (pw_below_drewN HB.out _) GB10.out | exact below_set HB.out GB10.out))⟩⟩
                                                          · rw [if_neg c65] at H
                                                            have c65b0 : decide ((rd x7_3 ((rd_T37 l0 x10_3).f0)) < 0) = false := decide_eq_false c65
                                                            clear c65
                                                            by_cases c69 : (wrap64 ((rd x7_3 ((rd_T37 l0 x10_3).f1)) + ((rd_T37 l0 x10_3).f2))) < (rd x7_3 ((rd_T37 l0 x10_3).f0))
                                                            · rw [if_pos c69] at H
                                                              have c69b0 : decide ((wrap64 ((rd x7_3 ((rd_T37 l0 x10_3).f1)) + ((rd_T37 l0 x10_3).f2))) < (rd x7_3 ((rd_T37 l0 x10_3).f0))) = true := decide_eq_true c69
                                                              clear c69
                                                              obtain ⟨y136, hy136⟩ : ∃ y_ : List Int, y_ = (x7_3.set (((rd_T37 l0 x10_3).f0) : Int).toNat (wrap64 ((rd x7_3 ((rd_T37 l0 x10_3).f1)) + ((rd_T37 l0 x10_3).f2)))) := ⟨_, rfl⟩
                                                              replace H : (spec_l25Out.l2 kj27 l0 l1 a2 y136 true (wrap64 (x10_3 + 1))) = some r := by first | (rw [hy136]; with_reducible exact H) | (have H2_ := (Option.bind_some _ _).symm.trans H; rw [hy136]; with_reducible exact H2_) | (have H2_ := (Option.bind_some _ _).symm.trans H; with_reducible exact H2_) | with_reducible exact H | (rw [hy136]; exact H) | exact H
                                                              have Ny136 := Aside0.mk hy136
                                                              clear hy136
                                                              have H' := Aside0.mk H
                                                              clear H
                                                              have p130 : 0 ≤ (((rd_T37 l0 x10_3).f1) : Int) := of_decide_eq_true (by first | (with_reducible assumption) | assumption)
                                                              have q130 : ((rd_T37 l0 x10_3).f1) < (x7_3.length : Int) := of_decide_eq_true (by first | (with_reducible assumption) | assumption)
                                                              obtain ⟨ad130, e130, hx130_0⟩ := Kd.at_int (Kd.R_reads' HO_7.out).2.2 ((rd_T37 l0 x10_3).f1) p130 q130
                                                              obtain rfl : (⟨go10, 0, none⟩ : Addr) = ad130 := (by injection e130)
                                                              (first | simp only [add_plain] at hx130_0 | simp only [add_at] at hx130_0 | simp only [Addr.add, Nat.zero_add] at hx130_0 | skip)
                                                              replace p130 := eq_true p130
                                                              replace q130 := eq_true q130
                                                              have p131 : 0 ≤ (x10_3 : Int) := of_decide_eq_true (by first | (with_reducible assumption) | assumption)
                                                              have q131 : x10_3 < (l0.length : Int) := of_decide_eq_true (by first | (with_reducible assumption) | assumption)
                                                              obtain ⟨ad131, e131, hx131_0, hx131_1, hx131_2, hx131_3, hx131_4⟩ := at_T37 HR0.out x10_3 p131 q131
                                                              obtain rfl : ad113 = ad131 := (by injection e131)
                                                              replace hx131_0 := (HB.out.cell (World.block_lt_of_cell? w _ hx131_0)).trans hx131_0
                                                              replace hx131_1 := (HB.out.cell (World.block_lt_of_cell? w _ hx131_1)).trans hx131_1
                                                              replace hx131_2 := (HB.out.cell (World.block_lt_of_cell? w _ hx131_2)).trans hx131_2
                                                              replace hx131_3 := (HB.out.cell (World.block_lt_of_cell? w _ hx131_3)).trans hx131_3
                                                              replace hx131_4 := (HB.out.cell (World.block_lt_of_cell? w _ hx131_4)).trans hx131_4
                                                              replace p131 := eq_true p131
                                                              replace q131 := eq_true q131
                                                              have p132 : 0 ≤ (((rd_T37 l0 x10_3).f1) : Int) := of_decide_eq_true (by first | (with_reducible assumption) | assumption)
                                                              have q132 : ((rd_T37 l0 x10_3).f1) < (x7_3.length : Int) := of_decide_eq_true (by first | (with_reducible assumption) | assumption)
                                                              obtain ⟨ad132, e132, hx132_0⟩ := Kd.at_int (Kd.R_reads' HO_7.out).2.2 ((rd_T37 l0 x10_3).f1) p132 q132
                                                              obtain rfl : (⟨go10, 0, none⟩ : Addr) = ad132 := (by injection e132)
                                                              (first | simp only [add_plain] at hx132_0 | simp only [add_at] at hx132_0 | simp only [Addr.add, Nat.zero_add] at hx132_0 | skip)
                                                              replace p132 := eq_true p132
                                                              replace q132 := eq_true q132
                                                              have p133 : 0 ≤ (((rd_T37 l0 x10_3).f0) : Int) := of_decide_eq_true (by first | (with_reducible assumption) | assumption)
                                                              have q133 : ((rd_T37 l0 x10_3).f0) < (x7_3.length : Int) := of_decide_eq_true (by first | (with_reducible assumption) | assumption)
                                                              obtain ⟨ad133, e133, hx133_0⟩ := Kd.at_int (Kd.R_reads' HO_7.out).2.2 ((rd_T37 l0 x10_3).f0) p133 q133
                                                              obtain rfl : (⟨go10, 0, none⟩ : Addr) = ad133 := (by injection e133)
                                                              (first | simp only [add_plain] at hx133_0 | simp only [add_at] at hx133_0 | simp only [Addr.add, Nat.zero_add] at hx133_0 | skip)
                                                              replace p133 := eq_true p133
                                                              replace q133 := eq_true q133
                                                              have p135 : 0 ≤ (((rd_T37 l0 x10_3).f0) : Int) := of_decide_eq_true (by first | (with_reducible assumption) | assumption)
                                                              have q135 : ((rd_T37 l0 x10_3).f0) < (x7_3.length : Int) := of_decide_eq_true (by first | (with_reducible assumption) | assumption)
                                                              obtain ⟨ad135, e135, hx135_0⟩ := Kd.at_int (Kd.R_reads' HO_7.out).2.2 ((rd_T37 l0 x10_3).f0) p135 q135
                                                              obtain rfl : (⟨go10, 0, none⟩ : Addr) = ad135 := (by injection e135)
                                                              (first | simp only [add_plain] at hx135_0 | simp only [add_at] at hx135_0 | simp only [Addr.add, Nat.zero_add] at hx135_0 | skip)
                                                              replace p135 := eq_true p135
                                                              replace q135 := eq_true q135
                                                              have p70 : 0 ≤ (((rd_T37 l0 x10_3).f0) : Int) := of_decide_eq_true (by first | (with_reducible assumption) | assumption)
                                                              have q70 : (((rd_T37 l0 x10_3).f0) : Int) < ((x7_3.length : Int) : Int) := of_decide_eq_true (by first | (with_reducible assumption) | assumption)
                                                              obtain ⟨hx70_0, hf70_0⟩ := Kd.R_celln 0 HO_7.out (((rd_T37 l0 x10_3).f0) : Int) p70 q70
                                                              replace p70 := eq_true p70
                                                              replace q70 := eq_true q70
                                                              have HP71 := Kd.R_putg HO_7.out (((rd_T37 l0 x10_3).f0) : Int) (wrap64 ((rd x7_3 ((rd_T37 l0 x10_3).f1)) + ((rd_T37 l0 x10_3).f2)))
                                                              go_wp2_with (first | ((with_reducible refine gate_store (t := 3) (p := 121) rfl ?_); (try (rw [drewN_self wc]; generalize hq_ : World.drewN wc _ = wc; have n0_ := Aside0.mk (Kd.R_at hq_ HO_7.out); have n1_ := Aside0.mk (below_at hq_ HB.out); clear hq_ HO_7 HB; have HO_7 := n0_; have HB := n1_; clear n0_ n1_; (try (have HP71 := Kd.R_putg HO_7.out (((rd_T37 l0 x10_3).f0) : Int) (wrap64 ((rd x7_3 ((rd_T37 l0 x10_3).f1)) + ((rd_T37 l0 x10_3).f2))))))); refine store_event (t := 3) (p := 121) (v := ?vo_w72) (w1 := (wc.setCell ⟨go10, (((rd_T37 l0 x10_3).f0) : Int).toNat, none⟩ (.int .i64 (wrap64 ((rd x7_3 ((rd_T37 l0 x10_3).f1)) + ((rd_T37 l0 x10_3).f2)))))) ?hg ?ho ?hn ?hr ?_; (case ho => rfl); (case hg => rfl); (case hn => rfl); (case hr => first | (go_simp; done) | (go_simp; rfl)); intro w72 hw; have hg : wc.grownBy w72 (some go10) := (by rw [hw]; exact HP71.2); have hp_ : Kd.R (Kd.int .i64) 3 w72 w.heap.size (fun _ => True) (.slice (some ⟨go10, 0, none⟩) x7_3.length co10) y136 := (by rw [hw, Ny136.out]; exact HP71.1); clear HP71; have n0_ := Aside0.mk (hp_); have n1_ := Aside0.mk ((by rw [hw]; exact below_set (HB.out) GB10.out : Below w.heap.size w w72)); clear HO_7; clear HB; have HO_7 := n0_; have HB := n1_; clear n0_ n1_; clear hg hw hp_))
                                                              repeat (go_quiet (first | ((with_reducible refine gate_store (t := 3) (p := 121) rfl ?_); (try (rw [drewN_self wc]; generalize hq_ : World.drewN wc _ = wc; have n0_ := Aside0.mk (Kd.R_at hq_ HO_7.out); have n1_ := Aside0.mk (below_at hq_ HB.out); clear hq_ HO_7 HB; have HO_7 := n0_; have HB := n1_; clear n0_ n1_; (try (have HP71 := Kd.R_putg HO_7.out (((rd_T37 l0 x10_3).f0) : Int) (wrap64 ((rd x7_3 ((rd_T37 l0 x10_3).f1)) + ((rd_T37 l0 x10_3).f2))))))); refine store_event (t := 3) (p := 121) (v := ?vo_w72) (w1 := (wc.setCell ⟨go10, (((rd_T37 l0 x10_3).f0) : Int).toNat, none⟩ (.int .i64 (wrap64 ((rd x7_3 ((rd_T37 l0 x10_3).f1)) + ((rd_T37 l0 x10_3).f2)))))) ?hg ?ho ?hn ?hr ?_; (case ho => rfl); (case hg => rfl); (case hn => rfl); (case hr => first | (go_simp; done) | (go_simp; rfl)); intro w72 hw; have hg : wc.grownBy w72 (some go10) := (by rw [hw]; exact HP71.2); have hp_ : Kd.R (Kd.int .i64) 3 w72 w.heap.size (fun _ => True) (.slice (some ⟨go10, 0, none⟩) x7_3.length co10) y136 := (by rw [hw, Ny136.out]; exact HP71.1); clear HP71; have n0_ := Aside0.mk (hp_); have n1_ := Aside0.mk ((by rw [hw]; exact below_set (HB.out) GB10.out : Below w.heap.size w w72)); clear HO_7; clear HB; have HO_7 := n0_; have HB := n1_; clear n0_ n1_; clear hg hw hp_)); try go_wp2_with (first | ((with_reducible refine gate_store (t := 3) (p := 121) rfl ?_); (try (rw [drewN_self wc]; generalize hq_ : World.drewN wc _ = wc; have n0_ := Aside0.mk (Kd.R_at hq_ HO_7.out); have n1_ := Aside0.mk (below_at hq_ HB.out); clear hq_ HO_7 HB; have HO_7 := n0_; have HB := n1_; clear n0_ n1_; (try (have HP71 := Kd.R_putg HO_7.out (((rd_T37 l0 x10_3).f0) : Int) (wrap64 ((rd x7_3 ((rd_T37 l0 x10_3).f1)) + ((rd_T37 l0 x10_3).f2))))))); refine store_event (t := 3) (p := 121) (v := ?vo_w72) (w1 := (wc.setCell ⟨go10, (((rd_T37 l0 x10_3).f0) : Int).toNat, none⟩ (.int .i64 (wrap64 ((rd x7_3 ((rd_T37 l0 x10_3).f1)) + ((rd_T37 l0 x10_3).f2)))))) ?hg ?ho ?hn ?hr ?_; (case ho => rfl); (case hg => rfl); (case hn => rfl); (case hr => first | (go_simp; done) | (go_simp; rfl)); intro w72 hw; have hg : wc.grownBy w72 (some go10) := (by rw [hw]; exact HP71.2); have hp_ : Kd.R (Kd.int .i64) 3 w72 w.heap.size (fun _ => True) (.slice (some ⟨go10, 0, none⟩) x7_3.length co10) y136 := (by rw [hw, Ny136.out]; exact HP71.1); clear HP71; have n0_ := Aside0.mk (hp_); have n1_ := Aside0.mk ((by rw [hw]; exact below_set (HB.out) GB10.out : Below w.heap.size w w72)); clear HO_7; clear HB; have HO_7 := n0_; have HB := n1_; clear n0_ n1_; clear hg hw hp_)))
                                                              (try simp only [← hl7_3])
                                                              go_roundg kj27
                                                              case measure => have := HK1.out; have := HK2.out; have := HK3.out; have := HJ15.out; have := HJ27.out; omega
                                                              case rel => exact ⟨(y136), (true), (wrap64 (x10_3 + 1)), (by first | rfl | (simp; done) | (simp [*]; done)), (by first | rfl | (simp; done) | (simp [*]; done)), H', ⟨by have := HK1.out; have := HK2.out; have := HK3.out; have := HJ15.out; have := HJ27.out; omega⟩, ⟨by (try simp only [hl7_2]); (try simp only [hl7_3]); (with_reducible repeat (first | apply Kd.R_alloc | apply Kd.R_drewN | apply Kd.R_drew)); first | exact HO_7.out | (rw [Ny136.out]; exact (Kd.R_putg (Kd.R_drewN HO_7.out _) _ _).1) | (rw [Ny136.out]; exact (Kd.R_putg HO_7.out _ _).1)⟩, ⟨by repeat (first | (with_reducible first | exact HB.out | apply below_alloc | apply pw_below_drewN | apply below_drew1) | exact HB.out | (first | exact below_set (pw_below_drewN HB.out _) GB10.out | exact below_set HB.out GB10.out))⟩⟩
                                                            · rw [if_neg c69] at H
                                                              have c69b0 : decide ((wrap64 ((rd x7_3 ((rd_T37 l0 x10_3).f1)) + ((rd_T37 l0 x10_3).f2))) < (rd x7_3 ((rd_T37 l0 x10_3).f0))) = false := decide_eq_false c69
                                                              clear c69
                                                              have H' := Aside0.mk H
                                                              clear H
                                                              have p130 : 0 ≤ (((rd_T37 l0 x10_3).f1) : Int) := of_decide_eq_true (by first | (with_reducible assumption) | assumption)
                                                              have q130 : ((rd_T37 l0 x10_3).f1) < (x7_3.length : Int) := of_decide_eq_true (by first | (with_reducible assumption) | assumption)
                                                              obtain ⟨ad130, e130, hx130_0⟩ := Kd.at_int (Kd.R_reads' HO_7.out).2.2 ((rd_T37 l0 x10_3).f1) p130 q130
                                                              obtain rfl : (⟨go10, 0, none⟩ : Addr) = ad130 := (by injection e130)
                                                              (first | simp only [add_plain] at hx130_0 | simp only [add_at] at hx130_0 | simp only [Addr.add, Nat.zero_add] at hx130_0 | skip)
                                                              replace p130 := eq_true p130
                                                              replace q130 := eq_true q130
                                                              have p131 : 0 ≤ (x10_3 : Int) := of_decide_eq_true (by first | (with_reducible assumption) | assumption)
                                                              have q131 : x10_3 < (l0.length : Int) := of_decide_eq_true (by first | (with_reducible assumption) | assumption)
                                                              obtain ⟨ad131, e131, hx131_0, hx131_1, hx131_2, hx131_3, hx131_4⟩ := at_T37 HR0.out x10_3 p131 q131
                                                              obtain rfl : ad113 = ad131 := (by injection e131)
                                                              replace hx131_0 := (HB.out.cell (World.block_lt_of_cell? w _ hx131_0)).trans hx131_0
                                                              replace hx131_1 := (HB.out.cell (World.block_lt_of_cell? w _ hx131_1)).trans hx131_1
                                                              replace hx131_2 := (HB.out.cell (World.block_lt_of_cell? w _ hx131_2)).trans hx131_2
                                                              replace hx131_3 := (HB.out.cell (World.block_lt_of_cell? w _ hx131_3)).trans hx131_3
                                                              replace hx131_4 := (HB.out.cell (World.block_lt_of_cell? w _ hx131_4)).trans hx131_4
                                                              replace p131 := eq_true p131
                                                              replace q131 := eq_true q131
                                                              have p132 : 0 ≤ (((rd_T37 l0 x10_3).f1) : Int) := of_decide_eq_true (by first | (with_reducible assumption) | assumption)
                                                              have q132 : ((rd_T37 l0 x10_3).f1) < (x7_3.length : Int) := of_decide_eq_true (by first | (with_reducible assumption) | assumption)
                                                              obtain ⟨ad132, e132, hx132_0⟩ := Kd.at_int (Kd.R_reads' HO_7.out).2.2 ((rd_T37 l0 x10_3).f1) p132 q132
                                                              obtain rfl : (⟨go10, 0, none⟩ : Addr) = ad132 := (by injection e132)
                                                              (first | simp only [add_plain] at hx132_0 | simp only [add_at] at hx132_0 | simp only [Addr.add, Nat.zero_add] at hx132_0 | skip)
                                                              replace p132 := eq_true p132
                                                              replace q132 := eq_true q132
                                                              have p133 : 0 ≤ (((rd_T37 l0 x10_3).f0) : Int) := of_decide_eq_true (by first | (with_reducible assumption) | assumption)
                                                              have q133 : ((rd_T37 l0 x10_3).f0) < (x7_3.length : Int) := of_decide_eq_true (by first | (with_reducible assumption) | assumption)
                                                              obtain ⟨ad133, e133, hx133_0⟩ := Kd.at_int (Kd.R_reads' HO_7.out).2.2 ((rd_T37 l0 x10_3).f0) p133 q133
                                                              obtain rfl : (⟨go10, 0, none⟩ : Addr) = ad133 := (by injection e133)
                                                              (first | simp only [add_plain] at hx133_0 | simp only [add_at] at hx133_0 | simp only [Addr.add, Nat.zero_add] at hx133_0 | skip)
                                                              replace p133 := eq_true p133
                                                              replace q133 := eq_true q133
                                                              have p135 : 0 ≤ (((rd_T37 l0 x10_3).f0) : Int) := of_decide_eq_true (by first | (with_reducible assumption) | assumption)
                                                              have q135 : ((rd_T37 l0 x10_3).f0) < (x7_3.length : Int) := of_decide_eq_true (by first | (with_reducible assumption) | assumption)
                                                              obtain ⟨ad135, e135, hx135_0⟩ := Kd.at_int (Kd.R_reads' HO_7.out).2.2 ((rd_T37 l0 x10_3).f0) p135 q135
                                                              obtain rfl : (⟨go10, 0, none⟩ : Addr) = ad135 := (by injection e135)
                                                              (first | simp only [add_plain] at hx135_0 | simp only [add_at] at hx135_0 | simp only [Addr.add, Nat.zero_add] at hx135_0 | skip)
                                                              replace p135 := eq_true p135
                                                              replace q135 := eq_true q135
                                                              go_wp2
                                                              repeat (go_quiet (fail); try go_wp2)
                                                              (try simp only [← hl7_3])
                                                              go_roundg kj27
                                                              case measure => have := HK1.out; have := HK2.out; have := HK3.out; have := HJ15.out; have := HJ27.out; omega
                                                              case rel => exact ⟨(x7_3), (x9_3), (wrap64 (x10_3 + 1)), (by first | rfl | (simp; done) | (simp [*]; done)), (by first | rfl | (simp; done) | (simp [*]; done)), H', ⟨by have := HK1.out; have := HK2.out; have := HK3.out; have := HJ15.out; have := HJ27.out; omega⟩, ⟨by (try simp only [hl7_2]); (try simp only [hl7_3]); (with_reducible repeat (first | apply Kd.R_alloc | apply Kd.R_drewN | apply Kd.R_drew)); exact HO_7.out⟩, ⟨by repeat (first | (with_reducible first | exact HB.out | apply below_alloc | apply pw_below_drewN | apply below_drew1) | exact HB.out)⟩⟩
                                                        · rw [if_neg c64] at H
                                                          exact absurd H (by simp)
                                                      · rw [if_neg c63] at H
                                                        exact absurd H (by simp)
                                                    · rw [if_neg c62] at H
                                                      have c62b0 : decide (0 ≤ (rd x7_3 ((rd_T37 l0 x10_3).f1))) = false := decide_eq_false c62
                                                      clear c62
                                                      have H' := Aside0.mk H
                                                      clear H
                                                      have p130 : 0 ≤ (((rd_T37 l0 x10_3).f1) : Int) := of_decide_eq_true (by first | (with_reducible assumption) | assumption)
                                                      have q130 : ((rd_T37 l0 x10_3).f1) < (x7_3.length : Int) := of_decide_eq_true (by first | (with_reducible assumption) | assumption)
                                                      obtain ⟨ad130, e130, hx130_0⟩ := Kd.at_int (Kd.R_reads' HO_7.out).2.2 ((rd_T37 l0 x10_3).f1) p130 q130
                                                      obtain rfl : (⟨go10, 0, none⟩ : Addr) = ad130 := (by injection e130)
                                                      (first | simp only [add_plain] at hx130_0 | simp only [add_at] at hx130_0 | simp only [Addr.add, Nat.zero_add] at hx130_0 | skip)
                                                      replace p130 := eq_true p130
                                                      replace q130 := eq_true q130
                                                      have p131 : 0 ≤ (x10_3 : Int) := of_decide_eq_true (by first | (with_reducible assumption) | assumption)
                                                      have q131 : x10_3 < (l0.length : Int) := of_decide_eq_true (by first | (with_reducible assumption) | assumption)
                                                      obtain ⟨ad131, e131, hx131_0, hx131_1, hx131_2, hx131_3, hx131_4⟩ := at_T37 HR0.out x10_3 p131 q131
                                                      obtain rfl : ad113 = ad131 := (by injection e131)
                                                      replace hx131_0 := (HB.out.cell (World.block_lt_of_cell? w _ hx131_0)).trans hx131_0
                                                      replace hx131_1 := (HB.out.cell (World.block_lt_of_cell? w _ hx131_1)).trans hx131_1
                                                      replace hx131_2 := (HB.out.cell (World.block_lt_of_cell? w _ hx131_2)).trans hx131_2
                                                      replace hx131_3 := (HB.out.cell (World.block_lt_of_cell? w _ hx131_3)).trans hx131_3
                                                      replace hx131_4 := (HB.out.cell (World.block_lt_of_cell? w _ hx131_4)).trans hx131_4
                                                      replace p131 := eq_true p131
                                                      replace q131 := eq_true q131
                                                      have p132 : 0 ≤ (((rd_T37 l0 x10_3).f1) : Int) := of_decide_eq_true (by first | (with_reducible assumption) | assumption)
                                                      have q132 : ((rd_T37 l0 x10_3).f1) < (x7_3.length : Int) := of_decide_eq_true (by first | (with_reducible assumption) | assumption)
                                                      obtain ⟨ad132, e132, hx132_0⟩ := Kd.at_int (Kd.R_reads' HO_7.out).2.2 ((rd_T37 l0 x10_3).f1) p132 q132
                                                      obtain rfl : (⟨go10, 0, none⟩ : Addr) = ad132 := (by injection e132)
                                                      (first | simp only [add_plain] at hx132_0 | simp only [add_at] at hx132_0 | simp only [Addr.add, Nat.zero_add] at hx132_0 | skip)
                                                      replace p132 := eq_true p132
                                                      replace q132 := eq_true q132
                                                      go_wp2
                                                      repeat (go_quiet (fail); try go_wp2)
                                                      (try simp only [← hl7_3])
                                                      go_roundg kj27
                                                      case measure => have := HK1.out; have := HK2.out; have := HK3.out; have := HJ15.out; have := HJ27.out; omega
                                                      case rel => exact ⟨(x7_3), (x9_3), (wrap64 (x10_3 + 1)), (by first | rfl | (simp; done) | (simp [*]; done)), (by first | rfl | (simp; done) | (simp [*]; done)), H', ⟨by have := HK1.out; have := HK2.out; have := HK3.out; have := HJ15.out; have := HJ27.out; omega⟩, ⟨by (try simp only [hl7_2]); (try simp only [hl7_3]); (with_reducible repeat (first | apply Kd.R_alloc | apply Kd.R_drewN | apply Kd.R_drew)); exact HO_7.out⟩, ⟨by repeat (first | (with_reducible first | exact HB.out | apply below_alloc | apply pw_below_drewN | apply below_drew1) | exact HB.out)⟩⟩
                                                  · rw [if_neg c61] at H
                                                    exact absurd H (by simp)
                                                · rw [if_neg c60] at H
                                                  exact absurd H (by simp)
                                              · rw [if_neg c59] at H
                                                exact absurd H (by simp)
                                            · rw [if_neg c58] at H
                                              exact absurd H (by simp)
                                    · rw [if_neg c27] at H
                                      exact absurd H (by simp)
                                  · rw [if_neg c26] at H
                                    exact absurd H (by simp)
                                · rw [if_neg c25] at H
                                  exact absurd H (by simp)
                              · rw [if_neg c24] at H
                                exact absurd H (by simp)
                      · rw [if_neg c15] at H
                        exact absurd H (by simp)
                    · rw [if_neg c14] at H
                      have c14b0 : decide (x10_3 < (l0.length : Int)) = false := decide_eq_false c14
                      clear c14
                      have H' := Aside0.mk H
                      clear H
                      go_wp2
                      repeat (go_quiet (fail); try go_wp2)
                      (try simp only [← hl7_2, ← hl7_3])
                      go_roundg k3
                      case measure => have := HK1.out; have := HK2.out; have := HK3.out; omega
                      case rel => exact ⟨(x7_3), (x9_3), (by first | rfl | (simp; done) | (simp [*]; done)), H', ⟨by have := HK1.out; have := HK2.out; have := HK3.out; omega⟩, ⟨by (try simp only [hl7_2]); (try simp only [hl7_3]); (with_reducible repeat (first | apply Kd.R_alloc | apply Kd.R_drewN | apply Kd.R_drew)); exact HO_7.out⟩, ⟨by repeat (first | (with_reducible first | exact HB.out | apply below_alloc | apply pw_below_drewN | apply below_drew1) | exact HB.out)⟩⟩
              · replace c13 := Bool.eq_false_iff.mpr c13
                subst c13
                have H1 : (if 0 ≤ a2 then (if a2 < (x7_2.length : Int) then (some (rd x7_2 a2)) else (none)) else (none)) = some r := by rw [if_neg (show ¬ (false = true) by decide)] at H; exact H
                clear H
                have H := H1
                clear H1
                by_cases c73 : 0 ≤ a2
                · rw [if_pos c73] at H
                  have c73b0 : decide (0 ≤ a2) = true := decide_eq_true c73
                  clear c73
                  by_cases c74 : a2 < (x7_2.length : Int)
                  · rw [if_pos c74] at H
                    have c74b0 : decide (a2 < (x7_2.length : Int)) = true := decide_eq_true c74
                    clear c74
                    obtain rfl := Option.some.inj H
                    have p112 : 0 ≤ (a2 : Int) := of_decide_eq_true (by first | (with_reducible assumption) | assumption)
                    have q112 : a2 < (x7_2.length : Int) := of_decide_eq_true (by first | (with_reducible assumption) | assumption)
                    obtain ⟨ad112, e112, hx112_0⟩ := Kd.at_int (Kd.R_reads' HO_7.out).2.2 a2 p112 q112
                    obtain rfl : (⟨go10, 0, none⟩ : Addr) = ad112 := (by injection e112)
                    (first | simp only [add_plain] at hx112_0 | simp only [add_at] at hx112_0 | simp only [Addr.add, Nat.zero_add] at hx112_0 | skip)
                    replace p112 := eq_true p112
                    replace q112 := eq_true q112
                    go_wp2
                    repeat (go_quiet (fail); try go_wp2)
                    go_ret
                    exact ⟨by first | rfl | (simp [errW_none, errW_some] <;> rfl) | (simp [*, errW_none, errW_some] <;> rfl), by repeat (first | (with_reducible first | exact HB.out | apply below_alloc | apply pw_below_drewN | apply below_drew1) | exact HB.out)⟩
                  · rw [if_neg c74] at H
                    exact absurd H (by simp)
                · rw [if_neg c73] at H
                  exact absurd H (by simp)
        · rw [if_neg c9] at H
          exact absurd H (by simp)

end Go.Proofs.Ythmjimboajmhmaa.Pr

namespace Go.Proofs.Ythmjimboajmhmaa.Pr
open Go.RowKit Go.Proofs.YthmjimboajmhmaaW.PrintWords Go.Proofs.YthmjimboajmhmaaW.PrintLast Go.Proofs.YthmjimboajmhmaaW.PrintMore
attribute [local go_sem] max2_int min2_int max_two min_two max_three min_three max_four min_four   -- for this text's walks alone
set_option linter.unusedVariables false
set_option linter.unusedSimpArgs false

/-! ### spec_l1In: function 101 -/
def spec_l1In.f (a0 : Int) (a1 : Int) (a2 : Int) : Option (Bool) := if a0 ≥ a1 then (some (decide (a0 ≤ a2))) else (some false)
set_option maxHeartbeats 8000000 in
set_option maxRecDepth 100000 in
theorem spec_l1In.calls (a0 : Int) (a1 : Int) (a2 : Int) (r : Bool) (w : World) (h : spec_l1In.f a0 a1 a2 = some r) :
    Calls Try.prog 101 #[.int .i64 a0, .int .i64 a1, .int .i64 a2] w fun e w' => e = .returned (.bool r) ∧ Drawn0 w w' := by
  have H : (if a0 ≥ a1 then (some (decide (a0 ≤ a2))) else (some false)) = some r := h
  clear h
  by_cases c4 : a0 ≥ a1
  · rw [if_pos c4] at H
    have c4b0 : decide (a1 ≤ a0) = true := decide_eq_true c4
    clear c4
    obtain rfl := Option.some.inj H
    go_enter Try.func101, Try.ntmps101
    go_wp2
    go_ret
    exact ⟨by first | rfl | (simp; done) | (simp [*]; done), by repeat (first | exact Drawn0.refl _ | apply Drawn0.step)⟩
  · rw [if_neg c4] at H
    have c4b0 : decide (a1 ≤ a0) = false := decide_eq_false c4
    clear c4
    obtain rfl := Option.some.inj H
    go_enter Try.func101, Try.ntmps101
    go_wp2
    go_ret
    exact ⟨by first | rfl | (simp; done) | (simp [*]; done), by repeat (first | exact Drawn0.refl _ | apply Drawn0.step)⟩

end Go.Proofs.Ythmjimboajmhmaa.Pr

namespace Go.Proofs.Ythmjimboajmhmaa.Pr
open Go.RowKit Go.Proofs.YthmjimboajmhmaaW.PrintWords Go.Proofs.YthmjimboajmhmaaW.PrintLast Go.Proofs.YthmjimboajmhmaaW.PrintMore
attribute [local go_sem] max2_int min2_int max_two min_two max_three min_three max_four min_four   -- for this text's walks alone
set_option linter.unusedVariables false
set_option linter.unusedSimpArgs false

/-! ### spec_l4Station: function 100 -/
def spec_l4Station.f (a0 : Int) : Option (Bool) := (spec_l1In.f a0 0 7).bind fun t137 => (some t137)
set_option maxHeartbeats 8000000 in
set_option maxRecDepth 100000 in
theorem spec_l4Station.calls (a0 : Int) (r : Bool) (w : World) (h : spec_l4Station.f a0 = some r) :
    Calls Try.prog 100 #[.int .i64 a0] w fun e w' => e = .returned (.bool r) ∧ Drawn0 w w' := by
  have H : ((spec_l1In.f a0 0 7).bind fun t137 => (some t137)) = some r := h
  clear h
  replace H := Option.bind_eq_some_iff.mp H
  obtain ⟨t137, A20, H⟩ := H
  replace H : (some t137) = some r := H
  have A2 := Aside0.mk A20
  clear A20
  obtain rfl := Option.some.inj H
  go_enter Try.func100, Try.ntmps100
  go_wp2_with (first | ((with_reducible refine gate_callee (f := 101) rfl ?_); refine goesL_ (some 4) rfl rfl Try.func101 (by kernel_rfl) rfl #[.int .i64 a0, .int .i64 0, .int .i64 7] rfl (by (try simp only [List.map_toArray, List.map_cons, List.map_nil]); first | done | rfl | (simp only [List.length_drop, List.length_take]; rfl)) ?_; (with_reducible refine (spec_l1In.calls a0 0 7 t137 _ A2.out).mono ?_); rintro e w' ⟨rfl, ⟨nd, rfl⟩⟩; refine ⟨_, rfl, ?_⟩))
  go_ret
  exact ⟨by first | rfl | (simp; done) | (simp [*]; done), by repeat (first | exact Drawn0.refl _ | apply Drawn0.step)⟩

end Go.Proofs.Ythmjimboajmhmaa.Pr

namespace Go.Proofs.Ythmjimboajmhmaa.Pr
open Go.RowKit Go.Proofs.YthmjimboajmhmaaW.PrintWords Go.Proofs.YthmjimboajmhmaaW.PrintLast Go.Proofs.YthmjimboajmhmaaW.PrintMore
attribute [local go_sem] max2_int min2_int max_two min_two max_three min_three max_four min_four   -- for this text's walks alone
set_option linter.unusedVariables false
set_option linter.unusedSimpArgs false

/-! ### spec_l2Bearing: function 120 -/
def spec_l2Bearing.f (a0 : Int) : Option (Bool) := (spec_l1In.f a0 0 359).bind fun t138 => (some t138)
set_option maxHeartbeats 8000000 in
set_option maxRecDepth 100000 in
theorem spec_l2Bearing.calls (a0 : Int) (r : Bool) (w : World) (h : spec_l2Bearing.f a0 = some r) :
    Calls Try.prog 120 #[.int .i64 a0] w fun e w' => e = .returned (.bool r) ∧ Drawn0 w w' := by
  have H : ((spec_l1In.f a0 0 359).bind fun t138 => (some t138)) = some r := h
  clear h
  replace H := Option.bind_eq_some_iff.mp H
  obtain ⟨t138, A20, H⟩ := H
  replace H : (some t138) = some r := H
  have A2 := Aside0.mk A20
  clear A20
  obtain rfl := Option.some.inj H
  go_enter Try.func120, Try.ntmps120
  go_wp2_with (first | ((with_reducible refine gate_callee (f := 101) rfl ?_); refine goesL_ (some 4) rfl rfl Try.func101 (by kernel_rfl) rfl #[.int .i64 a0, .int .i64 0, .int .i64 359] rfl (by (try simp only [List.map_toArray, List.map_cons, List.map_nil]); first | done | rfl | (simp only [List.length_drop, List.length_take]; rfl)) ?_; (with_reducible refine (spec_l1In.calls a0 0 359 t138 _ A2.out).mono ?_); rintro e w' ⟨rfl, ⟨nd, rfl⟩⟩; refine ⟨_, rfl, ?_⟩))
  go_ret
  exact ⟨by first | rfl | (simp; done) | (simp [*]; done), by repeat (first | exact Drawn0.refl _ | apply Drawn0.step)⟩

end Go.Proofs.Ythmjimboajmhmaa.Pr

