/-
What is proved: parts of the law FnExactAddSurvey: what the functions that it reaches compute, and the plain law.
Conditions: those of each theorem.
-/
import Derived.Test.YteepnlofbfccgaaDoorCFnExactAddSurvey3
namespace Go.Proofs.YteepnlofbfccgaaDoor.Pr
open Go.RowKit Go.Proofs.YteepnlofbfccgaaDoorW.PrintWords Go.Proofs.YteepnlofbfccgaaDoorW.PrintLast Go.Proofs.YteepnlofbfccgaaDoorW.PrintMore
attribute [local go_sem] max2_int min2_int max_two min_two max_three min_three max_four min_four   -- for this text's walks alone
set_option linter.unusedVariables false
set_option linter.unusedSimpArgs false

/-! ### impl_AreCaves: function 22 -/
def impl_AreCaves.l0 : Nat → List (S26) → List (S26) → Int → Int → Option (Bool)
  | 0, _, _, _, _ => none
  | k + 1, x0, x5, x6, x7 => if x7 < x6 then (if 0 ≤ x7 then (if x7 < (x5.length : Int) then ((impl_IsCaveRow.f ((rd_T26 x5 x7).f0) ((rd_T26 x5 x7).f1) ((rd_T26 x5 x7).f2) ((rd_T26 x5 x7).f3)).bind fun t151 => (if t151 = true then (if x7 > 0 then (if 0 ≤ (wrap64 (x7 - 1)) then (if (wrap64 (x7 - 1)) < (x0.length : Int) then (if ((Op.bytesLess (((rd_T26 x0 (wrap64 (x7 - 1))).f0).toList) (((rd_T26 x5 x7).f0).toList)) = true) then (impl_AreCaves.l0 k x0 x5 x6 (wrap64 (x7 + 1))) else (some false)) else (none)) else (none)) else (impl_AreCaves.l0 k x0 x5 x6 (wrap64 (x7 + 1)))) else (some false))) else (none)) else (none)) else (some (decide ((x0.length : Int) ≤ 10)))
def impl_AreCaves.f (k : Nat) (l0 : List (S26)) : Option (Bool) := impl_AreCaves.l0 k l0 l0 (l0.length : Int) 0
theorem impl_AreCaves.mono_l : ∀ k, (∀ y0 y1 y2 y3, LeO (impl_AreCaves.l0 k y0 y1 y2 y3) (impl_AreCaves.l0 (k + 1) y0 y1 y2 y3))
  | 0 => fun _ _ _ _ r h => by simp [impl_AreCaves.l0] at h
  | k + 1 => by
    have ih0 := impl_AreCaves.mono_l k
    · intro y0 y1 y2 y3
      unfold impl_AreCaves.l0
      repeat' first
      | (with_reducible exact ih0 _ _ _ _)
      | (with_reducible exact LeO.refl _)
      | (with_reducible exact LeO.none _)
      | (with_reducible refine LeO.ite ?_ ?_)
      | (with_reducible refine LeO.bind ?_ (fun _ => ?_))
      | exact ih0 _ _ _ _
      | exact LeO.none _
      | refine LeO.ite ?_ ?_
      | refine LeO.bind ?_ (fun _ => ?_)
theorem impl_AreCaves.mono : ∀ a0 k, LeO (impl_AreCaves.f k a0) (impl_AreCaves.f (k + 1) a0) := by
  intro a0 k
  have ih0 := impl_AreCaves.mono_l k
  unfold impl_AreCaves.f
  repeat' first
      | (with_reducible exact ih0 _ _ _ _)
      | (with_reducible exact LeO.refl _)
      | (with_reducible exact LeO.none _)
      | (with_reducible refine LeO.ite ?_ ?_)
      | (with_reducible refine LeO.bind ?_ (fun _ => ?_))
      | exact ih0 _ _ _ _
      | exact LeO.none _
      | refine LeO.ite ?_ ?_
      | refine LeO.bind ?_ (fun _ => ?_)
def impl_AreCaves.T4 : Bool × List (List Nat × List Nat) := (true, [([], []), ([0], [0]), ([1], [1]), ([2, 1], [2]), ([3], [3]), ([4, 3], [3, 4]), ([5, 3, 3], [3, 5]), ([6], [6]), ([6], [6]), ([8, 6], [6, 8]), ([7, 9, 6], [6, 7, 9]), ([10, 6], [6, 10]), ([11, 6], [6, 11]), ([6], [6]), ([13, 6], [6, 13]), ([12, 14, 6], [6, 12, 14]), ([6, 15, 3], [3, 6, 15]), ([3, 16], [3, 16])])
def impl_AreCaves.B4 : List Nat := [0, 1, 3, 7, 15, 31, 63, 127, 127, 383, 1023, 2047, 4095, 127, 8319, 32767, 65535, 131071]
theorem impl_AreCaves.tab4 : rtab .any (opsOf Tryd.f22 4) = impl_AreCaves.T4 := by kernel_rfl
theorem impl_AreCaves.bits4 : waitsOk impl_AreCaves.T4.2 impl_AreCaves.B4 = true := by kernel_rfl
set_option maxHeartbeats 8000000 in
set_option maxRecDepth 100000 in
theorem impl_AreCaves.calls (k : Nat) (A0 : Option Addr) (c0 : Nat) (l0 : List (S26)) (r : Bool) (w : World) (hr0 : Kd.C k26 w A0 l0.length l0) (hc0 : l0.length ≤ c0) (h : impl_AreCaves.f k l0 = some r) :
    Calls Tryd.prog 22 #[.slice A0 l0.length c0] w fun e w' => e = .returned (.bool r) ∧ Below w.heap.size w w' := by
  have hu26 := Tryd.underlying26
  have HR0 := Aside0.mk hr0
  have HC0 := Aside0.mk hc0
  clear hr0 hc0
  have HB := Aside0.mk (Below.refl w.heap.size w)
  have H : (impl_AreCaves.l0 k l0 l0 (l0.length : Int) 0) = some r := h
  clear h
  have H' := Aside0.mk H
  clear H
  go_enter Tryd.func22, Tryd.ntmps22
  go_wp2
  go_loopg [7] k (fun kq v7 w' => ∃ (x7_1 : Int), v7 = .int .i64 x7_1 ∧ Aside0 (impl_AreCaves.l0 kq l0 l0 (l0.length : Int) x7_1 = some r) ∧ Aside0 (kq ≤ k) ∧ Aside0 (Below w.heap.size w w'))
  case atStart => exact ⟨(0), (by first | rfl | (simp; done) | (simp [*]; done)), H', ⟨Nat.le_refl _⟩, ⟨by repeat (first | (with_reducible first | exact HB.out | apply below_alloc | apply pw_below_drewN | apply below_drew1) | exact HB.out)⟩⟩
  case round =>
    clear H'
    obtain ⟨x7_1, rfl, HA, HK1, HB⟩ := hrel
    cases gk with
    | zero => exact absurd HA.out (by simp [impl_AreCaves.l0])
    | succ k1 =>
      have H := HA.out
      clear HA
      simp only [impl_AreCaves.l0] at H
      by_cases c2 : x7_1 < (l0.length : Int)
      · rw [if_pos c2] at H
        have c2b0 : decide (x7_1 < (l0.length : Int)) = true := decide_eq_true c2
        clear c2
        by_cases c3 : 0 ≤ x7_1
        · rw [if_pos c3] at H
          have c3b0 : decide (0 ≤ x7_1) = true := decide_eq_true c3
          clear c3
          by_cases c4 : x7_1 < (l0.length : Int)
          · rw [if_pos c4] at H
            have c4b0 : decide (x7_1 < (l0.length : Int)) = true := decide_eq_true c4
            clear c4
            replace H := Option.bind_eq_some_iff.mp H
            obtain ⟨t151, A50, H⟩ := H
            replace H : (if t151 = true then (if x7_1 > 0 then (if 0 ≤ (wrap64 (x7_1 - 1)) then (if (wrap64 (x7_1 - 1)) < (l0.length : Int) then (if ((Op.bytesLess (((rd_T26 l0 (wrap64 (x7_1 - 1))).f0).toList) (((rd_T26 l0 x7_1).f0).toList)) = true) then (impl_AreCaves.l0 k1 l0 l0 (l0.length : Int) (wrap64 (x7_1 + 1))) else (some false)) else (none)) else (none)) else (impl_AreCaves.l0 k1 l0 l0 (l0.length : Int) (wrap64 (x7_1 + 1)))) else (some false)) = some r := H
            have A5 := Aside0.mk A50
            clear A50
            by_cases c6 : t151 = true
            · subst c6
              have H1 : (if x7_1 > 0 then (if 0 ≤ (wrap64 (x7_1 - 1)) then (if (wrap64 (x7_1 - 1)) < (l0.length : Int) then (if ((Op.bytesLess (((rd_T26 l0 (wrap64 (x7_1 - 1))).f0).toList) (((rd_T26 l0 x7_1).f0).toList)) = true) then (impl_AreCaves.l0 k1 l0 l0 (l0.length : Int) (wrap64 (x7_1 + 1))) else (some false)) else (none)) else (none)) else (impl_AreCaves.l0 k1 l0 l0 (l0.length : Int) (wrap64 (x7_1 + 1)))) = some r := by rw [if_pos rfl] at H; exact H
              clear H
              have H := H1
              clear H1
              by_cases c7 : x7_1 > 0
              · rw [if_pos c7] at H
                have c7b0 : decide (0 < x7_1) = true := decide_eq_true c7
                clear c7
                obtain ⟨ji8, hji8⟩ : ∃ j_ : Int, (wrap64 (x7_1 - 1)) = j_ := ⟨_, rfl⟩
                replace H : (if 0 ≤ (ji8) then (if (ji8) < (l0.length : Int) then (if ((Op.bytesLess (((rd_T26 l0 (ji8)).f0).toList) (((rd_T26 l0 x7_1).f0).toList)) = true) then (impl_AreCaves.l0 k1 l0 l0 (l0.length : Int) (wrap64 (x7_1 + 1))) else (some false)) else (none)) else (none)) = some r := by first | (rw [hji8] at H; exact H) | (simp only [hji8] at H ⊢; exact H)
                (try rw [hji8] at A5)
                have hji8w : (IntKind.i64.wrap (x7_1 - 1)) = ji8 := (i64_w _).trans hji8
                by_cases c9 : 0 ≤ (ji8)
                · rw [if_pos c9] at H
                  have c9b0 : decide (0 ≤ (ji8)) = true := decide_eq_true c9
                  clear c9
                  by_cases c10 : (ji8) < (l0.length : Int)
                  · rw [if_pos c10] at H
                    have c10b0 : decide ((ji8) < (l0.length : Int)) = true := decide_eq_true c10
                    clear c10
                    by_cases c11 : ((Op.bytesLess (((rd_T26 l0 (ji8)).f0).toList) (((rd_T26 l0 x7_1).f0).toList)) = true)
                    · rw [if_pos c11] at H
                      have c11b0 : (Op.bytesLess (((rd_T26 l0 (ji8)).f0).toList) (((rd_T26 l0 x7_1).f0).toList)) = true := c11
                      clear c11
                      have H' := Aside0.mk H
                      clear H
                      have p149 : 0 ≤ (x7_1 : Int) := of_decide_eq_true (by first | (with_reducible assumption) | assumption)
                      have q149 : x7_1 < (l0.length : Int) := of_decide_eq_true (by first | (with_reducible assumption) | assumption)
                      obtain ⟨ad149, e149, hx149_0, hx149_1, hx149_2, hx149_3⟩ := at_T26 HR0.out x7_1 p149 q149
                      cases e149
                      replace hx149_0 := (HB.out.cell (World.block_lt_of_cell? w _ hx149_0)).trans hx149_0
                      replace hx149_1 := (HB.out.cell (World.block_lt_of_cell? w _ hx149_1)).trans hx149_1
                      replace hx149_2 := (HB.out.cell (World.block_lt_of_cell? w _ hx149_2)).trans hx149_2
                      replace hx149_3 := (HB.out.cell (World.block_lt_of_cell? w _ hx149_3)).trans hx149_3
                      replace p149 := eq_true p149
                      replace q149 := eq_true q149
                      try go_wp2_with (first | ((with_reducible refine gate_dst (N := 4) rfl ?_); refine box_event ?hg (N := 4) ?hd (cs := #[.string (⟨#[]⟩ : ByteArray), .int .i64 0, .int .i64 0, .int .i64 0]) (t := 26) ?hr ?_; (case hd => rfl); (case hg => rfl); (case hr => first | (go_simp; done) | (go_simp; rfl)); intro gb150 hg w12 hbox hb; have n0_ := Aside0.mk (below_step (by repeat (first | (with_reducible first | exact HB.out | apply below_alloc | apply pw_below_drewN | apply below_drew1) | exact HB.out)) hb); have n1_ := Aside0.mk (hbox); have n2_ := Aside0.mk ((by rw [hg]; exact (below_size (by repeat (first | (with_reducible first | exact HB.out | apply below_alloc | apply pw_below_drewN | apply below_drew1) | exact HB.out))) : w.heap.size ≤ gb150)); have n3_ := Aside0.mk ((by rw [hg]; exact (below_size (by repeat (first | (with_reducible first | exact HB.out | apply below_alloc | apply pw_below_drewN | apply below_drew1) | exact HB.out))) : w.heap.size ≤ gb150)); clear HB; have HB := n0_; have BK150 := n1_; have GW150 := n2_; have GE150 := n3_; clear n0_ n1_ n2_ n3_; clear hb hbox hg; have hcz13_0 : w12.cell? ⟨gb150, 0, none⟩ = some (.string (⟨#[]⟩ : ByteArray)) := (blk_cell BK150.out 0).trans rfl; have hcz13_1 : w12.cell? ⟨gb150, 1, none⟩ = some (.int .i64 0) := (blk_cell BK150.out 1).trans rfl; have hcz13_2 : w12.cell? ⟨gb150, 2, none⟩ = some (.int .i64 0) := (blk_cell BK150.out 2).trans rfl; have hcz13_3 : w12.cell? ⟨gb150, 3, none⟩ = some (.int .i64 0) := (blk_cell BK150.out 3).trans rfl; have hfz13_0 := blk_frozen BK150.out 0; have hfz13_1 := blk_frozen BK150.out 1; have hfz13_2 := blk_frozen BK150.out 2; have hfz13_3 := blk_frozen BK150.out 3))
                      have n0_ : Aside0 (((((w12.setCell ⟨gb150, 0, none⟩ (.string ((rd_T26 l0 x7_1).f0))).setCell ⟨gb150, 1, none⟩ (.int .i64 ((rd_T26 l0 x7_1).f1))).setCell ⟨gb150, 2, none⟩ (.int .i64 ((rd_T26 l0 x7_1).f2))).setCell ⟨gb150, 3, none⟩ (.int .i64 ((rd_T26 l0 x7_1).f3))).heap[gb150]? = some (.cells #[.string ((rd_T26 l0 x7_1).f0), .int .i64 ((rd_T26 l0 x7_1).f1), .int .i64 ((rd_T26 l0 x7_1).f2), .int .i64 ((rd_T26 l0 x7_1).f3)] 26 (0, 0))) := ⟨by (with_reducible repeat (first | refine blk_drewN ?_ _ | refine blk_drew ?_ | refine blk_alloc ?_ _)); refine blk_put (cs := #[.string ((rd_T26 l0 x7_1).f0), .int .i64 ((rd_T26 l0 x7_1).f1), .int .i64 ((rd_T26 l0 x7_1).f2), .int .i64 0]) ?_ 3 _ rfl; (with_reducible repeat (first | refine blk_drewN ?_ _ | refine blk_drew ?_ | refine blk_alloc ?_ _)); refine blk_put (cs := #[.string ((rd_T26 l0 x7_1).f0), .int .i64 ((rd_T26 l0 x7_1).f1), .int .i64 0, .int .i64 0]) ?_ 2 _ rfl; (with_reducible repeat (first | refine blk_drewN ?_ _ | refine blk_drew ?_ | refine blk_alloc ?_ _)); refine blk_put (cs := #[.string ((rd_T26 l0 x7_1).f0), .int .i64 0, .int .i64 0, .int .i64 0]) ?_ 1 _ rfl; (with_reducible repeat (first | refine blk_drewN ?_ _ | refine blk_drew ?_ | refine blk_alloc ?_ _)); refine blk_put (cs := #[.string (⟨#[]⟩ : ByteArray), .int .i64 0, .int .i64 0, .int .i64 0]) ?_ 0 _ rfl; (with_reducible repeat (first | refine blk_drewN ?_ _ | refine blk_drew ?_ | refine blk_alloc ?_ _)); exact BK150.out⟩
                      have n1_ : Aside0 (Below w.heap.size w ((((w12.setCell ⟨gb150, 0, none⟩ (.string ((rd_T26 l0 x7_1).f0))).setCell ⟨gb150, 1, none⟩ (.int .i64 ((rd_T26 l0 x7_1).f1))).setCell ⟨gb150, 2, none⟩ (.int .i64 ((rd_T26 l0 x7_1).f2))).setCell ⟨gb150, 3, none⟩ (.int .i64 ((rd_T26 l0 x7_1).f3)))) := ⟨by repeat (first | (with_reducible first | exact HB.out | apply below_alloc | apply pw_below_drewN | apply below_drew1 | refine below_set ?_ GE150.out) | exact HB.out)⟩
                      (try clear BK150)
                      (try clear HB)
                      generalize ((((w12.setCell ⟨gb150, 0, none⟩ (.string ((rd_T26 l0 x7_1).f0))).setCell ⟨gb150, 1, none⟩ (.int .i64 ((rd_T26 l0 x7_1).f1))).setCell ⟨gb150, 2, none⟩ (.int .i64 ((rd_T26 l0 x7_1).f2))).setCell ⟨gb150, 3, none⟩ (.int .i64 ((rd_T26 l0 x7_1).f3))) = w14 at n0_ n1_ ⊢
                      have BK150 := n0_
                      have HB := n1_
                      clear n0_ n1_
                      have n0_ := Aside0.mk (blk_drew BK150.out)
                      have n1_ := Aside0.mk (below_drew1 HB.out)
                      clear BK150
                      clear HB
                      have BK150 := n0_
                      have HB := n1_
                      clear n0_ n1_
                      have p152 : 0 ≤ ((ji8) : Int) := of_decide_eq_true (by first | (with_reducible assumption) | assumption)
                      have q152 : (ji8) < (l0.length : Int) := of_decide_eq_true (by first | (with_reducible assumption) | assumption)
                      obtain ⟨ad152, e152, hx152_0, hx152_1, hx152_2, hx152_3⟩ := at_T26 HR0.out (ji8) p152 q152
                      have hw152_3 := hx152_3
                      have hw152_2 := hx152_2
                      have hw152_1 := hx152_1
                      have hw152_0 := hx152_0
                      obtain rfl : ad149 = ad152 := (by injection e152)
                      replace hx152_0 := (HB.out.cell (World.block_lt_of_cell? w _ hx152_0)).trans hx152_0
                      replace hx152_1 := (HB.out.cell (World.block_lt_of_cell? w _ hx152_1)).trans hx152_1
                      replace hx152_2 := (HB.out.cell (World.block_lt_of_cell? w _ hx152_2)).trans hx152_2
                      replace hx152_3 := (HB.out.cell (World.block_lt_of_cell? w _ hx152_3)).trans hx152_3
                      replace p152 := eq_true p152
                      replace q152 := eq_true q152
                      refine start_ (n := 18) (S := fun w' => w'.cell? ⟨gb150, 0, none⟩ = some (.string ((rd_T26 l0 x7_1).f0)) ∧ w'.cell? ⟨gb150, 1, none⟩ = some (.int .i64 ((rd_T26 l0 x7_1).f1)) ∧ w'.cell? ⟨gb150, 2, none⟩ = some (.int .i64 ((rd_T26 l0 x7_1).f2)) ∧ w'.cell? ⟨gb150, 3, none⟩ = some (.int .i64 ((rd_T26 l0 x7_1).f3)) ∧ w'.cell? (ad149.add (((ji8)).toNat * 4)) = some (.string ((rd_T26 l0 (ji8)).f0)) ∧ w'.cell? ⟨(ad149.add (((ji8)).toNat * 4)).block, (ad149.add (((ji8)).toNat * 4)).off + 1, none⟩ = some (.int .i64 ((rd_T26 l0 (ji8)).f1)) ∧ w'.cell? ⟨(ad149.add (((ji8)).toNat * 4)).block, (ad149.add (((ji8)).toNat * 4)).off + 2, none⟩ = some (.int .i64 ((rd_T26 l0 (ji8)).f2)) ∧ w'.cell? ⟨(ad149.add (((ji8)).toNat * 4)).block, (ad149.add (((ji8)).toNat * 4)).off + 3, none⟩ = some (.int .i64 ((rd_T26 l0 (ji8)).f3))) (ds := []) #[false, false, false, false, false, false, false, false, false, false, false, false, false, false, false, false, false, false] (by kernel_rfl) rfl rfl ⟨(blk_cell BK150.out 0).trans rfl, (blk_cell BK150.out 1).trans rfl, (blk_cell BK150.out 2).trans rfl, (blk_cell BK150.out 3).trans rfl, ((HB.out.cell (World.block_lt_of_cell? w _ hw152_0)).trans hw152_0), ((HB.out.cell (World.block_lt_of_cell? w _ hw152_1)).trans hw152_1), ((HB.out.cell (World.block_lt_of_cell? w _ hw152_2)).trans hw152_2), ((HB.out.cell (World.block_lt_of_cell? w _ hw152_3)).trans hw152_3)⟩ (fun hHeld => ?_); refine with_tabW impl_AreCaves.tab4 impl_AreCaves.bits4 (fun HT_ HW_ => ?_)
                      generalize w14.drew = w15 at BK150 HB hx152_0 hx152_1 hx152_2 hx152_3 hHeld ⊢
                      refine take_ (i := 0) (N := some 12) (v := ?_) (a' := ?_) #[true, false, false, false, false, false, false, false, false, false, false, false, false, false, false, false, false, false] rfl rfl (take_ofW HT_.out HW_.out (by kernel_rfl)) (fun _ _ _ h => h) (Or.inl ⟨by rfl, ?_⟩) hHeld ?_ ?_
                      rotate_left
                      · rintro w' ⟨s0, s1, s2, s3, s4, s5, s6, s7⟩
                        go_simp
                        first | with_reducible rfl | (rw [if_neg (by simp only [ByteArray.size_append, ByteArray.size_extract, show ∀ (a : UInt8) (l : List UInt8), (⟨⟨a :: l⟩⟩ : ByteArray).size = l.length + 1 from fun _ _ => rfl, List.length_cons, List.length_nil] at *; omega)]; done) | (rw [if_neg (by simp only [ByteArray.size_append, ByteArray.size_extract, show ∀ (a : UInt8) (l : List UInt8), (⟨⟨a :: l⟩⟩ : ByteArray).size = l.length + 1 from fun _ _ => rfl, List.length_cons, List.length_nil] at *; omega)]; with_reducible rfl)
                      rotate_left
                      · simp only [Act.put, List.setIfInBounds_toArray, List.set_cons_zero, List.set_cons_succ, i64_w, i32_w]
                        rfl
                      refine one_ (i := 1) (N := some 13) #[true, true, false, false, false, false, false, false, false, false, false, false, false, false, false, false, false, false] rfl rfl (one_of HT_.out (by kernel_rfl)) (by decide) (fun K hK => ?_)
                      refine goes_ Tryd.func18 (by kernel_rfl) rfl #[.agg #[.string ((rd_T26 l0 x7_1).f0), .int .i64 ((rd_T26 l0 x7_1).f1), .int .i64 ((rd_T26 l0 x7_1).f2), .int .i64 ((rd_T26 l0 x7_1).f3)]] (by rfl) rfl rfl (by (try simp only [List.map_toArray, List.map_cons, List.map_nil]); first | done | rfl | (simp only [List.length_drop, List.length_take]; rfl)) ?_
                      with_reducible refine (impl_IsCaveRow.calls ((rd_T26 l0 x7_1).f0) ((rd_T26 l0 x7_1).f1) ((rd_T26 l0 x7_1).f2) ((rd_T26 l0 x7_1).f3) true _ A5.out).mono ?_
                      rintro e w16 ⟨rfl, hb⟩
                      refine ⟨_, rfl, ?_⟩
                      have n0_ := Aside0.mk (blk_below (g := gb150) (o := .cells #[.string ((rd_T26 l0 x7_1).f0), .int .i64 ((rd_T26 l0 x7_1).f1), .int .i64 ((rd_T26 l0 x7_1).f2), .int .i64 ((rd_T26 l0 x7_1).f3)] 26 (0, 0)) (by (with_reducible repeat (first | refine blk_drewN ?_ _ | refine blk_drew ?_ | refine blk_alloc ?_ _)); exact BK150.out) hb)
                      have n1_ := Aside0.mk (below_step (by repeat (first | (with_reducible first | exact HB.out | apply below_alloc | apply pw_below_drewN | apply below_drew1 | refine below_set ?_ GE150.out) | exact HB.out)) hb)
                      clear BK150
                      clear HB
                      have BK150 := n0_
                      have HB := n1_
                      clear n0_ n1_
                      (try clear hb)
                      (try clear hb2)
                      (try clear hk)
                      (try clear hi)
                      refine hK.out _ _ ⟨(blk_cell BK150.out 0).trans rfl, (blk_cell BK150.out 1).trans rfl, (blk_cell BK150.out 2).trans rfl, (blk_cell BK150.out 3).trans rfl, ((HB.out.cell (World.block_lt_of_cell? w _ hw152_0)).trans hw152_0), ((HB.out.cell (World.block_lt_of_cell? w _ hw152_1)).trans hw152_1), ((HB.out.cell (World.block_lt_of_cell? w _ hw152_2)).trans hw152_2), ((HB.out.cell (World.block_lt_of_cell? w _ hw152_3)).trans hw152_3)⟩ (fun hHeld => ?_)
                      clear hK K
                      refine norm_ (a' := ?_) ?_ ?_
                      rotate_left
                      · show Act.put _ (some 13) _ = _
                        simp only [Act.put, List.setIfInBounds_toArray, List.set_cons_zero, List.set_cons_succ, i64_w, i32_w]
                        rfl
                      refine pure_ (i := 2) (N := some 14) (v := ?_) (a' := ?_) #[true, true, true, false, false, false, false, false, false, false, false, false, false, false, false, false, false, false] rfl rfl (any_of HT_.out (by kernel_rfl)) (fun _ _ _ h => h) (Or.inl ⟨by rfl, ?_⟩) ?_ ?_
                      rotate_left
                      · intro w'
                        go_simp
                        first | with_reducible rfl | (rw [if_neg (by simp only [ByteArray.size_append, ByteArray.size_extract, show ∀ (a : UInt8) (l : List UInt8), (⟨⟨a :: l⟩⟩ : ByteArray).size = l.length + 1 from fun _ _ => rfl, List.length_cons, List.length_nil] at *; omega)]; done) | (rw [if_neg (by simp only [ByteArray.size_append, ByteArray.size_extract, show ∀ (a : UInt8) (l : List UInt8), (⟨⟨a :: l⟩⟩ : ByteArray).size = l.length + 1 from fun _ _ => rfl, List.length_cons, List.length_nil] at *; omega)]; with_reducible rfl)
                      rotate_left
                      · simp only [Act.put, List.setIfInBounds_toArray, List.set_cons_zero, List.set_cons_succ, i64_w, i32_w]
                        rfl
                      refine pure_ (i := 3) (N := some 15) (v := ?_) (a' := ?_) #[true, true, true, true, false, false, false, false, false, false, false, false, false, false, false, false, false, false] rfl rfl (any_of HT_.out (by kernel_rfl)) (fun _ _ _ h => h) (Or.inl ⟨by rfl, ?_⟩) ?_ ?_
                      rotate_left
                      · intro w'
                        go_simp
                        first | with_reducible rfl | (rw [if_neg (by simp only [ByteArray.size_append, ByteArray.size_extract, show ∀ (a : UInt8) (l : List UInt8), (⟨⟨a :: l⟩⟩ : ByteArray).size = l.length + 1 from fun _ _ => rfl, List.length_cons, List.length_nil] at *; omega)]; done) | (rw [if_neg (by simp only [ByteArray.size_append, ByteArray.size_extract, show ∀ (a : UInt8) (l : List UInt8), (⟨⟨a :: l⟩⟩ : ByteArray).size = l.length + 1 from fun _ _ => rfl, List.length_cons, List.length_nil] at *; omega)]; with_reducible rfl)
                      rotate_left
                      · simp only [Act.put, List.setIfInBounds_toArray, List.set_cons_zero, List.set_cons_succ, i64_w, i32_w]
                        rfl
                      refine pure_ (i := 4) (N := some 16) (v := ?_) (a' := ?_) #[true, true, true, true, true, false, false, false, false, false, false, false, false, false, false, false, false, false] rfl rfl (any_of HT_.out (by kernel_rfl)) (fun _ _ _ h => h) (Or.inl ⟨by rfl, ?_⟩) ?_ ?_
                      rotate_left
                      · intro w'
                        go_simp
                        first | with_reducible rfl | (rw [if_neg (by simp only [ByteArray.size_append, ByteArray.size_extract, show ∀ (a : UInt8) (l : List UInt8), (⟨⟨a :: l⟩⟩ : ByteArray).size = l.length + 1 from fun _ _ => rfl, List.length_cons, List.length_nil] at *; omega)]; done) | (rw [if_neg (by simp only [ByteArray.size_append, ByteArray.size_extract, show ∀ (a : UInt8) (l : List UInt8), (⟨⟨a :: l⟩⟩ : ByteArray).size = l.length + 1 from fun _ _ => rfl, List.length_cons, List.length_nil] at *; omega)]; with_reducible rfl)
                      rotate_left
                      · simp only [Act.put, List.setIfInBounds_toArray, List.set_cons_zero, List.set_cons_succ, i64_w, i32_w]
                        rfl
                      refine pure_ (i := 5) (N := some 17) (v := ?_) (a' := ?_) #[true, true, true, true, true, true, false, false, false, false, false, false, false, false, false, false, false, false] rfl rfl (any_of HT_.out (by kernel_rfl)) (fun _ _ _ h => h) (Or.inl ⟨by rfl, ?_⟩) ?_ ?_
                      rotate_left
                      · intro w'
                        go_simp
                        first | with_reducible rfl | (rw [if_neg (by simp only [ByteArray.size_append, ByteArray.size_extract, show ∀ (a : UInt8) (l : List UInt8), (⟨⟨a :: l⟩⟩ : ByteArray).size = l.length + 1 from fun _ _ => rfl, List.length_cons, List.length_nil] at *; omega)]; done) | (rw [if_neg (by simp only [ByteArray.size_append, ByteArray.size_extract, show ∀ (a : UInt8) (l : List UInt8), (⟨⟨a :: l⟩⟩ : ByteArray).size = l.length + 1 from fun _ _ => rfl, List.length_cons, List.length_nil] at *; omega)]; with_reducible rfl)
                      rotate_left
                      · simp only [Act.put, List.setIfInBounds_toArray, List.set_cons_zero, List.set_cons_succ, i64_w, i32_w]
                        rfl
                      refine pure_ (i := 6) (N := some 18) (v := ?_) (a' := ?_) #[true, true, true, true, true, true, true, false, false, false, false, false, false, false, false, false, false, false] rfl rfl (any_of HT_.out (by kernel_rfl)) (fun _ _ _ h => h) (Or.inl ⟨by rfl, ?_⟩) ?_ ?_
                      rotate_left
                      · intro w'
                        go_simp
                        first | with_reducible rfl | (rw [if_neg (by simp only [ByteArray.size_append, ByteArray.size_extract, show ∀ (a : UInt8) (l : List UInt8), (⟨⟨a :: l⟩⟩ : ByteArray).size = l.length + 1 from fun _ _ => rfl, List.length_cons, List.length_nil] at *; omega)]; done) | (rw [if_neg (by simp only [ByteArray.size_append, ByteArray.size_extract, show ∀ (a : UInt8) (l : List UInt8), (⟨⟨a :: l⟩⟩ : ByteArray).size = l.length + 1 from fun _ _ => rfl, List.length_cons, List.length_nil] at *; omega)]; with_reducible rfl)
                      rotate_left
                      · simp only [Act.put, List.setIfInBounds_toArray, List.set_cons_zero, List.set_cons_succ, i64_w, i32_w]
                        rfl
                      refine pure_ (i := 7) (N := some 19) (v := ?_) (a' := ?_) #[true, true, true, true, true, true, true, true, false, false, false, false, false, false, false, false, false, false] rfl rfl (any_of HT_.out (by kernel_rfl)) (fun _ _ _ h => h) (Or.inl ⟨by rfl, ?_⟩) ?_ ?_
                      rotate_left
                      · intro w'
                        go_simp
                        first | with_reducible rfl | (rw [if_neg (by simp only [ByteArray.size_append, ByteArray.size_extract, show ∀ (a : UInt8) (l : List UInt8), (⟨⟨a :: l⟩⟩ : ByteArray).size = l.length + 1 from fun _ _ => rfl, List.length_cons, List.length_nil] at *; omega)]; done) | (rw [if_neg (by simp only [ByteArray.size_append, ByteArray.size_extract, show ∀ (a : UInt8) (l : List UInt8), (⟨⟨a :: l⟩⟩ : ByteArray).size = l.length + 1 from fun _ _ => rfl, List.length_cons, List.length_nil] at *; omega)]; with_reducible rfl)
                      rotate_left
                      · simp only [Act.put, List.setIfInBounds_toArray, List.set_cons_zero, List.set_cons_succ, i64_w, i32_w]
                        rfl
                      refine pure_ (i := 8) (N := some 20) (v := ?_) (a' := ?_) #[true, true, true, true, true, true, true, true, true, false, false, false, false, false, false, false, false, false] rfl rfl (any_of HT_.out (by kernel_rfl)) (fun _ _ _ h => h) (Or.inl ⟨by rfl, ?_⟩) ?_ ?_
                      rotate_left
                      · intro w'
                        go_simp
                        first | with_reducible rfl | (rw [if_neg (by simp only [ByteArray.size_append, ByteArray.size_extract, show ∀ (a : UInt8) (l : List UInt8), (⟨⟨a :: l⟩⟩ : ByteArray).size = l.length + 1 from fun _ _ => rfl, List.length_cons, List.length_nil] at *; omega)]; done) | (rw [if_neg (by simp only [ByteArray.size_append, ByteArray.size_extract, show ∀ (a : UInt8) (l : List UInt8), (⟨⟨a :: l⟩⟩ : ByteArray).size = l.length + 1 from fun _ _ => rfl, List.length_cons, List.length_nil] at *; omega)]; with_reducible rfl)
                      rotate_left
                      · simp only [Act.put, List.setIfInBounds_toArray, List.set_cons_zero, List.set_cons_succ, i64_w, i32_w]
                        rfl
                      refine pure_ (i := 9) (N := some 21) (v := ?_) (a' := ?_) #[true, true, true, true, true, true, true, true, true, true, false, false, false, false, false, false, false, false] rfl rfl (any_of HT_.out (by kernel_rfl)) (fun _ _ _ h => h) (Or.inl ⟨by rfl, ?_⟩) ?_ ?_
                      rotate_left
                      · intro w'
                        go_simp
                        first | with_reducible rfl | (rw [if_neg (by simp only [ByteArray.size_append, ByteArray.size_extract, show ∀ (a : UInt8) (l : List UInt8), (⟨⟨a :: l⟩⟩ : ByteArray).size = l.length + 1 from fun _ _ => rfl, List.length_cons, List.length_nil] at *; omega)]; done) | (rw [if_neg (by simp only [ByteArray.size_append, ByteArray.size_extract, show ∀ (a : UInt8) (l : List UInt8), (⟨⟨a :: l⟩⟩ : ByteArray).size = l.length + 1 from fun _ _ => rfl, List.length_cons, List.length_nil] at *; omega)]; with_reducible rfl)
                      rotate_left
                      · simp only [Act.put, List.setIfInBounds_toArray, List.set_cons_zero, List.set_cons_succ, i64_w, i32_w]
                        rfl
                      refine pure_ (i := 10) (N := some 22) (v := ?_) (a' := ?_) #[true, true, true, true, true, true, true, true, true, true, true, false, false, false, false, false, false, false] rfl rfl (any_of HT_.out (by kernel_rfl)) (fun _ _ _ h => h) (Or.inl ⟨by rfl, ?_⟩) ?_ ?_
                      rotate_left
                      · intro w'
                        go_simp
                        first | with_reducible rfl | (rw [if_neg (by simp only [ByteArray.size_append, ByteArray.size_extract, show ∀ (a : UInt8) (l : List UInt8), (⟨⟨a :: l⟩⟩ : ByteArray).size = l.length + 1 from fun _ _ => rfl, List.length_cons, List.length_nil] at *; omega)]; done) | (rw [if_neg (by simp only [ByteArray.size_append, ByteArray.size_extract, show ∀ (a : UInt8) (l : List UInt8), (⟨⟨a :: l⟩⟩ : ByteArray).size = l.length + 1 from fun _ _ => rfl, List.length_cons, List.length_nil] at *; omega)]; with_reducible rfl)
                      rotate_left
                      · simp only [Act.put, List.setIfInBounds_toArray, List.set_cons_zero, List.set_cons_succ, i64_w, i32_w]
                        rfl
                      refine pure_ (i := 11) (N := some 23) (v := ?_) (a' := ?_) #[true, true, true, true, true, true, true, true, true, true, true, true, false, false, false, false, false, false] rfl rfl (any_of HT_.out (by kernel_rfl)) (fun _ _ _ h => h) (Or.inl ⟨by rfl, ?_⟩) ?_ ?_
                      rotate_left
                      · intro w'
                        go_simp
                        first | with_reducible rfl | (rw [if_neg (by simp only [ByteArray.size_append, ByteArray.size_extract, show ∀ (a : UInt8) (l : List UInt8), (⟨⟨a :: l⟩⟩ : ByteArray).size = l.length + 1 from fun _ _ => rfl, List.length_cons, List.length_nil] at *; omega)]; done) | (rw [if_neg (by simp only [ByteArray.size_append, ByteArray.size_extract, show ∀ (a : UInt8) (l : List UInt8), (⟨⟨a :: l⟩⟩ : ByteArray).size = l.length + 1 from fun _ _ => rfl, List.length_cons, List.length_nil] at *; omega)]; with_reducible rfl)
                      rotate_left
                      · simp only [Act.put, List.setIfInBounds_toArray, List.set_cons_zero, List.set_cons_succ, i64_w, i32_w]
                        rfl
                      refine pure_ (i := 13) (N := some 25) (v := ?_) (a' := ?_) #[true, true, true, true, true, true, true, true, true, true, true, true, false, true, false, false, false, false] rfl rfl (any_of HT_.out (by kernel_rfl)) (fun _ _ _ h => h) (Or.inl ⟨by rfl, ?_⟩) ?_ ?_
                      rotate_left
                      · intro w'
                        go_simp
                        first | with_reducible rfl | (rw [if_neg (by simp only [ByteArray.size_append, ByteArray.size_extract, show ∀ (a : UInt8) (l : List UInt8), (⟨⟨a :: l⟩⟩ : ByteArray).size = l.length + 1 from fun _ _ => rfl, List.length_cons, List.length_nil] at *; omega)]; done) | (rw [if_neg (by simp only [ByteArray.size_append, ByteArray.size_extract, show ∀ (a : UInt8) (l : List UInt8), (⟨⟨a :: l⟩⟩ : ByteArray).size = l.length + 1 from fun _ _ => rfl, List.length_cons, List.length_nil] at *; omega)]; with_reducible rfl)
                      rotate_left
                      · simp only [Act.put, List.setIfInBounds_toArray, List.set_cons_zero, List.set_cons_succ, i64_w, i32_w]
                        rfl
                      refine take_ (i := 12) (N := some 24) (v := ?_) (a' := ?_) #[true, true, true, true, true, true, true, true, true, true, true, true, true, true, false, false, false, false] rfl rfl (take_ofW HT_.out HW_.out (by kernel_rfl)) (fun _ _ _ h => h) (Or.inl ⟨by rfl, ?_⟩) hHeld ?_ ?_
                      rotate_left
                      · rintro w' ⟨s0, s1, s2, s3, s4, s5, s6, s7⟩
                        go_simp
                        first | with_reducible rfl | (rw [if_neg (by simp only [ByteArray.size_append, ByteArray.size_extract, show ∀ (a : UInt8) (l : List UInt8), (⟨⟨a :: l⟩⟩ : ByteArray).size = l.length + 1 from fun _ _ => rfl, List.length_cons, List.length_nil] at *; omega)]; done) | (rw [if_neg (by simp only [ByteArray.size_append, ByteArray.size_extract, show ∀ (a : UInt8) (l : List UInt8), (⟨⟨a :: l⟩⟩ : ByteArray).size = l.length + 1 from fun _ _ => rfl, List.length_cons, List.length_nil] at *; omega)]; with_reducible rfl)
                      rotate_left
                      · simp only [Act.put, List.setIfInBounds_toArray, List.set_cons_zero, List.set_cons_succ, i64_w, i32_w]
                        rfl
                      refine take_ (i := 14) (N := some 26) (v := ?_) (a' := ?_) #[true, true, true, true, true, true, true, true, true, true, true, true, true, true, true, false, false, false] rfl rfl (take_ofW HT_.out HW_.out (by kernel_rfl)) (fun _ _ _ h => h) (Or.inl ⟨by rfl, ?_⟩) hHeld ?_ ?_
                      rotate_left
                      · rintro w' ⟨s0, s1, s2, s3, s4, s5, s6, s7⟩
                        go_simp
                        first | with_reducible rfl | (rw [if_neg (by simp only [ByteArray.size_append, ByteArray.size_extract, show ∀ (a : UInt8) (l : List UInt8), (⟨⟨a :: l⟩⟩ : ByteArray).size = l.length + 1 from fun _ _ => rfl, List.length_cons, List.length_nil] at *; omega)]; done) | (rw [if_neg (by simp only [ByteArray.size_append, ByteArray.size_extract, show ∀ (a : UInt8) (l : List UInt8), (⟨⟨a :: l⟩⟩ : ByteArray).size = l.length + 1 from fun _ _ => rfl, List.length_cons, List.length_nil] at *; omega)]; with_reducible rfl)
                      rotate_left
                      · simp only [Act.put, List.setIfInBounds_toArray, List.set_cons_zero, List.set_cons_succ, i64_w, i32_w]
                        rfl
                      refine pure_ (i := 15) (N := some 27) (v := ?_) (a' := ?_) #[true, true, true, true, true, true, true, true, true, true, true, true, true, true, true, true, false, false] rfl rfl (any_of HT_.out (by kernel_rfl)) (fun _ _ _ h => h) (Or.inl ⟨by rfl, ?_⟩) ?_ ?_
                      rotate_left
                      · intro w'
                        go_simp
                        first | with_reducible rfl | (rw [if_neg (by simp only [ByteArray.size_append, ByteArray.size_extract, show ∀ (a : UInt8) (l : List UInt8), (⟨⟨a :: l⟩⟩ : ByteArray).size = l.length + 1 from fun _ _ => rfl, List.length_cons, List.length_nil] at *; omega)]; done) | (rw [if_neg (by simp only [ByteArray.size_append, ByteArray.size_extract, show ∀ (a : UInt8) (l : List UInt8), (⟨⟨a :: l⟩⟩ : ByteArray).size = l.length + 1 from fun _ _ => rfl, List.length_cons, List.length_nil] at *; omega)]; with_reducible rfl)
                      rotate_left
                      · simp only [Act.put, List.setIfInBounds_toArray, List.set_cons_zero, List.set_cons_succ, i64_w, i32_w]
                        rfl
                      refine pure_ (i := 16) (N := some 28) (v := ?_) (a' := ?_) #[true, true, true, true, true, true, true, true, true, true, true, true, true, true, true, true, true, false] rfl rfl (any_of HT_.out (by kernel_rfl)) (fun _ _ _ h => h) (Or.inl ⟨by rfl, ?_⟩) ?_ ?_
                      rotate_left
                      · intro w'
                        go_simp
                        first | with_reducible rfl | (rw [if_neg (by simp only [ByteArray.size_append, ByteArray.size_extract, show ∀ (a : UInt8) (l : List UInt8), (⟨⟨a :: l⟩⟩ : ByteArray).size = l.length + 1 from fun _ _ => rfl, List.length_cons, List.length_nil] at *; omega)]; done) | (rw [if_neg (by simp only [ByteArray.size_append, ByteArray.size_extract, show ∀ (a : UInt8) (l : List UInt8), (⟨⟨a :: l⟩⟩ : ByteArray).size = l.length + 1 from fun _ _ => rfl, List.length_cons, List.length_nil] at *; omega)]; with_reducible rfl)
                      rotate_left
                      · simp only [Act.put, List.setIfInBounds_toArray, List.set_cons_zero, List.set_cons_succ, i64_w, i32_w]
                        rfl
                      refine pure_ (i := 17) (N := some 29) (v := ?_) (a' := ?_) #[true, true, true, true, true, true, true, true, true, true, true, true, true, true, true, true, true, true] rfl rfl (any_of HT_.out (by kernel_rfl)) (fun _ _ _ h => h) (Or.inl ⟨by rfl, ?_⟩) ?_ ?_
                      rotate_left
                      · intro w'
                        go_simp
                        first | with_reducible rfl | (rw [if_neg (by simp only [ByteArray.size_append, ByteArray.size_extract, show ∀ (a : UInt8) (l : List UInt8), (⟨⟨a :: l⟩⟩ : ByteArray).size = l.length + 1 from fun _ _ => rfl, List.length_cons, List.length_nil] at *; omega)]; done) | (rw [if_neg (by simp only [ByteArray.size_append, ByteArray.size_extract, show ∀ (a : UInt8) (l : List UInt8), (⟨⟨a :: l⟩⟩ : ByteArray).size = l.length + 1 from fun _ _ => rfl, List.length_cons, List.length_nil] at *; omega)]; with_reducible rfl)
                      rotate_left
                      · simp only [Act.put, List.setIfInBounds_toArray, List.set_cons_zero, List.set_cons_succ, i64_w, i32_w]
                        rfl
                      refine done_ (done_of HT_.out (by kernel_rfl)) ?_
                      try go_wp2
                      go_roundg k1
                      case measure => have := HK1.out; omega
                      case rel => exact ⟨(wrap64 (x7_1 + 1)), (by first | rfl | (simp; done) | (simp [*]; done)), H', ⟨by have := HK1.out; omega⟩, ⟨by repeat (first | (with_reducible first | exact HB.out | apply below_alloc | apply pw_below_drewN | apply below_drew1 | refine below_set ?_ GE150.out) | exact HB.out)⟩⟩
                    · rw [if_neg c11] at H
                      have c11b0 : (Op.bytesLess (((rd_T26 l0 (ji8)).f0).toList) (((rd_T26 l0 x7_1).f0).toList)) = false := by simpa using c11
                      clear c11
                      obtain rfl := Option.some.inj H
                      have p149 : 0 ≤ (x7_1 : Int) := of_decide_eq_true (by first | (with_reducible assumption) | assumption)
                      have q149 : x7_1 < (l0.length : Int) := of_decide_eq_true (by first | (with_reducible assumption) | assumption)
                      obtain ⟨ad149, e149, hx149_0, hx149_1, hx149_2, hx149_3⟩ := at_T26 HR0.out x7_1 p149 q149
                      cases e149
                      replace hx149_0 := (HB.out.cell (World.block_lt_of_cell? w _ hx149_0)).trans hx149_0
                      replace hx149_1 := (HB.out.cell (World.block_lt_of_cell? w _ hx149_1)).trans hx149_1
                      replace hx149_2 := (HB.out.cell (World.block_lt_of_cell? w _ hx149_2)).trans hx149_2
                      replace hx149_3 := (HB.out.cell (World.block_lt_of_cell? w _ hx149_3)).trans hx149_3
                      replace p149 := eq_true p149
                      replace q149 := eq_true q149
                      try go_wp2_with (first | ((with_reducible refine gate_dst (N := 4) rfl ?_); refine box_event ?hg (N := 4) ?hd (cs := #[.string (⟨#[]⟩ : ByteArray), .int .i64 0, .int .i64 0, .int .i64 0]) (t := 26) ?hr ?_; (case hd => rfl); (case hg => rfl); (case hr => first | (go_simp; done) | (go_simp; rfl)); intro gb150 hg w17 hbox hb; have n0_ := Aside0.mk (below_step (by repeat (first | (with_reducible first | exact HB.out | apply below_alloc | apply pw_below_drewN | apply below_drew1) | exact HB.out)) hb); have n1_ := Aside0.mk (hbox); have n2_ := Aside0.mk ((by rw [hg]; exact (below_size (by repeat (first | (with_reducible first | exact HB.out | apply below_alloc | apply pw_below_drewN | apply below_drew1) | exact HB.out))) : w.heap.size ≤ gb150)); have n3_ := Aside0.mk ((by rw [hg]; exact (below_size (by repeat (first | (with_reducible first | exact HB.out | apply below_alloc | apply pw_below_drewN | apply below_drew1) | exact HB.out))) : w.heap.size ≤ gb150)); clear HB; have HB := n0_; have BK150 := n1_; have GW150 := n2_; have GE150 := n3_; clear n0_ n1_ n2_ n3_; clear hb hbox hg; have hcz18_0 : w17.cell? ⟨gb150, 0, none⟩ = some (.string (⟨#[]⟩ : ByteArray)) := (blk_cell BK150.out 0).trans rfl; have hcz18_1 : w17.cell? ⟨gb150, 1, none⟩ = some (.int .i64 0) := (blk_cell BK150.out 1).trans rfl; have hcz18_2 : w17.cell? ⟨gb150, 2, none⟩ = some (.int .i64 0) := (blk_cell BK150.out 2).trans rfl; have hcz18_3 : w17.cell? ⟨gb150, 3, none⟩ = some (.int .i64 0) := (blk_cell BK150.out 3).trans rfl; have hfz18_0 := blk_frozen BK150.out 0; have hfz18_1 := blk_frozen BK150.out 1; have hfz18_2 := blk_frozen BK150.out 2; have hfz18_3 := blk_frozen BK150.out 3))
                      have n0_ : Aside0 (((((w17.setCell ⟨gb150, 0, none⟩ (.string ((rd_T26 l0 x7_1).f0))).setCell ⟨gb150, 1, none⟩ (.int .i64 ((rd_T26 l0 x7_1).f1))).setCell ⟨gb150, 2, none⟩ (.int .i64 ((rd_T26 l0 x7_1).f2))).setCell ⟨gb150, 3, none⟩ (.int .i64 ((rd_T26 l0 x7_1).f3))).heap[gb150]? = some (.cells #[.string ((rd_T26 l0 x7_1).f0), .int .i64 ((rd_T26 l0 x7_1).f1), .int .i64 ((rd_T26 l0 x7_1).f2), .int .i64 ((rd_T26 l0 x7_1).f3)] 26 (0, 0))) := ⟨by (with_reducible repeat (first | refine blk_drewN ?_ _ | refine blk_drew ?_ | refine blk_alloc ?_ _)); refine blk_put (cs := #[.string ((rd_T26 l0 x7_1).f0), .int .i64 ((rd_T26 l0 x7_1).f1), .int .i64 ((rd_T26 l0 x7_1).f2), .int .i64 0]) ?_ 3 _ rfl; (with_reducible repeat (first | refine blk_drewN ?_ _ | refine blk_drew ?_ | refine blk_alloc ?_ _)); refine blk_put (cs := #[.string ((rd_T26 l0 x7_1).f0), .int .i64 ((rd_T26 l0 x7_1).f1), .int .i64 0, .int .i64 0]) ?_ 2 _ rfl; (with_reducible repeat (first | refine blk_drewN ?_ _ | refine blk_drew ?_ | refine blk_alloc ?_ _)); refine blk_put (cs := #[.string ((rd_T26 l0 x7_1).f0), .int .i64 0, .int .i64 0, .int .i64 0]) ?_ 1 _ rfl; (with_reducible repeat (first | refine blk_drewN ?_ _ | refine blk_drew ?_ | refine blk_alloc ?_ _)); refine blk_put (cs := #[.string (⟨#[]⟩ : ByteArray), .int .i64 0, .int .i64 0, .int .i64 0]) ?_ 0 _ rfl; (with_reducible repeat (first | refine blk_drewN ?_ _ | refine blk_drew ?_ | refine blk_alloc ?_ _)); exact BK150.out⟩
                      have n1_ : Aside0 (Below w.heap.size w ((((w17.setCell ⟨gb150, 0, none⟩ (.string ((rd_T26 l0 x7_1).f0))).setCell ⟨gb150, 1, none⟩ (.int .i64 ((rd_T26 l0 x7_1).f1))).setCell ⟨gb150, 2, none⟩ (.int .i64 ((rd_T26 l0 x7_1).f2))).setCell ⟨gb150, 3, none⟩ (.int .i64 ((rd_T26 l0 x7_1).f3)))) := ⟨by repeat (first | (with_reducible first | exact HB.out | apply below_alloc | apply pw_below_drewN | apply below_drew1 | refine below_set ?_ GE150.out) | exact HB.out)⟩
                      (try clear BK150)
                      (try clear HB)
                      generalize ((((w17.setCell ⟨gb150, 0, none⟩ (.string ((rd_T26 l0 x7_1).f0))).setCell ⟨gb150, 1, none⟩ (.int .i64 ((rd_T26 l0 x7_1).f1))).setCell ⟨gb150, 2, none⟩ (.int .i64 ((rd_T26 l0 x7_1).f2))).setCell ⟨gb150, 3, none⟩ (.int .i64 ((rd_T26 l0 x7_1).f3))) = w19 at n0_ n1_ ⊢
                      have BK150 := n0_
                      have HB := n1_
                      clear n0_ n1_
                      have n0_ := Aside0.mk (blk_drew BK150.out)
                      have n1_ := Aside0.mk (below_drew1 HB.out)
                      clear BK150
                      clear HB
                      have BK150 := n0_
                      have HB := n1_
                      clear n0_ n1_
                      have p152 : 0 ≤ ((ji8) : Int) := of_decide_eq_true (by first | (with_reducible assumption) | assumption)
                      have q152 : (ji8) < (l0.length : Int) := of_decide_eq_true (by first | (with_reducible assumption) | assumption)
                      obtain ⟨ad152, e152, hx152_0, hx152_1, hx152_2, hx152_3⟩ := at_T26 HR0.out (ji8) p152 q152
                      have hw152_3 := hx152_3
                      have hw152_2 := hx152_2
                      have hw152_1 := hx152_1
                      have hw152_0 := hx152_0
                      obtain rfl : ad149 = ad152 := (by injection e152)
                      replace hx152_0 := (HB.out.cell (World.block_lt_of_cell? w _ hx152_0)).trans hx152_0
                      replace hx152_1 := (HB.out.cell (World.block_lt_of_cell? w _ hx152_1)).trans hx152_1
                      replace hx152_2 := (HB.out.cell (World.block_lt_of_cell? w _ hx152_2)).trans hx152_2
                      replace hx152_3 := (HB.out.cell (World.block_lt_of_cell? w _ hx152_3)).trans hx152_3
                      replace p152 := eq_true p152
                      replace q152 := eq_true q152
                      refine start_ (n := 18) (S := fun w' => w'.cell? ⟨gb150, 0, none⟩ = some (.string ((rd_T26 l0 x7_1).f0)) ∧ w'.cell? ⟨gb150, 1, none⟩ = some (.int .i64 ((rd_T26 l0 x7_1).f1)) ∧ w'.cell? ⟨gb150, 2, none⟩ = some (.int .i64 ((rd_T26 l0 x7_1).f2)) ∧ w'.cell? ⟨gb150, 3, none⟩ = some (.int .i64 ((rd_T26 l0 x7_1).f3)) ∧ w'.cell? (ad149.add (((ji8)).toNat * 4)) = some (.string ((rd_T26 l0 (ji8)).f0)) ∧ w'.cell? ⟨(ad149.add (((ji8)).toNat * 4)).block, (ad149.add (((ji8)).toNat * 4)).off + 1, none⟩ = some (.int .i64 ((rd_T26 l0 (ji8)).f1)) ∧ w'.cell? ⟨(ad149.add (((ji8)).toNat * 4)).block, (ad149.add (((ji8)).toNat * 4)).off + 2, none⟩ = some (.int .i64 ((rd_T26 l0 (ji8)).f2)) ∧ w'.cell? ⟨(ad149.add (((ji8)).toNat * 4)).block, (ad149.add (((ji8)).toNat * 4)).off + 3, none⟩ = some (.int .i64 ((rd_T26 l0 (ji8)).f3))) (ds := []) #[false, false, false, false, false, false, false, false, false, false, false, false, false, false, false, false, false, false] (by kernel_rfl) rfl rfl ⟨(blk_cell BK150.out 0).trans rfl, (blk_cell BK150.out 1).trans rfl, (blk_cell BK150.out 2).trans rfl, (blk_cell BK150.out 3).trans rfl, ((HB.out.cell (World.block_lt_of_cell? w _ hw152_0)).trans hw152_0), ((HB.out.cell (World.block_lt_of_cell? w _ hw152_1)).trans hw152_1), ((HB.out.cell (World.block_lt_of_cell? w _ hw152_2)).trans hw152_2), ((HB.out.cell (World.block_lt_of_cell? w _ hw152_3)).trans hw152_3)⟩ (fun hHeld => ?_); refine with_tabW impl_AreCaves.tab4 impl_AreCaves.bits4 (fun HT_ HW_ => ?_)
                      generalize w19.drew = w20 at BK150 HB hx152_0 hx152_1 hx152_2 hx152_3 hHeld ⊢
                      refine take_ (i := 0) (N := some 12) (v := ?_) (a' := ?_) #[true, false, false, false, false, false, false, false, false, false, false, false, false, false, false, false, false, false] rfl rfl (take_ofW HT_.out HW_.out (by kernel_rfl)) (fun _ _ _ h => h) (Or.inl ⟨by rfl, ?_⟩) hHeld ?_ ?_
                      rotate_left
                      · rintro w' ⟨s0, s1, s2, s3, s4, s5, s6, s7⟩
                        go_simp
                        first | with_reducible rfl | (rw [if_neg (by simp only [ByteArray.size_append, ByteArray.size_extract, show ∀ (a : UInt8) (l : List UInt8), (⟨⟨a :: l⟩⟩ : ByteArray).size = l.length + 1 from fun _ _ => rfl, List.length_cons, List.length_nil] at *; omega)]; done) | (rw [if_neg (by simp only [ByteArray.size_append, ByteArray.size_extract, show ∀ (a : UInt8) (l : List UInt8), (⟨⟨a :: l⟩⟩ : ByteArray).size = l.length + 1 from fun _ _ => rfl, List.length_cons, List.length_nil] at *; omega)]; with_reducible rfl)
                      rotate_left
                      · simp only [Act.put, List.setIfInBounds_toArray, List.set_cons_zero, List.set_cons_succ, i64_w, i32_w]
                        rfl
                      refine one_ (i := 1) (N := some 13) #[true, true, false, false, false, false, false, false, false, false, false, false, false, false, false, false, false, false] rfl rfl (one_of HT_.out (by kernel_rfl)) (by decide) (fun K hK => ?_)
                      refine goes_ Tryd.func18 (by kernel_rfl) rfl #[.agg #[.string ((rd_T26 l0 x7_1).f0), .int .i64 ((rd_T26 l0 x7_1).f1), .int .i64 ((rd_T26 l0 x7_1).f2), .int .i64 ((rd_T26 l0 x7_1).f3)]] (by rfl) rfl rfl (by (try simp only [List.map_toArray, List.map_cons, List.map_nil]); first | done | rfl | (simp only [List.length_drop, List.length_take]; rfl)) ?_
                      with_reducible refine (impl_IsCaveRow.calls ((rd_T26 l0 x7_1).f0) ((rd_T26 l0 x7_1).f1) ((rd_T26 l0 x7_1).f2) ((rd_T26 l0 x7_1).f3) true _ A5.out).mono ?_
                      rintro e w21 ⟨rfl, hb⟩
                      refine ⟨_, rfl, ?_⟩
                      have n0_ := Aside0.mk (blk_below (g := gb150) (o := .cells #[.string ((rd_T26 l0 x7_1).f0), .int .i64 ((rd_T26 l0 x7_1).f1), .int .i64 ((rd_T26 l0 x7_1).f2), .int .i64 ((rd_T26 l0 x7_1).f3)] 26 (0, 0)) (by (with_reducible repeat (first | refine blk_drewN ?_ _ | refine blk_drew ?_ | refine blk_alloc ?_ _)); exact BK150.out) hb)
                      have n1_ := Aside0.mk (below_step (by repeat (first | (with_reducible first | exact HB.out | apply below_alloc | apply pw_below_drewN | apply below_drew1 | refine below_set ?_ GE150.out) | exact HB.out)) hb)
                      clear BK150
                      clear HB
                      have BK150 := n0_
                      have HB := n1_
                      clear n0_ n1_
                      (try clear hb)
                      (try clear hb2)
                      (try clear hk)
                      (try clear hi)
                      refine hK.out _ _ ⟨(blk_cell BK150.out 0).trans rfl, (blk_cell BK150.out 1).trans rfl, (blk_cell BK150.out 2).trans rfl, (blk_cell BK150.out 3).trans rfl, ((HB.out.cell (World.block_lt_of_cell? w _ hw152_0)).trans hw152_0), ((HB.out.cell (World.block_lt_of_cell? w _ hw152_1)).trans hw152_1), ((HB.out.cell (World.block_lt_of_cell? w _ hw152_2)).trans hw152_2), ((HB.out.cell (World.block_lt_of_cell? w _ hw152_3)).trans hw152_3)⟩ (fun hHeld => ?_)
                      clear hK K
                      refine norm_ (a' := ?_) ?_ ?_
                      rotate_left
                      · show Act.put _ (some 13) _ = _
                        simp only [Act.put, List.setIfInBounds_toArray, List.set_cons_zero, List.set_cons_succ, i64_w, i32_w]
                        rfl
                      refine pure_ (i := 2) (N := some 14) (v := ?_) (a' := ?_) #[true, true, true, false, false, false, false, false, false, false, false, false, false, false, false, false, false, false] rfl rfl (any_of HT_.out (by kernel_rfl)) (fun _ _ _ h => h) (Or.inl ⟨by rfl, ?_⟩) ?_ ?_
                      rotate_left
                      · intro w'
                        go_simp
                        first | with_reducible rfl | (rw [if_neg (by simp only [ByteArray.size_append, ByteArray.size_extract, show ∀ (a : UInt8) (l : List UInt8), (⟨⟨a :: l⟩⟩ : ByteArray).size = l.length + 1 from fun _ _ => rfl, List.length_cons, List.length_nil] at *; omega)]; done) | (rw [if_neg (by simp only [ByteArray.size_append, ByteArray.size_extract, show ∀ (a : UInt8) (l : List UInt8), (⟨⟨a :: l⟩⟩ : ByteArray).size = l.length + 1 from fun _ _ => rfl, List.length_cons, List.length_nil] at *; omega)]; with_reducible rfl)
                      rotate_left
                      · simp only [Act.put, List.setIfInBounds_toArray, List.set_cons_zero, List.set_cons_succ, i64_w, i32_w]
                        rfl
                      refine pure_ (i := 3) (N := some 15) (v := ?_) (a' := ?_) #[true, true, true, true, false, false, false, false, false, false, false, false, false, false, false, false, false, false] rfl rfl (any_of HT_.out (by kernel_rfl)) (fun _ _ _ h => h) (Or.inl ⟨by rfl, ?_⟩) ?_ ?_
                      rotate_left
                      · intro w'
                        go_simp
                        first | with_reducible rfl | (rw [if_neg (by simp only [ByteArray.size_append, ByteArray.size_extract, show ∀ (a : UInt8) (l : List UInt8), (⟨⟨a :: l⟩⟩ : ByteArray).size = l.length + 1 from fun _ _ => rfl, List.length_cons, List.length_nil] at *; omega)]; done) | (rw [if_neg (by simp only [ByteArray.size_append, ByteArray.size_extract, show ∀ (a : UInt8) (l : List UInt8), (⟨⟨a :: l⟩⟩ : ByteArray).size = l.length + 1 from fun _ _ => rfl, List.length_cons, List.length_nil] at *; omega)]; with_reducible rfl)
                      rotate_left
                      · simp only [Act.put, List.setIfInBounds_toArray, List.set_cons_zero, List.set_cons_succ, i64_w, i32_w]
                        rfl
                      refine pure_ (i := 4) (N := some 16) (v := ?_) (a' := ?_) #[true, true, true, true, true, false, false, false, false, false, false, false, false, false, false, false, false, false] rfl rfl (any_of HT_.out (by kernel_rfl)) (fun _ _ _ h => h) (Or.inl ⟨by rfl, ?_⟩) ?_ ?_
                      rotate_left
                      · intro w'
                        go_simp
                        first | with_reducible rfl | (rw [if_neg (by simp only [ByteArray.size_append, ByteArray.size_extract, show ∀ (a : UInt8) (l : List UInt8), (⟨⟨a :: l⟩⟩ : ByteArray).size = l.length + 1 from fun _ _ => rfl, List.length_cons, List.length_nil] at *; omega)]; done) | (rw [if_neg (by simp only [ByteArray.size_append, ByteArray.size_extract, show ∀ (a : UInt8) (l : List UInt8), (⟨⟨a :: l⟩⟩ : ByteArray).size = l.length + 1 from fun _ _ => rfl, List.length_cons, List.length_nil] at *; omega)]; with_reducible rfl)
                      rotate_left
                      · simp only [Act.put, List.setIfInBounds_toArray, List.set_cons_zero, List.set_cons_succ, i64_w, i32_w]
                        rfl
                      refine pure_ (i := 5) (N := some 17) (v := ?_) (a' := ?_) #[true, true, true, true, true, true, false, false, false, false, false, false, false, false, false, false, false, false] rfl rfl (any_of HT_.out (by kernel_rfl)) (fun _ _ _ h => h) (Or.inl ⟨by rfl, ?_⟩) ?_ ?_
                      rotate_left
                      · intro w'
                        go_simp
                        first | with_reducible rfl | (rw [if_neg (by simp only [ByteArray.size_append, ByteArray.size_extract, show ∀ (a : UInt8) (l : List UInt8), (⟨⟨a :: l⟩⟩ : ByteArray).size = l.length + 1 from fun _ _ => rfl, List.length_cons, List.length_nil] at *; omega)]; done) | (rw [if_neg (by simp only [ByteArray.size_append, ByteArray.size_extract, show ∀ (a : UInt8) (l : List UInt8), (⟨⟨a :: l⟩⟩ : ByteArray).size = l.length + 1 from fun _ _ => rfl, List.length_cons, List.length_nil] at *; omega)]; with_reducible rfl)
                      rotate_left
                      · simp only [Act.put, List.setIfInBounds_toArray, List.set_cons_zero, List.set_cons_succ, i64_w, i32_w]
                        rfl
                      refine pure_ (i := 6) (N := some 18) (v := ?_) (a' := ?_) #[true, true, true, true, true, true, true, false, false, false, false, false, false, false, false, false, false, false] rfl rfl (any_of HT_.out (by kernel_rfl)) (fun _ _ _ h => h) (Or.inl ⟨by rfl, ?_⟩) ?_ ?_
                      rotate_left
                      · intro w'
                        go_simp
                        first | with_reducible rfl | (rw [if_neg (by simp only [ByteArray.size_append, ByteArray.size_extract, show ∀ (a : UInt8) (l : List UInt8), (⟨⟨a :: l⟩⟩ : ByteArray).size = l.length + 1 from fun _ _ => rfl, List.length_cons, List.length_nil] at *; omega)]; done) | (rw [if_neg (by simp only [ByteArray.size_append, ByteArray.size_extract, show ∀ (a : UInt8) (l : List UInt8), (⟨⟨a :: l⟩⟩ : ByteArray).size = l.length + 1 from fun _ _ => rfl, List.length_cons, List.length_nil] at *; omega)]; with_reducible rfl)
                      rotate_left
                      · simp only [Act.put, List.setIfInBounds_toArray, List.set_cons_zero, List.set_cons_succ, i64_w, i32_w]
                        rfl
                      refine pure_ (i := 7) (N := some 19) (v := ?_) (a' := ?_) #[true, true, true, true, true, true, true, true, false, false, false, false, false, false, false, false, false, false] rfl rfl (any_of HT_.out (by kernel_rfl)) (fun _ _ _ h => h) (Or.inl ⟨by rfl, ?_⟩) ?_ ?_
                      rotate_left
                      · intro w'
                        go_simp
                        first | with_reducible rfl | (rw [if_neg (by simp only [ByteArray.size_append, ByteArray.size_extract, show ∀ (a : UInt8) (l : List UInt8), (⟨⟨a :: l⟩⟩ : ByteArray).size = l.length + 1 from fun _ _ => rfl, List.length_cons, List.length_nil] at *; omega)]; done) | (rw [if_neg (by simp only [ByteArray.size_append, ByteArray.size_extract, show ∀ (a : UInt8) (l : List UInt8), (⟨⟨a :: l⟩⟩ : ByteArray).size = l.length + 1 from fun _ _ => rfl, List.length_cons, List.length_nil] at *; omega)]; with_reducible rfl)
                      rotate_left
                      · simp only [Act.put, List.setIfInBounds_toArray, List.set_cons_zero, List.set_cons_succ, i64_w, i32_w]
                        rfl
                      refine pure_ (i := 8) (N := some 20) (v := ?_) (a' := ?_) #[true, true, true, true, true, true, true, true, true, false, false, false, false, false, false, false, false, false] rfl rfl (any_of HT_.out (by kernel_rfl)) (fun _ _ _ h => h) (Or.inl ⟨by rfl, ?_⟩) ?_ ?_
                      rotate_left
                      · intro w'
                        go_simp
                        first | with_reducible rfl | (rw [if_neg (by simp only [ByteArray.size_append, ByteArray.size_extract, show ∀ (a : UInt8) (l : List UInt8), (⟨⟨a :: l⟩⟩ : ByteArray).size = l.length + 1 from fun _ _ => rfl, List.length_cons, List.length_nil] at *; omega)]; done) | (rw [if_neg (by simp only [ByteArray.size_append, ByteArray.size_extract, show ∀ (a : UInt8) (l : List UInt8), (⟨⟨a :: l⟩⟩ : ByteArray).size = l.length + 1 from fun _ _ => rfl, List.length_cons, List.length_nil] at *; omega)]; with_reducible rfl)
                      rotate_left
                      · simp only [Act.put, List.setIfInBounds_toArray, List.set_cons_zero, List.set_cons_succ, i64_w, i32_w]
                        rfl
                      refine pure_ (i := 9) (N := some 21) (v := ?_) (a' := ?_) #[true, true, true, true, true, true, true, true, true, true, false, false, false, false, false, false, false, false] rfl rfl (any_of HT_.out (by kernel_rfl)) (fun _ _ _ h => h) (Or.inl ⟨by rfl, ?_⟩) ?_ ?_
                      rotate_left
                      · intro w'
                        go_simp
                        first | with_reducible rfl | (rw [if_neg (by simp only [ByteArray.size_append, ByteArray.size_extract, show ∀ (a : UInt8) (l : List UInt8), (⟨⟨a :: l⟩⟩ : ByteArray).size = l.length + 1 from fun _ _ => rfl, List.length_cons, List.length_nil] at *; omega)]; done) | (rw [if_neg (by simp only [ByteArray.size_append, ByteArray.size_extract, show ∀ (a : UInt8) (l : List UInt8), (⟨⟨a :: l⟩⟩ : ByteArray).size = l.length + 1 from fun _ _ => rfl, List.length_cons, List.length_nil] at *; omega)]; with_reducible rfl)
                      rotate_left
                      · simp only [Act.put, List.setIfInBounds_toArray, List.set_cons_zero, List.set_cons_succ, i64_w, i32_w]
                        rfl
                      refine pure_ (i := 10) (N := some 22) (v := ?_) (a' := ?_) #[true, true, true, true, true, true, true, true, true, true, true, false, false, false, false, false, false, false] rfl rfl (any_of HT_.out (by kernel_rfl)) (fun _ _ _ h => h) (Or.inl ⟨by rfl, ?_⟩) ?_ ?_
                      rotate_left
                      · intro w'
                        go_simp
                        first | with_reducible rfl | (rw [if_neg (by simp only [ByteArray.size_append, ByteArray.size_extract, show ∀ (a : UInt8) (l : List UInt8), (⟨⟨a :: l⟩⟩ : ByteArray).size = l.length + 1 from fun _ _ => rfl, List.length_cons, List.length_nil] at *; omega)]; done) | (rw [if_neg (by simp only [ByteArray.size_append, ByteArray.size_extract, show ∀ (a : UInt8) (l : List UInt8), (⟨⟨a :: l⟩⟩ : ByteArray).size = l.length + 1 from fun _ _ => rfl, List.length_cons, List.length_nil] at *; omega)]; with_reducible rfl)
                      rotate_left
                      · simp only [Act.put, List.setIfInBounds_toArray, List.set_cons_zero, List.set_cons_succ, i64_w, i32_w]
                        rfl
                      refine pure_ (i := 11) (N := some 23) (v := ?_) (a' := ?_) #[true, true, true, true, true, true, true, true, true, true, true, true, false, false, false, false, false, false] rfl rfl (any_of HT_.out (by kernel_rfl)) (fun _ _ _ h => h) (Or.inl ⟨by rfl, ?_⟩) ?_ ?_
                      rotate_left
                      · intro w'
                        go_simp
                        first | with_reducible rfl | (rw [if_neg (by simp only [ByteArray.size_append, ByteArray.size_extract, show ∀ (a : UInt8) (l : List UInt8), (⟨⟨a :: l⟩⟩ : ByteArray).size = l.length + 1 from fun _ _ => rfl, List.length_cons, List.length_nil] at *; omega)]; done) | (rw [if_neg (by simp only [ByteArray.size_append, ByteArray.size_extract, show ∀ (a : UInt8) (l : List UInt8), (⟨⟨a :: l⟩⟩ : ByteArray).size = l.length + 1 from fun _ _ => rfl, List.length_cons, List.length_nil] at *; omega)]; with_reducible rfl)
                      rotate_left
                      · simp only [Act.put, List.setIfInBounds_toArray, List.set_cons_zero, List.set_cons_succ, i64_w, i32_w]
                        rfl
                      refine pure_ (i := 13) (N := some 25) (v := ?_) (a' := ?_) #[true, true, true, true, true, true, true, true, true, true, true, true, false, true, false, false, false, false] rfl rfl (any_of HT_.out (by kernel_rfl)) (fun _ _ _ h => h) (Or.inl ⟨by rfl, ?_⟩) ?_ ?_
                      rotate_left
                      · intro w'
                        go_simp
                        first | with_reducible rfl | (rw [if_neg (by simp only [ByteArray.size_append, ByteArray.size_extract, show ∀ (a : UInt8) (l : List UInt8), (⟨⟨a :: l⟩⟩ : ByteArray).size = l.length + 1 from fun _ _ => rfl, List.length_cons, List.length_nil] at *; omega)]; done) | (rw [if_neg (by simp only [ByteArray.size_append, ByteArray.size_extract, show ∀ (a : UInt8) (l : List UInt8), (⟨⟨a :: l⟩⟩ : ByteArray).size = l.length + 1 from fun _ _ => rfl, List.length_cons, List.length_nil] at *; omega)]; with_reducible rfl)
                      rotate_left
                      · simp only [Act.put, List.setIfInBounds_toArray, List.set_cons_zero, List.set_cons_succ, i64_w, i32_w]
                        rfl
                      refine take_ (i := 12) (N := some 24) (v := ?_) (a' := ?_) #[true, true, true, true, true, true, true, true, true, true, true, true, true, true, false, false, false, false] rfl rfl (take_ofW HT_.out HW_.out (by kernel_rfl)) (fun _ _ _ h => h) (Or.inl ⟨by rfl, ?_⟩) hHeld ?_ ?_
                      rotate_left
                      · rintro w' ⟨s0, s1, s2, s3, s4, s5, s6, s7⟩
                        go_simp
                        first | with_reducible rfl | (rw [if_neg (by simp only [ByteArray.size_append, ByteArray.size_extract, show ∀ (a : UInt8) (l : List UInt8), (⟨⟨a :: l⟩⟩ : ByteArray).size = l.length + 1 from fun _ _ => rfl, List.length_cons, List.length_nil] at *; omega)]; done) | (rw [if_neg (by simp only [ByteArray.size_append, ByteArray.size_extract, show ∀ (a : UInt8) (l : List UInt8), (⟨⟨a :: l⟩⟩ : ByteArray).size = l.length + 1 from fun _ _ => rfl, List.length_cons, List.length_nil] at *; omega)]; with_reducible rfl)
                      rotate_left
                      · simp only [Act.put, List.setIfInBounds_toArray, List.set_cons_zero, List.set_cons_succ, i64_w, i32_w]
                        rfl
                      refine take_ (i := 14) (N := some 26) (v := ?_) (a' := ?_) #[true, true, true, true, true, true, true, true, true, true, true, true, true, true, true, false, false, false] rfl rfl (take_ofW HT_.out HW_.out (by kernel_rfl)) (fun _ _ _ h => h) (Or.inl ⟨by rfl, ?_⟩) hHeld ?_ ?_
                      rotate_left
                      · rintro w' ⟨s0, s1, s2, s3, s4, s5, s6, s7⟩
                        go_simp
                        first | with_reducible rfl | (rw [if_neg (by simp only [ByteArray.size_append, ByteArray.size_extract, show ∀ (a : UInt8) (l : List UInt8), (⟨⟨a :: l⟩⟩ : ByteArray).size = l.length + 1 from fun _ _ => rfl, List.length_cons, List.length_nil] at *; omega)]; done) | (rw [if_neg (by simp only [ByteArray.size_append, ByteArray.size_extract, show ∀ (a : UInt8) (l : List UInt8), (⟨⟨a :: l⟩⟩ : ByteArray).size = l.length + 1 from fun _ _ => rfl, List.length_cons, List.length_nil] at *; omega)]; with_reducible rfl)
                      rotate_left
                      · simp only [Act.put, List.setIfInBounds_toArray, List.set_cons_zero, List.set_cons_succ, i64_w, i32_w]
                        rfl
                      refine pure_ (i := 15) (N := some 27) (v := ?_) (a' := ?_) #[true, true, true, true, true, true, true, true, true, true, true, true, true, true, true, true, false, false] rfl rfl (any_of HT_.out (by kernel_rfl)) (fun _ _ _ h => h) (Or.inl ⟨by rfl, ?_⟩) ?_ ?_
                      rotate_left
                      · intro w'
                        go_simp
                        first | with_reducible rfl | (rw [if_neg (by simp only [ByteArray.size_append, ByteArray.size_extract, show ∀ (a : UInt8) (l : List UInt8), (⟨⟨a :: l⟩⟩ : ByteArray).size = l.length + 1 from fun _ _ => rfl, List.length_cons, List.length_nil] at *; omega)]; done) | (rw [if_neg (by simp only [ByteArray.size_append, ByteArray.size_extract, show ∀ (a : UInt8) (l : List UInt8), (⟨⟨a :: l⟩⟩ : ByteArray).size = l.length + 1 from fun _ _ => rfl, List.length_cons, List.length_nil] at *; omega)]; with_reducible rfl)
                      rotate_left
                      · simp only [Act.put, List.setIfInBounds_toArray, List.set_cons_zero, List.set_cons_succ, i64_w, i32_w]
                        rfl
                      refine pure_ (i := 16) (N := some 28) (v := ?_) (a' := ?_) #[true, true, true, true, true, true, true, true, true, true, true, true, true, true, true, true, true, false] rfl rfl (any_of HT_.out (by kernel_rfl)) (fun _ _ _ h => h) (Or.inl ⟨by rfl, ?_⟩) ?_ ?_
                      rotate_left
                      · intro w'
                        go_simp
                        first | with_reducible rfl | (rw [if_neg (by simp only [ByteArray.size_append, ByteArray.size_extract, show ∀ (a : UInt8) (l : List UInt8), (⟨⟨a :: l⟩⟩ : ByteArray).size = l.length + 1 from fun _ _ => rfl, List.length_cons, List.length_nil] at *; omega)]; done) | (rw [if_neg (by simp only [ByteArray.size_append, ByteArray.size_extract, show ∀ (a : UInt8) (l : List UInt8), (⟨⟨a :: l⟩⟩ : ByteArray).size = l.length + 1 from fun _ _ => rfl, List.length_cons, List.length_nil] at *; omega)]; with_reducible rfl)
                      rotate_left
                      · simp only [Act.put, List.setIfInBounds_toArray, List.set_cons_zero, List.set_cons_succ, i64_w, i32_w]
                        rfl
                      refine pure_ (i := 17) (N := some 29) (v := ?_) (a' := ?_) #[true, true, true, true, true, true, true, true, true, true, true, true, true, true, true, true, true, true] rfl rfl (any_of HT_.out (by kernel_rfl)) (fun _ _ _ h => h) (Or.inl ⟨by rfl, ?_⟩) ?_ ?_
                      rotate_left
                      · intro w'
                        go_simp
                        first | with_reducible rfl | (rw [if_neg (by simp only [ByteArray.size_append, ByteArray.size_extract, show ∀ (a : UInt8) (l : List UInt8), (⟨⟨a :: l⟩⟩ : ByteArray).size = l.length + 1 from fun _ _ => rfl, List.length_cons, List.length_nil] at *; omega)]; done) | (rw [if_neg (by simp only [ByteArray.size_append, ByteArray.size_extract, show ∀ (a : UInt8) (l : List UInt8), (⟨⟨a :: l⟩⟩ : ByteArray).size = l.length + 1 from fun _ _ => rfl, List.length_cons, List.length_nil] at *; omega)]; with_reducible rfl)
                      rotate_left
                      · simp only [Act.put, List.setIfInBounds_toArray, List.set_cons_zero, List.set_cons_succ, i64_w, i32_w]
                        rfl
                      refine done_ (done_of HT_.out (by kernel_rfl)) ?_
                      try go_wp2
                      go_ret
                      exact ⟨by first | rfl | (simp [errW_none, errW_some] <;> rfl) | (simp only [← hji8]; first | rfl | (simp [errW_none, errW_some] <;> rfl)) | (simp [*, errW_none, errW_some] <;> rfl), by repeat (first | (with_reducible first | exact HB.out | apply below_alloc | apply pw_below_drewN | apply below_drew1 | refine below_set ?_ GE150.out) | exact HB.out)⟩
                  · rw [if_neg c10] at H
                    exact absurd H (by simp)
                · rw [if_neg c9] at H
                  exact absurd H (by simp)
              · rw [if_neg c7] at H
                have c7b0 : decide (0 < x7_1) = false := decide_eq_false c7
                clear c7
                have H' := Aside0.mk H
                clear H
                have p149 : 0 ≤ (x7_1 : Int) := of_decide_eq_true (by first | (with_reducible assumption) | assumption)
                have q149 : x7_1 < (l0.length : Int) := of_decide_eq_true (by first | (with_reducible assumption) | assumption)
                obtain ⟨ad149, e149, hx149_0, hx149_1, hx149_2, hx149_3⟩ := at_T26 HR0.out x7_1 p149 q149
                cases e149
                replace hx149_0 := (HB.out.cell (World.block_lt_of_cell? w _ hx149_0)).trans hx149_0
                replace hx149_1 := (HB.out.cell (World.block_lt_of_cell? w _ hx149_1)).trans hx149_1
                replace hx149_2 := (HB.out.cell (World.block_lt_of_cell? w _ hx149_2)).trans hx149_2
                replace hx149_3 := (HB.out.cell (World.block_lt_of_cell? w _ hx149_3)).trans hx149_3
                replace p149 := eq_true p149
                replace q149 := eq_true q149
                try go_wp2_with (first | ((with_reducible refine gate_dst (N := 4) rfl ?_); refine box_event ?hg (N := 4) ?hd (cs := #[.string (⟨#[]⟩ : ByteArray), .int .i64 0, .int .i64 0, .int .i64 0]) (t := 26) ?hr ?_; (case hd => rfl); (case hg => rfl); (case hr => first | (go_simp; done) | (go_simp; rfl)); intro gb150 hg w22 hbox hb; have n0_ := Aside0.mk (below_step (by repeat (first | (with_reducible first | exact HB.out | apply below_alloc | apply pw_below_drewN | apply below_drew1) | exact HB.out)) hb); have n1_ := Aside0.mk (hbox); have n2_ := Aside0.mk ((by rw [hg]; exact (below_size (by repeat (first | (with_reducible first | exact HB.out | apply below_alloc | apply pw_below_drewN | apply below_drew1) | exact HB.out))) : w.heap.size ≤ gb150)); have n3_ := Aside0.mk ((by rw [hg]; exact (below_size (by repeat (first | (with_reducible first | exact HB.out | apply below_alloc | apply pw_below_drewN | apply below_drew1) | exact HB.out))) : w.heap.size ≤ gb150)); clear HB; have HB := n0_; have BK150 := n1_; have GW150 := n2_; have GE150 := n3_; clear n0_ n1_ n2_ n3_; clear hb hbox hg; have hcz23_0 : w22.cell? ⟨gb150, 0, none⟩ = some (.string (⟨#[]⟩ : ByteArray)) := (blk_cell BK150.out 0).trans rfl; have hcz23_1 : w22.cell? ⟨gb150, 1, none⟩ = some (.int .i64 0) := (blk_cell BK150.out 1).trans rfl; have hcz23_2 : w22.cell? ⟨gb150, 2, none⟩ = some (.int .i64 0) := (blk_cell BK150.out 2).trans rfl; have hcz23_3 : w22.cell? ⟨gb150, 3, none⟩ = some (.int .i64 0) := (blk_cell BK150.out 3).trans rfl; have hfz23_0 := blk_frozen BK150.out 0; have hfz23_1 := blk_frozen BK150.out 1; have hfz23_2 := blk_frozen BK150.out 2; have hfz23_3 := blk_frozen BK150.out 3))
                have n0_ : Aside0 (((((w22.setCell ⟨gb150, 0, none⟩ (.string ((rd_T26 l0 x7_1).f0))).setCell ⟨gb150, 1, none⟩ (.int .i64 ((rd_T26 l0 x7_1).f1))).setCell ⟨gb150, 2, none⟩ (.int .i64 ((rd_T26 l0 x7_1).f2))).setCell ⟨gb150, 3, none⟩ (.int .i64 ((rd_T26 l0 x7_1).f3))).heap[gb150]? = some (.cells #[.string ((rd_T26 l0 x7_1).f0), .int .i64 ((rd_T26 l0 x7_1).f1), .int .i64 ((rd_T26 l0 x7_1).f2), .int .i64 ((rd_T26 l0 x7_1).f3)] 26 (0, 0))) := ⟨by (with_reducible repeat (first | refine blk_drewN ?_ _ | refine blk_drew ?_ | refine blk_alloc ?_ _)); refine blk_put (cs := #[.string ((rd_T26 l0 x7_1).f0), .int .i64 ((rd_T26 l0 x7_1).f1), .int .i64 ((rd_T26 l0 x7_1).f2), .int .i64 0]) ?_ 3 _ rfl; (with_reducible repeat (first | refine blk_drewN ?_ _ | refine blk_drew ?_ | refine blk_alloc ?_ _)); refine blk_put (cs := #[.string ((rd_T26 l0 x7_1).f0), .int .i64 ((rd_T26 l0 x7_1).f1), .int .i64 0, .int .i64 0]) ?_ 2 _ rfl; (with_reducible repeat (first | refine blk_drewN ?_ _ | refine blk_drew ?_ | refine blk_alloc ?_ _)); refine blk_put (cs := #[.string ((rd_T26 l0 x7_1).f0), .int .i64 0, .int .i64 0, .int .i64 0]) ?_ 1 _ rfl; (with_reducible repeat (first | refine blk_drewN ?_ _ | refine blk_drew ?_ | refine blk_alloc ?_ _)); refine blk_put (cs := #[.string (⟨#[]⟩ : ByteArray), .int .i64 0, .int .i64 0, .int .i64 0]) ?_ 0 _ rfl; (with_reducible repeat (first | refine blk_drewN ?_ _ | refine blk_drew ?_ | refine blk_alloc ?_ _)); exact BK150.out⟩
                have n1_ : Aside0 (Below w.heap.size w ((((w22.setCell ⟨gb150, 0, none⟩ (.string ((rd_T26 l0 x7_1).f0))).setCell ⟨gb150, 1, none⟩ (.int .i64 ((rd_T26 l0 x7_1).f1))).setCell ⟨gb150, 2, none⟩ (.int .i64 ((rd_T26 l0 x7_1).f2))).setCell ⟨gb150, 3, none⟩ (.int .i64 ((rd_T26 l0 x7_1).f3)))) := ⟨by repeat (first | (with_reducible first | exact HB.out | apply below_alloc | apply pw_below_drewN | apply below_drew1 | refine below_set ?_ GE150.out) | exact HB.out)⟩
                (try clear BK150)
                (try clear HB)
                generalize ((((w22.setCell ⟨gb150, 0, none⟩ (.string ((rd_T26 l0 x7_1).f0))).setCell ⟨gb150, 1, none⟩ (.int .i64 ((rd_T26 l0 x7_1).f1))).setCell ⟨gb150, 2, none⟩ (.int .i64 ((rd_T26 l0 x7_1).f2))).setCell ⟨gb150, 3, none⟩ (.int .i64 ((rd_T26 l0 x7_1).f3))) = w24 at n0_ n1_ ⊢
                have BK150 := n0_
                have HB := n1_
                clear n0_ n1_
                have n0_ := Aside0.mk (blk_drew BK150.out)
                have n1_ := Aside0.mk (below_drew1 HB.out)
                clear BK150
                clear HB
                have BK150 := n0_
                have HB := n1_
                clear n0_ n1_
                refine start_ (n := 18) (S := fun w' => w'.cell? ⟨gb150, 0, none⟩ = some (.string ((rd_T26 l0 x7_1).f0)) ∧ w'.cell? ⟨gb150, 1, none⟩ = some (.int .i64 ((rd_T26 l0 x7_1).f1)) ∧ w'.cell? ⟨gb150, 2, none⟩ = some (.int .i64 ((rd_T26 l0 x7_1).f2)) ∧ w'.cell? ⟨gb150, 3, none⟩ = some (.int .i64 ((rd_T26 l0 x7_1).f3))) (ds := []) #[false, false, false, false, false, false, false, false, false, false, false, false, false, false, false, false, false, false] (by kernel_rfl) rfl rfl ⟨(blk_cell BK150.out 0).trans rfl, (blk_cell BK150.out 1).trans rfl, (blk_cell BK150.out 2).trans rfl, (blk_cell BK150.out 3).trans rfl⟩ (fun hHeld => ?_); refine with_tabW impl_AreCaves.tab4 impl_AreCaves.bits4 (fun HT_ HW_ => ?_)
                generalize w24.drew = w25 at BK150 HB hHeld ⊢
                refine take_ (i := 0) (N := some 12) (v := ?_) (a' := ?_) #[true, false, false, false, false, false, false, false, false, false, false, false, false, false, false, false, false, false] rfl rfl (take_ofW HT_.out HW_.out (by kernel_rfl)) (fun _ _ _ h => h) (Or.inl ⟨by rfl, ?_⟩) hHeld ?_ ?_
                rotate_left
                · rintro w' ⟨s0, s1, s2, s3⟩
                  go_simp
                  first | with_reducible rfl | (rw [if_neg (by simp only [ByteArray.size_append, ByteArray.size_extract, show ∀ (a : UInt8) (l : List UInt8), (⟨⟨a :: l⟩⟩ : ByteArray).size = l.length + 1 from fun _ _ => rfl, List.length_cons, List.length_nil] at *; omega)]; done) | (rw [if_neg (by simp only [ByteArray.size_append, ByteArray.size_extract, show ∀ (a : UInt8) (l : List UInt8), (⟨⟨a :: l⟩⟩ : ByteArray).size = l.length + 1 from fun _ _ => rfl, List.length_cons, List.length_nil] at *; omega)]; with_reducible rfl)
                rotate_left
                · simp only [Act.put, List.setIfInBounds_toArray, List.set_cons_zero, List.set_cons_succ, i64_w, i32_w]
                  rfl
                refine one_ (i := 1) (N := some 13) #[true, true, false, false, false, false, false, false, false, false, false, false, false, false, false, false, false, false] rfl rfl (one_of HT_.out (by kernel_rfl)) (by decide) (fun K hK => ?_)
                refine goes_ Tryd.func18 (by kernel_rfl) rfl #[.agg #[.string ((rd_T26 l0 x7_1).f0), .int .i64 ((rd_T26 l0 x7_1).f1), .int .i64 ((rd_T26 l0 x7_1).f2), .int .i64 ((rd_T26 l0 x7_1).f3)]] (by rfl) rfl rfl (by (try simp only [List.map_toArray, List.map_cons, List.map_nil]); first | done | rfl | (simp only [List.length_drop, List.length_take]; rfl)) ?_
                with_reducible refine (impl_IsCaveRow.calls ((rd_T26 l0 x7_1).f0) ((rd_T26 l0 x7_1).f1) ((rd_T26 l0 x7_1).f2) ((rd_T26 l0 x7_1).f3) true _ A5.out).mono ?_
                rintro e w26 ⟨rfl, hb⟩
                refine ⟨_, rfl, ?_⟩
                have n0_ := Aside0.mk (blk_below (g := gb150) (o := .cells #[.string ((rd_T26 l0 x7_1).f0), .int .i64 ((rd_T26 l0 x7_1).f1), .int .i64 ((rd_T26 l0 x7_1).f2), .int .i64 ((rd_T26 l0 x7_1).f3)] 26 (0, 0)) (by (with_reducible repeat (first | refine blk_drewN ?_ _ | refine blk_drew ?_ | refine blk_alloc ?_ _)); exact BK150.out) hb)
                have n1_ := Aside0.mk (below_step (by repeat (first | (with_reducible first | exact HB.out | apply below_alloc | apply pw_below_drewN | apply below_drew1 | refine below_set ?_ GE150.out) | exact HB.out)) hb)
                clear BK150
                clear HB
                have BK150 := n0_
                have HB := n1_
                clear n0_ n1_
                (try clear hb)
                (try clear hb2)
                (try clear hk)
                (try clear hi)
                refine hK.out _ _ ⟨(blk_cell BK150.out 0).trans rfl, (blk_cell BK150.out 1).trans rfl, (blk_cell BK150.out 2).trans rfl, (blk_cell BK150.out 3).trans rfl⟩ (fun hHeld => ?_)
                clear hK K
                refine norm_ (a' := ?_) ?_ ?_
                rotate_left
                · show Act.put _ (some 13) _ = _
                  simp only [Act.put, List.setIfInBounds_toArray, List.set_cons_zero, List.set_cons_succ, i64_w, i32_w]
                  rfl
                refine pure_ (i := 2) (N := some 14) (v := ?_) (a' := ?_) #[true, true, true, false, false, false, false, false, false, false, false, false, false, false, false, false, false, false] rfl rfl (any_of HT_.out (by kernel_rfl)) (fun _ _ _ h => h) (Or.inl ⟨by rfl, ?_⟩) ?_ ?_
                rotate_left
                · intro w'
                  go_simp
                  first | with_reducible rfl | (rw [if_neg (by simp only [ByteArray.size_append, ByteArray.size_extract, show ∀ (a : UInt8) (l : List UInt8), (⟨⟨a :: l⟩⟩ : ByteArray).size = l.length + 1 from fun _ _ => rfl, List.length_cons, List.length_nil] at *; omega)]; done) | (rw [if_neg (by simp only [ByteArray.size_append, ByteArray.size_extract, show ∀ (a : UInt8) (l : List UInt8), (⟨⟨a :: l⟩⟩ : ByteArray).size = l.length + 1 from fun _ _ => rfl, List.length_cons, List.length_nil] at *; omega)]; with_reducible rfl)
                rotate_left
                · simp only [Act.put, List.setIfInBounds_toArray, List.set_cons_zero, List.set_cons_succ, i64_w, i32_w]
                  rfl
                refine pure_ (i := 3) (N := some 15) (v := ?_) (a' := ?_) #[true, true, true, true, false, false, false, false, false, false, false, false, false, false, false, false, false, false] rfl rfl (any_of HT_.out (by kernel_rfl)) (fun _ _ _ h => h) (Or.inl ⟨by rfl, ?_⟩) ?_ ?_
                rotate_left
                · intro w'
                  go_simp
                  first | with_reducible rfl | (rw [if_neg (by simp only [ByteArray.size_append, ByteArray.size_extract, show ∀ (a : UInt8) (l : List UInt8), (⟨⟨a :: l⟩⟩ : ByteArray).size = l.length + 1 from fun _ _ => rfl, List.length_cons, List.length_nil] at *; omega)]; done) | (rw [if_neg (by simp only [ByteArray.size_append, ByteArray.size_extract, show ∀ (a : UInt8) (l : List UInt8), (⟨⟨a :: l⟩⟩ : ByteArray).size = l.length + 1 from fun _ _ => rfl, List.length_cons, List.length_nil] at *; omega)]; with_reducible rfl)
                rotate_left
                · simp only [Act.put, List.setIfInBounds_toArray, List.set_cons_zero, List.set_cons_succ, i64_w, i32_w]
                  rfl
                refine pure_ (i := 4) (N := some 16) (v := ?_) (a' := ?_) #[true, true, true, true, true, false, false, false, false, false, false, false, false, false, false, false, false, false] rfl rfl (any_of HT_.out (by kernel_rfl)) (fun _ _ _ h => h) (Or.inl ⟨by rfl, ?_⟩) ?_ ?_
                rotate_left
                · intro w'
                  go_simp
                  first | with_reducible rfl | (rw [if_neg (by simp only [ByteArray.size_append, ByteArray.size_extract, show ∀ (a : UInt8) (l : List UInt8), (⟨⟨a :: l⟩⟩ : ByteArray).size = l.length + 1 from fun _ _ => rfl, List.length_cons, List.length_nil] at *; omega)]; done) | (rw [if_neg (by simp only [ByteArray.size_append, ByteArray.size_extract, show ∀ (a : UInt8) (l : List UInt8), (⟨⟨a :: l⟩⟩ : ByteArray).size = l.length + 1 from fun _ _ => rfl, List.length_cons, List.length_nil] at *; omega)]; with_reducible rfl)
                rotate_left
                · simp only [Act.put, List.setIfInBounds_toArray, List.set_cons_zero, List.set_cons_succ, i64_w, i32_w]
                  rfl
                refine pure_ (i := 5) (N := some 17) (v := ?_) (a' := ?_) #[true, true, true, true, true, true, false, false, false, false, false, false, false, false, false, false, false, false] rfl rfl (any_of HT_.out (by kernel_rfl)) (fun _ _ _ h => h) (Or.inl ⟨by rfl, ?_⟩) ?_ ?_
                rotate_left
                · intro w'
                  go_simp
                  first | with_reducible rfl | (rw [if_neg (by simp only [ByteArray.size_append, ByteArray.size_extract, show ∀ (a : UInt8) (l : List UInt8), (⟨⟨a :: l⟩⟩ : ByteArray).size = l.length + 1 from fun _ _ => rfl, List.length_cons, List.length_nil] at *; omega)]; done) | (rw [if_neg (by simp only [ByteArray.size_append, ByteArray.size_extract, show ∀ (a : UInt8) (l : List UInt8), (⟨⟨a :: l⟩⟩ : ByteArray).size = l.length + 1 from fun _ _ => rfl, List.length_cons, List.length_nil] at *; omega)]; with_reducible rfl)
                rotate_left
                · simp only [Act.put, List.setIfInBounds_toArray, List.set_cons_zero, List.set_cons_succ, i64_w, i32_w]
                  rfl
                refine pure_ (i := 6) (N := some 18) (v := ?_) (a' := ?_) #[true, true, true, true, true, true, true, false, false, false, false, false, false, false, false, false, false, false] rfl rfl (any_of HT_.out (by kernel_rfl)) (fun _ _ _ h => h) (Or.inl ⟨by rfl, ?_⟩) ?_ ?_
                rotate_left
                · intro w'
                  go_simp
                  first | with_reducible rfl | (rw [if_neg (by simp only [ByteArray.size_append, ByteArray.size_extract, show ∀ (a : UInt8) (l : List UInt8), (⟨⟨a :: l⟩⟩ : ByteArray).size = l.length + 1 from fun _ _ => rfl, List.length_cons, List.length_nil] at *; omega)]; done) | (rw [if_neg (by simp only [ByteArray.size_append, ByteArray.size_extract, show ∀ (a : UInt8) (l : List UInt8), (⟨⟨a :: l⟩⟩ : ByteArray).size = l.length + 1 from fun _ _ => rfl, List.length_cons, List.length_nil] at *; omega)]; with_reducible rfl)
                rotate_left
                · simp only [Act.put, List.setIfInBounds_toArray, List.set_cons_zero, List.set_cons_succ, i64_w, i32_w]
                  rfl
                refine pure_ (i := 7) (N := some 19) (v := undef) (a' := ?_) #[true, true, true, true, true, true, true, true, false, false, false, false, false, false, false, false, false, false] rfl rfl (any_of HT_.out (by kernel_rfl)) (fun _ _ _ h => h) (Or.inr ⟨by rfl, rfl⟩) ?_ ?_
                rotate_left
                · simp only [Act.put, List.setIfInBounds_toArray, List.set_cons_zero, List.set_cons_succ, i64_w, i32_w]
                  rfl
                refine pure_ (i := 8) (N := some 20) (v := undef) (a' := ?_) #[true, true, true, true, true, true, true, true, true, false, false, false, false, false, false, false, false, false] rfl rfl (any_of HT_.out (by kernel_rfl)) (fun _ _ _ h => h) (Or.inr ⟨by rfl, rfl⟩) ?_ ?_
                rotate_left
                · simp only [Act.put, List.setIfInBounds_toArray, List.set_cons_zero, List.set_cons_succ, i64_w, i32_w]
                  rfl
                refine pure_ (i := 9) (N := some 21) (v := undef) (a' := ?_) #[true, true, true, true, true, true, true, true, true, true, false, false, false, false, false, false, false, false] rfl rfl (any_of HT_.out (by kernel_rfl)) (fun _ _ _ h => h) (Or.inr ⟨by rfl, rfl⟩) ?_ ?_
                rotate_left
                · simp only [Act.put, List.setIfInBounds_toArray, List.set_cons_zero, List.set_cons_succ, i64_w, i32_w]
                  rfl
                refine pure_ (i := 10) (N := some 22) (v := undef) (a' := ?_) #[true, true, true, true, true, true, true, true, true, true, true, false, false, false, false, false, false, false] rfl rfl (any_of HT_.out (by kernel_rfl)) (fun _ _ _ h => h) (Or.inr ⟨by rfl, rfl⟩) ?_ ?_
                rotate_left
                · simp only [Act.put, List.setIfInBounds_toArray, List.set_cons_zero, List.set_cons_succ, i64_w, i32_w]
                  rfl
                refine pure_ (i := 11) (N := some 23) (v := undef) (a' := ?_) #[true, true, true, true, true, true, true, true, true, true, true, true, false, false, false, false, false, false] rfl rfl (any_of HT_.out (by kernel_rfl)) (fun _ _ _ h => h) (Or.inr ⟨by rfl, rfl⟩) ?_ ?_
                rotate_left
                · simp only [Act.put, List.setIfInBounds_toArray, List.set_cons_zero, List.set_cons_succ, i64_w, i32_w]
                  rfl
                refine pure_ (i := 12) (N := some 24) (v := undef) (a' := ?_) #[true, true, true, true, true, true, true, true, true, true, true, true, true, false, false, false, false, false] rfl rfl (any_of HT_.out (by kernel_rfl)) (fun _ _ _ h => h) (Or.inr ⟨by rfl, rfl⟩) ?_ ?_
                rotate_left
                · simp only [Act.put, List.setIfInBounds_toArray, List.set_cons_zero, List.set_cons_succ, i64_w, i32_w]
                  rfl
                refine pure_ (i := 13) (N := some 25) (v := undef) (a' := ?_) #[true, true, true, true, true, true, true, true, true, true, true, true, true, true, false, false, false, false] rfl rfl (any_of HT_.out (by kernel_rfl)) (fun _ _ _ h => h) (Or.inr ⟨by rfl, rfl⟩) ?_ ?_
                rotate_left
                · simp only [Act.put, List.setIfInBounds_toArray, List.set_cons_zero, List.set_cons_succ, i64_w, i32_w]
                  rfl
                refine pure_ (i := 14) (N := some 26) (v := undef) (a' := ?_) #[true, true, true, true, true, true, true, true, true, true, true, true, true, true, true, false, false, false] rfl rfl (any_of HT_.out (by kernel_rfl)) (fun _ _ _ h => h) (Or.inr ⟨by rfl, rfl⟩) ?_ ?_
                rotate_left
                · simp only [Act.put, List.setIfInBounds_toArray, List.set_cons_zero, List.set_cons_succ, i64_w, i32_w]
                  rfl
                refine pure_ (i := 15) (N := some 27) (v := undef) (a' := ?_) #[true, true, true, true, true, true, true, true, true, true, true, true, true, true, true, true, false, false] rfl rfl (any_of HT_.out (by kernel_rfl)) (fun _ _ _ h => h) (Or.inr ⟨by rfl, rfl⟩) ?_ ?_
                rotate_left
                · simp only [Act.put, List.setIfInBounds_toArray, List.set_cons_zero, List.set_cons_succ, i64_w, i32_w]
                  rfl
                refine pure_ (i := 16) (N := some 28) (v := ?_) (a' := ?_) #[true, true, true, true, true, true, true, true, true, true, true, true, true, true, true, true, true, false] rfl rfl (any_of HT_.out (by kernel_rfl)) (fun _ _ _ h => h) (Or.inl ⟨by rfl, ?_⟩) ?_ ?_
                rotate_left
                · intro w'
                  go_simp
                  first | with_reducible rfl | (rw [if_neg (by simp only [ByteArray.size_append, ByteArray.size_extract, show ∀ (a : UInt8) (l : List UInt8), (⟨⟨a :: l⟩⟩ : ByteArray).size = l.length + 1 from fun _ _ => rfl, List.length_cons, List.length_nil] at *; omega)]; done) | (rw [if_neg (by simp only [ByteArray.size_append, ByteArray.size_extract, show ∀ (a : UInt8) (l : List UInt8), (⟨⟨a :: l⟩⟩ : ByteArray).size = l.length + 1 from fun _ _ => rfl, List.length_cons, List.length_nil] at *; omega)]; with_reducible rfl)
                rotate_left
                · simp only [Act.put, List.setIfInBounds_toArray, List.set_cons_zero, List.set_cons_succ, i64_w, i32_w]
                  rfl
                refine pure_ (i := 17) (N := some 29) (v := ?_) (a' := ?_) #[true, true, true, true, true, true, true, true, true, true, true, true, true, true, true, true, true, true] rfl rfl (any_of HT_.out (by kernel_rfl)) (fun _ _ _ h => h) (Or.inl ⟨by rfl, ?_⟩) ?_ ?_
                rotate_left
                · intro w'
                  go_simp
                  first | with_reducible rfl | (rw [if_neg (by simp only [ByteArray.size_append, ByteArray.size_extract, show ∀ (a : UInt8) (l : List UInt8), (⟨⟨a :: l⟩⟩ : ByteArray).size = l.length + 1 from fun _ _ => rfl, List.length_cons, List.length_nil] at *; omega)]; done) | (rw [if_neg (by simp only [ByteArray.size_append, ByteArray.size_extract, show ∀ (a : UInt8) (l : List UInt8), (⟨⟨a :: l⟩⟩ : ByteArray).size = l.length + 1 from fun _ _ => rfl, List.length_cons, List.length_nil] at *; omega)]; with_reducible rfl)
                rotate_left
                · simp only [Act.put, List.setIfInBounds_toArray, List.set_cons_zero, List.set_cons_succ, i64_w, i32_w]
                  rfl
                refine done_ (done_of HT_.out (by kernel_rfl)) ?_
                try go_wp2
                go_roundg k1
                case measure => have := HK1.out; omega
                case rel => exact ⟨(wrap64 (x7_1 + 1)), (by first | rfl | (simp; done) | (simp [*]; done)), H', ⟨by have := HK1.out; omega⟩, ⟨by repeat (first | (with_reducible first | exact HB.out | apply below_alloc | apply pw_below_drewN | apply below_drew1 | refine below_set ?_ GE150.out) | exact HB.out)⟩⟩
            · replace c6 := Bool.eq_false_iff.mpr c6
              subst c6
              have H1 : (some false) = some r := by rw [if_neg (show ¬ (false = true) by decide)] at H; exact H
              clear H
              have H := H1
              clear H1
              obtain rfl := Option.some.inj H
              have p149 : 0 ≤ (x7_1 : Int) := of_decide_eq_true (by first | (with_reducible assumption) | assumption)
              have q149 : x7_1 < (l0.length : Int) := of_decide_eq_true (by first | (with_reducible assumption) | assumption)
              obtain ⟨ad149, e149, hx149_0, hx149_1, hx149_2, hx149_3⟩ := at_T26 HR0.out x7_1 p149 q149
              cases e149
              replace hx149_0 := (HB.out.cell (World.block_lt_of_cell? w _ hx149_0)).trans hx149_0
              replace hx149_1 := (HB.out.cell (World.block_lt_of_cell? w _ hx149_1)).trans hx149_1
              replace hx149_2 := (HB.out.cell (World.block_lt_of_cell? w _ hx149_2)).trans hx149_2
              replace hx149_3 := (HB.out.cell (World.block_lt_of_cell? w _ hx149_3)).trans hx149_3
              replace p149 := eq_true p149
              replace q149 := eq_true q149
              try go_wp2_with (first | ((with_reducible refine gate_dst (N := 4) rfl ?_); refine box_event ?hg (N := 4) ?hd (cs := #[.string (⟨#[]⟩ : ByteArray), .int .i64 0, .int .i64 0, .int .i64 0]) (t := 26) ?hr ?_; (case hd => rfl); (case hg => rfl); (case hr => first | (go_simp; done) | (go_simp; rfl)); intro gb150 hg w27 hbox hb; have n0_ := Aside0.mk (below_step (by repeat (first | (with_reducible first | exact HB.out | apply below_alloc | apply pw_below_drewN | apply below_drew1) | exact HB.out)) hb); have n1_ := Aside0.mk (hbox); have n2_ := Aside0.mk ((by rw [hg]; exact (below_size (by repeat (first | (with_reducible first | exact HB.out | apply below_alloc | apply pw_below_drewN | apply below_drew1) | exact HB.out))) : w.heap.size ≤ gb150)); have n3_ := Aside0.mk ((by rw [hg]; exact (below_size (by repeat (first | (with_reducible first | exact HB.out | apply below_alloc | apply pw_below_drewN | apply below_drew1) | exact HB.out))) : w.heap.size ≤ gb150)); clear HB; have HB := n0_; have BK150 := n1_; have GW150 := n2_; have GE150 := n3_; clear n0_ n1_ n2_ n3_; clear hb hbox hg; have hcz28_0 : w27.cell? ⟨gb150, 0, none⟩ = some (.string (⟨#[]⟩ : ByteArray)) := (blk_cell BK150.out 0).trans rfl; have hcz28_1 : w27.cell? ⟨gb150, 1, none⟩ = some (.int .i64 0) := (blk_cell BK150.out 1).trans rfl; have hcz28_2 : w27.cell? ⟨gb150, 2, none⟩ = some (.int .i64 0) := (blk_cell BK150.out 2).trans rfl; have hcz28_3 : w27.cell? ⟨gb150, 3, none⟩ = some (.int .i64 0) := (blk_cell BK150.out 3).trans rfl; have hfz28_0 := blk_frozen BK150.out 0; have hfz28_1 := blk_frozen BK150.out 1; have hfz28_2 := blk_frozen BK150.out 2; have hfz28_3 := blk_frozen BK150.out 3))
              have n0_ : Aside0 (((((w27.setCell ⟨gb150, 0, none⟩ (.string ((rd_T26 l0 x7_1).f0))).setCell ⟨gb150, 1, none⟩ (.int .i64 ((rd_T26 l0 x7_1).f1))).setCell ⟨gb150, 2, none⟩ (.int .i64 ((rd_T26 l0 x7_1).f2))).setCell ⟨gb150, 3, none⟩ (.int .i64 ((rd_T26 l0 x7_1).f3))).heap[gb150]? = some (.cells #[.string ((rd_T26 l0 x7_1).f0), .int .i64 ((rd_T26 l0 x7_1).f1), .int .i64 ((rd_T26 l0 x7_1).f2), .int .i64 ((rd_T26 l0 x7_1).f3)] 26 (0, 0))) := ⟨by (with_reducible repeat (first | refine blk_drewN ?_ _ | refine blk_drew ?_ | refine blk_alloc ?_ _)); refine blk_put (cs := #[.string ((rd_T26 l0 x7_1).f0), .int .i64 ((rd_T26 l0 x7_1).f1), .int .i64 ((rd_T26 l0 x7_1).f2), .int .i64 0]) ?_ 3 _ rfl; (with_reducible repeat (first | refine blk_drewN ?_ _ | refine blk_drew ?_ | refine blk_alloc ?_ _)); refine blk_put (cs := #[.string ((rd_T26 l0 x7_1).f0), .int .i64 ((rd_T26 l0 x7_1).f1), .int .i64 0, .int .i64 0]) ?_ 2 _ rfl; (with_reducible repeat (first | refine blk_drewN ?_ _ | refine blk_drew ?_ | refine blk_alloc ?_ _)); refine blk_put (cs := #[.string ((rd_T26 l0 x7_1).f0), .int .i64 0, .int .i64 0, .int .i64 0]) ?_ 1 _ rfl; (with_reducible repeat (first | refine blk_drewN ?_ _ | refine blk_drew ?_ | refine blk_alloc ?_ _)); refine blk_put (cs := #[.string (⟨#[]⟩ : ByteArray), .int .i64 0, .int .i64 0, .int .i64 0]) ?_ 0 _ rfl; (with_reducible repeat (first | refine blk_drewN ?_ _ | refine blk_drew ?_ | refine blk_alloc ?_ _)); exact BK150.out⟩
              have n1_ : Aside0 (Below w.heap.size w ((((w27.setCell ⟨gb150, 0, none⟩ (.string ((rd_T26 l0 x7_1).f0))).setCell ⟨gb150, 1, none⟩ (.int .i64 ((rd_T26 l0 x7_1).f1))).setCell ⟨gb150, 2, none⟩ (.int .i64 ((rd_T26 l0 x7_1).f2))).setCell ⟨gb150, 3, none⟩ (.int .i64 ((rd_T26 l0 x7_1).f3)))) := ⟨by repeat (first | (with_reducible first | exact HB.out | apply below_alloc | apply pw_below_drewN | apply below_drew1 | refine below_set ?_ GE150.out) | exact HB.out)⟩
              (try clear BK150)
              (try clear HB)
              generalize ((((w27.setCell ⟨gb150, 0, none⟩ (.string ((rd_T26 l0 x7_1).f0))).setCell ⟨gb150, 1, none⟩ (.int .i64 ((rd_T26 l0 x7_1).f1))).setCell ⟨gb150, 2, none⟩ (.int .i64 ((rd_T26 l0 x7_1).f2))).setCell ⟨gb150, 3, none⟩ (.int .i64 ((rd_T26 l0 x7_1).f3))) = w29 at n0_ n1_ ⊢
              have BK150 := n0_
              have HB := n1_
              clear n0_ n1_
              have n0_ := Aside0.mk (blk_drew BK150.out)
              have n1_ := Aside0.mk (below_drew1 HB.out)
              clear BK150
              clear HB
              have BK150 := n0_
              have HB := n1_
              clear n0_ n1_
              refine start_ (n := 18) (S := fun w' => w'.cell? ⟨gb150, 0, none⟩ = some (.string ((rd_T26 l0 x7_1).f0)) ∧ w'.cell? ⟨gb150, 1, none⟩ = some (.int .i64 ((rd_T26 l0 x7_1).f1)) ∧ w'.cell? ⟨gb150, 2, none⟩ = some (.int .i64 ((rd_T26 l0 x7_1).f2)) ∧ w'.cell? ⟨gb150, 3, none⟩ = some (.int .i64 ((rd_T26 l0 x7_1).f3))) (ds := []) #[false, false, false, false, false, false, false, false, false, false, false, false, false, false, false, false, false, false] (by kernel_rfl) rfl rfl ⟨(blk_cell BK150.out 0).trans rfl, (blk_cell BK150.out 1).trans rfl, (blk_cell BK150.out 2).trans rfl, (blk_cell BK150.out 3).trans rfl⟩ (fun hHeld => ?_); refine with_tabW impl_AreCaves.tab4 impl_AreCaves.bits4 (fun HT_ HW_ => ?_)
              generalize w29.drew = w30 at BK150 HB hHeld ⊢
              refine take_ (i := 0) (N := some 12) (v := ?_) (a' := ?_) #[true, false, false, false, false, false, false, false, false, false, false, false, false, false, false, false, false, false] rfl rfl (take_ofW HT_.out HW_.out (by kernel_rfl)) (fun _ _ _ h => h) (Or.inl ⟨by rfl, ?_⟩) hHeld ?_ ?_
              rotate_left
              · rintro w' ⟨s0, s1, s2, s3⟩
                go_simp
                first | with_reducible rfl | (rw [if_neg (by simp only [ByteArray.size_append, ByteArray.size_extract, show ∀ (a : UInt8) (l : List UInt8), (⟨⟨a :: l⟩⟩ : ByteArray).size = l.length + 1 from fun _ _ => rfl, List.length_cons, List.length_nil] at *; omega)]; done) | (rw [if_neg (by simp only [ByteArray.size_append, ByteArray.size_extract, show ∀ (a : UInt8) (l : List UInt8), (⟨⟨a :: l⟩⟩ : ByteArray).size = l.length + 1 from fun _ _ => rfl, List.length_cons, List.length_nil] at *; omega)]; with_reducible rfl)
              rotate_left
              · simp only [Act.put, List.setIfInBounds_toArray, List.set_cons_zero, List.set_cons_succ, i64_w, i32_w]
                rfl
              refine one_ (i := 1) (N := some 13) #[true, true, false, false, false, false, false, false, false, false, false, false, false, false, false, false, false, false] rfl rfl (one_of HT_.out (by kernel_rfl)) (by decide) (fun K hK => ?_)
              refine goes_ Tryd.func18 (by kernel_rfl) rfl #[.agg #[.string ((rd_T26 l0 x7_1).f0), .int .i64 ((rd_T26 l0 x7_1).f1), .int .i64 ((rd_T26 l0 x7_1).f2), .int .i64 ((rd_T26 l0 x7_1).f3)]] (by rfl) rfl rfl (by (try simp only [List.map_toArray, List.map_cons, List.map_nil]); first | done | rfl | (simp only [List.length_drop, List.length_take]; rfl)) ?_
              with_reducible refine (impl_IsCaveRow.calls ((rd_T26 l0 x7_1).f0) ((rd_T26 l0 x7_1).f1) ((rd_T26 l0 x7_1).f2) ((rd_T26 l0 x7_1).f3) false _ A5.out).mono ?_
              rintro e w31 ⟨rfl, hb⟩
              refine ⟨_, rfl, ?_⟩
              have n0_ := Aside0.mk (blk_below (g := gb150) (o := .cells #[.string ((rd_T26 l0 x7_1).f0), .int .i64 ((rd_T26 l0 x7_1).f1), .int .i64 ((rd_T26 l0 x7_1).f2), .int .i64 ((rd_T26 l0 x7_1).f3)] 26 (0, 0)) (by (with_reducible repeat (first | refine blk_drewN ?_ _ | refine blk_drew ?_ | refine blk_alloc ?_ _)); exact BK150.out) hb)
              have n1_ := Aside0.mk (below_step (by repeat (first | (with_reducible first | exact HB.out | apply below_alloc | apply pw_below_drewN | apply below_drew1 | refine below_set ?_ GE150.out) | exact HB.out)) hb)
              clear BK150
              clear HB
              have BK150 := n0_
              have HB := n1_
              clear n0_ n1_
              (try clear hb)
              (try clear hb2)
              (try clear hk)
              (try clear hi)
              refine hK.out _ _ ⟨(blk_cell BK150.out 0).trans rfl, (blk_cell BK150.out 1).trans rfl, (blk_cell BK150.out 2).trans rfl, (blk_cell BK150.out 3).trans rfl⟩ (fun hHeld => ?_)
              clear hK K
              refine norm_ (a' := ?_) ?_ ?_
              rotate_left
              · show Act.put _ (some 13) _ = _
                simp only [Act.put, List.setIfInBounds_toArray, List.set_cons_zero, List.set_cons_succ, i64_w, i32_w]
                rfl
              refine pure_ (i := 2) (N := some 14) (v := ?_) (a' := ?_) #[true, true, true, false, false, false, false, false, false, false, false, false, false, false, false, false, false, false] rfl rfl (any_of HT_.out (by kernel_rfl)) (fun _ _ _ h => h) (Or.inl ⟨by rfl, ?_⟩) ?_ ?_
              rotate_left
              · intro w'
                go_simp
                first | with_reducible rfl | (rw [if_neg (by simp only [ByteArray.size_append, ByteArray.size_extract, show ∀ (a : UInt8) (l : List UInt8), (⟨⟨a :: l⟩⟩ : ByteArray).size = l.length + 1 from fun _ _ => rfl, List.length_cons, List.length_nil] at *; omega)]; done) | (rw [if_neg (by simp only [ByteArray.size_append, ByteArray.size_extract, show ∀ (a : UInt8) (l : List UInt8), (⟨⟨a :: l⟩⟩ : ByteArray).size = l.length + 1 from fun _ _ => rfl, List.length_cons, List.length_nil] at *; omega)]; with_reducible rfl)
              rotate_left
              · simp only [Act.put, List.setIfInBounds_toArray, List.set_cons_zero, List.set_cons_succ, i64_w, i32_w]
                rfl
              refine pure_ (i := 3) (N := some 15) (v := ?_) (a' := ?_) #[true, true, true, true, false, false, false, false, false, false, false, false, false, false, false, false, false, false] rfl rfl (any_of HT_.out (by kernel_rfl)) (fun _ _ _ h => h) (Or.inl ⟨by rfl, ?_⟩) ?_ ?_
              rotate_left
              · intro w'
                go_simp
                first | with_reducible rfl | (rw [if_neg (by simp only [ByteArray.size_append, ByteArray.size_extract, show ∀ (a : UInt8) (l : List UInt8), (⟨⟨a :: l⟩⟩ : ByteArray).size = l.length + 1 from fun _ _ => rfl, List.length_cons, List.length_nil] at *; omega)]; done) | (rw [if_neg (by simp only [ByteArray.size_append, ByteArray.size_extract, show ∀ (a : UInt8) (l : List UInt8), (⟨⟨a :: l⟩⟩ : ByteArray).size = l.length + 1 from fun _ _ => rfl, List.length_cons, List.length_nil] at *; omega)]; with_reducible rfl)
              rotate_left
              · simp only [Act.put, List.setIfInBounds_toArray, List.set_cons_zero, List.set_cons_succ, i64_w, i32_w]
                rfl
              refine pure_ (i := 4) (N := some 16) (v := undef) (a' := ?_) #[true, true, true, true, true, false, false, false, false, false, false, false, false, false, false, false, false, false] rfl rfl (any_of HT_.out (by kernel_rfl)) (fun _ _ _ h => h) (Or.inr ⟨by rfl, rfl⟩) ?_ ?_
              rotate_left
              · simp only [Act.put, List.setIfInBounds_toArray, List.set_cons_zero, List.set_cons_succ, i64_w, i32_w]
                rfl
              refine pure_ (i := 5) (N := some 17) (v := undef) (a' := ?_) #[true, true, true, true, true, true, false, false, false, false, false, false, false, false, false, false, false, false] rfl rfl (any_of HT_.out (by kernel_rfl)) (fun _ _ _ h => h) (Or.inr ⟨by rfl, rfl⟩) ?_ ?_
              rotate_left
              · simp only [Act.put, List.setIfInBounds_toArray, List.set_cons_zero, List.set_cons_succ, i64_w, i32_w]
                rfl
              refine pure_ (i := 6) (N := some 18) (v := undef) (a' := ?_) #[true, true, true, true, true, true, true, false, false, false, false, false, false, false, false, false, false, false] rfl rfl (any_of HT_.out (by kernel_rfl)) (fun _ _ _ h => h) (Or.inr ⟨by rfl, rfl⟩) ?_ ?_
              rotate_left
              · simp only [Act.put, List.setIfInBounds_toArray, List.set_cons_zero, List.set_cons_succ, i64_w, i32_w]
                rfl
              refine pure_ (i := 7) (N := some 19) (v := undef) (a' := ?_) #[true, true, true, true, true, true, true, true, false, false, false, false, false, false, false, false, false, false] rfl rfl (any_of HT_.out (by kernel_rfl)) (fun _ _ _ h => h) (Or.inr ⟨by rfl, rfl⟩) ?_ ?_
              rotate_left
              · simp only [Act.put, List.setIfInBounds_toArray, List.set_cons_zero, List.set_cons_succ, i64_w, i32_w]
                rfl
              refine pure_ (i := 8) (N := some 20) (v := undef) (a' := ?_) #[true, true, true, true, true, true, true, true, true, false, false, false, false, false, false, false, false, false] rfl rfl (any_of HT_.out (by kernel_rfl)) (fun _ _ _ h => h) (Or.inr ⟨by rfl, rfl⟩) ?_ ?_
              rotate_left
              · simp only [Act.put, List.setIfInBounds_toArray, List.set_cons_zero, List.set_cons_succ, i64_w, i32_w]
                rfl
              refine pure_ (i := 9) (N := some 21) (v := undef) (a' := ?_) #[true, true, true, true, true, true, true, true, true, true, false, false, false, false, false, false, false, false] rfl rfl (any_of HT_.out (by kernel_rfl)) (fun _ _ _ h => h) (Or.inr ⟨by rfl, rfl⟩) ?_ ?_
              rotate_left
              · simp only [Act.put, List.setIfInBounds_toArray, List.set_cons_zero, List.set_cons_succ, i64_w, i32_w]
                rfl
              refine pure_ (i := 10) (N := some 22) (v := undef) (a' := ?_) #[true, true, true, true, true, true, true, true, true, true, true, false, false, false, false, false, false, false] rfl rfl (any_of HT_.out (by kernel_rfl)) (fun _ _ _ h => h) (Or.inr ⟨by rfl, rfl⟩) ?_ ?_
              rotate_left
              · simp only [Act.put, List.setIfInBounds_toArray, List.set_cons_zero, List.set_cons_succ, i64_w, i32_w]
                rfl
              refine pure_ (i := 11) (N := some 23) (v := undef) (a' := ?_) #[true, true, true, true, true, true, true, true, true, true, true, true, false, false, false, false, false, false] rfl rfl (any_of HT_.out (by kernel_rfl)) (fun _ _ _ h => h) (Or.inr ⟨by rfl, rfl⟩) ?_ ?_
              rotate_left
              · simp only [Act.put, List.setIfInBounds_toArray, List.set_cons_zero, List.set_cons_succ, i64_w, i32_w]
                rfl
              refine pure_ (i := 12) (N := some 24) (v := undef) (a' := ?_) #[true, true, true, true, true, true, true, true, true, true, true, true, true, false, false, false, false, false] rfl rfl (any_of HT_.out (by kernel_rfl)) (fun _ _ _ h => h) (Or.inr ⟨by rfl, rfl⟩) ?_ ?_
              rotate_left
              · simp only [Act.put, List.setIfInBounds_toArray, List.set_cons_zero, List.set_cons_succ, i64_w, i32_w]
                rfl
              refine pure_ (i := 13) (N := some 25) (v := undef) (a' := ?_) #[true, true, true, true, true, true, true, true, true, true, true, true, true, true, false, false, false, false] rfl rfl (any_of HT_.out (by kernel_rfl)) (fun _ _ _ h => h) (Or.inr ⟨by rfl, rfl⟩) ?_ ?_
              rotate_left
              · simp only [Act.put, List.setIfInBounds_toArray, List.set_cons_zero, List.set_cons_succ, i64_w, i32_w]
                rfl
              refine pure_ (i := 14) (N := some 26) (v := undef) (a' := ?_) #[true, true, true, true, true, true, true, true, true, true, true, true, true, true, true, false, false, false] rfl rfl (any_of HT_.out (by kernel_rfl)) (fun _ _ _ h => h) (Or.inr ⟨by rfl, rfl⟩) ?_ ?_
              rotate_left
              · simp only [Act.put, List.setIfInBounds_toArray, List.set_cons_zero, List.set_cons_succ, i64_w, i32_w]
                rfl
              refine pure_ (i := 15) (N := some 27) (v := undef) (a' := ?_) #[true, true, true, true, true, true, true, true, true, true, true, true, true, true, true, true, false, false] rfl rfl (any_of HT_.out (by kernel_rfl)) (fun _ _ _ h => h) (Or.inr ⟨by rfl, rfl⟩) ?_ ?_
              rotate_left
              · simp only [Act.put, List.setIfInBounds_toArray, List.set_cons_zero, List.set_cons_succ, i64_w, i32_w]
                rfl
              refine pure_ (i := 16) (N := some 28) (v := undef) (a' := ?_) #[true, true, true, true, true, true, true, true, true, true, true, true, true, true, true, true, true, false] rfl rfl (any_of HT_.out (by kernel_rfl)) (fun _ _ _ h => h) (Or.inr ⟨by rfl, rfl⟩) ?_ ?_
              rotate_left
              · simp only [Act.put, List.setIfInBounds_toArray, List.set_cons_zero, List.set_cons_succ, i64_w, i32_w]
                rfl
              refine pure_ (i := 17) (N := some 29) (v := ?_) (a' := ?_) #[true, true, true, true, true, true, true, true, true, true, true, true, true, true, true, true, true, true] rfl rfl (any_of HT_.out (by kernel_rfl)) (fun _ _ _ h => h) (Or.inl ⟨by rfl, ?_⟩) ?_ ?_
              rotate_left
              · intro w'
                go_simp
                first | with_reducible rfl | (rw [if_neg (by simp only [ByteArray.size_append, ByteArray.size_extract, show ∀ (a : UInt8) (l : List UInt8), (⟨⟨a :: l⟩⟩ : ByteArray).size = l.length + 1 from fun _ _ => rfl, List.length_cons, List.length_nil] at *; omega)]; done) | (rw [if_neg (by simp only [ByteArray.size_append, ByteArray.size_extract, show ∀ (a : UInt8) (l : List UInt8), (⟨⟨a :: l⟩⟩ : ByteArray).size = l.length + 1 from fun _ _ => rfl, List.length_cons, List.length_nil] at *; omega)]; with_reducible rfl)
              rotate_left
              · simp only [Act.put, List.setIfInBounds_toArray, List.set_cons_zero, List.set_cons_succ, i64_w, i32_w]
                rfl
              refine done_ (done_of HT_.out (by kernel_rfl)) ?_
              try go_wp2
              go_ret
              exact ⟨by first | rfl | (simp [errW_none, errW_some] <;> rfl) | (simp [*, errW_none, errW_some] <;> rfl), by repeat (first | (with_reducible first | exact HB.out | apply below_alloc | apply pw_below_drewN | apply below_drew1 | refine below_set ?_ GE150.out) | exact HB.out)⟩
          · rw [if_neg c4] at H
            exact absurd H (by simp)
        · rw [if_neg c3] at H
          exact absurd H (by simp)
      · rw [if_neg c2] at H
        have c2b0 : decide (x7_1 < (l0.length : Int)) = false := decide_eq_false c2
        clear c2
        obtain rfl := Option.some.inj H
        go_wp2
        go_ret
        exact ⟨by first | rfl | (simp [errW_none, errW_some] <;> rfl) | (simp [*, errW_none, errW_some] <;> rfl), by repeat (first | (with_reducible first | exact HB.out | apply below_alloc | apply pw_below_drewN | apply below_drew1) | exact HB.out)⟩

end Go.Proofs.YteepnlofbfccgaaDoor.Pr

namespace Go.Proofs.YteepnlofbfccgaaDoor.Pr
open Go.RowKit Go.Proofs.YteepnlofbfccgaaDoorW.PrintWords Go.Proofs.YteepnlofbfccgaaDoorW.PrintLast Go.Proofs.YteepnlofbfccgaaDoorW.PrintMore
attribute [local go_sem] max2_int min2_int max_two min_two max_three min_three max_four min_four   -- for this text's walks alone
set_option linter.unusedVariables false
set_option linter.unusedSimpArgs false

theorem heap_new_ (w : World) (cs : Array Value) (t : TypeId) : (w.alloc (.cells cs t)).heap[w.heap.size]? = some (.cells cs t (0, 0)) := by
  show (w.heap.push _)[w.heap.size]? = _
  simp
theorem heap_size_ (w : World) (o : Obj) : (w.alloc o).heap.size = w.heap.size + 1 := by
  show (w.heap.push o).size = _
  simp
/-- A row made behind the state stays while the state alone is written. -/
theorem row_keep {α : Type} {d : Kd α} {e : Nat} {w w1 : World} {base g : Nat} {v : Value} {xs : List α} (h : d.R e w base (fun _ => True) v xs) (hg : g < base) (hk : KeepBut w w1 g none) : d.R e w1 base (fun _ => True) v xs :=
  Kd.R_mono (Kd.R_keep (Kd.R_bound h) hk (fun k hk => by have := hk.2.1; omega)) (fun _ _ => trivial)

end Go.Proofs.YteepnlofbfccgaaDoor.Pr

namespace Go.Proofs.YteepnlofbfccgaaDoor.Pr
open Go.RowKit Go.Proofs.YteepnlofbfccgaaDoorW.PrintWords Go.Proofs.YteepnlofbfccgaaDoorW.PrintLast Go.Proofs.YteepnlofbfccgaaDoorW.PrintMore
attribute [local go_sem] max2_int min2_int max_two min_two max_three min_three max_four min_four   -- for this text's walks alone
set_option linter.unusedVariables false
set_option linter.unusedSimpArgs false

/-- Where the first element with p stands, or -1. -/
def idxP {α : Type} (p : α → Bool) (l : List α) : Int := if l.any p then (l.findIdx p : Int) else -1
theorem idxP_hit {α : Type} (p : α → Bool) (z : α) (l : List α) (k : Nat) (hk : k < l.length) (h : p (l.getD k z) = true) (hb : ∀ j, j < k → p (l.getD j z) = false) : idxP p l = k := by
  have hf : l.findIdx p = k := by
    rw [List.findIdx_eq hk]
    refine ⟨by rw [List.getD_eq_getElem?_getD, List.getElem?_eq_getElem hk] at h; exact h, fun j hj => ?_⟩
    have := hb j hj
    rw [List.getD_eq_getElem?_getD, List.getElem?_eq_getElem (by omega)] at this
    exact this
  unfold idxP
  rw [if_pos, hf]
  rw [List.any_eq_true]
  refine ⟨l[k], List.getElem_mem hk, ?_⟩
  rw [List.getD_eq_getElem?_getD, List.getElem?_eq_getElem hk] at h
  exact h
theorem idxP_miss {α : Type} (p : α → Bool) (z : α) (l : List α) (hb : ∀ j, j < l.length → p (l.getD j z) = false) : idxP p l = -1 := by
  unfold idxP
  rw [if_neg]
  rw [List.any_eq_true]
  rintro ⟨x, hx, hp⟩
  obtain ⟨j, hj, rfl⟩ := List.mem_iff_getElem.1 hx
  have := hb j hj
  rw [List.getD_eq_getElem?_getD, List.getElem?_eq_getElem hj] at this
  rw [show (some l[j]).getD z = l[j] from rfl, hp] at this
  cases this
theorem idxP_any {α : Type} (p : α → Bool) (l : List α) : decide (0 ≤ idxP p l) = l.any p := by
  unfold idxP
  split
  · rename_i h
    rw [h]
    simp
  · rename_i h
    rw [Bool.eq_false_iff.mpr h]
    rfl

set_option maxHeartbeats 4000000 in
theorem idx_CaveRow.calls (p : S26 → Bool) (g : Nat) (lb : Array Value) (eg : ∀ args w, (callFunc g args).run Tryd.prog w = .ok (.enter g args) w) (A0 : Option Addr) (c0 : Nat) (l0 : List S26) (w : World) (hr0 : Kd.C k26 w A0 l0.length l0) (hc0 : l0.length ≤ c0)
    (hp : ∀ (W : World) (x : S26), x ∈ l0 → Below w.heap.size w W → Calls Tryd.prog g (#[.agg #[.string x.f0, .int .i64 x.f1, .int .i64 x.f2, .int .i64 x.f3]] ++ lb) W fun e w' => e = .returned (.bool (p x)) ∧ Below w.heap.size w w') :
    Calls Tryd.prog 91 #[.slice A0 l0.length c0, .func (.func g) #[] lb] w fun e w' => e = .returned (.int .i64 (idxP p l0)) ∧ Below w.heap.size w w' := by
  have hL : l0.length ≤ 9223372036854775807 := hr0.2.1
  have HP := Aside0.mk hp
  have HR := Aside0.mk hr0
  clear hp hr0
  go_enter Tryd.func91, Tryd.ntmps91
  go_wp2
  go_loopg [5, 8] l0.length (fun gg _ s8 wr => ∃ kk : Nat, kk ≤ l0.length ∧ l0.length - kk ≤ gg ∧ s8 = .int .i64 kk ∧ Aside0 (Below w.heap.size w wr) ∧ Aside0 (∀ j, j < kk → p (l0.getD j z26) = false))
  case atStart => exact ⟨0, Nat.zero_le _, by omega, rfl, ⟨Below.refl _ w⟩, ⟨fun j hj => absurd hj (Nat.not_lt_zero _)⟩⟩
  case round =>
    obtain ⟨kk, hkk, hg, rfl, BW, AA⟩ := hrel
    by_cases hlt : kk < l0.length
    · have hltz : (kk : Int) < (l0.length : Int) := by omega
      have hk0 : (0 : Int) ≤ (kk : Int) := by omega
      obtain ⟨ad, e0, hx0, hx1, hx2, hx3⟩ := at_T26 HR.out (kk : Int) hk0 hltz
      replace hx0 := (BW.out.cell (World.block_lt_of_cell? w _ hx0)).trans hx0
      replace hx1 := (BW.out.cell (World.block_lt_of_cell? w _ hx1)).trans hx1
      replace hx2 := (BW.out.cell (World.block_lt_of_cell? w _ hx2)).trans hx2
      replace hx3 := (BW.out.cell (World.block_lt_of_cell? w _ hx3)).trans hx3
      have hm : rd_T26 l0 (kk : Int) ∈ l0 := by
        show l0.getD (kk : Int).toNat _ ∈ l0
        rw [Int.toNat_natCast, List.getD_eq_getElem?_getD, List.getElem?_eq_getElem hlt]
        exact List.getElem_mem hlt
      have hcall := HP.out wr (rd_T26 l0 (kk : Int)) hm BW.out
      have hpk : Aside0 (p (rd_T26 l0 (kk : Int)) = p (l0.getD kk z26)) := ⟨rfl⟩
      clear hm
      generalize rd_T26 l0 (kk : Int) = y at hx0 hx1 hx2 hx3 hcall hpk
      subst e0
      rw [Int.toNat_natCast] at hx0 hx1 hx2 hx3
      cases hq : p y with
      | true =>
        rw [hq] at hcall
        go_wp2_with (go_at_fn g; refine hcall.mono ?_; rintro e w' ⟨rfl, hb'⟩)
        go_ret
        refine ⟨?_, hb'⟩
        rw [idxP_hit p z26 l0 kk hlt (hpk.out.symm.trans hq) AA.out]
        rfl
      | false =>
        rw [hq] at hcall
        go_wp2_with (go_at_fn g; refine hcall.mono ?_; rintro e w' ⟨rfl, hb'⟩)
        go_roundg (l0.length - (kk + 1))
        case measure => omega
        case rel =>
          refine ⟨kk + 1, by omega, by omega, by go_num, ⟨hb'⟩, ⟨fun j hj => ?_⟩⟩
          by_cases e : j = kk
          · subst e
            exact hpk.out.symm.trans hq
          · exact AA.out j (by omega)
    · have hltz : ¬ (kk : Int) < (l0.length : Int) := by omega
      have hkl : kk = l0.length := by omega
      go_wp2
      go_ret
      refine ⟨?_, BW.out⟩
      rw [idxP_miss p z26 l0 (fun j hj => AA.out j (by omega))]
      rfl

end Go.Proofs.YteepnlofbfccgaaDoor.Pr

namespace Go.Proofs.YteepnlofbfccgaaDoor.Pr
open Go.RowKit Go.Proofs.YteepnlofbfccgaaDoorW.PrintWords Go.Proofs.YteepnlofbfccgaaDoorW.PrintLast Go.Proofs.YteepnlofbfccgaaDoorW.PrintMore
attribute [local go_sem] max2_int min2_int max_two min_two max_three min_three max_four min_four   -- for this text's walks alone
set_option linter.unusedVariables false
set_option linter.unusedSimpArgs false

/-! ### impl_caveAt: function 66 -/
def atP_ (n : ByteArray) (x : S26) : Bool := x.f0.toList == n.toList
set_option maxHeartbeats 4000000 in
theorem caveAt1_ (gb : Nat) (n : ByteArray) (x : S26) (w : World) (hb : w.heap[gb]? = some (.cells #[.string n] 9 (0, 0))) :
    Calls Tryd.prog 92 (#[.agg #[.string x.f0, .int .i64 x.f1, .int .i64 x.f2, .int .i64 x.f3]] ++ #[.pointer (some ⟨gb, 0, none⟩)]) w fun e w' => e = .returned (.bool (atP_ n x)) ∧ Below w.heap.size w w' := by
  show Calls Tryd.prog 92 #[.agg #[.string x.f0, .int .i64 x.f1, .int .i64 x.f2, .int .i64 x.f3], .pointer (some ⟨gb, 0, none⟩)] w _
  have h0 : w.cell? ⟨gb, 0, none⟩ = some (.string n) := (blk_cell hb 0).trans rfl
  have hB := below_alloc (Below.refl w.heap.size w) (.cells #[.string x.f0, .int .i64 x.f1, .int .i64 x.f2, .int .i64 x.f3] 26)
  replace h0 := (hB.cell (World.block_lt_of_cell? w _ h0)).trans h0
  clear hb
  go_enter Tryd.func92, Tryd.ntmps92
  go_wp2
  go_ret
  exact ⟨rfl, hB⟩
def impl_caveAt.f (k : Nat) (l0 : List S26) (a1 : ByteArray) : Option (Int × Bool) :=
  if 0 ≤ idxP (atP_ a1) l0 then (impl_AreCaves.f k l0).bind fun t => some (idxP (atP_ a1) l0, t) else some (idxP (atP_ a1) l0, false)
theorem impl_caveAt.mono : ∀ a0 a1 k, LeO (impl_caveAt.f k a0 a1) (impl_caveAt.f (k + 1) a0 a1) := by
  intro a0 a1 k
  unfold impl_caveAt.f
  refine LeO.ite ?_ ?_
  · exact LeO.bind (impl_AreCaves.mono a0 k) (fun _ => LeO.refl _)
  · exact LeO.refl _
set_option maxHeartbeats 4000000 in
set_option maxRecDepth 100000 in
theorem impl_caveAt.calls (k : Nat) (A0 : Option Addr) (c0 : Nat) (l0 : List S26) (a1 : ByteArray) (r1 : Int) (r2 : Bool) (w : World) (hr0 : Kd.C k26 w A0 l0.length l0) (hc0 : l0.length ≤ c0) (h : impl_caveAt.f k l0 a1 = some (r1, r2)) :
    Calls Tryd.prog 66 #[.slice A0 l0.length c0, .string a1] w fun e w' => e = .returned (.tuple #[.int .i64 r1, .bool r2]) ∧ Below w.heap.size w w' := by
  unfold impl_caveAt.f at h
  have hB := below_alloc (Below.refl w.heap.size w) (.cells #[.string a1] 9)
  have hg := heap_new_ w #[.string a1] 9
  have hcall := fun W (hW : Below (w.alloc (.cells #[.string a1] 9)).heap.size (w.alloc (.cells #[.string a1] 9)) W) => idx_CaveRow.calls (atP_ a1) 92 #[.pointer (some ⟨w.heap.size, 0, none⟩)] (fun _ _ => rfl) A0 c0 l0 W (Kd.C_below (Kd.C_below hr0 hB) hW) hc0 (fun W' x hx hW' => by
    refine (caveAt1_ w.heap.size a1 x W' (blk_below (blk_below hg hW) hW')).mono ?_
    rintro e w'' ⟨rfl, hb2⟩
    exact ⟨rfl, below_step hW' hb2⟩)
  have HR := Aside0.mk hr0
  clear hr0
  generalize idxP (atP_ a1) l0 = q at h hcall
  have HC := Aside0.mk hcall
  clear hcall
  by_cases c : 0 ≤ q
  · rw [if_pos c] at h
    obtain ⟨t, e1, h⟩ := Option.bind_eq_some_iff.mp h
    simp only [Option.some.injEq, Prod.mk.injEq] at h
    obtain ⟨rfl, rfl⟩ := h
    have cb : decide (0 ≤ q) = true := decide_eq_true c
    have E1 := Aside0.mk e1
    clear c e1 hg
    go_enter Tryd.func66, Tryd.ntmps66
    go_wp2_with (first | (go_at_call 91; refine (HC.out _ (Below.refl _ _)).mono ?_; rintro e w1 ⟨rfl, hb1⟩; have HB1 := Aside0.mk hb1; clear hb1) | (go_at_call 22; refine (impl_AreCaves.calls k A0 c0 l0 t _ (Kd.C_below (Kd.C_below HR.out hB) HB1.out) hc0 E1.out).mono ?_; rintro e w2 ⟨rfl, hb2⟩))
    go_ret2
    exact ⟨rfl, below_step (below_step hB HB1.out) hb2⟩
  · rw [if_neg c] at h
    simp only [Option.some.injEq, Prod.mk.injEq] at h
    obtain ⟨rfl, rfl⟩ := h
    have cb : decide (0 ≤ q) = false := decide_eq_false c
    clear c hg
    go_enter Tryd.func66, Tryd.ntmps66
    go_wp2_with (go_at_call 91; refine (HC.out _ (Below.refl _ _)).mono ?_; rintro e w1 ⟨rfl, hb1⟩)
    go_ret2
    exact ⟨rfl, below_step hB hb1⟩

end Go.Proofs.YteepnlofbfccgaaDoor.Pr

namespace Go.Proofs.YteepnlofbfccgaaDoor.Pr
open Go.RowKit Go.Proofs.YteepnlofbfccgaaDoorW.PrintWords Go.Proofs.YteepnlofbfccgaaDoorW.PrintLast Go.Proofs.YteepnlofbfccgaaDoorW.PrintMore
attribute [local go_sem] max2_int min2_int max_two min_two max_three min_three max_four min_four   -- for this text's walks alone
set_option linter.unusedVariables false
set_option linter.unusedSimpArgs false

/-! ### impl_CaveRow_67: function 67 -/
def impl_CaveRow_67.f (l0 : List S26) : Option (List S26) := if l0.length ≤ 3518437208883 then some l0 else none
set_option maxHeartbeats 4000000 in
set_option maxRecDepth 100000 in
theorem impl_CaveRow_67.calls (A0 : Option Addr) (c0 : Nat) (l0 : List S26) (r : List S26) (w : World) (hr0 : Kd.C k26 w A0 l0.length l0) (hc0 : l0.length ≤ c0) (h : impl_CaveRow_67.f l0 = some r) :
    Calls Tryd.prog 67 #[.slice A0 l0.length c0] w fun e w' => ∃ v0_ : Value, e = .returned (v0_) ∧ Kd.R k26 26 w' w.heap.size (fun _ => True) v0_ r ∧ Below w.heap.size w w' := by
  unfold impl_CaveRow_67.f at h
  by_cases hl : l0.length ≤ 3518437208883
  · rw [if_pos hl] at h
    obtain rfl := Option.some.inj h
    have HR := Aside0.mk hr0
    clear hr0
    cases A0 with
    | none =>
      have hn : l0 = [] := by
        rcases Nat.eq_zero_or_pos l0.length with h0 | h0
        · exact List.length_eq_zero_iff.1 h0
        · obtain ⟨ad, e, _⟩ := HR.out.2.2 h0
          cases e
      subst hn
      have hq : ∀ w, Sem.run Tryd.prog (binOp .eql 32 (.slice none 0 c0) (.slice none 0 0)) w = .ok (.bool true) w := fun w => by rfl
      go_enter Tryd.func67, Tryd.ntmps67
      go_wp2
      go_ret
      exact ⟨_, rfl, Kd.R_nil _ _ _ _ _, Below.refl _ _⟩
    | some ad =>
      have hq : ∀ w, Sem.run Tryd.prog (binOp .eql 32 (.slice (some ad) l0.length c0) (.slice none 0 0)) w = .ok (.bool false) w := fun w => by rfl
      go_enter Tryd.func67, Tryd.ntmps67
      go_wp2_with (first | ((with_reducible refine gate_dst (N := 5) rfl ?_); refine Kd.R_lit k26 _ 26 ?hg (N := 5) ?hd (xs := []) (inner := []) (ok := fun _ => True) (okp := fun _ => True) ?hr ?hp (fun _ hk => hk) trivial (Below.refl _ _) (Nat.le_refl _) (by simp) ?_; (case hd => rfl); (case hg => rfl); (case hr => first | (go_simp; done) | (go_simp; rfl)); (case hp => exact (Reps.none _ _)); intro v5 w4 ho5 hb5 hg_ hnew_; clear hg_ hnew_; have HO5 := Aside0.mk ho5; have HB5 := Aside0.mk hb5; clear ho5 hb5) | ((with_reducible refine gate_builtin (b := .append) (xs := #[.tmp 5, .tmp 6]) rfl ?_); at_builtin; refine Kd.R_append_rows k26 (w0 := w) w.heap.size rfl (.tmp 5) (.tmp 6) 32 26 (.agg #[(.string (⟨#[]⟩ : ByteArray)), (.int .i64 0), (.int .i64 0), (.int .i64 0)]) 40 rfl Tryd.underlying32 info26 rfl (by decide) (by omega) v5 [] l0 (some ad) _ _ (fun _ => True) (fun _ => False) rfl rfl HO5.out (Kd.C_below HR.out HB5.out) (fun _ _ h => h) (fun _ h => h.elim) (fun _ _ => trivial) HB5.out (below_size HB5.out) (by simp; omega) ?_; intro v7 w7 ho7 hb7 hg7 hat7; have HO7 := Aside0.mk ho7; have HB7 := Aside0.mk hb7; clear ho7 hb7 hg7 hat7))
      go_ret
      exact ⟨_, rfl, HO7.out, HB7.out⟩
  · rw [if_neg hl] at h
    cases h

end Go.Proofs.YteepnlofbfccgaaDoor.Pr

namespace Go.Proofs.YteepnlofbfccgaaDoor.Pr
open Go.RowKit Go.Proofs.YteepnlofbfccgaaDoorW.PrintWords Go.Proofs.YteepnlofbfccgaaDoorW.PrintLast Go.Proofs.YteepnlofbfccgaaDoorW.PrintMore
attribute [local go_sem] max2_int min2_int max_two min_two max_three min_three max_four min_four   -- for this text's walks alone
set_option linter.unusedVariables false
set_option linter.unusedSimpArgs false

/-! ### impl_AddSurvey: function 33 -/
def impl_AddSurvey.j0 : Nat → List (S26) → Int → Int → Int → Int → Bool → Option ((List (S26)) × Bool)
  | 0, _, _, _, _, _, _ => none
  | k + 1, x0, x2, x3, x4, x12, x37 => if x37 = true then (some (([] : List (S26)), false)) else ((impl_CaveRow_67.f x0).bind fun t296 => (if 0 ≤ x12 then (if x12 < (t296.length : Int) then ((some (t296.set (x12 : Int).toNat (⟨(rd_T26 t296 x12).f0, wrap64 (((rd_T26 t296 x12).f1) + x2), (rd_T26 t296 x12).f2, (rd_T26 t296 x12).f3⟩ : S26) : List (S26))).bind fun y300 => ((some (y300.set (x12 : Int).toNat (⟨(rd_T26 y300 x12).f0, (rd_T26 y300 x12).f1, (rd_T26 y300 x12).f2, wrap64 (((rd_T26 y300 x12).f3) + x3)⟩ : S26) : List (S26))).bind fun y302 => ((some (y302.set (x12 : Int).toNat (⟨(rd_T26 y302 x12).f0, (rd_T26 y302 x12).f1, mx ((rd_T26 y302 x12).f2) x4, (rd_T26 y302 x12).f3⟩ : S26) : List (S26))).bind fun y304 => ((impl_AreCaves.f k y304).bind fun t305 => (if t305 = true then (some (y304, true)) else (some (([] : List (S26)), false))))))) else (none)) else (none)))
def impl_AddSurvey.f (k : Nat) (l0 : List (S26)) (a1 : ByteArray) (a2 : Int) (a3 : Int) (a4 : Int) : Option ((List (S26)) × Bool) := (impl_caveAt.f k l0 a1).bind fun bt291 => (if bt291.2 = true then ((impl_within.f a2 1 1000000).bind fun t293 => (if t293 = true then ((impl_within.f a3 1 9999).bind fun t294 => (if t294 = true then ((impl_within.f a4 0 20000).bind fun t295 => (impl_AddSurvey.j0 k l0 a2 a3 a4 bt291.1 (!t295))) else (impl_AddSurvey.j0 k l0 a2 a3 a4 bt291.1 true))) else (impl_AddSurvey.j0 k l0 a2 a3 a4 bt291.1 true))) else (impl_AddSurvey.j0 k l0 a2 a3 a4 bt291.1 true))
theorem impl_AddSurvey.mono_l : ∀ k, (∀ y0 y1 y2 y3 y4 y5, LeO (impl_AddSurvey.j0 k y0 y1 y2 y3 y4 y5) (impl_AddSurvey.j0 (k + 1) y0 y1 y2 y3 y4 y5))
  | 0 => fun _ _ _ _ _ _ r h => by simp [impl_AddSurvey.j0] at h
  | k + 1 => by
    have ih0 := impl_AddSurvey.mono_l k
    · intro y0 y1 y2 y3 y4 y5
      unfold impl_AddSurvey.j0
      repeat' first
      | (with_reducible exact ih0 _ _ _ _ _ _)
      | (with_reducible exact impl_AreCaves.mono _ _)
      | (with_reducible exact impl_caveAt.mono _ _ _)
      | (with_reducible exact LeO.refl _)
      | (with_reducible exact LeO.none _)
      | (with_reducible refine LeO.ite ?_ ?_)
      | (with_reducible refine LeO.bind ?_ (fun _ => ?_))
      | exact ih0 _ _ _ _ _ _
      | exact impl_AreCaves.mono _ _
      | exact impl_caveAt.mono _ _ _
      | exact LeO.none _
      | refine LeO.ite ?_ ?_
      | refine LeO.bind ?_ (fun _ => ?_)
theorem impl_AddSurvey.mono : ∀ a0 a1 a2 a3 a4 k, LeO (impl_AddSurvey.f k a0 a1 a2 a3 a4) (impl_AddSurvey.f (k + 1) a0 a1 a2 a3 a4) := by
  intro a0 a1 a2 a3 a4 k
  have ih0 := impl_AddSurvey.mono_l k
  unfold impl_AddSurvey.f
  repeat' first
      | (with_reducible exact ih0 _ _ _ _ _ _)
      | (with_reducible exact impl_AreCaves.mono _ _)
      | (with_reducible exact impl_caveAt.mono _ _ _)
      | (with_reducible exact LeO.refl _)
      | (with_reducible exact LeO.none _)
      | (with_reducible refine LeO.ite ?_ ?_)
      | (with_reducible refine LeO.bind ?_ (fun _ => ?_))
      | exact ih0 _ _ _ _ _ _
      | exact impl_AreCaves.mono _ _
      | exact impl_caveAt.mono _ _ _
      | exact LeO.none _
      | refine LeO.ite ?_ ?_
      | refine LeO.bind ?_ (fun _ => ?_)
set_option maxHeartbeats 8000000 in
set_option maxRecDepth 100000 in
theorem impl_AddSurvey.calls (k : Nat) (A0 : Option Addr) (c0 : Nat) (l0 : List (S26)) (a1 : ByteArray) (a2 : Int) (a3 : Int) (a4 : Int) (r1 : List (S26)) (r2 : Bool) (w : World) (hr0 : Kd.C k26 w A0 l0.length l0) (hc0 : l0.length ≤ c0) (h : impl_AddSurvey.f k l0 a1 a2 a3 a4 = some (r1, r2)) :
    Calls Tryd.prog 33 #[.slice A0 l0.length c0, .string a1, .int .i64 a2, .int .i64 a3, .int .i64 a4] w fun e w' => ∃ v0_ : Value, e = .returned (.tuple #[v0_, .bool r2]) ∧ Kd.R k26 26 w' w.heap.size (fun _ => True) v0_ r1 ∧ Below w.heap.size w w' := by
  have HR0 := Aside0.mk hr0
  have HC0 := Aside0.mk hc0
  clear hr0 hc0
  have HB := Aside0.mk (Below.refl w.heap.size w)
  have H : ((impl_caveAt.f k l0 a1).bind fun bt291 => (if bt291.2 = true then ((impl_within.f a2 1 1000000).bind fun t293 => (if t293 = true then ((impl_within.f a3 1 9999).bind fun t294 => (if t294 = true then ((impl_within.f a4 0 20000).bind fun t295 => (impl_AddSurvey.j0 k l0 a2 a3 a4 bt291.1 (!t295))) else (impl_AddSurvey.j0 k l0 a2 a3 a4 bt291.1 true))) else (impl_AddSurvey.j0 k l0 a2 a3 a4 bt291.1 true))) else (impl_AddSurvey.j0 k l0 a2 a3 a4 bt291.1 true))) = some (r1, r2) := h
  clear h
  replace H := Option.bind_eq_some_iff.mp H
  obtain ⟨⟨t291, t292⟩, A60, H⟩ := H
  replace H : (if t292 = true then ((impl_within.f a2 1 1000000).bind fun t293 => (if t293 = true then ((impl_within.f a3 1 9999).bind fun t294 => (if t294 = true then ((impl_within.f a4 0 20000).bind fun t295 => (impl_AddSurvey.j0 k l0 a2 a3 a4 t291 (!t295))) else (impl_AddSurvey.j0 k l0 a2 a3 a4 t291 true))) else (impl_AddSurvey.j0 k l0 a2 a3 a4 t291 true))) else (impl_AddSurvey.j0 k l0 a2 a3 a4 t291 true)) = some (r1, r2) := H
  have A6 := Aside0.mk A60
  clear A60
  have HC7 := Aside0.mk H
  clear H
  go_enter Tryd.func33, Tryd.ntmps33
  go_upto_region 2 with (first | ((with_reducible refine gate_callee (f := 66) rfl ?_); refine goesL_ (some 18) rfl rfl Tryd.func66 (by kernel_rfl) rfl #[.slice A0 l0.length c0, .string a1] rfl (by (try simp only [List.map_toArray, List.map_cons, List.map_nil]); first | done | rfl | (simp only [List.length_drop, List.length_take]; rfl)) ?_; (with_reducible refine (impl_caveAt.calls k _ _ l0 a1 t291 t292 _ ?side1 ?side2 A6.out).mono ?_); (case side1 => repeat (first | exact HR0.out | (with_reducible refine Kd.C_alloc ?_ _) | (with_reducible refine Kd.C_drewN ?_ _) | (with_reducible refine Kd.C_drew ?_))); (case side2 => exact HC0.out); rintro e w8 ⟨rfl, hb⟩; refine ⟨_, rfl, ?_⟩; have n0_ := Aside0.mk (below_step (by repeat (first | (with_reducible first | exact HB.out | apply below_alloc | apply pw_below_drewN | apply below_drew1) | exact HB.out)) hb); clear HB; have HB := n0_; clear n0_; (try clear hb); (try clear hb2); (try clear hk); (try clear hi)))
  (try simp only [Act.put, List.setIfInBounds_toArray, List.set_cons_zero, List.set_cons_succ])
  go_cut [37] (fun v37 wc => ∃ (kq : Nat) (x37_6 : Bool), v37 = .bool x37_6 ∧ Aside0 (impl_AddSurvey.j0 kq l0 a2 a3 a4 t291 x37_6 = some (r1, r2)) ∧ Aside0 (kq ≤ k) ∧ Aside0 (Below w.heap.size w wc))
  case first =>
    have H := HC7.out
    clear HC7
    by_cases c9 : t292 = true
    · subst c9
      have H1 : ((impl_within.f a2 1 1000000).bind fun t293 => (if t293 = true then ((impl_within.f a3 1 9999).bind fun t294 => (if t294 = true then ((impl_within.f a4 0 20000).bind fun t295 => (impl_AddSurvey.j0 k l0 a2 a3 a4 t291 (!t295))) else (impl_AddSurvey.j0 k l0 a2 a3 a4 t291 true))) else (impl_AddSurvey.j0 k l0 a2 a3 a4 t291 true))) = some (r1, r2) := by rw [if_pos rfl] at H; exact H
      clear H
      have H := H1
      clear H1
      replace H := Option.bind_eq_some_iff.mp H
      obtain ⟨t293, A100, H⟩ := H
      replace H : (if t293 = true then ((impl_within.f a3 1 9999).bind fun t294 => (if t294 = true then ((impl_within.f a4 0 20000).bind fun t295 => (impl_AddSurvey.j0 k l0 a2 a3 a4 t291 (!t295))) else (impl_AddSurvey.j0 k l0 a2 a3 a4 t291 true))) else (impl_AddSurvey.j0 k l0 a2 a3 a4 t291 true)) = some (r1, r2) := H
      have A10 := Aside0.mk A100
      clear A100
      by_cases c11 : t293 = true
      · subst c11
        have H1 : ((impl_within.f a3 1 9999).bind fun t294 => (if t294 = true then ((impl_within.f a4 0 20000).bind fun t295 => (impl_AddSurvey.j0 k l0 a2 a3 a4 t291 (!t295))) else (impl_AddSurvey.j0 k l0 a2 a3 a4 t291 true))) = some (r1, r2) := by rw [if_pos rfl] at H; exact H
        clear H
        have H := H1
        clear H1
        replace H := Option.bind_eq_some_iff.mp H
        obtain ⟨t294, A120, H⟩ := H
        replace H : (if t294 = true then ((impl_within.f a4 0 20000).bind fun t295 => (impl_AddSurvey.j0 k l0 a2 a3 a4 t291 (!t295))) else (impl_AddSurvey.j0 k l0 a2 a3 a4 t291 true)) = some (r1, r2) := H
        have A12 := Aside0.mk A120
        clear A120
        by_cases c13 : t294 = true
        · subst c13
          have H1 : ((impl_within.f a4 0 20000).bind fun t295 => (impl_AddSurvey.j0 k l0 a2 a3 a4 t291 (!t295))) = some (r1, r2) := by rw [if_pos rfl] at H; exact H
          clear H
          have H := H1
          clear H1
          replace H := Option.bind_eq_some_iff.mp H
          obtain ⟨t295, A140, H⟩ := H
          replace H : (impl_AddSurvey.j0 k l0 a2 a3 a4 t291 (!t295)) = some (r1, r2) := H
          have A14 := Aside0.mk A140
          clear A140
          have H' := Aside0.mk H
          clear H
          go_wp2_with (first | (go_at_call 57; (with_reducible refine (impl_within.calls a2 1 1000000 true _ A10.out).mono ?_); rintro e w' ⟨rfl, ⟨nd, rfl⟩⟩) | (go_at_call 57; (with_reducible refine (impl_within.calls a3 1 9999 true _ A12.out).mono ?_); rintro e w' ⟨rfl, ⟨nd, rfl⟩⟩) | (go_at_call 57; (with_reducible refine (impl_within.calls a4 0 20000 t295 _ A14.out).mono ?_); rintro e w' ⟨rfl, ⟨nd, rfl⟩⟩))
          go_meet
          case rel => exact ⟨_, (!t295), (by first | rfl | (simp; done) | (simp [*]; done)), H', ⟨by first | omega | exact Nat.le_refl _⟩, ⟨by repeat (first | (with_reducible first | exact HB.out | apply below_alloc | apply pw_below_drewN | apply below_drew1) | exact HB.out)⟩⟩
        · replace c13 := Bool.eq_false_iff.mpr c13
          subst c13
          have H1 : (impl_AddSurvey.j0 k l0 a2 a3 a4 t291 true) = some (r1, r2) := by rw [if_neg (show ¬ (false = true) by decide)] at H; exact H
          clear H
          have H := H1
          clear H1
          have H' := Aside0.mk H
          clear H
          go_wp2_with (first | (go_at_call 57; (with_reducible refine (impl_within.calls a2 1 1000000 true _ A10.out).mono ?_); rintro e w' ⟨rfl, ⟨nd, rfl⟩⟩) | (go_at_call 57; (with_reducible refine (impl_within.calls a3 1 9999 false _ A12.out).mono ?_); rintro e w' ⟨rfl, ⟨nd, rfl⟩⟩))
          go_meet
          case rel => exact ⟨_, (true), (by first | rfl | (simp; done) | (simp [*]; done)), H', ⟨by first | omega | exact Nat.le_refl _⟩, ⟨by repeat (first | (with_reducible first | exact HB.out | apply below_alloc | apply pw_below_drewN | apply below_drew1) | exact HB.out)⟩⟩
      · replace c11 := Bool.eq_false_iff.mpr c11
        subst c11
        have H1 : (impl_AddSurvey.j0 k l0 a2 a3 a4 t291 true) = some (r1, r2) := by rw [if_neg (show ¬ (false = true) by decide)] at H; exact H
        clear H
        have H := H1
        clear H1
        have H' := Aside0.mk H
        clear H
        go_wp2_with (first | (go_at_call 57; (with_reducible refine (impl_within.calls a2 1 1000000 false _ A10.out).mono ?_); rintro e w' ⟨rfl, ⟨nd, rfl⟩⟩))
        go_meet
        case rel => exact ⟨_, (true), (by first | rfl | (simp; done) | (simp [*]; done)), H', ⟨by first | omega | exact Nat.le_refl _⟩, ⟨by repeat (first | (with_reducible first | exact HB.out | apply below_alloc | apply pw_below_drewN | apply below_drew1) | exact HB.out)⟩⟩
    · replace c9 := Bool.eq_false_iff.mpr c9
      subst c9
      have H1 : (impl_AddSurvey.j0 k l0 a2 a3 a4 t291 true) = some (r1, r2) := by rw [if_neg (show ¬ (false = true) by decide)] at H; exact H
      clear H
      have H := H1
      clear H1
      have H' := Aside0.mk H
      clear H
      go_wp2
      go_meet
      case rel => exact ⟨_, (true), (by first | rfl | (simp; done) | (simp [*]; done)), H', ⟨by first | omega | exact Nat.le_refl _⟩, ⟨by repeat (first | (with_reducible first | exact HB.out | apply below_alloc | apply pw_below_drewN | apply below_drew1) | exact HB.out)⟩⟩
  case rest =>
    clear HC7
    try clear c1
    try clear p2
    try clear c3
    try clear c6
    try clear c9
    try clear c11
    try clear c13
    obtain ⟨kq, x37_6, rfl, HA, HJ6, HB⟩ := hcut
    cases kq with
    | zero => exact absurd HA.out (by simp [impl_AddSurvey.j0])
    | succ kj6 =>
      have H := HA.out
      clear HA
      simp only [impl_AddSurvey.j0] at H
      by_cases c15 : x37_6 = true
      · subst c15
        have H1 : (some (([] : List (S26)), false)) = some (r1, r2) := by rw [if_pos rfl] at H; exact H
        clear H
        have H := H1
        clear H1
        simp only [Option.some.injEq, Prod.mk.injEq] at H
        obtain ⟨rfl, rfl⟩ := H
        go_wp2
        go_ret2
        exact ⟨_, by first | rfl | (simp [errW_none, errW_some] <;> rfl) | (simp [*, errW_none, errW_some] <;> rfl), by first | exact Kd.R_nil _ _ _ _ _ | exact Kd.N_nil _ _ _ _ _ | exact Kd.V_nil _ _ _ _ _ | exact Kd.Q_nil _ _ _ _ _ | exact Kd.S_nil _ _ _ _ _, by repeat (first | (with_reducible first | exact HB.out | apply below_alloc | apply pw_below_drewN | apply below_drew1) | exact HB.out)⟩
      · replace c15 := Bool.eq_false_iff.mpr c15
        subst c15
        have H1 : ((impl_CaveRow_67.f l0).bind fun t296 => (if 0 ≤ t291 then (if t291 < (t296.length : Int) then ((some (t296.set (t291 : Int).toNat (⟨(rd_T26 t296 t291).f0, wrap64 (((rd_T26 t296 t291).f1) + a2), (rd_T26 t296 t291).f2, (rd_T26 t296 t291).f3⟩ : S26) : List (S26))).bind fun y300 => ((some (y300.set (t291 : Int).toNat (⟨(rd_T26 y300 t291).f0, (rd_T26 y300 t291).f1, (rd_T26 y300 t291).f2, wrap64 (((rd_T26 y300 t291).f3) + a3)⟩ : S26) : List (S26))).bind fun y302 => ((some (y302.set (t291 : Int).toNat (⟨(rd_T26 y302 t291).f0, (rd_T26 y302 t291).f1, mx ((rd_T26 y302 t291).f2) a4, (rd_T26 y302 t291).f3⟩ : S26) : List (S26))).bind fun y304 => ((impl_AreCaves.f kj6 y304).bind fun t305 => (if t305 = true then (some (y304, true)) else (some (([] : List (S26)), false))))))) else (none)) else (none))) = some (r1, r2) := by rw [if_neg (show ¬ (false = true) by decide)] at H; exact H
        clear H
        have H := H1
        clear H1
        replace H := Option.bind_eq_some_iff.mp H
        obtain ⟨t296, A160, H⟩ := H
        replace H : (if 0 ≤ t291 then (if t291 < (t296.length : Int) then ((some (t296.set (t291 : Int).toNat (⟨(rd_T26 t296 t291).f0, wrap64 (((rd_T26 t296 t291).f1) + a2), (rd_T26 t296 t291).f2, (rd_T26 t296 t291).f3⟩ : S26) : List (S26))).bind fun y300 => ((some (y300.set (t291 : Int).toNat (⟨(rd_T26 y300 t291).f0, (rd_T26 y300 t291).f1, (rd_T26 y300 t291).f2, wrap64 (((rd_T26 y300 t291).f3) + a3)⟩ : S26) : List (S26))).bind fun y302 => ((some (y302.set (t291 : Int).toNat (⟨(rd_T26 y302 t291).f0, (rd_T26 y302 t291).f1, mx ((rd_T26 y302 t291).f2) a4, (rd_T26 y302 t291).f3⟩ : S26) : List (S26))).bind fun y304 => ((impl_AreCaves.f kj6 y304).bind fun t305 => (if t305 = true then (some (y304, true)) else (some (([] : List (S26)), false))))))) else (none)) else (none)) = some (r1, r2) := H
        have A16 := Aside0.mk A160
        clear A160
        by_cases c17 : 0 ≤ t291
        · rw [if_pos c17] at H
          have c17b0 : decide (0 ≤ t291) = true := decide_eq_true c17
          clear c17
          by_cases c18 : t291 < (t296.length : Int)
          · rw [if_pos c18] at H
            have c18b0 : decide (t291 < (t296.length : Int)) = true := decide_eq_true c18
            clear c18
            obtain ⟨y300, hy300⟩ : ∃ y_ : List (S26), y_ = (t296.set (t291 : Int).toNat (⟨(rd_T26 t296 t291).f0, wrap64 (((rd_T26 t296 t291).f1) + a2), (rd_T26 t296 t291).f2, (rd_T26 t296 t291).f3⟩ : S26)) := ⟨_, rfl⟩
            replace H : ((some (y300.set (t291 : Int).toNat (⟨(rd_T26 y300 t291).f0, (rd_T26 y300 t291).f1, (rd_T26 y300 t291).f2, wrap64 (((rd_T26 y300 t291).f3) + a3)⟩ : S26) : List (S26))).bind fun y302 => ((some (y302.set (t291 : Int).toNat (⟨(rd_T26 y302 t291).f0, (rd_T26 y302 t291).f1, mx ((rd_T26 y302 t291).f2) a4, (rd_T26 y302 t291).f3⟩ : S26) : List (S26))).bind fun y304 => ((impl_AreCaves.f kj6 y304).bind fun t305 => (if t305 = true then (some (y304, true)) else (some (([] : List (S26)), false)))))) = some (r1, r2) := by first | (rw [hy300]; with_reducible exact H) | (have H2_ := (Option.bind_some _ _).symm.trans H; rw [hy300]; with_reducible exact H2_) | (have H2_ := (Option.bind_some _ _).symm.trans H; with_reducible exact H2_) | with_reducible exact H | (rw [hy300]; exact H) | exact H
            have Ny300 := Aside0.mk hy300
            clear hy300
            obtain ⟨y302, hy302⟩ : ∃ y_ : List (S26), y_ = (y300.set (t291 : Int).toNat (⟨(rd_T26 y300 t291).f0, (rd_T26 y300 t291).f1, (rd_T26 y300 t291).f2, wrap64 (((rd_T26 y300 t291).f3) + a3)⟩ : S26)) := ⟨_, rfl⟩
            replace H : ((some (y302.set (t291 : Int).toNat (⟨(rd_T26 y302 t291).f0, (rd_T26 y302 t291).f1, mx ((rd_T26 y302 t291).f2) a4, (rd_T26 y302 t291).f3⟩ : S26) : List (S26))).bind fun y304 => ((impl_AreCaves.f kj6 y304).bind fun t305 => (if t305 = true then (some (y304, true)) else (some (([] : List (S26)), false))))) = some (r1, r2) := by first | (rw [hy302]; with_reducible exact H) | (have H2_ := (Option.bind_some _ _).symm.trans H; rw [hy302]; with_reducible exact H2_) | (have H2_ := (Option.bind_some _ _).symm.trans H; with_reducible exact H2_) | with_reducible exact H | (rw [hy302]; exact H) | exact H
            have Ny302 := Aside0.mk hy302
            clear hy302
            obtain ⟨ji21, hji21⟩ : ∃ j_ : Int, (mx ((rd_T26 y302 t291).f2) a4) = j_ := ⟨_, rfl⟩
            replace H : ((some (y302.set (t291 : Int).toNat (⟨(rd_T26 y302 t291).f0, (rd_T26 y302 t291).f1, ji21, (rd_T26 y302 t291).f3⟩ : S26) : List (S26))).bind fun y304 => ((impl_AreCaves.f kj6 y304).bind fun t305 => (if t305 = true then (some (y304, true)) else (some (([] : List (S26)), false))))) = some (r1, r2) := by first | (rw [hji21] at H; exact H) | (simp only [hji21] at H ⊢; exact H)
            (try rw [hji21] at A16)
            have hji21_ : (if ((rd_T26 y302 t291).f2) < a4 then a4 else ((rd_T26 y302 t291).f2)) = ji21 := hji21
            obtain ⟨y304, hy304⟩ : ∃ y_ : List (S26), y_ = (y302.set (t291 : Int).toNat (⟨(rd_T26 y302 t291).f0, (rd_T26 y302 t291).f1, ji21, (rd_T26 y302 t291).f3⟩ : S26)) := ⟨_, rfl⟩
            replace H : ((impl_AreCaves.f kj6 y304).bind fun t305 => (if t305 = true then (some (y304, true)) else (some (([] : List (S26)), false)))) = some (r1, r2) := by first | (rw [hy304]; with_reducible exact H) | (have H2_ := (Option.bind_some _ _).symm.trans H; rw [hy304]; with_reducible exact H2_) | (have H2_ := (Option.bind_some _ _).symm.trans H; with_reducible exact H2_) | with_reducible exact H | (rw [hy304]; exact H) | exact H
            have Ny304 := Aside0.mk hy304
            clear hy304
            replace H := Option.bind_eq_some_iff.mp H
            obtain ⟨t305, A230, H⟩ := H
            replace H : (if t305 = true then (some (y304, true)) else (some (([] : List (S26)), false))) = some (r1, r2) := H
            have A23 := Aside0.mk A230
            clear A230
            by_cases c24 : t305 = true
            · subst c24
              have H1 : (some (y304, true)) = some (r1, r2) := by rw [if_pos rfl] at H; exact H
              clear H
              have H := H1
              clear H1
              simp only [Option.some.injEq, Prod.mk.injEq] at H
              obtain ⟨rfl, rfl⟩ := H
              go_wp2_with (first | ((with_reducible refine gate_callee (f := 67) rfl ?_); refine goesL_ (some 39) rfl rfl Tryd.func67 (by kernel_rfl) rfl #[.slice A0 l0.length c0] rfl (by (try simp only [List.map_toArray, List.map_cons, List.map_nil]); first | done | rfl | (simp only [List.length_drop, List.length_take]; rfl)) ?_; (with_reducible refine (impl_CaveRow_67.calls _ _ l0 t296 _ ?side1 ?side2 A16.out).mono ?_); (case side1 => repeat (first | exact (Kd.C_below HR0.out HB.out) | (with_reducible refine Kd.C_alloc ?_ _) | (with_reducible refine Kd.C_drewN ?_ _) | (with_reducible refine Kd.C_drew ?_))); (case side2 => exact HC0.out); rintro e w25 ⟨v297, rfl, ho0, hb⟩; refine ⟨_, rfl, ?_⟩; have n0_ := Aside0.mk (Kd.R_lower ho0 (below_size (by repeat (first | (with_reducible first | exact HB.out | apply below_alloc | apply pw_below_drewN | apply below_drew1) | exact HB.out)))); have n1_ := Aside0.mk (below_step (by repeat (first | (with_reducible first | exact HB.out | apply below_alloc | apply pw_below_drewN | apply below_drew1) | exact HB.out)) hb); clear HB; have HO298 := n0_; have HB := n1_; clear n0_ n1_; (try clear hb); (try clear hb2); (try clear hk); (try clear hi); (try clear ho0); obtain ⟨Ao26, co26, eo26⟩ := Kd.R_slice HO298.out; subst eo26; have p299 : 0 ≤ (t291 : Int) := of_decide_eq_true (by first | (with_reducible assumption) | assumption); have q299 : t291 < (t296.length : Int) := of_decide_eq_true (by first | (with_reducible assumption) | assumption); obtain ⟨ad299, e299, hx299_0, hx299_1, hx299_2, hx299_3⟩ := at_T26 (Kd.R_reads' HO298.out).2.2 t291 p299 q299; cases e299; replace p299 := eq_true p299; replace q299 := eq_true q299; have p19 : 0 ≤ (t291 : Int) := of_decide_eq_true (by first | (with_reducible assumption) | assumption); have q19 : (t291 : Int) < ((t296.length : Int) : Int) := of_decide_eq_true (by first | (with_reducible assumption) | assumption); obtain ⟨go19, co19, eo19, gb19, gl19, cl19, HG19⟩ := Kd.R_form HO298.out (by omega); (first | cases eo19 | (injection eo19 with ea_ en_ ec_; (first | subst ea_ | (injection ea_ with ea_; subst ea_)); subst ec_; clear en_)); have GB19 := Aside0.mk gb19; have GG19 := Aside0.mk HG19; clear gb19 gl19 HG19; (first | simp only [add_plain] at hx299_0 | skip); (first | simp only [add_plain] at hx299_1 | skip); (first | simp only [add_plain] at hx299_2 | skip); (first | simp only [add_plain] at hx299_3 | skip); obtain ⟨ce19, hcl19, hM19, hcc19, hfr19⟩ := Kd.R_elem HO298.out z26 (t291 : Int) p19 q19; obtain rfl := k26_openM hM19; have hx19_0 : w25.cell? ⟨go19, (t291 : Int).toNat * 4, none⟩ = some (.string ((rd_T26 t296 t291).f0)) := hcc19 0 _ rfl; have hx19_1 : w25.cell? ⟨go19, (t291 : Int).toNat * 4 + 1, none⟩ = some (.int .i64 ((rd_T26 t296 t291).f1)) := hcc19 1 _ rfl; have hx19_2 : w25.cell? ⟨go19, (t291 : Int).toNat * 4 + 2, none⟩ = some (.int .i64 ((rd_T26 t296 t291).f2)) := hcc19 2 _ rfl; have hx19_3 : w25.cell? ⟨go19, (t291 : Int).toNat * 4 + 3, none⟩ = some (.int .i64 ((rd_T26 t296 t291).f3)) := hcc19 3 _ rfl; have hf19_0 : w25.frozen? ⟨go19, (t291 : Int).toNat * 4, none⟩ = false := hfr19 0; have hf19_1 : w25.frozen? ⟨go19, (t291 : Int).toNat * 4 + 1, none⟩ = false := hfr19 1; have hf19_2 : w25.frozen? ⟨go19, (t291 : Int).toNat * 4 + 2, none⟩ = false := hfr19 2; have hf19_3 : w25.frozen? ⟨go19, (t291 : Int).toNat * 4 + 3, none⟩ = false := hfr19 3; clear hcl19 hcc19 hfr19 hM19; replace p19 := eq_true p19; replace q19 := eq_true q19; have HX27 := Aside0.mk (show Kd.R k26 26 w25 w.heap.size (fun _ => True) (.slice (some ⟨go19, 0, none⟩) t296.length co26) t296 from (by (with_reducible repeat (first | apply Kd.R_alloc | apply Kd.R_drewN | apply Kd.R_drew)); exact HO298.out)); obtain ⟨ce27, hcl27, hM27, hcc27, hfr27⟩ := Kd.R_elem HX27.out z26 (t291 : Int) (of_decide_eq_true (by first | (with_reducible assumption) | assumption)) (by have h_ : (t291 : Int) < ((t296.length : Int) : Int) := of_decide_eq_true (by first | (with_reducible assumption) | assumption); first | exact h_ | (have e_ := (Kd.R_reads' HO298.out).1; omega) | simpa using h_); obtain rfl := k26_openM hM27; have HP27 := Kd.R_seg HX27.out (t291 : Int) (of_decide_eq_true (by first | (with_reducible assumption) | assumption)) (by have h_ : (t291 : Int) < ((t296.length : Int) : Int) := of_decide_eq_true (by first | (with_reducible assumption) | assumption); first | exact h_ | (have e_ := (Kd.R_reads' HO298.out).1; omega) | simpa using h_) (seg := [.int .i64 (wrap64 (((rd_T26 t296 t291).f1) + a2))]) (j := 1) hcl27 hcc27 (show 2 ≤ 4 from by decide) (x' := (⟨(rd_T26 t296 t291).f0, wrap64 (((rd_T26 t296 t291).f1) + a2), (rd_T26 t296 t291).f2, (rd_T26 t296 t291).f3⟩ : S26)) (k26_mkM _ _ _ (⟨(rd_T26 t296 t291).f0, wrap64 (((rd_T26 t296 t291).f1) + a2), (rd_T26 t296 t291).f2, (rd_T26 t296 t291).f3⟩ : S26) ) (fun _ hk => hk); have hx27_1 := hcc27 1 _ rfl; (try simp only [show (k26).sz = 4 from rfl, Nat.mul_one, Nat.add_zero] at hx27_1); have hf27_1 := hfr27 1; (try simp only [show (k26).sz = 4 from rfl, Nat.mul_one, Nat.add_zero] at hf27_1); clear hcl27 hcc27 hfr27 hM27) | ((with_reducible refine gate_store (t := 3) (p := 48) rfl ?_); refine store_event (t := 3) (p := 48) (v := ?vo_w28) (w1 := (w25.setCell ⟨go19, (t291 : Int).toNat * 4 + 1, none⟩ (.int .i64 (wrap64 (((rd_T26 t296 t291).f1) + a2))))) ?hg ?ho ?hn ?hr ?_; (case ho => rfl); (case hg => rfl); (case hn => rfl); (case hr => first | (go_simp; done) | (go_simp; rfl)); intro w28 hw; have hg : w25.grownBy w28 (some go19) := (by rw [hw]; exact HP27.2); have hp_ : Kd.R k26 26 w28 w.heap.size (fun _ => True) (.slice (some ⟨go19, 0, none⟩) t296.length co26) y300 := (by rw [hw, Ny300.out]; exact HP27.1); clear HP27; have n0_ := Aside0.mk (hp_); have n1_ := Aside0.mk ((by rw [hw]; exact below_set (HB.out) GB19.out : Below w.heap.size w w28)); clear HO298; clear HB; have HO298 := n0_; have HB := n1_; clear n0_ n1_; clear hg hw hp_; have p301 : 0 ≤ (t291 : Int) := of_decide_eq_true (by first | (with_reducible assumption) | assumption); have q301 : t291 < (y300.length : Int) := (by have h_ : (t291 : Int) < ((t296.length : Int) : Int) := of_decide_eq_true (by first | (with_reducible assumption) | assumption); first | (have e_ := (Kd.R_reads' HO298.out).1; omega) | simpa only [Ny300.out, List.length_set] using h_); have ql301 : ((t291 : Int) < ((t296.length : Int) : Int)) = True := eq_true (of_decide_eq_true (by first | (with_reducible assumption) | assumption)); obtain ⟨ad301, e301, hx301_0, hx301_1, hx301_2, hx301_3⟩ := at_T26 (Kd.R_reads' HO298.out).2.2 t291 p301 q301; obtain rfl : (⟨go19, 0, none⟩ : Addr) = ad301 := (by injection e301); (first | simp only [add_plain] at hx301_0 | simp only [add_at] at hx301_0 | simp only [Addr.add, Nat.zero_add] at hx301_0 | skip); (first | simp only [add_plain] at hx301_1 | simp only [add_at] at hx301_1 | simp only [Addr.add, Nat.zero_add] at hx301_1 | skip); (first | simp only [add_plain] at hx301_2 | simp only [add_at] at hx301_2 | simp only [Addr.add, Nat.zero_add] at hx301_2 | skip); (first | simp only [add_plain] at hx301_3 | simp only [add_at] at hx301_3 | simp only [Addr.add, Nat.zero_add] at hx301_3 | skip); replace p301 := eq_true p301; replace q301 := eq_true q301; have p20 : 0 ≤ (t291 : Int) := of_decide_eq_true (by first | (with_reducible assumption) | assumption); have q20 : (t291 : Int) < ((t296.length : Int) : Int) := of_decide_eq_true (by first | (with_reducible assumption) | assumption); obtain ⟨ce20, hcl20, hM20, hcc20, hfr20⟩ := Kd.R_elem HO298.out z26 (t291 : Int) p20 q20; obtain rfl := k26_openM hM20; have hx20_0 : w28.cell? ⟨go19, (t291 : Int).toNat * 4, none⟩ = some (.string ((rd_T26 y300 t291).f0)) := hcc20 0 _ rfl; have hx20_1 : w28.cell? ⟨go19, (t291 : Int).toNat * 4 + 1, none⟩ = some (.int .i64 ((rd_T26 y300 t291).f1)) := hcc20 1 _ rfl; have hx20_2 : w28.cell? ⟨go19, (t291 : Int).toNat * 4 + 2, none⟩ = some (.int .i64 ((rd_T26 y300 t291).f2)) := hcc20 2 _ rfl; have hx20_3 : w28.cell? ⟨go19, (t291 : Int).toNat * 4 + 3, none⟩ = some (.int .i64 ((rd_T26 y300 t291).f3)) := hcc20 3 _ rfl; have hf20_0 : w28.frozen? ⟨go19, (t291 : Int).toNat * 4, none⟩ = false := hfr20 0; have hf20_1 : w28.frozen? ⟨go19, (t291 : Int).toNat * 4 + 1, none⟩ = false := hfr20 1; have hf20_2 : w28.frozen? ⟨go19, (t291 : Int).toNat * 4 + 2, none⟩ = false := hfr20 2; have hf20_3 : w28.frozen? ⟨go19, (t291 : Int).toNat * 4 + 3, none⟩ = false := hfr20 3; clear hcl20 hcc20 hfr20 hM20; replace p20 := eq_true p20; replace q20 := eq_true q20; have HX29 := Aside0.mk (show Kd.R k26 26 w28 w.heap.size (fun _ => True) (.slice (some ⟨go19, 0, none⟩) t296.length co26) y300 from (by (with_reducible repeat (first | apply Kd.R_alloc | apply Kd.R_drewN | apply Kd.R_drew)); exact HO298.out)); obtain ⟨ce29, hcl29, hM29, hcc29, hfr29⟩ := Kd.R_elem HX29.out z26 (t291 : Int) (of_decide_eq_true (by first | (with_reducible assumption) | assumption)) (by have h_ : (t291 : Int) < ((t296.length : Int) : Int) := of_decide_eq_true (by first | (with_reducible assumption) | assumption); first | exact h_ | (have e_ := (Kd.R_reads' HO298.out).1; omega) | simpa using h_); obtain rfl := k26_openM hM29; have HP29 := Kd.R_seg HX29.out (t291 : Int) (of_decide_eq_true (by first | (with_reducible assumption) | assumption)) (by have h_ : (t291 : Int) < ((t296.length : Int) : Int) := of_decide_eq_true (by first | (with_reducible assumption) | assumption); first | exact h_ | (have e_ := (Kd.R_reads' HO298.out).1; omega) | simpa using h_) (seg := [.int .i64 (wrap64 (((rd_T26 y300 t291).f3) + a3))]) (j := 3) hcl29 hcc29 (show 4 ≤ 4 from by decide) (x' := (⟨(rd_T26 y300 t291).f0, (rd_T26 y300 t291).f1, (rd_T26 y300 t291).f2, wrap64 (((rd_T26 y300 t291).f3) + a3)⟩ : S26)) (k26_mkM _ _ _ (⟨(rd_T26 y300 t291).f0, (rd_T26 y300 t291).f1, (rd_T26 y300 t291).f2, wrap64 (((rd_T26 y300 t291).f3) + a3)⟩ : S26) ) (fun _ hk => hk); have hx29_3 := hcc29 3 _ rfl; (try simp only [show (k26).sz = 4 from rfl, Nat.mul_one, Nat.add_zero] at hx29_3); have hf29_3 := hfr29 3; (try simp only [show (k26).sz = 4 from rfl, Nat.mul_one, Nat.add_zero] at hf29_3); clear hcl29 hcc29 hfr29 hM29) | ((with_reducible refine gate_store (t := 3) (p := 57) rfl ?_); refine store_event (t := 3) (p := 57) (v := ?vo_w30) (w1 := (w28.setCell ⟨go19, (t291 : Int).toNat * 4 + 3, none⟩ (.int .i64 (wrap64 (((rd_T26 y300 t291).f3) + a3))))) ?hg ?ho ?hn ?hr ?_; (case ho => rfl); (case hg => rfl); (case hn => rfl); (case hr => first | (go_simp; done) | (go_simp; rfl)); intro w30 hw; have hg : w28.grownBy w30 (some go19) := (by rw [hw]; exact HP29.2); have hp_ : Kd.R k26 26 w30 w.heap.size (fun _ => True) (.slice (some ⟨go19, 0, none⟩) t296.length co26) y302 := (by rw [hw, Ny302.out]; exact HP29.1); clear HP29; have n0_ := Aside0.mk (hp_); have n1_ := Aside0.mk ((by rw [hw]; exact below_set (HB.out) GB19.out : Below w.heap.size w w30)); clear HO298; clear HB; have HO298 := n0_; have HB := n1_; clear n0_ n1_; clear hg hw hp_; have p303 : 0 ≤ (t291 : Int) := of_decide_eq_true (by first | (with_reducible assumption) | assumption); have q303 : t291 < (y302.length : Int) := (by have h_ : (t291 : Int) < ((t296.length : Int) : Int) := of_decide_eq_true (by first | (with_reducible assumption) | assumption); first | (have e_ := (Kd.R_reads' HO298.out).1; omega) | simpa only [Ny300.out, Ny302.out, List.length_set] using h_); have ql303 : ((t291 : Int) < ((t296.length : Int) : Int)) = True := eq_true (of_decide_eq_true (by first | (with_reducible assumption) | assumption)); obtain ⟨ad303, e303, hx303_0, hx303_1, hx303_2, hx303_3⟩ := at_T26 (Kd.R_reads' HO298.out).2.2 t291 p303 q303; obtain rfl : (⟨go19, 0, none⟩ : Addr) = ad303 := (by injection e303); (first | simp only [add_plain] at hx303_0 | simp only [add_at] at hx303_0 | simp only [Addr.add, Nat.zero_add] at hx303_0 | skip); (first | simp only [add_plain] at hx303_1 | simp only [add_at] at hx303_1 | simp only [Addr.add, Nat.zero_add] at hx303_1 | skip); (first | simp only [add_plain] at hx303_2 | simp only [add_at] at hx303_2 | simp only [Addr.add, Nat.zero_add] at hx303_2 | skip); (first | simp only [add_plain] at hx303_3 | simp only [add_at] at hx303_3 | simp only [Addr.add, Nat.zero_add] at hx303_3 | skip); replace p303 := eq_true p303; replace q303 := eq_true q303; have p22 : 0 ≤ (t291 : Int) := of_decide_eq_true (by first | (with_reducible assumption) | assumption); have q22 : (t291 : Int) < ((t296.length : Int) : Int) := of_decide_eq_true (by first | (with_reducible assumption) | assumption); obtain ⟨ce22, hcl22, hM22, hcc22, hfr22⟩ := Kd.R_elem HO298.out z26 (t291 : Int) p22 q22; obtain rfl := k26_openM hM22; have hx22_0 : w30.cell? ⟨go19, (t291 : Int).toNat * 4, none⟩ = some (.string ((rd_T26 y302 t291).f0)) := hcc22 0 _ rfl; have hx22_1 : w30.cell? ⟨go19, (t291 : Int).toNat * 4 + 1, none⟩ = some (.int .i64 ((rd_T26 y302 t291).f1)) := hcc22 1 _ rfl; have hx22_2 : w30.cell? ⟨go19, (t291 : Int).toNat * 4 + 2, none⟩ = some (.int .i64 ((rd_T26 y302 t291).f2)) := hcc22 2 _ rfl; have hx22_3 : w30.cell? ⟨go19, (t291 : Int).toNat * 4 + 3, none⟩ = some (.int .i64 ((rd_T26 y302 t291).f3)) := hcc22 3 _ rfl; have hf22_0 : w30.frozen? ⟨go19, (t291 : Int).toNat * 4, none⟩ = false := hfr22 0; have hf22_1 : w30.frozen? ⟨go19, (t291 : Int).toNat * 4 + 1, none⟩ = false := hfr22 1; have hf22_2 : w30.frozen? ⟨go19, (t291 : Int).toNat * 4 + 2, none⟩ = false := hfr22 2; have hf22_3 : w30.frozen? ⟨go19, (t291 : Int).toNat * 4 + 3, none⟩ = false := hfr22 3; clear hcl22 hcc22 hfr22 hM22; replace p22 := eq_true p22; replace q22 := eq_true q22; have HX31 := Aside0.mk (show Kd.R k26 26 w30 w.heap.size (fun _ => True) (.slice (some ⟨go19, 0, none⟩) t296.length co26) y302 from (by (with_reducible repeat (first | apply Kd.R_alloc | apply Kd.R_drewN | apply Kd.R_drew)); exact HO298.out)); obtain ⟨ce31, hcl31, hM31, hcc31, hfr31⟩ := Kd.R_elem HX31.out z26 (t291 : Int) (of_decide_eq_true (by first | (with_reducible assumption) | assumption)) (by have h_ : (t291 : Int) < ((t296.length : Int) : Int) := of_decide_eq_true (by first | (with_reducible assumption) | assumption); first | exact h_ | (have e_ := (Kd.R_reads' HO298.out).1; omega) | simpa using h_); obtain rfl := k26_openM hM31; have HP31 := Kd.R_seg HX31.out (t291 : Int) (of_decide_eq_true (by first | (with_reducible assumption) | assumption)) (by have h_ : (t291 : Int) < ((t296.length : Int) : Int) := of_decide_eq_true (by first | (with_reducible assumption) | assumption); first | exact h_ | (have e_ := (Kd.R_reads' HO298.out).1; omega) | simpa using h_) (seg := [.int .i64 ji21]) (j := 2) hcl31 hcc31 (show 3 ≤ 4 from by decide) (x' := (⟨(rd_T26 y302 t291).f0, (rd_T26 y302 t291).f1, ji21, (rd_T26 y302 t291).f3⟩ : S26)) (k26_mkM _ _ _ (⟨(rd_T26 y302 t291).f0, (rd_T26 y302 t291).f1, ji21, (rd_T26 y302 t291).f3⟩ : S26) ) (fun _ hk => hk); have hx31_2 := hcc31 2 _ rfl; (try simp only [show (k26).sz = 4 from rfl, Nat.mul_one, Nat.add_zero] at hx31_2); have hf31_2 := hfr31 2; (try simp only [show (k26).sz = 4 from rfl, Nat.mul_one, Nat.add_zero] at hf31_2); clear hcl31 hcc31 hfr31 hM31) | ((with_reducible refine gate_store (t := 3) (p := 68) rfl ?_); refine store_event (t := 3) (p := 68) (v := ?vo_w32) (w1 := (w30.setCell ⟨go19, (t291 : Int).toNat * 4 + 2, none⟩ (.int .i64 ji21))) ?hg ?ho ?hn ?hr ?_; (case ho => rfl); (case hg => rfl); (case hn => rfl); (case hr => first | (go_simp; done) | (go_simp; rfl)); intro w32 hw; have hg : w30.grownBy w32 (some go19) := (by rw [hw]; exact HP31.2); have hp_ : Kd.R k26 26 w32 w.heap.size (fun _ => True) (.slice (some ⟨go19, 0, none⟩) t296.length co26) y304 := (by rw [hw, Ny304.out]; exact HP31.1); clear HP31; have n0_ := Aside0.mk (hp_); have n1_ := Aside0.mk ((by rw [hw]; exact below_set (HB.out) GB19.out : Below w.heap.size w w32)); clear HO298; clear HB; have HO298 := n0_; have HB := n1_; clear n0_ n1_; clear hg hw hp_) | ((with_reducible refine gate_callee (f := 22) rfl ?_); refine goesL_ (some 70) rfl rfl Tryd.func22 (by kernel_rfl) rfl #[.slice (some ⟨go19, 0, none⟩) y304.length co26] rfl (by (try simp only [List.map_toArray, List.map_cons, List.map_nil]); first | done | (rw [show y304.length = t296.length from (Kd.R_reads' HO298.out).1.symm] <;> rfl) | rfl | (simp only [List.length_drop, List.length_take]; rfl)) ?_; (with_reducible refine (impl_AreCaves.calls kj6 _ _ y304 true _ ?side1 ?side2 A23.out).mono ?_); (case side1 => repeat (first | exact (Kd.R_reads' HO298.out).2.2 | (with_reducible refine Kd.C_alloc ?_ _) | (with_reducible refine Kd.C_drewN ?_ _) | (with_reducible refine Kd.C_drew ?_))); (case side2 => rw [show y304.length = t296.length from (Kd.R_reads' HO298.out).1.symm]; exact (Kd.R_reads' HO298.out).2.1); rintro e w33 ⟨rfl, hb⟩; refine ⟨_, rfl, ?_⟩; have n0_ := Aside0.mk (Kd.R_below (by (with_reducible repeat (first | apply Kd.R_alloc | apply Kd.R_drewN | apply Kd.R_drew)); exact HO298.out) hb); have n1_ := Aside0.mk (below_step (by repeat (first | (with_reducible first | exact HB.out | apply below_alloc | apply pw_below_drewN | apply below_drew1) | exact HB.out)) hb); clear HO298; clear HB; have HO298 := n0_; have HB := n1_; clear n0_ n1_; (try clear hb); (try clear hb2); (try clear hk); (try clear hi)))
              go_ret2
              exact ⟨_, by first | rfl | (simp [errW_none, errW_some] <;> rfl) | (simp only [← hji21]; first | rfl | (simp [errW_none, errW_some] <;> rfl)) | (simp [*, errW_none, errW_some] <;> rfl), by (with_reducible repeat (first | apply Kd.R_alloc | apply Kd.R_drewN | apply Kd.R_drew)); exact HO298.out, by repeat (first | (with_reducible first | exact HB.out | apply below_alloc | apply pw_below_drewN | apply below_drew1) | exact HB.out)⟩
            · replace c24 := Bool.eq_false_iff.mpr c24
              subst c24
              have H1 : (some (([] : List (S26)), false)) = some (r1, r2) := by rw [if_neg (show ¬ (false = true) by decide)] at H; exact H
              clear H
              have H := H1
              clear H1
              simp only [Option.some.injEq, Prod.mk.injEq] at H
              obtain ⟨rfl, rfl⟩ := H
              go_wp2_with (first | ((with_reducible refine gate_callee (f := 67) rfl ?_); refine goesL_ (some 39) rfl rfl Tryd.func67 (by kernel_rfl) rfl #[.slice A0 l0.length c0] rfl (by (try simp only [List.map_toArray, List.map_cons, List.map_nil]); first | done | rfl | (simp only [List.length_drop, List.length_take]; rfl)) ?_; (with_reducible refine (impl_CaveRow_67.calls _ _ l0 t296 _ ?side1 ?side2 A16.out).mono ?_); (case side1 => repeat (first | exact (Kd.C_below HR0.out HB.out) | (with_reducible refine Kd.C_alloc ?_ _) | (with_reducible refine Kd.C_drewN ?_ _) | (with_reducible refine Kd.C_drew ?_))); (case side2 => exact HC0.out); rintro e w34 ⟨v297, rfl, ho0, hb⟩; refine ⟨_, rfl, ?_⟩; have n0_ := Aside0.mk (Kd.R_lower ho0 (below_size (by repeat (first | (with_reducible first | exact HB.out | apply below_alloc | apply pw_below_drewN | apply below_drew1) | exact HB.out)))); have n1_ := Aside0.mk (below_step (by repeat (first | (with_reducible first | exact HB.out | apply below_alloc | apply pw_below_drewN | apply below_drew1) | exact HB.out)) hb); clear HB; have HO298 := n0_; have HB := n1_; clear n0_ n1_; (try clear hb); (try clear hb2); (try clear hk); (try clear hi); (try clear ho0); obtain ⟨Ao35, co35, eo35⟩ := Kd.R_slice HO298.out; subst eo35; have p299 : 0 ≤ (t291 : Int) := of_decide_eq_true (by first | (with_reducible assumption) | assumption); have q299 : t291 < (t296.length : Int) := of_decide_eq_true (by first | (with_reducible assumption) | assumption); obtain ⟨ad299, e299, hx299_0, hx299_1, hx299_2, hx299_3⟩ := at_T26 (Kd.R_reads' HO298.out).2.2 t291 p299 q299; cases e299; replace p299 := eq_true p299; replace q299 := eq_true q299; have p19 : 0 ≤ (t291 : Int) := of_decide_eq_true (by first | (with_reducible assumption) | assumption); have q19 : (t291 : Int) < ((t296.length : Int) : Int) := of_decide_eq_true (by first | (with_reducible assumption) | assumption); obtain ⟨go19, co19, eo19, gb19, gl19, cl19, HG19⟩ := Kd.R_form HO298.out (by omega); (first | cases eo19 | (injection eo19 with ea_ en_ ec_; (first | subst ea_ | (injection ea_ with ea_; subst ea_)); subst ec_; clear en_)); have GB19 := Aside0.mk gb19; have GG19 := Aside0.mk HG19; clear gb19 gl19 HG19; (first | simp only [add_plain] at hx299_0 | skip); (first | simp only [add_plain] at hx299_1 | skip); (first | simp only [add_plain] at hx299_2 | skip); (first | simp only [add_plain] at hx299_3 | skip); obtain ⟨ce19, hcl19, hM19, hcc19, hfr19⟩ := Kd.R_elem HO298.out z26 (t291 : Int) p19 q19; obtain rfl := k26_openM hM19; have hx19_0 : w34.cell? ⟨go19, (t291 : Int).toNat * 4, none⟩ = some (.string ((rd_T26 t296 t291).f0)) := hcc19 0 _ rfl; have hx19_1 : w34.cell? ⟨go19, (t291 : Int).toNat * 4 + 1, none⟩ = some (.int .i64 ((rd_T26 t296 t291).f1)) := hcc19 1 _ rfl; have hx19_2 : w34.cell? ⟨go19, (t291 : Int).toNat * 4 + 2, none⟩ = some (.int .i64 ((rd_T26 t296 t291).f2)) := hcc19 2 _ rfl; have hx19_3 : w34.cell? ⟨go19, (t291 : Int).toNat * 4 + 3, none⟩ = some (.int .i64 ((rd_T26 t296 t291).f3)) := hcc19 3 _ rfl; have hf19_0 : w34.frozen? ⟨go19, (t291 : Int).toNat * 4, none⟩ = false := hfr19 0; have hf19_1 : w34.frozen? ⟨go19, (t291 : Int).toNat * 4 + 1, none⟩ = false := hfr19 1; have hf19_2 : w34.frozen? ⟨go19, (t291 : Int).toNat * 4 + 2, none⟩ = false := hfr19 2; have hf19_3 : w34.frozen? ⟨go19, (t291 : Int).toNat * 4 + 3, none⟩ = false := hfr19 3; clear hcl19 hcc19 hfr19 hM19; replace p19 := eq_true p19; replace q19 := eq_true q19; have HX36 := Aside0.mk (show Kd.R k26 26 w34 w.heap.size (fun _ => True) (.slice (some ⟨go19, 0, none⟩) t296.length co35) t296 from (by (with_reducible repeat (first | apply Kd.R_alloc | apply Kd.R_drewN | apply Kd.R_drew)); exact HO298.out)); obtain ⟨ce36, hcl36, hM36, hcc36, hfr36⟩ := Kd.R_elem HX36.out z26 (t291 : Int) (of_decide_eq_true (by first | (with_reducible assumption) | assumption)) (by have h_ : (t291 : Int) < ((t296.length : Int) : Int) := of_decide_eq_true (by first | (with_reducible assumption) | assumption); first | exact h_ | (have e_ := (Kd.R_reads' HO298.out).1; omega) | simpa using h_); obtain rfl := k26_openM hM36; have HP36 := Kd.R_seg HX36.out (t291 : Int) (of_decide_eq_true (by first | (with_reducible assumption) | assumption)) (by have h_ : (t291 : Int) < ((t296.length : Int) : Int) := of_decide_eq_true (by first | (with_reducible assumption) | assumption); first | exact h_ | (have e_ := (Kd.R_reads' HO298.out).1; omega) | simpa using h_) (seg := [.int .i64 (wrap64 (((rd_T26 t296 t291).f1) + a2))]) (j := 1) hcl36 hcc36 (show 2 ≤ 4 from by decide) (x' := (⟨(rd_T26 t296 t291).f0, wrap64 (((rd_T26 t296 t291).f1) + a2), (rd_T26 t296 t291).f2, (rd_T26 t296 t291).f3⟩ : S26)) (k26_mkM _ _ _ (⟨(rd_T26 t296 t291).f0, wrap64 (((rd_T26 t296 t291).f1) + a2), (rd_T26 t296 t291).f2, (rd_T26 t296 t291).f3⟩ : S26) ) (fun _ hk => hk); have hx36_1 := hcc36 1 _ rfl; (try simp only [show (k26).sz = 4 from rfl, Nat.mul_one, Nat.add_zero] at hx36_1); have hf36_1 := hfr36 1; (try simp only [show (k26).sz = 4 from rfl, Nat.mul_one, Nat.add_zero] at hf36_1); clear hcl36 hcc36 hfr36 hM36) | ((with_reducible refine gate_store (t := 3) (p := 48) rfl ?_); refine store_event (t := 3) (p := 48) (v := ?vo_w37) (w1 := (w34.setCell ⟨go19, (t291 : Int).toNat * 4 + 1, none⟩ (.int .i64 (wrap64 (((rd_T26 t296 t291).f1) + a2))))) ?hg ?ho ?hn ?hr ?_; (case ho => rfl); (case hg => rfl); (case hn => rfl); (case hr => first | (go_simp; done) | (go_simp; rfl)); intro w37 hw; have hg : w34.grownBy w37 (some go19) := (by rw [hw]; exact HP36.2); have hp_ : Kd.R k26 26 w37 w.heap.size (fun _ => True) (.slice (some ⟨go19, 0, none⟩) t296.length co35) y300 := (by rw [hw, Ny300.out]; exact HP36.1); clear HP36; have n0_ := Aside0.mk (hp_); have n1_ := Aside0.mk ((by rw [hw]; exact below_set (HB.out) GB19.out : Below w.heap.size w w37)); clear HO298; clear HB; have HO298 := n0_; have HB := n1_; clear n0_ n1_; clear hg hw hp_; have p301 : 0 ≤ (t291 : Int) := of_decide_eq_true (by first | (with_reducible assumption) | assumption); have q301 : t291 < (y300.length : Int) := (by have h_ : (t291 : Int) < ((t296.length : Int) : Int) := of_decide_eq_true (by first | (with_reducible assumption) | assumption); first | (have e_ := (Kd.R_reads' HO298.out).1; omega) | simpa only [Ny300.out, List.length_set] using h_); have ql301 : ((t291 : Int) < ((t296.length : Int) : Int)) = True := eq_true (of_decide_eq_true (by first | (with_reducible assumption) | assumption)); obtain ⟨ad301, e301, hx301_0, hx301_1, hx301_2, hx301_3⟩ := at_T26 (Kd.R_reads' HO298.out).2.2 t291 p301 q301; obtain rfl : (⟨go19, 0, none⟩ : Addr) = ad301 := (by injection e301); (first | simp only [add_plain] at hx301_0 | simp only [add_at] at hx301_0 | simp only [Addr.add, Nat.zero_add] at hx301_0 | skip); (first | simp only [add_plain] at hx301_1 | simp only [add_at] at hx301_1 | simp only [Addr.add, Nat.zero_add] at hx301_1 | skip); (first | simp only [add_plain] at hx301_2 | simp only [add_at] at hx301_2 | simp only [Addr.add, Nat.zero_add] at hx301_2 | skip); (first | simp only [add_plain] at hx301_3 | simp only [add_at] at hx301_3 | simp only [Addr.add, Nat.zero_add] at hx301_3 | skip); replace p301 := eq_true p301; replace q301 := eq_true q301; have p20 : 0 ≤ (t291 : Int) := of_decide_eq_true (by first | (with_reducible assumption) | assumption); have q20 : (t291 : Int) < ((t296.length : Int) : Int) := of_decide_eq_true (by first | (with_reducible assumption) | assumption); obtain ⟨ce20, hcl20, hM20, hcc20, hfr20⟩ := Kd.R_elem HO298.out z26 (t291 : Int) p20 q20; obtain rfl := k26_openM hM20; have hx20_0 : w37.cell? ⟨go19, (t291 : Int).toNat * 4, none⟩ = some (.string ((rd_T26 y300 t291).f0)) := hcc20 0 _ rfl; have hx20_1 : w37.cell? ⟨go19, (t291 : Int).toNat * 4 + 1, none⟩ = some (.int .i64 ((rd_T26 y300 t291).f1)) := hcc20 1 _ rfl; have hx20_2 : w37.cell? ⟨go19, (t291 : Int).toNat * 4 + 2, none⟩ = some (.int .i64 ((rd_T26 y300 t291).f2)) := hcc20 2 _ rfl; have hx20_3 : w37.cell? ⟨go19, (t291 : Int).toNat * 4 + 3, none⟩ = some (.int .i64 ((rd_T26 y300 t291).f3)) := hcc20 3 _ rfl; have hf20_0 : w37.frozen? ⟨go19, (t291 : Int).toNat * 4, none⟩ = false := hfr20 0; have hf20_1 : w37.frozen? ⟨go19, (t291 : Int).toNat * 4 + 1, none⟩ = false := hfr20 1; have hf20_2 : w37.frozen? ⟨go19, (t291 : Int).toNat * 4 + 2, none⟩ = false := hfr20 2; have hf20_3 : w37.frozen? ⟨go19, (t291 : Int).toNat * 4 + 3, none⟩ = false := hfr20 3; clear hcl20 hcc20 hfr20 hM20; replace p20 := eq_true p20; replace q20 := eq_true q20; have HX38 := Aside0.mk (show Kd.R k26 26 w37 w.heap.size (fun _ => True) (.slice (some ⟨go19, 0, none⟩) t296.length co35) y300 from (by (with_reducible repeat (first | apply Kd.R_alloc | apply Kd.R_drewN | apply Kd.R_drew)); exact HO298.out)); obtain ⟨ce38, hcl38, hM38, hcc38, hfr38⟩ := Kd.R_elem HX38.out z26 (t291 : Int) (of_decide_eq_true (by first | (with_reducible assumption) | assumption)) (by have h_ : (t291 : Int) < ((t296.length : Int) : Int) := of_decide_eq_true (by first | (with_reducible assumption) | assumption); first | exact h_ | (have e_ := (Kd.R_reads' HO298.out).1; omega) | simpa using h_); obtain rfl := k26_openM hM38; have HP38 := Kd.R_seg HX38.out (t291 : Int) (of_decide_eq_true (by first | (with_reducible assumption) | assumption)) (by have h_ : (t291 : Int) < ((t296.length : Int) : Int) := of_decide_eq_true (by first | (with_reducible assumption) | assumption); first | exact h_ | (have e_ := (Kd.R_reads' HO298.out).1; omega) | simpa using h_) (seg := [.int .i64 (wrap64 (((rd_T26 y300 t291).f3) + a3))]) (j := 3) hcl38 hcc38 (show 4 ≤ 4 from by decide) (x' := (⟨(rd_T26 y300 t291).f0, (rd_T26 y300 t291).f1, (rd_T26 y300 t291).f2, wrap64 (((rd_T26 y300 t291).f3) + a3)⟩ : S26)) (k26_mkM _ _ _ (⟨(rd_T26 y300 t291).f0, (rd_T26 y300 t291).f1, (rd_T26 y300 t291).f2, wrap64 (((rd_T26 y300 t291).f3) + a3)⟩ : S26) ) (fun _ hk => hk); have hx38_3 := hcc38 3 _ rfl; (try simp only [show (k26).sz = 4 from rfl, Nat.mul_one, Nat.add_zero] at hx38_3); have hf38_3 := hfr38 3; (try simp only [show (k26).sz = 4 from rfl, Nat.mul_one, Nat.add_zero] at hf38_3); clear hcl38 hcc38 hfr38 hM38) | ((with_reducible refine gate_store (t := 3) (p := 57) rfl ?_); refine store_event (t := 3) (p := 57) (v := ?vo_w39) (w1 := (w37.setCell ⟨go19, (t291 : Int).toNat * 4 + 3, none⟩ (.int .i64 (wrap64 (((rd_T26 y300 t291).f3) + a3))))) ?hg ?ho ?hn ?hr ?_; (case ho => rfl); (case hg => rfl); (case hn => rfl); (case hr => first | (go_simp; done) | (go_simp; rfl)); intro w39 hw; have hg : w37.grownBy w39 (some go19) := (by rw [hw]; exact HP38.2); have hp_ : Kd.R k26 26 w39 w.heap.size (fun _ => True) (.slice (some ⟨go19, 0, none⟩) t296.length co35) y302 := (by rw [hw, Ny302.out]; exact HP38.1); clear HP38; have n0_ := Aside0.mk (hp_); have n1_ := Aside0.mk ((by rw [hw]; exact below_set (HB.out) GB19.out : Below w.heap.size w w39)); clear HO298; clear HB; have HO298 := n0_; have HB := n1_; clear n0_ n1_; clear hg hw hp_; have p303 : 0 ≤ (t291 : Int) := of_decide_eq_true (by first | (with_reducible assumption) | assumption); have q303 : t291 < (y302.length : Int) := (by have h_ : (t291 : Int) < ((t296.length : Int) : Int) := of_decide_eq_true (by first | (with_reducible assumption) | assumption); first | (have e_ := (Kd.R_reads' HO298.out).1; omega) | simpa only [Ny300.out, Ny302.out, List.length_set] using h_); have ql303 : ((t291 : Int) < ((t296.length : Int) : Int)) = True := eq_true (of_decide_eq_true (by first | (with_reducible assumption) | assumption)); obtain ⟨ad303, e303, hx303_0, hx303_1, hx303_2, hx303_3⟩ := at_T26 (Kd.R_reads' HO298.out).2.2 t291 p303 q303; obtain rfl : (⟨go19, 0, none⟩ : Addr) = ad303 := (by injection e303); (first | simp only [add_plain] at hx303_0 | simp only [add_at] at hx303_0 | simp only [Addr.add, Nat.zero_add] at hx303_0 | skip); (first | simp only [add_plain] at hx303_1 | simp only [add_at] at hx303_1 | simp only [Addr.add, Nat.zero_add] at hx303_1 | skip); (first | simp only [add_plain] at hx303_2 | simp only [add_at] at hx303_2 | simp only [Addr.add, Nat.zero_add] at hx303_2 | skip); (first | simp only [add_plain] at hx303_3 | simp only [add_at] at hx303_3 | simp only [Addr.add, Nat.zero_add] at hx303_3 | skip); replace p303 := eq_true p303; replace q303 := eq_true q303; have p22 : 0 ≤ (t291 : Int) := of_decide_eq_true (by first | (with_reducible assumption) | assumption); have q22 : (t291 : Int) < ((t296.length : Int) : Int) := of_decide_eq_true (by first | (with_reducible assumption) | assumption); obtain ⟨ce22, hcl22, hM22, hcc22, hfr22⟩ := Kd.R_elem HO298.out z26 (t291 : Int) p22 q22; obtain rfl := k26_openM hM22; have hx22_0 : w39.cell? ⟨go19, (t291 : Int).toNat * 4, none⟩ = some (.string ((rd_T26 y302 t291).f0)) := hcc22 0 _ rfl; have hx22_1 : w39.cell? ⟨go19, (t291 : Int).toNat * 4 + 1, none⟩ = some (.int .i64 ((rd_T26 y302 t291).f1)) := hcc22 1 _ rfl; have hx22_2 : w39.cell? ⟨go19, (t291 : Int).toNat * 4 + 2, none⟩ = some (.int .i64 ((rd_T26 y302 t291).f2)) := hcc22 2 _ rfl; have hx22_3 : w39.cell? ⟨go19, (t291 : Int).toNat * 4 + 3, none⟩ = some (.int .i64 ((rd_T26 y302 t291).f3)) := hcc22 3 _ rfl; have hf22_0 : w39.frozen? ⟨go19, (t291 : Int).toNat * 4, none⟩ = false := hfr22 0; have hf22_1 : w39.frozen? ⟨go19, (t291 : Int).toNat * 4 + 1, none⟩ = false := hfr22 1; have hf22_2 : w39.frozen? ⟨go19, (t291 : Int).toNat * 4 + 2, none⟩ = false := hfr22 2; have hf22_3 : w39.frozen? ⟨go19, (t291 : Int).toNat * 4 + 3, none⟩ = false := hfr22 3; clear hcl22 hcc22 hfr22 hM22; replace p22 := eq_true p22; replace q22 := eq_true q22; have HX40 := Aside0.mk (show Kd.R k26 26 w39 w.heap.size (fun _ => True) (.slice (some ⟨go19, 0, none⟩) t296.length co35) y302 from (by (with_reducible repeat (first | apply Kd.R_alloc | apply Kd.R_drewN | apply Kd.R_drew)); exact HO298.out)); obtain ⟨ce40, hcl40, hM40, hcc40, hfr40⟩ := Kd.R_elem HX40.out z26 (t291 : Int) (of_decide_eq_true (by first | (with_reducible assumption) | assumption)) (by have h_ : (t291 : Int) < ((t296.length : Int) : Int) := of_decide_eq_true (by first | (with_reducible assumption) | assumption); first | exact h_ | (have e_ := (Kd.R_reads' HO298.out).1; omega) | simpa using h_); obtain rfl := k26_openM hM40; have HP40 := Kd.R_seg HX40.out (t291 : Int) (of_decide_eq_true (by first | (with_reducible assumption) | assumption)) (by have h_ : (t291 : Int) < ((t296.length : Int) : Int) := of_decide_eq_true (by first | (with_reducible assumption) | assumption); first | exact h_ | (have e_ := (Kd.R_reads' HO298.out).1; omega) | simpa using h_) (seg := [.int .i64 ji21]) (j := 2) hcl40 hcc40 (show 3 ≤ 4 from by decide) (x' := (⟨(rd_T26 y302 t291).f0, (rd_T26 y302 t291).f1, ji21, (rd_T26 y302 t291).f3⟩ : S26)) (k26_mkM _ _ _ (⟨(rd_T26 y302 t291).f0, (rd_T26 y302 t291).f1, ji21, (rd_T26 y302 t291).f3⟩ : S26) ) (fun _ hk => hk); have hx40_2 := hcc40 2 _ rfl; (try simp only [show (k26).sz = 4 from rfl, Nat.mul_one, Nat.add_zero] at hx40_2); have hf40_2 := hfr40 2; (try simp only [show (k26).sz = 4 from rfl, Nat.mul_one, Nat.add_zero] at hf40_2); clear hcl40 hcc40 hfr40 hM40) | ((with_reducible refine gate_store (t := 3) (p := 68) rfl ?_); refine store_event (t := 3) (p := 68) (v := ?vo_w41) (w1 := (w39.setCell ⟨go19, (t291 : Int).toNat * 4 + 2, none⟩ (.int .i64 ji21))) ?hg ?ho ?hn ?hr ?_; (case ho => rfl); (case hg => rfl); (case hn => rfl); (case hr => first | (go_simp; done) | (go_simp; rfl)); intro w41 hw; have hg : w39.grownBy w41 (some go19) := (by rw [hw]; exact HP40.2); have hp_ : Kd.R k26 26 w41 w.heap.size (fun _ => True) (.slice (some ⟨go19, 0, none⟩) t296.length co35) y304 := (by rw [hw, Ny304.out]; exact HP40.1); clear HP40; have n0_ := Aside0.mk (hp_); have n1_ := Aside0.mk ((by rw [hw]; exact below_set (HB.out) GB19.out : Below w.heap.size w w41)); clear HO298; clear HB; have HO298 := n0_; have HB := n1_; clear n0_ n1_; clear hg hw hp_) | ((with_reducible refine gate_callee (f := 22) rfl ?_); refine goesL_ (some 70) rfl rfl Tryd.func22 (by kernel_rfl) rfl #[.slice (some ⟨go19, 0, none⟩) y304.length co35] rfl (by (try simp only [List.map_toArray, List.map_cons, List.map_nil]); first | done | (rw [show y304.length = t296.length from (Kd.R_reads' HO298.out).1.symm] <;> rfl) | rfl | (simp only [List.length_drop, List.length_take]; rfl)) ?_; (with_reducible refine (impl_AreCaves.calls kj6 _ _ y304 false _ ?side1 ?side2 A23.out).mono ?_); (case side1 => repeat (first | exact (Kd.R_reads' HO298.out).2.2 | (with_reducible refine Kd.C_alloc ?_ _) | (with_reducible refine Kd.C_drewN ?_ _) | (with_reducible refine Kd.C_drew ?_))); (case side2 => rw [show y304.length = t296.length from (Kd.R_reads' HO298.out).1.symm]; exact (Kd.R_reads' HO298.out).2.1); rintro e w42 ⟨rfl, hb⟩; refine ⟨_, rfl, ?_⟩; have n0_ := Aside0.mk (Kd.R_below (by (with_reducible repeat (first | apply Kd.R_alloc | apply Kd.R_drewN | apply Kd.R_drew)); exact HO298.out) hb); have n1_ := Aside0.mk (below_step (by repeat (first | (with_reducible first | exact HB.out | apply below_alloc | apply pw_below_drewN | apply below_drew1) | exact HB.out)) hb); clear HO298; clear HB; have HO298 := n0_; have HB := n1_; clear n0_ n1_; (try clear hb); (try clear hb2); (try clear hk); (try clear hi)))
              go_ret2
              exact ⟨_, by first | rfl | (simp [errW_none, errW_some] <;> rfl) | (simp only [← hji21]; first | rfl | (simp [errW_none, errW_some] <;> rfl)) | (simp [*, errW_none, errW_some] <;> rfl), by first | exact Kd.R_nil _ _ _ _ _ | exact Kd.N_nil _ _ _ _ _ | exact Kd.V_nil _ _ _ _ _ | exact Kd.Q_nil _ _ _ _ _ | exact Kd.S_nil _ _ _ _ _, by repeat (first | (with_reducible first | exact HB.out | apply below_alloc | apply pw_below_drewN | apply below_drew1) | exact HB.out)⟩
          · rw [if_neg c18] at H
            exact absurd H (by simp)
        · rw [if_neg c17] at H
          exact absurd H (by simp)

end Go.Proofs.YteepnlofbfccgaaDoor.Pr

namespace Go.Proofs.YteepnlofbfccgaaDoor.Pr
open Go.RowKit Go.Proofs.YteepnlofbfccgaaDoorW.PrintWords Go.Proofs.YteepnlofbfccgaaDoorW.PrintLast Go.Proofs.YteepnlofbfccgaaDoorW.PrintMore
attribute [local go_sem] max2_int min2_int max_two min_two max_three min_three max_four min_four   -- for this text's walks alone
set_option linter.unusedVariables false
set_option linter.unusedSimpArgs false

/-! ### laws_heldCaveRowS: function 34 -/
def laws_heldCaveRowS.l0 : Nat → List (S26) → Int → Int → Option (Int)
  | 0, _, _, _ => none
  | k + 1, x0, x1, x5 => if x5 < (x0.length : Int) then (if 0 ≤ x5 then ((laws_markText.f k x1).bind fun t307 => (if ((rd_T26 x0 x5).f0).toList = t307.toList then (if ((rd_T26 x0 x5).f1) = (wrap64 (x1 + 1)) then (if ((rd_T26 x0 x5).f2) = (wrap64 ((wrap64 (x1 + 1)) + 1)) then (if ((rd_T26 x0 x5).f3) = (wrap64 ((wrap64 ((wrap64 (x1 + 1)) + 1)) + 1)) then (laws_heldCaveRowS.l0 k x0 (wrap64 ((wrap64 ((wrap64 ((wrap64 (x1 + 1)) + 1)) + 1)) + 1)) (wrap64 (x5 + 1))) else (some (-1))) else (some (-1))) else (some (-1))) else (some (-1)))) else (none)) else (some x1)
def laws_heldCaveRowS.f (k : Nat) (l0 : List (S26)) (a1 : Int) : Option (Int) := laws_heldCaveRowS.l0 k l0 a1 0
theorem laws_heldCaveRowS.mono_l : ∀ k, (∀ y0 y1 y2, LeO (laws_heldCaveRowS.l0 k y0 y1 y2) (laws_heldCaveRowS.l0 (k + 1) y0 y1 y2))
  | 0 => fun _ _ _ r h => by simp [laws_heldCaveRowS.l0] at h
  | k + 1 => by
    have ih0 := laws_heldCaveRowS.mono_l k
    · intro y0 y1 y2
      unfold laws_heldCaveRowS.l0
      repeat' first
      | (with_reducible exact ih0 _ _ _)
      | (with_reducible exact laws_markText.mono _ _)
      | (with_reducible exact LeO.refl _)
      | (with_reducible exact LeO.none _)
      | (with_reducible refine LeO.ite ?_ ?_)
      | (with_reducible refine LeO.bind ?_ (fun _ => ?_))
      | exact ih0 _ _ _
      | exact laws_markText.mono _ _
      | exact LeO.none _
      | refine LeO.ite ?_ ?_
      | refine LeO.bind ?_ (fun _ => ?_)
theorem laws_heldCaveRowS.mono : ∀ a0 a1 k, LeO (laws_heldCaveRowS.f k a0 a1) (laws_heldCaveRowS.f (k + 1) a0 a1) := by
  intro a0 a1 k
  have ih0 := laws_heldCaveRowS.mono_l k
  unfold laws_heldCaveRowS.f
  repeat' first
      | (with_reducible exact ih0 _ _ _)
      | (with_reducible exact laws_markText.mono _ _)
      | (with_reducible exact LeO.refl _)
      | (with_reducible exact LeO.none _)
      | (with_reducible refine LeO.ite ?_ ?_)
      | (with_reducible refine LeO.bind ?_ (fun _ => ?_))
      | exact ih0 _ _ _
      | exact laws_markText.mono _ _
      | exact LeO.none _
      | refine LeO.ite ?_ ?_
      | refine LeO.bind ?_ (fun _ => ?_)
def laws_heldCaveRowS.T4 : Bool × List (List Nat × List Nat) := (true, [([], []), ([], []), ([0, 1], [0, 1]), ([2], [2]), ([3], [3]), ([], []), ([5], [5]), ([4, 6], [4, 6])])
def laws_heldCaveRowS.B4 : List Nat := [0, 0, 3, 7, 15, 0, 32, 127]
theorem laws_heldCaveRowS.tab4 : rtab .any (opsOf Tryd.f34 4) = laws_heldCaveRowS.T4 := by kernel_rfl
theorem laws_heldCaveRowS.bits4 : waitsOk laws_heldCaveRowS.T4.2 laws_heldCaveRowS.B4 = true := by kernel_rfl
set_option maxHeartbeats 8000000 in
set_option maxRecDepth 100000 in
theorem laws_heldCaveRowS.calls (k : Nat) (A0 : Option Addr) (c0 : Nat) (l0 : List (S26)) (a1 : Int) (r : Int) (w : World) (hr0 : Kd.C k26 w A0 l0.length l0) (hc0 : l0.length ≤ c0) (h : laws_heldCaveRowS.f k l0 a1 = some r) :
    Calls Tryd.prog 34 #[.slice A0 l0.length c0, .int .i64 a1] w fun e w' => e = .returned (.int .i64 r) ∧ Below w.heap.size w w' := by
  have HR0 := Aside0.mk hr0
  have HC0 := Aside0.mk hc0
  clear hr0 hc0
  have HB := Aside0.mk (Below.refl w.heap.size w)
  have H : (laws_heldCaveRowS.l0 k l0 a1 0) = some r := h
  clear h
  have H' := Aside0.mk H
  clear H
  go_enter Tryd.func34, Tryd.ntmps34
  go_wp2
  go_loopg [1, 5] k (fun kq v1 v5 w' => ∃ (x1_1 : Int) (x5_1 : Int), v1 = .int .i64 x1_1 ∧ v5 = .int .i64 x5_1 ∧ Aside0 (laws_heldCaveRowS.l0 kq l0 x1_1 x5_1 = some r) ∧ Aside0 (kq ≤ k) ∧ Aside0 (Below w.heap.size w w'))
  case atStart => exact ⟨(a1), (0), (by first | rfl | (simp; done) | (simp [*]; done)), (by first | rfl | (simp; done) | (simp [*]; done)), H', ⟨Nat.le_refl _⟩, ⟨by repeat (first | (with_reducible first | exact HB.out | apply below_alloc | apply pw_below_drewN | apply below_drew1) | exact HB.out)⟩⟩
  case round =>
    clear H'
    try clear p2
    obtain ⟨x1_1, x5_1, rfl, rfl, HA, HK1, HB⟩ := hrel
    cases gk with
    | zero => exact absurd HA.out (by simp [laws_heldCaveRowS.l0])
    | succ k1 =>
      have H := HA.out
      clear HA
      simp only [laws_heldCaveRowS.l0] at H
      by_cases c3 : x5_1 < (l0.length : Int)
      · rw [if_pos c3] at H
        have c3b0 : decide (x5_1 < (l0.length : Int)) = true := decide_eq_true c3
        clear c3
        by_cases c4 : 0 ≤ x5_1
        · rw [if_pos c4] at H
          have c4b0 : decide (0 ≤ x5_1) = true := decide_eq_true c4
          clear c4
          replace H := Option.bind_eq_some_iff.mp H
          obtain ⟨t307, A50, H⟩ := H
          replace H : (if ((rd_T26 l0 x5_1).f0).toList = t307.toList then (if ((rd_T26 l0 x5_1).f1) = (wrap64 (x1_1 + 1)) then (if ((rd_T26 l0 x5_1).f2) = (wrap64 ((wrap64 (x1_1 + 1)) + 1)) then (if ((rd_T26 l0 x5_1).f3) = (wrap64 ((wrap64 ((wrap64 (x1_1 + 1)) + 1)) + 1)) then (laws_heldCaveRowS.l0 k1 l0 (wrap64 ((wrap64 ((wrap64 ((wrap64 (x1_1 + 1)) + 1)) + 1)) + 1)) (wrap64 (x5_1 + 1))) else (some (-1))) else (some (-1))) else (some (-1))) else (some (-1))) = some r := H
          have A5 := Aside0.mk A50
          clear A50
          by_cases c6 : ((rd_T26 l0 x5_1).f0).toList = t307.toList
          · rw [if_pos c6] at H
            have c6b0 : (((rd_T26 l0 x5_1).f0).toList == t307.toList) = true := beq_iff_eq.mpr c6
            have c6b1 : (((rd_T26 l0 x5_1).f0).toList != t307.toList) = false := bne_eq_false_iff_eq.mpr c6
            clear c6
            by_cases c7 : ((rd_T26 l0 x5_1).f1) = (wrap64 (x1_1 + 1))
            · rw [if_pos c7] at H
              have c7b0 : (((rd_T26 l0 x5_1).f1) == (wrap64 (x1_1 + 1))) = true := beq_iff_eq.mpr c7
              have c7b1 : (((rd_T26 l0 x5_1).f1) != (wrap64 (x1_1 + 1))) = false := bne_eq_false_iff_eq.mpr c7
              clear c7
              by_cases c8 : ((rd_T26 l0 x5_1).f2) = (wrap64 ((wrap64 (x1_1 + 1)) + 1))
              · rw [if_pos c8] at H
                have c8b0 : (((rd_T26 l0 x5_1).f2) == (wrap64 ((wrap64 (x1_1 + 1)) + 1))) = true := beq_iff_eq.mpr c8
                have c8b1 : (((rd_T26 l0 x5_1).f2) != (wrap64 ((wrap64 (x1_1 + 1)) + 1))) = false := bne_eq_false_iff_eq.mpr c8
                clear c8
                by_cases c9 : ((rd_T26 l0 x5_1).f3) = (wrap64 ((wrap64 ((wrap64 (x1_1 + 1)) + 1)) + 1))
                · rw [if_pos c9] at H
                  have c9b0 : (((rd_T26 l0 x5_1).f3) == (wrap64 ((wrap64 ((wrap64 (x1_1 + 1)) + 1)) + 1))) = true := beq_iff_eq.mpr c9
                  have c9b1 : (((rd_T26 l0 x5_1).f3) != (wrap64 ((wrap64 ((wrap64 (x1_1 + 1)) + 1)) + 1))) = false := bne_eq_false_iff_eq.mpr c9
                  clear c9
                  have H' := Aside0.mk H
                  clear H
                  try go_wp2
                  have n0_ := Aside0.mk (below_drew1 HB.out)
                  clear HB
                  have HB := n0_
                  clear n0_
                  have p306 : 0 ≤ (x5_1 : Int) := of_decide_eq_true (by first | (with_reducible assumption) | assumption)
                  have q306 : x5_1 < (l0.length : Int) := of_decide_eq_true (by first | (with_reducible assumption) | assumption)
                  obtain ⟨ad306, e306, hx306_0, hx306_1, hx306_2, hx306_3⟩ := at_T26 HR0.out x5_1 p306 q306
                  have hw306_3 := hx306_3
                  have hw306_2 := hx306_2
                  have hw306_1 := hx306_1
                  have hw306_0 := hx306_0
                  cases e306
                  replace hx306_0 := (HB.out.cell (World.block_lt_of_cell? w _ hx306_0)).trans hx306_0
                  replace hx306_1 := (HB.out.cell (World.block_lt_of_cell? w _ hx306_1)).trans hx306_1
                  replace hx306_2 := (HB.out.cell (World.block_lt_of_cell? w _ hx306_2)).trans hx306_2
                  replace hx306_3 := (HB.out.cell (World.block_lt_of_cell? w _ hx306_3)).trans hx306_3
                  replace p306 := eq_true p306
                  replace q306 := eq_true q306
                  refine start_ (n := 8) (S := fun w' => w'.cell? (ad306.add ((x5_1).toNat * 4)) = some (.string ((rd_T26 l0 x5_1).f0)) ∧ w'.cell? ⟨(ad306.add ((x5_1).toNat * 4)).block, (ad306.add ((x5_1).toNat * 4)).off + 1, none⟩ = some (.int .i64 ((rd_T26 l0 x5_1).f1)) ∧ w'.cell? ⟨(ad306.add ((x5_1).toNat * 4)).block, (ad306.add ((x5_1).toNat * 4)).off + 2, none⟩ = some (.int .i64 ((rd_T26 l0 x5_1).f2)) ∧ w'.cell? ⟨(ad306.add ((x5_1).toNat * 4)).block, (ad306.add ((x5_1).toNat * 4)).off + 3, none⟩ = some (.int .i64 ((rd_T26 l0 x5_1).f3))) (ds := []) #[false, false, false, false, false, false, false, false] (by kernel_rfl) rfl rfl ⟨((HB.out.cell (World.block_lt_of_cell? w _ hw306_0)).trans hw306_0), ((HB.out.cell (World.block_lt_of_cell? w _ hw306_1)).trans hw306_1), ((HB.out.cell (World.block_lt_of_cell? w _ hw306_2)).trans hw306_2), ((HB.out.cell (World.block_lt_of_cell? w _ hw306_3)).trans hw306_3)⟩ (fun hHeld => ?_); refine with_tabW laws_heldCaveRowS.tab4 laws_heldCaveRowS.bits4 (fun HT_ HW_ => ?_)
                  generalize wr.drew = w10 at HB hx306_0 hx306_1 hx306_2 hx306_3 hHeld ⊢
                  refine pure_ (i := 0) (N := some 12) (v := ?_) (a' := ?_) #[true, false, false, false, false, false, false, false] rfl rfl (any_of HT_.out (by kernel_rfl)) (fun _ _ _ h => h) (Or.inl ⟨by rfl, ?_⟩) ?_ ?_
                  rotate_left
                  · intro w'
                    go_simp
                    first | with_reducible rfl | (rw [if_neg (by simp only [ByteArray.size_append, ByteArray.size_extract, show ∀ (a : UInt8) (l : List UInt8), (⟨⟨a :: l⟩⟩ : ByteArray).size = l.length + 1 from fun _ _ => rfl, List.length_cons, List.length_nil] at *; omega)]; done) | (rw [if_neg (by simp only [ByteArray.size_append, ByteArray.size_extract, show ∀ (a : UInt8) (l : List UInt8), (⟨⟨a :: l⟩⟩ : ByteArray).size = l.length + 1 from fun _ _ => rfl, List.length_cons, List.length_nil] at *; omega)]; with_reducible rfl)
                  rotate_left
                  · simp only [Act.put, List.setIfInBounds_toArray, List.set_cons_zero, List.set_cons_succ, i64_w, i32_w]
                    rfl
                  refine pure_ (i := 1) (N := some 13) (v := ?_) (a' := ?_) #[true, true, false, false, false, false, false, false] rfl rfl (any_of HT_.out (by kernel_rfl)) (fun _ _ _ h => h) (Or.inl ⟨by rfl, ?_⟩) ?_ ?_
                  rotate_left
                  · intro w'
                    go_simp
                    first | with_reducible rfl | (rw [if_neg (by simp only [ByteArray.size_append, ByteArray.size_extract, show ∀ (a : UInt8) (l : List UInt8), (⟨⟨a :: l⟩⟩ : ByteArray).size = l.length + 1 from fun _ _ => rfl, List.length_cons, List.length_nil] at *; omega)]; done) | (rw [if_neg (by simp only [ByteArray.size_append, ByteArray.size_extract, show ∀ (a : UInt8) (l : List UInt8), (⟨⟨a :: l⟩⟩ : ByteArray).size = l.length + 1 from fun _ _ => rfl, List.length_cons, List.length_nil] at *; omega)]; with_reducible rfl)
                  rotate_left
                  · simp only [Act.put, List.setIfInBounds_toArray, List.set_cons_zero, List.set_cons_succ, i64_w, i32_w]
                    rfl
                  refine pure_ (i := 2) (N := some 14) (v := ?_) (a' := ?_) #[true, true, true, false, false, false, false, false] rfl rfl (any_of HT_.out (by kernel_rfl)) (fun _ _ _ h => h) (Or.inl ⟨by rfl, ?_⟩) ?_ ?_
                  rotate_left
                  · intro w'
                    go_simp
                    first | with_reducible rfl | (rw [if_neg (by simp only [ByteArray.size_append, ByteArray.size_extract, show ∀ (a : UInt8) (l : List UInt8), (⟨⟨a :: l⟩⟩ : ByteArray).size = l.length + 1 from fun _ _ => rfl, List.length_cons, List.length_nil] at *; omega)]; done) | (rw [if_neg (by simp only [ByteArray.size_append, ByteArray.size_extract, show ∀ (a : UInt8) (l : List UInt8), (⟨⟨a :: l⟩⟩ : ByteArray).size = l.length + 1 from fun _ _ => rfl, List.length_cons, List.length_nil] at *; omega)]; with_reducible rfl)
                  rotate_left
                  · simp only [Act.put, List.setIfInBounds_toArray, List.set_cons_zero, List.set_cons_succ, i64_w, i32_w]
                    rfl
                  refine pure_ (i := 3) (N := some 15) (v := ?_) (a' := ?_) #[true, true, true, true, false, false, false, false] rfl rfl (any_of HT_.out (by kernel_rfl)) (fun _ _ _ h => h) (Or.inl ⟨by rfl, ?_⟩) ?_ ?_
                  rotate_left
                  · intro w'
                    go_simp
                    first | with_reducible rfl | (rw [if_neg (by simp only [ByteArray.size_append, ByteArray.size_extract, show ∀ (a : UInt8) (l : List UInt8), (⟨⟨a :: l⟩⟩ : ByteArray).size = l.length + 1 from fun _ _ => rfl, List.length_cons, List.length_nil] at *; omega)]; done) | (rw [if_neg (by simp only [ByteArray.size_append, ByteArray.size_extract, show ∀ (a : UInt8) (l : List UInt8), (⟨⟨a :: l⟩⟩ : ByteArray).size = l.length + 1 from fun _ _ => rfl, List.length_cons, List.length_nil] at *; omega)]; with_reducible rfl)
                  rotate_left
                  · simp only [Act.put, List.setIfInBounds_toArray, List.set_cons_zero, List.set_cons_succ, i64_w, i32_w]
                    rfl
                  refine pure_ (i := 5) (N := some 17) (v := ?_) (a' := ?_) #[true, true, true, true, false, true, false, false] rfl rfl (any_of HT_.out (by kernel_rfl)) (fun _ _ _ h => h) (Or.inl ⟨by rfl, ?_⟩) ?_ ?_
                  rotate_left
                  · intro w'
                    go_simp
                    first | with_reducible rfl | (rw [if_neg (by simp only [ByteArray.size_append, ByteArray.size_extract, show ∀ (a : UInt8) (l : List UInt8), (⟨⟨a :: l⟩⟩ : ByteArray).size = l.length + 1 from fun _ _ => rfl, List.length_cons, List.length_nil] at *; omega)]; done) | (rw [if_neg (by simp only [ByteArray.size_append, ByteArray.size_extract, show ∀ (a : UInt8) (l : List UInt8), (⟨⟨a :: l⟩⟩ : ByteArray).size = l.length + 1 from fun _ _ => rfl, List.length_cons, List.length_nil] at *; omega)]; with_reducible rfl)
                  rotate_left
                  · simp only [Act.put, List.setIfInBounds_toArray, List.set_cons_zero, List.set_cons_succ, i64_w, i32_w]
                    rfl
                  refine take_ (i := 4) (N := some 16) (v := ?_) (a' := ?_) #[true, true, true, true, true, true, false, false] rfl rfl (take_ofW HT_.out HW_.out (by kernel_rfl)) (fun _ _ _ h => h) (Or.inl ⟨by rfl, ?_⟩) hHeld ?_ ?_
                  rotate_left
                  · rintro w' ⟨s0, s1, s2, s3⟩
                    go_simp
                    first | with_reducible rfl | (rw [if_neg (by simp only [ByteArray.size_append, ByteArray.size_extract, show ∀ (a : UInt8) (l : List UInt8), (⟨⟨a :: l⟩⟩ : ByteArray).size = l.length + 1 from fun _ _ => rfl, List.length_cons, List.length_nil] at *; omega)]; done) | (rw [if_neg (by simp only [ByteArray.size_append, ByteArray.size_extract, show ∀ (a : UInt8) (l : List UInt8), (⟨⟨a :: l⟩⟩ : ByteArray).size = l.length + 1 from fun _ _ => rfl, List.length_cons, List.length_nil] at *; omega)]; with_reducible rfl)
                  rotate_left
                  · simp only [Act.put, List.setIfInBounds_toArray, List.set_cons_zero, List.set_cons_succ, i64_w, i32_w]
                    rfl
                  refine one_ (i := 6) (N := some 18) #[true, true, true, true, true, true, true, false] rfl rfl (one_of HT_.out (by kernel_rfl)) (by decide) (fun K hK => ?_)
                  refine goes_ Tryd.func63 (by kernel_rfl) rfl #[.int .i64 x1_1] (by rfl) rfl rfl (by (try simp only [List.map_toArray, List.map_cons, List.map_nil]); first | done | rfl | (simp only [List.length_drop, List.length_take]; rfl)) ?_
                  with_reducible refine (laws_markText.calls k1 x1_1 t307 _ A5.out).mono ?_
                  rintro e w11 ⟨rfl, hb⟩
                  refine ⟨_, rfl, ?_⟩
                  have n0_ := Aside0.mk (below_step (by repeat (first | (with_reducible first | exact HB.out | apply below_alloc | apply pw_below_drewN | apply below_drew1) | exact HB.out)) hb)
                  clear HB
                  have HB := n0_
                  clear n0_
                  (try clear hb)
                  (try clear hb2)
                  (try clear hk)
                  (try clear hi)
                  refine hK.out _ _ ⟨((HB.out.cell (World.block_lt_of_cell? w _ hw306_0)).trans hw306_0), ((HB.out.cell (World.block_lt_of_cell? w _ hw306_1)).trans hw306_1), ((HB.out.cell (World.block_lt_of_cell? w _ hw306_2)).trans hw306_2), ((HB.out.cell (World.block_lt_of_cell? w _ hw306_3)).trans hw306_3)⟩ (fun hHeld => ?_)
                  clear hK K
                  refine norm_ (a' := ?_) ?_ ?_
                  rotate_left
                  · show Act.put _ (some 18) _ = _
                    simp only [Act.put, List.setIfInBounds_toArray, List.set_cons_zero, List.set_cons_succ, i64_w, i32_w]
                    rfl
                  refine pure_ (i := 7) (N := some 19) (v := ?_) (a' := ?_) #[true, true, true, true, true, true, true, true] rfl rfl (any_of HT_.out (by kernel_rfl)) (fun _ _ _ h => h) (Or.inl ⟨by rfl, ?_⟩) ?_ ?_
                  rotate_left
                  · intro w'
                    go_simp
                    first | with_reducible rfl | (rw [if_neg (by simp only [ByteArray.size_append, ByteArray.size_extract, show ∀ (a : UInt8) (l : List UInt8), (⟨⟨a :: l⟩⟩ : ByteArray).size = l.length + 1 from fun _ _ => rfl, List.length_cons, List.length_nil] at *; omega)]; done) | (rw [if_neg (by simp only [ByteArray.size_append, ByteArray.size_extract, show ∀ (a : UInt8) (l : List UInt8), (⟨⟨a :: l⟩⟩ : ByteArray).size = l.length + 1 from fun _ _ => rfl, List.length_cons, List.length_nil] at *; omega)]; with_reducible rfl)
                  rotate_left
                  · simp only [Act.put, List.setIfInBounds_toArray, List.set_cons_zero, List.set_cons_succ, i64_w, i32_w]
                    rfl
                  refine done_ (done_of HT_.out (by kernel_rfl)) ?_
                  have p308 : 0 ≤ (x5_1 : Int) := of_decide_eq_true (by first | (with_reducible assumption) | assumption)
                  have q308 : x5_1 < (l0.length : Int) := of_decide_eq_true (by first | (with_reducible assumption) | assumption)
                  obtain ⟨ad308, e308, hx308_0, hx308_1, hx308_2, hx308_3⟩ := at_T26 HR0.out x5_1 p308 q308
                  obtain rfl : ad306 = ad308 := (by injection e308)
                  replace hx308_0 := (HB.out.cell (World.block_lt_of_cell? w _ hx308_0)).trans hx308_0
                  replace hx308_1 := (HB.out.cell (World.block_lt_of_cell? w _ hx308_1)).trans hx308_1
                  replace hx308_2 := (HB.out.cell (World.block_lt_of_cell? w _ hx308_2)).trans hx308_2
                  replace hx308_3 := (HB.out.cell (World.block_lt_of_cell? w _ hx308_3)).trans hx308_3
                  replace p308 := eq_true p308
                  replace q308 := eq_true q308
                  have p309 : 0 ≤ (x5_1 : Int) := of_decide_eq_true (by first | (with_reducible assumption) | assumption)
                  have q309 : x5_1 < (l0.length : Int) := of_decide_eq_true (by first | (with_reducible assumption) | assumption)
                  obtain ⟨ad309, e309, hx309_0, hx309_1, hx309_2, hx309_3⟩ := at_T26 HR0.out x5_1 p309 q309
                  obtain rfl : ad306 = ad309 := (by injection e309)
                  replace hx309_0 := (HB.out.cell (World.block_lt_of_cell? w _ hx309_0)).trans hx309_0
                  replace hx309_1 := (HB.out.cell (World.block_lt_of_cell? w _ hx309_1)).trans hx309_1
                  replace hx309_2 := (HB.out.cell (World.block_lt_of_cell? w _ hx309_2)).trans hx309_2
                  replace hx309_3 := (HB.out.cell (World.block_lt_of_cell? w _ hx309_3)).trans hx309_3
                  replace p309 := eq_true p309
                  replace q309 := eq_true q309
                  have p310 : 0 ≤ (x5_1 : Int) := of_decide_eq_true (by first | (with_reducible assumption) | assumption)
                  have q310 : x5_1 < (l0.length : Int) := of_decide_eq_true (by first | (with_reducible assumption) | assumption)
                  obtain ⟨ad310, e310, hx310_0, hx310_1, hx310_2, hx310_3⟩ := at_T26 HR0.out x5_1 p310 q310
                  obtain rfl : ad306 = ad310 := (by injection e310)
                  replace hx310_0 := (HB.out.cell (World.block_lt_of_cell? w _ hx310_0)).trans hx310_0
                  replace hx310_1 := (HB.out.cell (World.block_lt_of_cell? w _ hx310_1)).trans hx310_1
                  replace hx310_2 := (HB.out.cell (World.block_lt_of_cell? w _ hx310_2)).trans hx310_2
                  replace hx310_3 := (HB.out.cell (World.block_lt_of_cell? w _ hx310_3)).trans hx310_3
                  replace p310 := eq_true p310
                  replace q310 := eq_true q310
                  try go_wp2
                  go_roundg k1
                  case measure => have := HK1.out; omega
                  case rel => exact ⟨(wrap64 ((wrap64 ((wrap64 ((wrap64 (x1_1 + 1)) + 1)) + 1)) + 1)), (wrap64 (x5_1 + 1)), (by first | rfl | (simp; done) | (simp [*]; done)), (by first | rfl | (simp; done) | (simp [*]; done)), H', ⟨by have := HK1.out; omega⟩, ⟨by repeat (first | (with_reducible first | exact HB.out | apply below_alloc | apply pw_below_drewN | apply below_drew1) | exact HB.out)⟩⟩
                · rw [if_neg c9] at H
                  have c9b0 : (((rd_T26 l0 x5_1).f3) == (wrap64 ((wrap64 ((wrap64 (x1_1 + 1)) + 1)) + 1))) = false := beq_eq_false_iff_ne.mpr c9
                  have c9b1 : (((rd_T26 l0 x5_1).f3) != (wrap64 ((wrap64 ((wrap64 (x1_1 + 1)) + 1)) + 1))) = true := bne_iff_ne.mpr c9
                  obtain rfl := Option.some.inj H
                  try go_wp2
                  have n0_ := Aside0.mk (below_drew1 HB.out)
                  clear HB
                  have HB := n0_
                  clear n0_
                  have p306 : 0 ≤ (x5_1 : Int) := of_decide_eq_true (by first | (with_reducible assumption) | assumption)
                  have q306 : x5_1 < (l0.length : Int) := of_decide_eq_true (by first | (with_reducible assumption) | assumption)
                  obtain ⟨ad306, e306, hx306_0, hx306_1, hx306_2, hx306_3⟩ := at_T26 HR0.out x5_1 p306 q306
                  have hw306_3 := hx306_3
                  have hw306_2 := hx306_2
                  have hw306_1 := hx306_1
                  have hw306_0 := hx306_0
                  cases e306
                  replace hx306_0 := (HB.out.cell (World.block_lt_of_cell? w _ hx306_0)).trans hx306_0
                  replace hx306_1 := (HB.out.cell (World.block_lt_of_cell? w _ hx306_1)).trans hx306_1
                  replace hx306_2 := (HB.out.cell (World.block_lt_of_cell? w _ hx306_2)).trans hx306_2
                  replace hx306_3 := (HB.out.cell (World.block_lt_of_cell? w _ hx306_3)).trans hx306_3
                  replace p306 := eq_true p306
                  replace q306 := eq_true q306
                  refine start_ (n := 8) (S := fun w' => w'.cell? (ad306.add ((x5_1).toNat * 4)) = some (.string ((rd_T26 l0 x5_1).f0)) ∧ w'.cell? ⟨(ad306.add ((x5_1).toNat * 4)).block, (ad306.add ((x5_1).toNat * 4)).off + 1, none⟩ = some (.int .i64 ((rd_T26 l0 x5_1).f1)) ∧ w'.cell? ⟨(ad306.add ((x5_1).toNat * 4)).block, (ad306.add ((x5_1).toNat * 4)).off + 2, none⟩ = some (.int .i64 ((rd_T26 l0 x5_1).f2)) ∧ w'.cell? ⟨(ad306.add ((x5_1).toNat * 4)).block, (ad306.add ((x5_1).toNat * 4)).off + 3, none⟩ = some (.int .i64 ((rd_T26 l0 x5_1).f3))) (ds := []) #[false, false, false, false, false, false, false, false] (by kernel_rfl) rfl rfl ⟨((HB.out.cell (World.block_lt_of_cell? w _ hw306_0)).trans hw306_0), ((HB.out.cell (World.block_lt_of_cell? w _ hw306_1)).trans hw306_1), ((HB.out.cell (World.block_lt_of_cell? w _ hw306_2)).trans hw306_2), ((HB.out.cell (World.block_lt_of_cell? w _ hw306_3)).trans hw306_3)⟩ (fun hHeld => ?_); refine with_tabW laws_heldCaveRowS.tab4 laws_heldCaveRowS.bits4 (fun HT_ HW_ => ?_)
                  generalize wr.drew = w12 at HB hx306_0 hx306_1 hx306_2 hx306_3 hHeld ⊢
                  refine pure_ (i := 0) (N := some 12) (v := ?_) (a' := ?_) #[true, false, false, false, false, false, false, false] rfl rfl (any_of HT_.out (by kernel_rfl)) (fun _ _ _ h => h) (Or.inl ⟨by rfl, ?_⟩) ?_ ?_
                  rotate_left
                  · intro w'
                    go_simp
                    first | with_reducible rfl | (rw [if_neg (by simp only [ByteArray.size_append, ByteArray.size_extract, show ∀ (a : UInt8) (l : List UInt8), (⟨⟨a :: l⟩⟩ : ByteArray).size = l.length + 1 from fun _ _ => rfl, List.length_cons, List.length_nil] at *; omega)]; done) | (rw [if_neg (by simp only [ByteArray.size_append, ByteArray.size_extract, show ∀ (a : UInt8) (l : List UInt8), (⟨⟨a :: l⟩⟩ : ByteArray).size = l.length + 1 from fun _ _ => rfl, List.length_cons, List.length_nil] at *; omega)]; with_reducible rfl)
                  rotate_left
                  · simp only [Act.put, List.setIfInBounds_toArray, List.set_cons_zero, List.set_cons_succ, i64_w, i32_w]
                    rfl
                  refine pure_ (i := 1) (N := some 13) (v := ?_) (a' := ?_) #[true, true, false, false, false, false, false, false] rfl rfl (any_of HT_.out (by kernel_rfl)) (fun _ _ _ h => h) (Or.inl ⟨by rfl, ?_⟩) ?_ ?_
                  rotate_left
                  · intro w'
                    go_simp
                    first | with_reducible rfl | (rw [if_neg (by simp only [ByteArray.size_append, ByteArray.size_extract, show ∀ (a : UInt8) (l : List UInt8), (⟨⟨a :: l⟩⟩ : ByteArray).size = l.length + 1 from fun _ _ => rfl, List.length_cons, List.length_nil] at *; omega)]; done) | (rw [if_neg (by simp only [ByteArray.size_append, ByteArray.size_extract, show ∀ (a : UInt8) (l : List UInt8), (⟨⟨a :: l⟩⟩ : ByteArray).size = l.length + 1 from fun _ _ => rfl, List.length_cons, List.length_nil] at *; omega)]; with_reducible rfl)
                  rotate_left
                  · simp only [Act.put, List.setIfInBounds_toArray, List.set_cons_zero, List.set_cons_succ, i64_w, i32_w]
                    rfl
                  refine pure_ (i := 2) (N := some 14) (v := ?_) (a' := ?_) #[true, true, true, false, false, false, false, false] rfl rfl (any_of HT_.out (by kernel_rfl)) (fun _ _ _ h => h) (Or.inl ⟨by rfl, ?_⟩) ?_ ?_
                  rotate_left
                  · intro w'
                    go_simp
                    first | with_reducible rfl | (rw [if_neg (by simp only [ByteArray.size_append, ByteArray.size_extract, show ∀ (a : UInt8) (l : List UInt8), (⟨⟨a :: l⟩⟩ : ByteArray).size = l.length + 1 from fun _ _ => rfl, List.length_cons, List.length_nil] at *; omega)]; done) | (rw [if_neg (by simp only [ByteArray.size_append, ByteArray.size_extract, show ∀ (a : UInt8) (l : List UInt8), (⟨⟨a :: l⟩⟩ : ByteArray).size = l.length + 1 from fun _ _ => rfl, List.length_cons, List.length_nil] at *; omega)]; with_reducible rfl)
                  rotate_left
                  · simp only [Act.put, List.setIfInBounds_toArray, List.set_cons_zero, List.set_cons_succ, i64_w, i32_w]
                    rfl
                  refine pure_ (i := 3) (N := some 15) (v := ?_) (a' := ?_) #[true, true, true, true, false, false, false, false] rfl rfl (any_of HT_.out (by kernel_rfl)) (fun _ _ _ h => h) (Or.inl ⟨by rfl, ?_⟩) ?_ ?_
                  rotate_left
                  · intro w'
                    go_simp
                    first | with_reducible rfl | (rw [if_neg (by simp only [ByteArray.size_append, ByteArray.size_extract, show ∀ (a : UInt8) (l : List UInt8), (⟨⟨a :: l⟩⟩ : ByteArray).size = l.length + 1 from fun _ _ => rfl, List.length_cons, List.length_nil] at *; omega)]; done) | (rw [if_neg (by simp only [ByteArray.size_append, ByteArray.size_extract, show ∀ (a : UInt8) (l : List UInt8), (⟨⟨a :: l⟩⟩ : ByteArray).size = l.length + 1 from fun _ _ => rfl, List.length_cons, List.length_nil] at *; omega)]; with_reducible rfl)
                  rotate_left
                  · simp only [Act.put, List.setIfInBounds_toArray, List.set_cons_zero, List.set_cons_succ, i64_w, i32_w]
                    rfl
                  refine pure_ (i := 5) (N := some 17) (v := ?_) (a' := ?_) #[true, true, true, true, false, true, false, false] rfl rfl (any_of HT_.out (by kernel_rfl)) (fun _ _ _ h => h) (Or.inl ⟨by rfl, ?_⟩) ?_ ?_
                  rotate_left
                  · intro w'
                    go_simp
                    first | with_reducible rfl | (rw [if_neg (by simp only [ByteArray.size_append, ByteArray.size_extract, show ∀ (a : UInt8) (l : List UInt8), (⟨⟨a :: l⟩⟩ : ByteArray).size = l.length + 1 from fun _ _ => rfl, List.length_cons, List.length_nil] at *; omega)]; done) | (rw [if_neg (by simp only [ByteArray.size_append, ByteArray.size_extract, show ∀ (a : UInt8) (l : List UInt8), (⟨⟨a :: l⟩⟩ : ByteArray).size = l.length + 1 from fun _ _ => rfl, List.length_cons, List.length_nil] at *; omega)]; with_reducible rfl)
                  rotate_left
                  · simp only [Act.put, List.setIfInBounds_toArray, List.set_cons_zero, List.set_cons_succ, i64_w, i32_w]
                    rfl
                  refine take_ (i := 4) (N := some 16) (v := ?_) (a' := ?_) #[true, true, true, true, true, true, false, false] rfl rfl (take_ofW HT_.out HW_.out (by kernel_rfl)) (fun _ _ _ h => h) (Or.inl ⟨by rfl, ?_⟩) hHeld ?_ ?_
                  rotate_left
                  · rintro w' ⟨s0, s1, s2, s3⟩
                    go_simp
                    first | with_reducible rfl | (rw [if_neg (by simp only [ByteArray.size_append, ByteArray.size_extract, show ∀ (a : UInt8) (l : List UInt8), (⟨⟨a :: l⟩⟩ : ByteArray).size = l.length + 1 from fun _ _ => rfl, List.length_cons, List.length_nil] at *; omega)]; done) | (rw [if_neg (by simp only [ByteArray.size_append, ByteArray.size_extract, show ∀ (a : UInt8) (l : List UInt8), (⟨⟨a :: l⟩⟩ : ByteArray).size = l.length + 1 from fun _ _ => rfl, List.length_cons, List.length_nil] at *; omega)]; with_reducible rfl)
                  rotate_left
                  · simp only [Act.put, List.setIfInBounds_toArray, List.set_cons_zero, List.set_cons_succ, i64_w, i32_w]
                    rfl
                  refine one_ (i := 6) (N := some 18) #[true, true, true, true, true, true, true, false] rfl rfl (one_of HT_.out (by kernel_rfl)) (by decide) (fun K hK => ?_)
                  refine goes_ Tryd.func63 (by kernel_rfl) rfl #[.int .i64 x1_1] (by rfl) rfl rfl (by (try simp only [List.map_toArray, List.map_cons, List.map_nil]); first | done | rfl | (simp only [List.length_drop, List.length_take]; rfl)) ?_
                  with_reducible refine (laws_markText.calls k1 x1_1 t307 _ A5.out).mono ?_
                  rintro e w13 ⟨rfl, hb⟩
                  refine ⟨_, rfl, ?_⟩
                  have n0_ := Aside0.mk (below_step (by repeat (first | (with_reducible first | exact HB.out | apply below_alloc | apply pw_below_drewN | apply below_drew1) | exact HB.out)) hb)
                  clear HB
                  have HB := n0_
                  clear n0_
                  (try clear hb)
                  (try clear hb2)
                  (try clear hk)
                  (try clear hi)
                  refine hK.out _ _ ⟨((HB.out.cell (World.block_lt_of_cell? w _ hw306_0)).trans hw306_0), ((HB.out.cell (World.block_lt_of_cell? w _ hw306_1)).trans hw306_1), ((HB.out.cell (World.block_lt_of_cell? w _ hw306_2)).trans hw306_2), ((HB.out.cell (World.block_lt_of_cell? w _ hw306_3)).trans hw306_3)⟩ (fun hHeld => ?_)
                  clear hK K
                  refine norm_ (a' := ?_) ?_ ?_
                  rotate_left
                  · show Act.put _ (some 18) _ = _
                    simp only [Act.put, List.setIfInBounds_toArray, List.set_cons_zero, List.set_cons_succ, i64_w, i32_w]
                    rfl
                  refine pure_ (i := 7) (N := some 19) (v := ?_) (a' := ?_) #[true, true, true, true, true, true, true, true] rfl rfl (any_of HT_.out (by kernel_rfl)) (fun _ _ _ h => h) (Or.inl ⟨by rfl, ?_⟩) ?_ ?_
                  rotate_left
                  · intro w'
                    go_simp
                    first | with_reducible rfl | (rw [if_neg (by simp only [ByteArray.size_append, ByteArray.size_extract, show ∀ (a : UInt8) (l : List UInt8), (⟨⟨a :: l⟩⟩ : ByteArray).size = l.length + 1 from fun _ _ => rfl, List.length_cons, List.length_nil] at *; omega)]; done) | (rw [if_neg (by simp only [ByteArray.size_append, ByteArray.size_extract, show ∀ (a : UInt8) (l : List UInt8), (⟨⟨a :: l⟩⟩ : ByteArray).size = l.length + 1 from fun _ _ => rfl, List.length_cons, List.length_nil] at *; omega)]; with_reducible rfl)
                  rotate_left
                  · simp only [Act.put, List.setIfInBounds_toArray, List.set_cons_zero, List.set_cons_succ, i64_w, i32_w]
                    rfl
                  refine done_ (done_of HT_.out (by kernel_rfl)) ?_
                  have p308 : 0 ≤ (x5_1 : Int) := of_decide_eq_true (by first | (with_reducible assumption) | assumption)
                  have q308 : x5_1 < (l0.length : Int) := of_decide_eq_true (by first | (with_reducible assumption) | assumption)
                  obtain ⟨ad308, e308, hx308_0, hx308_1, hx308_2, hx308_3⟩ := at_T26 HR0.out x5_1 p308 q308
                  obtain rfl : ad306 = ad308 := (by injection e308)
                  replace hx308_0 := (HB.out.cell (World.block_lt_of_cell? w _ hx308_0)).trans hx308_0
                  replace hx308_1 := (HB.out.cell (World.block_lt_of_cell? w _ hx308_1)).trans hx308_1
                  replace hx308_2 := (HB.out.cell (World.block_lt_of_cell? w _ hx308_2)).trans hx308_2
                  replace hx308_3 := (HB.out.cell (World.block_lt_of_cell? w _ hx308_3)).trans hx308_3
                  replace p308 := eq_true p308
                  replace q308 := eq_true q308
                  have p309 : 0 ≤ (x5_1 : Int) := of_decide_eq_true (by first | (with_reducible assumption) | assumption)
                  have q309 : x5_1 < (l0.length : Int) := of_decide_eq_true (by first | (with_reducible assumption) | assumption)
                  obtain ⟨ad309, e309, hx309_0, hx309_1, hx309_2, hx309_3⟩ := at_T26 HR0.out x5_1 p309 q309
                  obtain rfl : ad306 = ad309 := (by injection e309)
                  replace hx309_0 := (HB.out.cell (World.block_lt_of_cell? w _ hx309_0)).trans hx309_0
                  replace hx309_1 := (HB.out.cell (World.block_lt_of_cell? w _ hx309_1)).trans hx309_1
                  replace hx309_2 := (HB.out.cell (World.block_lt_of_cell? w _ hx309_2)).trans hx309_2
                  replace hx309_3 := (HB.out.cell (World.block_lt_of_cell? w _ hx309_3)).trans hx309_3
                  replace p309 := eq_true p309
                  replace q309 := eq_true q309
                  have p310 : 0 ≤ (x5_1 : Int) := of_decide_eq_true (by first | (with_reducible assumption) | assumption)
                  have q310 : x5_1 < (l0.length : Int) := of_decide_eq_true (by first | (with_reducible assumption) | assumption)
                  obtain ⟨ad310, e310, hx310_0, hx310_1, hx310_2, hx310_3⟩ := at_T26 HR0.out x5_1 p310 q310
                  obtain rfl : ad306 = ad310 := (by injection e310)
                  replace hx310_0 := (HB.out.cell (World.block_lt_of_cell? w _ hx310_0)).trans hx310_0
                  replace hx310_1 := (HB.out.cell (World.block_lt_of_cell? w _ hx310_1)).trans hx310_1
                  replace hx310_2 := (HB.out.cell (World.block_lt_of_cell? w _ hx310_2)).trans hx310_2
                  replace hx310_3 := (HB.out.cell (World.block_lt_of_cell? w _ hx310_3)).trans hx310_3
                  replace p310 := eq_true p310
                  replace q310 := eq_true q310
                  try go_wp2
                  go_ret
                  exact ⟨by first | rfl | (simp [errW_none, errW_some] <;> rfl) | (simp [*, errW_none, errW_some] <;> rfl), by repeat (first | (with_reducible first | exact HB.out | apply below_alloc | apply pw_below_drewN | apply below_drew1) | exact HB.out)⟩
              · rw [if_neg c8] at H
                have c8b0 : (((rd_T26 l0 x5_1).f2) == (wrap64 ((wrap64 (x1_1 + 1)) + 1))) = false := beq_eq_false_iff_ne.mpr c8
                have c8b1 : (((rd_T26 l0 x5_1).f2) != (wrap64 ((wrap64 (x1_1 + 1)) + 1))) = true := bne_iff_ne.mpr c8
                obtain rfl := Option.some.inj H
                try go_wp2
                have n0_ := Aside0.mk (below_drew1 HB.out)
                clear HB
                have HB := n0_
                clear n0_
                have p306 : 0 ≤ (x5_1 : Int) := of_decide_eq_true (by first | (with_reducible assumption) | assumption)
                have q306 : x5_1 < (l0.length : Int) := of_decide_eq_true (by first | (with_reducible assumption) | assumption)
                obtain ⟨ad306, e306, hx306_0, hx306_1, hx306_2, hx306_3⟩ := at_T26 HR0.out x5_1 p306 q306
                have hw306_3 := hx306_3
                have hw306_2 := hx306_2
                have hw306_1 := hx306_1
                have hw306_0 := hx306_0
                cases e306
                replace hx306_0 := (HB.out.cell (World.block_lt_of_cell? w _ hx306_0)).trans hx306_0
                replace hx306_1 := (HB.out.cell (World.block_lt_of_cell? w _ hx306_1)).trans hx306_1
                replace hx306_2 := (HB.out.cell (World.block_lt_of_cell? w _ hx306_2)).trans hx306_2
                replace hx306_3 := (HB.out.cell (World.block_lt_of_cell? w _ hx306_3)).trans hx306_3
                replace p306 := eq_true p306
                replace q306 := eq_true q306
                refine start_ (n := 8) (S := fun w' => w'.cell? (ad306.add ((x5_1).toNat * 4)) = some (.string ((rd_T26 l0 x5_1).f0)) ∧ w'.cell? ⟨(ad306.add ((x5_1).toNat * 4)).block, (ad306.add ((x5_1).toNat * 4)).off + 1, none⟩ = some (.int .i64 ((rd_T26 l0 x5_1).f1)) ∧ w'.cell? ⟨(ad306.add ((x5_1).toNat * 4)).block, (ad306.add ((x5_1).toNat * 4)).off + 2, none⟩ = some (.int .i64 ((rd_T26 l0 x5_1).f2)) ∧ w'.cell? ⟨(ad306.add ((x5_1).toNat * 4)).block, (ad306.add ((x5_1).toNat * 4)).off + 3, none⟩ = some (.int .i64 ((rd_T26 l0 x5_1).f3))) (ds := []) #[false, false, false, false, false, false, false, false] (by kernel_rfl) rfl rfl ⟨((HB.out.cell (World.block_lt_of_cell? w _ hw306_0)).trans hw306_0), ((HB.out.cell (World.block_lt_of_cell? w _ hw306_1)).trans hw306_1), ((HB.out.cell (World.block_lt_of_cell? w _ hw306_2)).trans hw306_2), ((HB.out.cell (World.block_lt_of_cell? w _ hw306_3)).trans hw306_3)⟩ (fun hHeld => ?_); refine with_tabW laws_heldCaveRowS.tab4 laws_heldCaveRowS.bits4 (fun HT_ HW_ => ?_)
                generalize wr.drew = w14 at HB hx306_0 hx306_1 hx306_2 hx306_3 hHeld ⊢
                refine pure_ (i := 0) (N := some 12) (v := ?_) (a' := ?_) #[true, false, false, false, false, false, false, false] rfl rfl (any_of HT_.out (by kernel_rfl)) (fun _ _ _ h => h) (Or.inl ⟨by rfl, ?_⟩) ?_ ?_
                rotate_left
                · intro w'
                  go_simp
                  first | with_reducible rfl | (rw [if_neg (by simp only [ByteArray.size_append, ByteArray.size_extract, show ∀ (a : UInt8) (l : List UInt8), (⟨⟨a :: l⟩⟩ : ByteArray).size = l.length + 1 from fun _ _ => rfl, List.length_cons, List.length_nil] at *; omega)]; done) | (rw [if_neg (by simp only [ByteArray.size_append, ByteArray.size_extract, show ∀ (a : UInt8) (l : List UInt8), (⟨⟨a :: l⟩⟩ : ByteArray).size = l.length + 1 from fun _ _ => rfl, List.length_cons, List.length_nil] at *; omega)]; with_reducible rfl)
                rotate_left
                · simp only [Act.put, List.setIfInBounds_toArray, List.set_cons_zero, List.set_cons_succ, i64_w, i32_w]
                  rfl
                refine pure_ (i := 1) (N := some 13) (v := ?_) (a' := ?_) #[true, true, false, false, false, false, false, false] rfl rfl (any_of HT_.out (by kernel_rfl)) (fun _ _ _ h => h) (Or.inl ⟨by rfl, ?_⟩) ?_ ?_
                rotate_left
                · intro w'
                  go_simp
                  first | with_reducible rfl | (rw [if_neg (by simp only [ByteArray.size_append, ByteArray.size_extract, show ∀ (a : UInt8) (l : List UInt8), (⟨⟨a :: l⟩⟩ : ByteArray).size = l.length + 1 from fun _ _ => rfl, List.length_cons, List.length_nil] at *; omega)]; done) | (rw [if_neg (by simp only [ByteArray.size_append, ByteArray.size_extract, show ∀ (a : UInt8) (l : List UInt8), (⟨⟨a :: l⟩⟩ : ByteArray).size = l.length + 1 from fun _ _ => rfl, List.length_cons, List.length_nil] at *; omega)]; with_reducible rfl)
                rotate_left
                · simp only [Act.put, List.setIfInBounds_toArray, List.set_cons_zero, List.set_cons_succ, i64_w, i32_w]
                  rfl
                refine pure_ (i := 2) (N := some 14) (v := ?_) (a' := ?_) #[true, true, true, false, false, false, false, false] rfl rfl (any_of HT_.out (by kernel_rfl)) (fun _ _ _ h => h) (Or.inl ⟨by rfl, ?_⟩) ?_ ?_
                rotate_left
                · intro w'
                  go_simp
                  first | with_reducible rfl | (rw [if_neg (by simp only [ByteArray.size_append, ByteArray.size_extract, show ∀ (a : UInt8) (l : List UInt8), (⟨⟨a :: l⟩⟩ : ByteArray).size = l.length + 1 from fun _ _ => rfl, List.length_cons, List.length_nil] at *; omega)]; done) | (rw [if_neg (by simp only [ByteArray.size_append, ByteArray.size_extract, show ∀ (a : UInt8) (l : List UInt8), (⟨⟨a :: l⟩⟩ : ByteArray).size = l.length + 1 from fun _ _ => rfl, List.length_cons, List.length_nil] at *; omega)]; with_reducible rfl)
                rotate_left
                · simp only [Act.put, List.setIfInBounds_toArray, List.set_cons_zero, List.set_cons_succ, i64_w, i32_w]
                  rfl
                refine pure_ (i := 3) (N := some 15) (v := ?_) (a' := ?_) #[true, true, true, true, false, false, false, false] rfl rfl (any_of HT_.out (by kernel_rfl)) (fun _ _ _ h => h) (Or.inl ⟨by rfl, ?_⟩) ?_ ?_
                rotate_left
                · intro w'
                  go_simp
                  first | with_reducible rfl | (rw [if_neg (by simp only [ByteArray.size_append, ByteArray.size_extract, show ∀ (a : UInt8) (l : List UInt8), (⟨⟨a :: l⟩⟩ : ByteArray).size = l.length + 1 from fun _ _ => rfl, List.length_cons, List.length_nil] at *; omega)]; done) | (rw [if_neg (by simp only [ByteArray.size_append, ByteArray.size_extract, show ∀ (a : UInt8) (l : List UInt8), (⟨⟨a :: l⟩⟩ : ByteArray).size = l.length + 1 from fun _ _ => rfl, List.length_cons, List.length_nil] at *; omega)]; with_reducible rfl)
                rotate_left
                · simp only [Act.put, List.setIfInBounds_toArray, List.set_cons_zero, List.set_cons_succ, i64_w, i32_w]
                  rfl
                refine pure_ (i := 5) (N := some 17) (v := ?_) (a' := ?_) #[true, true, true, true, false, true, false, false] rfl rfl (any_of HT_.out (by kernel_rfl)) (fun _ _ _ h => h) (Or.inl ⟨by rfl, ?_⟩) ?_ ?_
                rotate_left
                · intro w'
                  go_simp
                  first | with_reducible rfl | (rw [if_neg (by simp only [ByteArray.size_append, ByteArray.size_extract, show ∀ (a : UInt8) (l : List UInt8), (⟨⟨a :: l⟩⟩ : ByteArray).size = l.length + 1 from fun _ _ => rfl, List.length_cons, List.length_nil] at *; omega)]; done) | (rw [if_neg (by simp only [ByteArray.size_append, ByteArray.size_extract, show ∀ (a : UInt8) (l : List UInt8), (⟨⟨a :: l⟩⟩ : ByteArray).size = l.length + 1 from fun _ _ => rfl, List.length_cons, List.length_nil] at *; omega)]; with_reducible rfl)
                rotate_left
                · simp only [Act.put, List.setIfInBounds_toArray, List.set_cons_zero, List.set_cons_succ, i64_w, i32_w]
                  rfl
                refine take_ (i := 4) (N := some 16) (v := ?_) (a' := ?_) #[true, true, true, true, true, true, false, false] rfl rfl (take_ofW HT_.out HW_.out (by kernel_rfl)) (fun _ _ _ h => h) (Or.inl ⟨by rfl, ?_⟩) hHeld ?_ ?_
                rotate_left
                · rintro w' ⟨s0, s1, s2, s3⟩
                  go_simp
                  first | with_reducible rfl | (rw [if_neg (by simp only [ByteArray.size_append, ByteArray.size_extract, show ∀ (a : UInt8) (l : List UInt8), (⟨⟨a :: l⟩⟩ : ByteArray).size = l.length + 1 from fun _ _ => rfl, List.length_cons, List.length_nil] at *; omega)]; done) | (rw [if_neg (by simp only [ByteArray.size_append, ByteArray.size_extract, show ∀ (a : UInt8) (l : List UInt8), (⟨⟨a :: l⟩⟩ : ByteArray).size = l.length + 1 from fun _ _ => rfl, List.length_cons, List.length_nil] at *; omega)]; with_reducible rfl)
                rotate_left
                · simp only [Act.put, List.setIfInBounds_toArray, List.set_cons_zero, List.set_cons_succ, i64_w, i32_w]
                  rfl
                refine one_ (i := 6) (N := some 18) #[true, true, true, true, true, true, true, false] rfl rfl (one_of HT_.out (by kernel_rfl)) (by decide) (fun K hK => ?_)
                refine goes_ Tryd.func63 (by kernel_rfl) rfl #[.int .i64 x1_1] (by rfl) rfl rfl (by (try simp only [List.map_toArray, List.map_cons, List.map_nil]); first | done | rfl | (simp only [List.length_drop, List.length_take]; rfl)) ?_
                with_reducible refine (laws_markText.calls k1 x1_1 t307 _ A5.out).mono ?_
                rintro e w15 ⟨rfl, hb⟩
                refine ⟨_, rfl, ?_⟩
                have n0_ := Aside0.mk (below_step (by repeat (first | (with_reducible first | exact HB.out | apply below_alloc | apply pw_below_drewN | apply below_drew1) | exact HB.out)) hb)
                clear HB
                have HB := n0_
                clear n0_
                (try clear hb)
                (try clear hb2)
                (try clear hk)
                (try clear hi)
                refine hK.out _ _ ⟨((HB.out.cell (World.block_lt_of_cell? w _ hw306_0)).trans hw306_0), ((HB.out.cell (World.block_lt_of_cell? w _ hw306_1)).trans hw306_1), ((HB.out.cell (World.block_lt_of_cell? w _ hw306_2)).trans hw306_2), ((HB.out.cell (World.block_lt_of_cell? w _ hw306_3)).trans hw306_3)⟩ (fun hHeld => ?_)
                clear hK K
                refine norm_ (a' := ?_) ?_ ?_
                rotate_left
                · show Act.put _ (some 18) _ = _
                  simp only [Act.put, List.setIfInBounds_toArray, List.set_cons_zero, List.set_cons_succ, i64_w, i32_w]
                  rfl
                refine pure_ (i := 7) (N := some 19) (v := ?_) (a' := ?_) #[true, true, true, true, true, true, true, true] rfl rfl (any_of HT_.out (by kernel_rfl)) (fun _ _ _ h => h) (Or.inl ⟨by rfl, ?_⟩) ?_ ?_
                rotate_left
                · intro w'
                  go_simp
                  first | with_reducible rfl | (rw [if_neg (by simp only [ByteArray.size_append, ByteArray.size_extract, show ∀ (a : UInt8) (l : List UInt8), (⟨⟨a :: l⟩⟩ : ByteArray).size = l.length + 1 from fun _ _ => rfl, List.length_cons, List.length_nil] at *; omega)]; done) | (rw [if_neg (by simp only [ByteArray.size_append, ByteArray.size_extract, show ∀ (a : UInt8) (l : List UInt8), (⟨⟨a :: l⟩⟩ : ByteArray).size = l.length + 1 from fun _ _ => rfl, List.length_cons, List.length_nil] at *; omega)]; with_reducible rfl)
                rotate_left
                · simp only [Act.put, List.setIfInBounds_toArray, List.set_cons_zero, List.set_cons_succ, i64_w, i32_w]
                  rfl
                refine done_ (done_of HT_.out (by kernel_rfl)) ?_
                have p308 : 0 ≤ (x5_1 : Int) := of_decide_eq_true (by first | (with_reducible assumption) | assumption)
                have q308 : x5_1 < (l0.length : Int) := of_decide_eq_true (by first | (with_reducible assumption) | assumption)
                obtain ⟨ad308, e308, hx308_0, hx308_1, hx308_2, hx308_3⟩ := at_T26 HR0.out x5_1 p308 q308
                obtain rfl : ad306 = ad308 := (by injection e308)
                replace hx308_0 := (HB.out.cell (World.block_lt_of_cell? w _ hx308_0)).trans hx308_0
                replace hx308_1 := (HB.out.cell (World.block_lt_of_cell? w _ hx308_1)).trans hx308_1
                replace hx308_2 := (HB.out.cell (World.block_lt_of_cell? w _ hx308_2)).trans hx308_2
                replace hx308_3 := (HB.out.cell (World.block_lt_of_cell? w _ hx308_3)).trans hx308_3
                replace p308 := eq_true p308
                replace q308 := eq_true q308
                have p309 : 0 ≤ (x5_1 : Int) := of_decide_eq_true (by first | (with_reducible assumption) | assumption)
                have q309 : x5_1 < (l0.length : Int) := of_decide_eq_true (by first | (with_reducible assumption) | assumption)
                obtain ⟨ad309, e309, hx309_0, hx309_1, hx309_2, hx309_3⟩ := at_T26 HR0.out x5_1 p309 q309
                obtain rfl : ad306 = ad309 := (by injection e309)
                replace hx309_0 := (HB.out.cell (World.block_lt_of_cell? w _ hx309_0)).trans hx309_0
                replace hx309_1 := (HB.out.cell (World.block_lt_of_cell? w _ hx309_1)).trans hx309_1
                replace hx309_2 := (HB.out.cell (World.block_lt_of_cell? w _ hx309_2)).trans hx309_2
                replace hx309_3 := (HB.out.cell (World.block_lt_of_cell? w _ hx309_3)).trans hx309_3
                replace p309 := eq_true p309
                replace q309 := eq_true q309
                try go_wp2
                go_ret
                exact ⟨by first | rfl | (simp [errW_none, errW_some] <;> rfl) | (simp [*, errW_none, errW_some] <;> rfl), by repeat (first | (with_reducible first | exact HB.out | apply below_alloc | apply pw_below_drewN | apply below_drew1) | exact HB.out)⟩
            · rw [if_neg c7] at H
              have c7b0 : (((rd_T26 l0 x5_1).f1) == (wrap64 (x1_1 + 1))) = false := beq_eq_false_iff_ne.mpr c7
              have c7b1 : (((rd_T26 l0 x5_1).f1) != (wrap64 (x1_1 + 1))) = true := bne_iff_ne.mpr c7
              obtain rfl := Option.some.inj H
              try go_wp2
              have n0_ := Aside0.mk (below_drew1 HB.out)
              clear HB
              have HB := n0_
              clear n0_
              have p306 : 0 ≤ (x5_1 : Int) := of_decide_eq_true (by first | (with_reducible assumption) | assumption)
              have q306 : x5_1 < (l0.length : Int) := of_decide_eq_true (by first | (with_reducible assumption) | assumption)
              obtain ⟨ad306, e306, hx306_0, hx306_1, hx306_2, hx306_3⟩ := at_T26 HR0.out x5_1 p306 q306
              have hw306_3 := hx306_3
              have hw306_2 := hx306_2
              have hw306_1 := hx306_1
              have hw306_0 := hx306_0
              cases e306
              replace hx306_0 := (HB.out.cell (World.block_lt_of_cell? w _ hx306_0)).trans hx306_0
              replace hx306_1 := (HB.out.cell (World.block_lt_of_cell? w _ hx306_1)).trans hx306_1
              replace hx306_2 := (HB.out.cell (World.block_lt_of_cell? w _ hx306_2)).trans hx306_2
              replace hx306_3 := (HB.out.cell (World.block_lt_of_cell? w _ hx306_3)).trans hx306_3
              replace p306 := eq_true p306
              replace q306 := eq_true q306
              refine start_ (n := 8) (S := fun w' => w'.cell? (ad306.add ((x5_1).toNat * 4)) = some (.string ((rd_T26 l0 x5_1).f0)) ∧ w'.cell? ⟨(ad306.add ((x5_1).toNat * 4)).block, (ad306.add ((x5_1).toNat * 4)).off + 1, none⟩ = some (.int .i64 ((rd_T26 l0 x5_1).f1)) ∧ w'.cell? ⟨(ad306.add ((x5_1).toNat * 4)).block, (ad306.add ((x5_1).toNat * 4)).off + 2, none⟩ = some (.int .i64 ((rd_T26 l0 x5_1).f2)) ∧ w'.cell? ⟨(ad306.add ((x5_1).toNat * 4)).block, (ad306.add ((x5_1).toNat * 4)).off + 3, none⟩ = some (.int .i64 ((rd_T26 l0 x5_1).f3))) (ds := []) #[false, false, false, false, false, false, false, false] (by kernel_rfl) rfl rfl ⟨((HB.out.cell (World.block_lt_of_cell? w _ hw306_0)).trans hw306_0), ((HB.out.cell (World.block_lt_of_cell? w _ hw306_1)).trans hw306_1), ((HB.out.cell (World.block_lt_of_cell? w _ hw306_2)).trans hw306_2), ((HB.out.cell (World.block_lt_of_cell? w _ hw306_3)).trans hw306_3)⟩ (fun hHeld => ?_); refine with_tabW laws_heldCaveRowS.tab4 laws_heldCaveRowS.bits4 (fun HT_ HW_ => ?_)
              generalize wr.drew = w16 at HB hx306_0 hx306_1 hx306_2 hx306_3 hHeld ⊢
              refine pure_ (i := 0) (N := some 12) (v := ?_) (a' := ?_) #[true, false, false, false, false, false, false, false] rfl rfl (any_of HT_.out (by kernel_rfl)) (fun _ _ _ h => h) (Or.inl ⟨by rfl, ?_⟩) ?_ ?_
              rotate_left
              · intro w'
                go_simp
                first | with_reducible rfl | (rw [if_neg (by simp only [ByteArray.size_append, ByteArray.size_extract, show ∀ (a : UInt8) (l : List UInt8), (⟨⟨a :: l⟩⟩ : ByteArray).size = l.length + 1 from fun _ _ => rfl, List.length_cons, List.length_nil] at *; omega)]; done) | (rw [if_neg (by simp only [ByteArray.size_append, ByteArray.size_extract, show ∀ (a : UInt8) (l : List UInt8), (⟨⟨a :: l⟩⟩ : ByteArray).size = l.length + 1 from fun _ _ => rfl, List.length_cons, List.length_nil] at *; omega)]; with_reducible rfl)
              rotate_left
              · simp only [Act.put, List.setIfInBounds_toArray, List.set_cons_zero, List.set_cons_succ, i64_w, i32_w]
                rfl
              refine pure_ (i := 1) (N := some 13) (v := ?_) (a' := ?_) #[true, true, false, false, false, false, false, false] rfl rfl (any_of HT_.out (by kernel_rfl)) (fun _ _ _ h => h) (Or.inl ⟨by rfl, ?_⟩) ?_ ?_
              rotate_left
              · intro w'
                go_simp
                first | with_reducible rfl | (rw [if_neg (by simp only [ByteArray.size_append, ByteArray.size_extract, show ∀ (a : UInt8) (l : List UInt8), (⟨⟨a :: l⟩⟩ : ByteArray).size = l.length + 1 from fun _ _ => rfl, List.length_cons, List.length_nil] at *; omega)]; done) | (rw [if_neg (by simp only [ByteArray.size_append, ByteArray.size_extract, show ∀ (a : UInt8) (l : List UInt8), (⟨⟨a :: l⟩⟩ : ByteArray).size = l.length + 1 from fun _ _ => rfl, List.length_cons, List.length_nil] at *; omega)]; with_reducible rfl)
              rotate_left
              · simp only [Act.put, List.setIfInBounds_toArray, List.set_cons_zero, List.set_cons_succ, i64_w, i32_w]
                rfl
              refine pure_ (i := 2) (N := some 14) (v := ?_) (a' := ?_) #[true, true, true, false, false, false, false, false] rfl rfl (any_of HT_.out (by kernel_rfl)) (fun _ _ _ h => h) (Or.inl ⟨by rfl, ?_⟩) ?_ ?_
              rotate_left
              · intro w'
                go_simp
                first | with_reducible rfl | (rw [if_neg (by simp only [ByteArray.size_append, ByteArray.size_extract, show ∀ (a : UInt8) (l : List UInt8), (⟨⟨a :: l⟩⟩ : ByteArray).size = l.length + 1 from fun _ _ => rfl, List.length_cons, List.length_nil] at *; omega)]; done) | (rw [if_neg (by simp only [ByteArray.size_append, ByteArray.size_extract, show ∀ (a : UInt8) (l : List UInt8), (⟨⟨a :: l⟩⟩ : ByteArray).size = l.length + 1 from fun _ _ => rfl, List.length_cons, List.length_nil] at *; omega)]; with_reducible rfl)
              rotate_left
              · simp only [Act.put, List.setIfInBounds_toArray, List.set_cons_zero, List.set_cons_succ, i64_w, i32_w]
                rfl
              refine pure_ (i := 3) (N := some 15) (v := ?_) (a' := ?_) #[true, true, true, true, false, false, false, false] rfl rfl (any_of HT_.out (by kernel_rfl)) (fun _ _ _ h => h) (Or.inl ⟨by rfl, ?_⟩) ?_ ?_
              rotate_left
              · intro w'
                go_simp
                first | with_reducible rfl | (rw [if_neg (by simp only [ByteArray.size_append, ByteArray.size_extract, show ∀ (a : UInt8) (l : List UInt8), (⟨⟨a :: l⟩⟩ : ByteArray).size = l.length + 1 from fun _ _ => rfl, List.length_cons, List.length_nil] at *; omega)]; done) | (rw [if_neg (by simp only [ByteArray.size_append, ByteArray.size_extract, show ∀ (a : UInt8) (l : List UInt8), (⟨⟨a :: l⟩⟩ : ByteArray).size = l.length + 1 from fun _ _ => rfl, List.length_cons, List.length_nil] at *; omega)]; with_reducible rfl)
              rotate_left
              · simp only [Act.put, List.setIfInBounds_toArray, List.set_cons_zero, List.set_cons_succ, i64_w, i32_w]
                rfl
              refine pure_ (i := 5) (N := some 17) (v := ?_) (a' := ?_) #[true, true, true, true, false, true, false, false] rfl rfl (any_of HT_.out (by kernel_rfl)) (fun _ _ _ h => h) (Or.inl ⟨by rfl, ?_⟩) ?_ ?_
              rotate_left
              · intro w'
                go_simp
                first | with_reducible rfl | (rw [if_neg (by simp only [ByteArray.size_append, ByteArray.size_extract, show ∀ (a : UInt8) (l : List UInt8), (⟨⟨a :: l⟩⟩ : ByteArray).size = l.length + 1 from fun _ _ => rfl, List.length_cons, List.length_nil] at *; omega)]; done) | (rw [if_neg (by simp only [ByteArray.size_append, ByteArray.size_extract, show ∀ (a : UInt8) (l : List UInt8), (⟨⟨a :: l⟩⟩ : ByteArray).size = l.length + 1 from fun _ _ => rfl, List.length_cons, List.length_nil] at *; omega)]; with_reducible rfl)
              rotate_left
              · simp only [Act.put, List.setIfInBounds_toArray, List.set_cons_zero, List.set_cons_succ, i64_w, i32_w]
                rfl
              refine take_ (i := 4) (N := some 16) (v := ?_) (a' := ?_) #[true, true, true, true, true, true, false, false] rfl rfl (take_ofW HT_.out HW_.out (by kernel_rfl)) (fun _ _ _ h => h) (Or.inl ⟨by rfl, ?_⟩) hHeld ?_ ?_
              rotate_left
              · rintro w' ⟨s0, s1, s2, s3⟩
                go_simp
                first | with_reducible rfl | (rw [if_neg (by simp only [ByteArray.size_append, ByteArray.size_extract, show ∀ (a : UInt8) (l : List UInt8), (⟨⟨a :: l⟩⟩ : ByteArray).size = l.length + 1 from fun _ _ => rfl, List.length_cons, List.length_nil] at *; omega)]; done) | (rw [if_neg (by simp only [ByteArray.size_append, ByteArray.size_extract, show ∀ (a : UInt8) (l : List UInt8), (⟨⟨a :: l⟩⟩ : ByteArray).size = l.length + 1 from fun _ _ => rfl, List.length_cons, List.length_nil] at *; omega)]; with_reducible rfl)
              rotate_left
              · simp only [Act.put, List.setIfInBounds_toArray, List.set_cons_zero, List.set_cons_succ, i64_w, i32_w]
                rfl
              refine one_ (i := 6) (N := some 18) #[true, true, true, true, true, true, true, false] rfl rfl (one_of HT_.out (by kernel_rfl)) (by decide) (fun K hK => ?_)
              refine goes_ Tryd.func63 (by kernel_rfl) rfl #[.int .i64 x1_1] (by rfl) rfl rfl (by (try simp only [List.map_toArray, List.map_cons, List.map_nil]); first | done | rfl | (simp only [List.length_drop, List.length_take]; rfl)) ?_
              with_reducible refine (laws_markText.calls k1 x1_1 t307 _ A5.out).mono ?_
              rintro e w17 ⟨rfl, hb⟩
              refine ⟨_, rfl, ?_⟩
              have n0_ := Aside0.mk (below_step (by repeat (first | (with_reducible first | exact HB.out | apply below_alloc | apply pw_below_drewN | apply below_drew1) | exact HB.out)) hb)
              clear HB
              have HB := n0_
              clear n0_
              (try clear hb)
              (try clear hb2)
              (try clear hk)
              (try clear hi)
              refine hK.out _ _ ⟨((HB.out.cell (World.block_lt_of_cell? w _ hw306_0)).trans hw306_0), ((HB.out.cell (World.block_lt_of_cell? w _ hw306_1)).trans hw306_1), ((HB.out.cell (World.block_lt_of_cell? w _ hw306_2)).trans hw306_2), ((HB.out.cell (World.block_lt_of_cell? w _ hw306_3)).trans hw306_3)⟩ (fun hHeld => ?_)
              clear hK K
              refine norm_ (a' := ?_) ?_ ?_
              rotate_left
              · show Act.put _ (some 18) _ = _
                simp only [Act.put, List.setIfInBounds_toArray, List.set_cons_zero, List.set_cons_succ, i64_w, i32_w]
                rfl
              refine pure_ (i := 7) (N := some 19) (v := ?_) (a' := ?_) #[true, true, true, true, true, true, true, true] rfl rfl (any_of HT_.out (by kernel_rfl)) (fun _ _ _ h => h) (Or.inl ⟨by rfl, ?_⟩) ?_ ?_
              rotate_left
              · intro w'
                go_simp
                first | with_reducible rfl | (rw [if_neg (by simp only [ByteArray.size_append, ByteArray.size_extract, show ∀ (a : UInt8) (l : List UInt8), (⟨⟨a :: l⟩⟩ : ByteArray).size = l.length + 1 from fun _ _ => rfl, List.length_cons, List.length_nil] at *; omega)]; done) | (rw [if_neg (by simp only [ByteArray.size_append, ByteArray.size_extract, show ∀ (a : UInt8) (l : List UInt8), (⟨⟨a :: l⟩⟩ : ByteArray).size = l.length + 1 from fun _ _ => rfl, List.length_cons, List.length_nil] at *; omega)]; with_reducible rfl)
              rotate_left
              · simp only [Act.put, List.setIfInBounds_toArray, List.set_cons_zero, List.set_cons_succ, i64_w, i32_w]
                rfl
              refine done_ (done_of HT_.out (by kernel_rfl)) ?_
              have p308 : 0 ≤ (x5_1 : Int) := of_decide_eq_true (by first | (with_reducible assumption) | assumption)
              have q308 : x5_1 < (l0.length : Int) := of_decide_eq_true (by first | (with_reducible assumption) | assumption)
              obtain ⟨ad308, e308, hx308_0, hx308_1, hx308_2, hx308_3⟩ := at_T26 HR0.out x5_1 p308 q308
              obtain rfl : ad306 = ad308 := (by injection e308)
              replace hx308_0 := (HB.out.cell (World.block_lt_of_cell? w _ hx308_0)).trans hx308_0
              replace hx308_1 := (HB.out.cell (World.block_lt_of_cell? w _ hx308_1)).trans hx308_1
              replace hx308_2 := (HB.out.cell (World.block_lt_of_cell? w _ hx308_2)).trans hx308_2
              replace hx308_3 := (HB.out.cell (World.block_lt_of_cell? w _ hx308_3)).trans hx308_3
              replace p308 := eq_true p308
              replace q308 := eq_true q308
              try go_wp2
              go_ret
              exact ⟨by first | rfl | (simp [errW_none, errW_some] <;> rfl) | (simp [*, errW_none, errW_some] <;> rfl), by repeat (first | (with_reducible first | exact HB.out | apply below_alloc | apply pw_below_drewN | apply below_drew1) | exact HB.out)⟩
          · rw [if_neg c6] at H
            have c6b0 : (((rd_T26 l0 x5_1).f0).toList == t307.toList) = false := beq_eq_false_iff_ne.mpr c6
            have c6b1 : (((rd_T26 l0 x5_1).f0).toList != t307.toList) = true := bne_iff_ne.mpr c6
            obtain rfl := Option.some.inj H
            try go_wp2
            have n0_ := Aside0.mk (below_drew1 HB.out)
            clear HB
            have HB := n0_
            clear n0_
            have p306 : 0 ≤ (x5_1 : Int) := of_decide_eq_true (by first | (with_reducible assumption) | assumption)
            have q306 : x5_1 < (l0.length : Int) := of_decide_eq_true (by first | (with_reducible assumption) | assumption)
            obtain ⟨ad306, e306, hx306_0, hx306_1, hx306_2, hx306_3⟩ := at_T26 HR0.out x5_1 p306 q306
            have hw306_3 := hx306_3
            have hw306_2 := hx306_2
            have hw306_1 := hx306_1
            have hw306_0 := hx306_0
            cases e306
            replace hx306_0 := (HB.out.cell (World.block_lt_of_cell? w _ hx306_0)).trans hx306_0
            replace hx306_1 := (HB.out.cell (World.block_lt_of_cell? w _ hx306_1)).trans hx306_1
            replace hx306_2 := (HB.out.cell (World.block_lt_of_cell? w _ hx306_2)).trans hx306_2
            replace hx306_3 := (HB.out.cell (World.block_lt_of_cell? w _ hx306_3)).trans hx306_3
            replace p306 := eq_true p306
            replace q306 := eq_true q306
            refine start_ (n := 8) (S := fun w' => w'.cell? (ad306.add ((x5_1).toNat * 4)) = some (.string ((rd_T26 l0 x5_1).f0)) ∧ w'.cell? ⟨(ad306.add ((x5_1).toNat * 4)).block, (ad306.add ((x5_1).toNat * 4)).off + 1, none⟩ = some (.int .i64 ((rd_T26 l0 x5_1).f1)) ∧ w'.cell? ⟨(ad306.add ((x5_1).toNat * 4)).block, (ad306.add ((x5_1).toNat * 4)).off + 2, none⟩ = some (.int .i64 ((rd_T26 l0 x5_1).f2)) ∧ w'.cell? ⟨(ad306.add ((x5_1).toNat * 4)).block, (ad306.add ((x5_1).toNat * 4)).off + 3, none⟩ = some (.int .i64 ((rd_T26 l0 x5_1).f3))) (ds := []) #[false, false, false, false, false, false, false, false] (by kernel_rfl) rfl rfl ⟨((HB.out.cell (World.block_lt_of_cell? w _ hw306_0)).trans hw306_0), ((HB.out.cell (World.block_lt_of_cell? w _ hw306_1)).trans hw306_1), ((HB.out.cell (World.block_lt_of_cell? w _ hw306_2)).trans hw306_2), ((HB.out.cell (World.block_lt_of_cell? w _ hw306_3)).trans hw306_3)⟩ (fun hHeld => ?_); refine with_tabW laws_heldCaveRowS.tab4 laws_heldCaveRowS.bits4 (fun HT_ HW_ => ?_)
            generalize wr.drew = w18 at HB hx306_0 hx306_1 hx306_2 hx306_3 hHeld ⊢
            refine pure_ (i := 0) (N := some 12) (v := ?_) (a' := ?_) #[true, false, false, false, false, false, false, false] rfl rfl (any_of HT_.out (by kernel_rfl)) (fun _ _ _ h => h) (Or.inl ⟨by rfl, ?_⟩) ?_ ?_
            rotate_left
            · intro w'
              go_simp
              first | with_reducible rfl | (rw [if_neg (by simp only [ByteArray.size_append, ByteArray.size_extract, show ∀ (a : UInt8) (l : List UInt8), (⟨⟨a :: l⟩⟩ : ByteArray).size = l.length + 1 from fun _ _ => rfl, List.length_cons, List.length_nil] at *; omega)]; done) | (rw [if_neg (by simp only [ByteArray.size_append, ByteArray.size_extract, show ∀ (a : UInt8) (l : List UInt8), (⟨⟨a :: l⟩⟩ : ByteArray).size = l.length + 1 from fun _ _ => rfl, List.length_cons, List.length_nil] at *; omega)]; with_reducible rfl)
            rotate_left
            · simp only [Act.put, List.setIfInBounds_toArray, List.set_cons_zero, List.set_cons_succ, i64_w, i32_w]
              rfl
            refine pure_ (i := 1) (N := some 13) (v := ?_) (a' := ?_) #[true, true, false, false, false, false, false, false] rfl rfl (any_of HT_.out (by kernel_rfl)) (fun _ _ _ h => h) (Or.inl ⟨by rfl, ?_⟩) ?_ ?_
            rotate_left
            · intro w'
              go_simp
              first | with_reducible rfl | (rw [if_neg (by simp only [ByteArray.size_append, ByteArray.size_extract, show ∀ (a : UInt8) (l : List UInt8), (⟨⟨a :: l⟩⟩ : ByteArray).size = l.length + 1 from fun _ _ => rfl, List.length_cons, List.length_nil] at *; omega)]; done) | (rw [if_neg (by simp only [ByteArray.size_append, ByteArray.size_extract, show ∀ (a : UInt8) (l : List UInt8), (⟨⟨a :: l⟩⟩ : ByteArray).size = l.length + 1 from fun _ _ => rfl, List.length_cons, List.length_nil] at *; omega)]; with_reducible rfl)
            rotate_left
            · simp only [Act.put, List.setIfInBounds_toArray, List.set_cons_zero, List.set_cons_succ, i64_w, i32_w]
              rfl
            refine pure_ (i := 2) (N := some 14) (v := ?_) (a' := ?_) #[true, true, true, false, false, false, false, false] rfl rfl (any_of HT_.out (by kernel_rfl)) (fun _ _ _ h => h) (Or.inl ⟨by rfl, ?_⟩) ?_ ?_
            rotate_left
            · intro w'
              go_simp
              first | with_reducible rfl | (rw [if_neg (by simp only [ByteArray.size_append, ByteArray.size_extract, show ∀ (a : UInt8) (l : List UInt8), (⟨⟨a :: l⟩⟩ : ByteArray).size = l.length + 1 from fun _ _ => rfl, List.length_cons, List.length_nil] at *; omega)]; done) | (rw [if_neg (by simp only [ByteArray.size_append, ByteArray.size_extract, show ∀ (a : UInt8) (l : List UInt8), (⟨⟨a :: l⟩⟩ : ByteArray).size = l.length + 1 from fun _ _ => rfl, List.length_cons, List.length_nil] at *; omega)]; with_reducible rfl)
            rotate_left
            · simp only [Act.put, List.setIfInBounds_toArray, List.set_cons_zero, List.set_cons_succ, i64_w, i32_w]
              rfl
            refine pure_ (i := 3) (N := some 15) (v := ?_) (a' := ?_) #[true, true, true, true, false, false, false, false] rfl rfl (any_of HT_.out (by kernel_rfl)) (fun _ _ _ h => h) (Or.inl ⟨by rfl, ?_⟩) ?_ ?_
            rotate_left
            · intro w'
              go_simp
              first | with_reducible rfl | (rw [if_neg (by simp only [ByteArray.size_append, ByteArray.size_extract, show ∀ (a : UInt8) (l : List UInt8), (⟨⟨a :: l⟩⟩ : ByteArray).size = l.length + 1 from fun _ _ => rfl, List.length_cons, List.length_nil] at *; omega)]; done) | (rw [if_neg (by simp only [ByteArray.size_append, ByteArray.size_extract, show ∀ (a : UInt8) (l : List UInt8), (⟨⟨a :: l⟩⟩ : ByteArray).size = l.length + 1 from fun _ _ => rfl, List.length_cons, List.length_nil] at *; omega)]; with_reducible rfl)
            rotate_left
            · simp only [Act.put, List.setIfInBounds_toArray, List.set_cons_zero, List.set_cons_succ, i64_w, i32_w]
              rfl
            refine pure_ (i := 5) (N := some 17) (v := ?_) (a' := ?_) #[true, true, true, true, false, true, false, false] rfl rfl (any_of HT_.out (by kernel_rfl)) (fun _ _ _ h => h) (Or.inl ⟨by rfl, ?_⟩) ?_ ?_
            rotate_left
            · intro w'
              go_simp
              first | with_reducible rfl | (rw [if_neg (by simp only [ByteArray.size_append, ByteArray.size_extract, show ∀ (a : UInt8) (l : List UInt8), (⟨⟨a :: l⟩⟩ : ByteArray).size = l.length + 1 from fun _ _ => rfl, List.length_cons, List.length_nil] at *; omega)]; done) | (rw [if_neg (by simp only [ByteArray.size_append, ByteArray.size_extract, show ∀ (a : UInt8) (l : List UInt8), (⟨⟨a :: l⟩⟩ : ByteArray).size = l.length + 1 from fun _ _ => rfl, List.length_cons, List.length_nil] at *; omega)]; with_reducible rfl)
            rotate_left
            · simp only [Act.put, List.setIfInBounds_toArray, List.set_cons_zero, List.set_cons_succ, i64_w, i32_w]
              rfl
            refine take_ (i := 4) (N := some 16) (v := ?_) (a' := ?_) #[true, true, true, true, true, true, false, false] rfl rfl (take_ofW HT_.out HW_.out (by kernel_rfl)) (fun _ _ _ h => h) (Or.inl ⟨by rfl, ?_⟩) hHeld ?_ ?_
            rotate_left
            · rintro w' ⟨s0, s1, s2, s3⟩
              go_simp
              first | with_reducible rfl | (rw [if_neg (by simp only [ByteArray.size_append, ByteArray.size_extract, show ∀ (a : UInt8) (l : List UInt8), (⟨⟨a :: l⟩⟩ : ByteArray).size = l.length + 1 from fun _ _ => rfl, List.length_cons, List.length_nil] at *; omega)]; done) | (rw [if_neg (by simp only [ByteArray.size_append, ByteArray.size_extract, show ∀ (a : UInt8) (l : List UInt8), (⟨⟨a :: l⟩⟩ : ByteArray).size = l.length + 1 from fun _ _ => rfl, List.length_cons, List.length_nil] at *; omega)]; with_reducible rfl)
            rotate_left
            · simp only [Act.put, List.setIfInBounds_toArray, List.set_cons_zero, List.set_cons_succ, i64_w, i32_w]
              rfl
            refine one_ (i := 6) (N := some 18) #[true, true, true, true, true, true, true, false] rfl rfl (one_of HT_.out (by kernel_rfl)) (by decide) (fun K hK => ?_)
            refine goes_ Tryd.func63 (by kernel_rfl) rfl #[.int .i64 x1_1] (by rfl) rfl rfl (by (try simp only [List.map_toArray, List.map_cons, List.map_nil]); first | done | rfl | (simp only [List.length_drop, List.length_take]; rfl)) ?_
            with_reducible refine (laws_markText.calls k1 x1_1 t307 _ A5.out).mono ?_
            rintro e w19 ⟨rfl, hb⟩
            refine ⟨_, rfl, ?_⟩
            have n0_ := Aside0.mk (below_step (by repeat (first | (with_reducible first | exact HB.out | apply below_alloc | apply pw_below_drewN | apply below_drew1) | exact HB.out)) hb)
            clear HB
            have HB := n0_
            clear n0_
            (try clear hb)
            (try clear hb2)
            (try clear hk)
            (try clear hi)
            refine hK.out _ _ ⟨((HB.out.cell (World.block_lt_of_cell? w _ hw306_0)).trans hw306_0), ((HB.out.cell (World.block_lt_of_cell? w _ hw306_1)).trans hw306_1), ((HB.out.cell (World.block_lt_of_cell? w _ hw306_2)).trans hw306_2), ((HB.out.cell (World.block_lt_of_cell? w _ hw306_3)).trans hw306_3)⟩ (fun hHeld => ?_)
            clear hK K
            refine norm_ (a' := ?_) ?_ ?_
            rotate_left
            · show Act.put _ (some 18) _ = _
              simp only [Act.put, List.setIfInBounds_toArray, List.set_cons_zero, List.set_cons_succ, i64_w, i32_w]
              rfl
            refine pure_ (i := 7) (N := some 19) (v := ?_) (a' := ?_) #[true, true, true, true, true, true, true, true] rfl rfl (any_of HT_.out (by kernel_rfl)) (fun _ _ _ h => h) (Or.inl ⟨by rfl, ?_⟩) ?_ ?_
            rotate_left
            · intro w'
              go_simp
              first | with_reducible rfl | (rw [if_neg (by simp only [ByteArray.size_append, ByteArray.size_extract, show ∀ (a : UInt8) (l : List UInt8), (⟨⟨a :: l⟩⟩ : ByteArray).size = l.length + 1 from fun _ _ => rfl, List.length_cons, List.length_nil] at *; omega)]; done) | (rw [if_neg (by simp only [ByteArray.size_append, ByteArray.size_extract, show ∀ (a : UInt8) (l : List UInt8), (⟨⟨a :: l⟩⟩ : ByteArray).size = l.length + 1 from fun _ _ => rfl, List.length_cons, List.length_nil] at *; omega)]; with_reducible rfl)
            rotate_left
            · simp only [Act.put, List.setIfInBounds_toArray, List.set_cons_zero, List.set_cons_succ, i64_w, i32_w]
              rfl
            refine done_ (done_of HT_.out (by kernel_rfl)) ?_
            try go_wp2
            go_ret
            exact ⟨by first | rfl | (simp [errW_none, errW_some] <;> rfl) | (simp [*, errW_none, errW_some] <;> rfl), by repeat (first | (with_reducible first | exact HB.out | apply below_alloc | apply pw_below_drewN | apply below_drew1) | exact HB.out)⟩
        · rw [if_neg c4] at H
          exact absurd H (by simp)
      · rw [if_neg c3] at H
        have c3b0 : decide (x5_1 < (l0.length : Int)) = false := decide_eq_false c3
        clear c3
        obtain rfl := Option.some.inj H
        go_wp2
        go_ret
        exact ⟨by first | rfl | (simp [errW_none, errW_some] <;> rfl) | (simp [*, errW_none, errW_some] <;> rfl), by repeat (first | (with_reducible first | exact HB.out | apply below_alloc | apply pw_below_drewN | apply below_drew1) | exact HB.out)⟩

end Go.Proofs.YteepnlofbfccgaaDoor.Pr

