/-
What is proved: parts of the law FnExactCavesText: what the functions that it reaches compute, and the plain law.
Conditions: those of each theorem.
-/
import Derived.Test.YteepnlofbfccgaaDoorCFnExactCavesText2
namespace Go.Proofs.YteepnlofbfccgaaDoor.Pr
open Go.RowKit Go.Proofs.YteepnlofbfccgaaDoorW.PrintWords Go.Proofs.YteepnlofbfccgaaDoorW.PrintLast Go.Proofs.YteepnlofbfccgaaDoorW.PrintMore
attribute [local go_sem] max2_int min2_int max_two min_two max_three min_three max_four min_four   -- for this text's walks alone
set_option linter.unusedVariables false
set_option linter.unusedSimpArgs false

/-! ### spec_l26Good: function 58 -/
def spec_l26Good.l0 : Nat → List (S26) → Int → Option (Bool)
  | 0, _, _ => none
  | k + 1, x0, x3 => if x3 < (x0.length : Int) then (if 0 ≤ x3 then ((spec_l26One.f k ((rd_T26 x0 x3).f0) ((rd_T26 x0 x3).f1) ((rd_T26 x0 x3).f2) ((rd_T26 x0 x3).f3)).bind fun t136 => (if t136 = true then (if x3 > 0 then (if 0 ≤ (wrap64 (x3 - 1)) then (if (wrap64 (x3 - 1)) < (x0.length : Int) then (if ((Op.bytesLess (((rd_T26 x0 (wrap64 (x3 - 1))).f0).toList) (((rd_T26 x0 x3).f0).toList)) = true) then (spec_l26Good.l0 k x0 (wrap64 (x3 + 1))) else (some false)) else (none)) else (none)) else (spec_l26Good.l0 k x0 (wrap64 (x3 + 1)))) else (some false))) else (none)) else (some (decide ((x0.length : Int) ≤ 10)))
def spec_l26Good.f (k : Nat) (l0 : List (S26)) : Option (Bool) := spec_l26Good.l0 k l0 0
theorem spec_l26Good.mono_l : ∀ k, (∀ y0 y1, LeO (spec_l26Good.l0 k y0 y1) (spec_l26Good.l0 (k + 1) y0 y1))
  | 0 => fun _ _ r h => by simp [spec_l26Good.l0] at h
  | k + 1 => by
    have ih0 := spec_l26Good.mono_l k
    · intro y0 y1
      unfold spec_l26Good.l0
      repeat' first
      | (with_reducible exact ih0 _ _)
      | (with_reducible exact spec_l26One.mono _ _ _ _ _)
      | (with_reducible exact LeO.refl _)
      | (with_reducible exact LeO.none _)
      | (with_reducible refine LeO.ite ?_ ?_)
      | (with_reducible refine LeO.bind ?_ (fun _ => ?_))
      | exact ih0 _ _
      | exact spec_l26One.mono _ _ _ _ _
      | exact LeO.none _
      | refine LeO.ite ?_ ?_
      | refine LeO.bind ?_ (fun _ => ?_)
theorem spec_l26Good.mono : ∀ a0 k, LeO (spec_l26Good.f k a0) (spec_l26Good.f (k + 1) a0) := by
  intro a0 k
  have ih0 := spec_l26Good.mono_l k
  unfold spec_l26Good.f
  repeat' first
      | (with_reducible exact ih0 _ _)
      | (with_reducible exact spec_l26One.mono _ _ _ _ _)
      | (with_reducible exact LeO.refl _)
      | (with_reducible exact LeO.none _)
      | (with_reducible refine LeO.ite ?_ ?_)
      | (with_reducible refine LeO.bind ?_ (fun _ => ?_))
      | exact ih0 _ _
      | exact spec_l26One.mono _ _ _ _ _
      | exact LeO.none _
      | refine LeO.ite ?_ ?_
      | refine LeO.bind ?_ (fun _ => ?_)
def spec_l26Good.T4 : Bool × List (List Nat × List Nat) := (true, [([], []), ([], []), ([0, 1], [0, 1]), ([2], [2]), ([3], [3]), ([4], [4]), ([5, 4], [5]), ([6], [6]), ([7, 6], [6, 7]), ([8, 6, 6], [6, 8]), ([9], [9]), ([9], [9]), ([11, 9], [9, 11]), ([10, 12, 9], [9, 10, 12]), ([13, 9], [9, 13]), ([14, 9], [9, 14]), ([9], [9]), ([9], [9]), ([16, 17, 9], [9, 16, 17]), ([18, 9], [9, 18]), ([19, 9], [9, 19]), ([15, 20, 9], [9, 15, 20]), ([9, 21, 6], [6, 9, 21]), ([6, 22], [6, 22])])
def spec_l26Good.B4 : List Nat := [0, 0, 3, 7, 15, 31, 63, 127, 255, 511, 1023, 1023, 3071, 8191, 16383, 32767, 1023, 1023, 197631, 459775, 984063, 2097151, 4194303, 8388607]
theorem spec_l26Good.tab4 : rtab .any (opsOf Tryd.f58 4) = spec_l26Good.T4 := by kernel_rfl
theorem spec_l26Good.bits4 : waitsOk spec_l26Good.T4.2 spec_l26Good.B4 = true := by kernel_rfl
set_option maxHeartbeats 8000000 in
set_option maxRecDepth 100000 in
theorem spec_l26Good.calls (k : Nat) (A0 : Option Addr) (c0 : Nat) (l0 : List (S26)) (r : Bool) (w : World) (hr0 : Kd.C k26 w A0 l0.length l0) (hc0 : l0.length ≤ c0) (h : spec_l26Good.f k l0 = some r) :
    Calls Tryd.prog 58 #[.slice A0 l0.length c0] w fun e w' => e = .returned (.bool r) ∧ Below w.heap.size w w' := by
  have hu26 := Tryd.underlying26
  have HR0 := Aside0.mk hr0
  have HC0 := Aside0.mk hc0
  clear hr0 hc0
  have HB := Aside0.mk (Below.refl w.heap.size w)
  have H : (spec_l26Good.l0 k l0 0) = some r := h
  clear h
  have H' := Aside0.mk H
  clear H
  go_enter Tryd.func58, Tryd.ntmps58
  go_wp2
  go_loopg [3] k (fun kq v3 w' => ∃ (x3_1 : Int), v3 = .int .i64 x3_1 ∧ Aside0 (spec_l26Good.l0 kq l0 x3_1 = some r) ∧ Aside0 (kq ≤ k) ∧ Aside0 (Below w.heap.size w w'))
  case atStart => exact ⟨(0), (by first | rfl | (simp; done) | (simp [*]; done)), H', ⟨Nat.le_refl _⟩, ⟨by repeat (first | (with_reducible first | exact HB.out | apply below_alloc | apply pw_below_drewN | apply below_drew1) | exact HB.out)⟩⟩
  case round =>
    clear H'
    obtain ⟨x3_1, rfl, HA, HK1, HB⟩ := hrel
    cases gk with
    | zero => exact absurd HA.out (by simp [spec_l26Good.l0])
    | succ k1 =>
      have H := HA.out
      clear HA
      simp only [spec_l26Good.l0] at H
      by_cases c2 : x3_1 < (l0.length : Int)
      · rw [if_pos c2] at H
        have c2b0 : decide (x3_1 < (l0.length : Int)) = true := decide_eq_true c2
        clear c2
        by_cases c3 : 0 ≤ x3_1
        · rw [if_pos c3] at H
          have c3b0 : decide (0 ≤ x3_1) = true := decide_eq_true c3
          clear c3
          replace H := Option.bind_eq_some_iff.mp H
          obtain ⟨t136, A40, H⟩ := H
          replace H : (if t136 = true then (if x3_1 > 0 then (if 0 ≤ (wrap64 (x3_1 - 1)) then (if (wrap64 (x3_1 - 1)) < (l0.length : Int) then (if ((Op.bytesLess (((rd_T26 l0 (wrap64 (x3_1 - 1))).f0).toList) (((rd_T26 l0 x3_1).f0).toList)) = true) then (spec_l26Good.l0 k1 l0 (wrap64 (x3_1 + 1))) else (some false)) else (none)) else (none)) else (spec_l26Good.l0 k1 l0 (wrap64 (x3_1 + 1)))) else (some false)) = some r := H
          have A4 := Aside0.mk A40
          clear A40
          by_cases c5 : t136 = true
          · subst c5
            have H1 : (if x3_1 > 0 then (if 0 ≤ (wrap64 (x3_1 - 1)) then (if (wrap64 (x3_1 - 1)) < (l0.length : Int) then (if ((Op.bytesLess (((rd_T26 l0 (wrap64 (x3_1 - 1))).f0).toList) (((rd_T26 l0 x3_1).f0).toList)) = true) then (spec_l26Good.l0 k1 l0 (wrap64 (x3_1 + 1))) else (some false)) else (none)) else (none)) else (spec_l26Good.l0 k1 l0 (wrap64 (x3_1 + 1)))) = some r := by rw [if_pos rfl] at H; exact H
            clear H
            have H := H1
            clear H1
            by_cases c6 : x3_1 > 0
            · rw [if_pos c6] at H
              have c6b0 : decide (0 < x3_1) = true := decide_eq_true c6
              clear c6
              obtain ⟨ji7, hji7⟩ : ∃ j_ : Int, (wrap64 (x3_1 - 1)) = j_ := ⟨_, rfl⟩
              replace H : (if 0 ≤ (ji7) then (if (ji7) < (l0.length : Int) then (if ((Op.bytesLess (((rd_T26 l0 (ji7)).f0).toList) (((rd_T26 l0 x3_1).f0).toList)) = true) then (spec_l26Good.l0 k1 l0 (wrap64 (x3_1 + 1))) else (some false)) else (none)) else (none)) = some r := by first | (rw [hji7] at H; exact H) | (simp only [hji7] at H ⊢; exact H)
              (try rw [hji7] at A4)
              have hji7w : (IntKind.i64.wrap (x3_1 - 1)) = ji7 := (i64_w _).trans hji7
              by_cases c8 : 0 ≤ (ji7)
              · rw [if_pos c8] at H
                have c8b0 : decide (0 ≤ (ji7)) = true := decide_eq_true c8
                clear c8
                by_cases c9 : (ji7) < (l0.length : Int)
                · rw [if_pos c9] at H
                  have c9b0 : decide ((ji7) < (l0.length : Int)) = true := decide_eq_true c9
                  clear c9
                  by_cases c10 : ((Op.bytesLess (((rd_T26 l0 (ji7)).f0).toList) (((rd_T26 l0 x3_1).f0).toList)) = true)
                  · rw [if_pos c10] at H
                    have c10b0 : (Op.bytesLess (((rd_T26 l0 (ji7)).f0).toList) (((rd_T26 l0 x3_1).f0).toList)) = true := c10
                    clear c10
                    have H' := Aside0.mk H
                    clear H
                    try go_wp2
                    have n0_ := Aside0.mk (below_drew1 HB.out)
                    clear HB
                    have HB := n0_
                    clear n0_
                    have p135 : 0 ≤ (x3_1 : Int) := of_decide_eq_true (by first | (with_reducible assumption) | assumption)
                    have q135 : x3_1 < (l0.length : Int) := of_decide_eq_true (by first | (with_reducible assumption) | assumption)
                    obtain ⟨ad135, e135, hx135_0, hx135_1, hx135_2, hx135_3⟩ := at_T26 HR0.out x3_1 p135 q135
                    have hw135_3 := hx135_3
                    have hw135_2 := hx135_2
                    have hw135_1 := hx135_1
                    have hw135_0 := hx135_0
                    cases e135
                    replace hx135_0 := (HB.out.cell (World.block_lt_of_cell? w _ hx135_0)).trans hx135_0
                    replace hx135_1 := (HB.out.cell (World.block_lt_of_cell? w _ hx135_1)).trans hx135_1
                    replace hx135_2 := (HB.out.cell (World.block_lt_of_cell? w _ hx135_2)).trans hx135_2
                    replace hx135_3 := (HB.out.cell (World.block_lt_of_cell? w _ hx135_3)).trans hx135_3
                    replace p135 := eq_true p135
                    replace q135 := eq_true q135
                    have p137 : 0 ≤ ((ji7) : Int) := of_decide_eq_true (by first | (with_reducible assumption) | assumption)
                    have q137 : (ji7) < (l0.length : Int) := of_decide_eq_true (by first | (with_reducible assumption) | assumption)
                    obtain ⟨ad137, e137, hx137_0, hx137_1, hx137_2, hx137_3⟩ := at_T26 HR0.out (ji7) p137 q137
                    have hw137_3 := hx137_3
                    have hw137_2 := hx137_2
                    have hw137_1 := hx137_1
                    have hw137_0 := hx137_0
                    obtain rfl : ad135 = ad137 := (by injection e137)
                    replace hx137_0 := (HB.out.cell (World.block_lt_of_cell? w _ hx137_0)).trans hx137_0
                    replace hx137_1 := (HB.out.cell (World.block_lt_of_cell? w _ hx137_1)).trans hx137_1
                    replace hx137_2 := (HB.out.cell (World.block_lt_of_cell? w _ hx137_2)).trans hx137_2
                    replace hx137_3 := (HB.out.cell (World.block_lt_of_cell? w _ hx137_3)).trans hx137_3
                    replace p137 := eq_true p137
                    replace q137 := eq_true q137
                    have p138 : 0 ≤ (x3_1 : Int) := of_decide_eq_true (by first | (with_reducible assumption) | assumption)
                    have q138 : x3_1 < (l0.length : Int) := of_decide_eq_true (by first | (with_reducible assumption) | assumption)
                    obtain ⟨ad138, e138, hx138_0, hx138_1, hx138_2, hx138_3⟩ := at_T26 HR0.out x3_1 p138 q138
                    have hw138_3 := hx138_3
                    have hw138_2 := hx138_2
                    have hw138_1 := hx138_1
                    have hw138_0 := hx138_0
                    obtain rfl : ad135 = ad138 := (by injection e138)
                    replace hx138_0 := (HB.out.cell (World.block_lt_of_cell? w _ hx138_0)).trans hx138_0
                    replace hx138_1 := (HB.out.cell (World.block_lt_of_cell? w _ hx138_1)).trans hx138_1
                    replace hx138_2 := (HB.out.cell (World.block_lt_of_cell? w _ hx138_2)).trans hx138_2
                    replace hx138_3 := (HB.out.cell (World.block_lt_of_cell? w _ hx138_3)).trans hx138_3
                    replace p138 := eq_true p138
                    replace q138 := eq_true q138
                    refine start_ (n := 24) (S := fun w' => w'.cell? (ad135.add ((x3_1).toNat * 4)) = some (.string ((rd_T26 l0 x3_1).f0)) ∧ w'.cell? ⟨(ad135.add ((x3_1).toNat * 4)).block, (ad135.add ((x3_1).toNat * 4)).off + 1, none⟩ = some (.int .i64 ((rd_T26 l0 x3_1).f1)) ∧ w'.cell? ⟨(ad135.add ((x3_1).toNat * 4)).block, (ad135.add ((x3_1).toNat * 4)).off + 2, none⟩ = some (.int .i64 ((rd_T26 l0 x3_1).f2)) ∧ w'.cell? ⟨(ad135.add ((x3_1).toNat * 4)).block, (ad135.add ((x3_1).toNat * 4)).off + 3, none⟩ = some (.int .i64 ((rd_T26 l0 x3_1).f3)) ∧ w'.cell? (ad135.add (((ji7)).toNat * 4)) = some (.string ((rd_T26 l0 (ji7)).f0)) ∧ w'.cell? ⟨(ad135.add (((ji7)).toNat * 4)).block, (ad135.add (((ji7)).toNat * 4)).off + 1, none⟩ = some (.int .i64 ((rd_T26 l0 (ji7)).f1)) ∧ w'.cell? ⟨(ad135.add (((ji7)).toNat * 4)).block, (ad135.add (((ji7)).toNat * 4)).off + 2, none⟩ = some (.int .i64 ((rd_T26 l0 (ji7)).f2)) ∧ w'.cell? ⟨(ad135.add (((ji7)).toNat * 4)).block, (ad135.add (((ji7)).toNat * 4)).off + 3, none⟩ = some (.int .i64 ((rd_T26 l0 (ji7)).f3)) ∧ w'.cell? (ad135.add ((x3_1).toNat * 4)) = some (.string ((rd_T26 l0 x3_1).f0)) ∧ w'.cell? ⟨(ad135.add ((x3_1).toNat * 4)).block, (ad135.add ((x3_1).toNat * 4)).off + 1, none⟩ = some (.int .i64 ((rd_T26 l0 x3_1).f1)) ∧ w'.cell? ⟨(ad135.add ((x3_1).toNat * 4)).block, (ad135.add ((x3_1).toNat * 4)).off + 2, none⟩ = some (.int .i64 ((rd_T26 l0 x3_1).f2)) ∧ w'.cell? ⟨(ad135.add ((x3_1).toNat * 4)).block, (ad135.add ((x3_1).toNat * 4)).off + 3, none⟩ = some (.int .i64 ((rd_T26 l0 x3_1).f3))) (ds := []) #[false, false, false, false, false, false, false, false, false, false, false, false, false, false, false, false, false, false, false, false, false, false, false, false] (by kernel_rfl) rfl rfl ⟨((HB.out.cell (World.block_lt_of_cell? w _ hw135_0)).trans hw135_0), ((HB.out.cell (World.block_lt_of_cell? w _ hw135_1)).trans hw135_1), ((HB.out.cell (World.block_lt_of_cell? w _ hw135_2)).trans hw135_2), ((HB.out.cell (World.block_lt_of_cell? w _ hw135_3)).trans hw135_3), ((HB.out.cell (World.block_lt_of_cell? w _ hw137_0)).trans hw137_0), ((HB.out.cell (World.block_lt_of_cell? w _ hw137_1)).trans hw137_1), ((HB.out.cell (World.block_lt_of_cell? w _ hw137_2)).trans hw137_2), ((HB.out.cell (World.block_lt_of_cell? w _ hw137_3)).trans hw137_3), ((HB.out.cell (World.block_lt_of_cell? w _ hw138_0)).trans hw138_0), ((HB.out.cell (World.block_lt_of_cell? w _ hw138_1)).trans hw138_1), ((HB.out.cell (World.block_lt_of_cell? w _ hw138_2)).trans hw138_2), ((HB.out.cell (World.block_lt_of_cell? w _ hw138_3)).trans hw138_3)⟩ (fun hHeld => ?_); refine with_tabW spec_l26Good.tab4 spec_l26Good.bits4 (fun HT_ HW_ => ?_)
                    generalize wr.drew = w11 at HB hx135_0 hx135_1 hx135_2 hx135_3 hx137_0 hx137_1 hx137_2 hx137_3 hx138_0 hx138_1 hx138_2 hx138_3 hHeld ⊢
                    refine pure_ (i := 0) (N := some 10) (v := ?_) (a' := ?_) #[true, false, false, false, false, false, false, false, false, false, false, false, false, false, false, false, false, false, false, false, false, false, false, false] rfl rfl (any_of HT_.out (by kernel_rfl)) (fun _ _ _ h => h) (Or.inl ⟨by rfl, ?_⟩) ?_ ?_
                    rotate_left
                    · intro w'
                      go_simp
                      first | with_reducible rfl | (rw [if_neg (by simp only [ByteArray.size_append, ByteArray.size_extract, show ∀ (a : UInt8) (l : List UInt8), (⟨⟨a :: l⟩⟩ : ByteArray).size = l.length + 1 from fun _ _ => rfl, List.length_cons, List.length_nil] at *; omega)]; done) | (rw [if_neg (by simp only [ByteArray.size_append, ByteArray.size_extract, show ∀ (a : UInt8) (l : List UInt8), (⟨⟨a :: l⟩⟩ : ByteArray).size = l.length + 1 from fun _ _ => rfl, List.length_cons, List.length_nil] at *; omega)]; with_reducible rfl)
                    rotate_left
                    · simp only [Act.put, List.setIfInBounds_toArray, List.set_cons_zero, List.set_cons_succ, i64_w, i32_w]
                      rfl
                    refine pure_ (i := 1) (N := some 11) (v := ?_) (a' := ?_) #[true, true, false, false, false, false, false, false, false, false, false, false, false, false, false, false, false, false, false, false, false, false, false, false] rfl rfl (any_of HT_.out (by kernel_rfl)) (fun _ _ _ h => h) (Or.inl ⟨by rfl, ?_⟩) ?_ ?_
                    rotate_left
                    · intro w'
                      go_simp
                      first | with_reducible rfl | (rw [if_neg (by simp only [ByteArray.size_append, ByteArray.size_extract, show ∀ (a : UInt8) (l : List UInt8), (⟨⟨a :: l⟩⟩ : ByteArray).size = l.length + 1 from fun _ _ => rfl, List.length_cons, List.length_nil] at *; omega)]; done) | (rw [if_neg (by simp only [ByteArray.size_append, ByteArray.size_extract, show ∀ (a : UInt8) (l : List UInt8), (⟨⟨a :: l⟩⟩ : ByteArray).size = l.length + 1 from fun _ _ => rfl, List.length_cons, List.length_nil] at *; omega)]; with_reducible rfl)
                    rotate_left
                    · simp only [Act.put, List.setIfInBounds_toArray, List.set_cons_zero, List.set_cons_succ, i64_w, i32_w]
                      rfl
                    refine pure_ (i := 2) (N := some 12) (v := ?_) (a' := ?_) #[true, true, true, false, false, false, false, false, false, false, false, false, false, false, false, false, false, false, false, false, false, false, false, false] rfl rfl (any_of HT_.out (by kernel_rfl)) (fun _ _ _ h => h) (Or.inl ⟨by rfl, ?_⟩) ?_ ?_
                    rotate_left
                    · intro w'
                      go_simp
                      first | with_reducible rfl | (rw [if_neg (by simp only [ByteArray.size_append, ByteArray.size_extract, show ∀ (a : UInt8) (l : List UInt8), (⟨⟨a :: l⟩⟩ : ByteArray).size = l.length + 1 from fun _ _ => rfl, List.length_cons, List.length_nil] at *; omega)]; done) | (rw [if_neg (by simp only [ByteArray.size_append, ByteArray.size_extract, show ∀ (a : UInt8) (l : List UInt8), (⟨⟨a :: l⟩⟩ : ByteArray).size = l.length + 1 from fun _ _ => rfl, List.length_cons, List.length_nil] at *; omega)]; with_reducible rfl)
                    rotate_left
                    · simp only [Act.put, List.setIfInBounds_toArray, List.set_cons_zero, List.set_cons_succ, i64_w, i32_w]
                      rfl
                    refine take_ (i := 3) (N := some 13) (v := ?_) (a' := ?_) #[true, true, true, true, false, false, false, false, false, false, false, false, false, false, false, false, false, false, false, false, false, false, false, false] rfl rfl (take_ofW HT_.out HW_.out (by kernel_rfl)) (fun _ _ _ h => h) (Or.inl ⟨by rfl, ?_⟩) hHeld ?_ ?_
                    rotate_left
                    · rintro w' ⟨s0, s1, s2, s3, s4, s5, s6, s7, s8, s9, s10, s11⟩
                      go_simp
                      first | with_reducible rfl | (rw [if_neg (by simp only [ByteArray.size_append, ByteArray.size_extract, show ∀ (a : UInt8) (l : List UInt8), (⟨⟨a :: l⟩⟩ : ByteArray).size = l.length + 1 from fun _ _ => rfl, List.length_cons, List.length_nil] at *; omega)]; done) | (rw [if_neg (by simp only [ByteArray.size_append, ByteArray.size_extract, show ∀ (a : UInt8) (l : List UInt8), (⟨⟨a :: l⟩⟩ : ByteArray).size = l.length + 1 from fun _ _ => rfl, List.length_cons, List.length_nil] at *; omega)]; with_reducible rfl)
                    rotate_left
                    · simp only [Act.put, List.setIfInBounds_toArray, List.set_cons_zero, List.set_cons_succ, i64_w, i32_w]
                      rfl
                    refine one_ (i := 4) (N := some 14) #[true, true, true, true, true, false, false, false, false, false, false, false, false, false, false, false, false, false, false, false, false, false, false, false] rfl rfl (one_of HT_.out (by kernel_rfl)) (by decide) (fun K hK => ?_)
                    refine goes_ Tryd.func55 (by kernel_rfl) rfl #[.agg #[.string ((rd_T26 l0 x3_1).f0), .int .i64 ((rd_T26 l0 x3_1).f1), .int .i64 ((rd_T26 l0 x3_1).f2), .int .i64 ((rd_T26 l0 x3_1).f3)]] (by rfl) rfl rfl (by (try simp only [List.map_toArray, List.map_cons, List.map_nil]); first | done | rfl | (simp only [List.length_drop, List.length_take]; rfl)) ?_
                    with_reducible refine (spec_l26One.calls k1 ((rd_T26 l0 x3_1).f0) ((rd_T26 l0 x3_1).f1) ((rd_T26 l0 x3_1).f2) ((rd_T26 l0 x3_1).f3) true _ A4.out).mono ?_
                    rintro e w12 ⟨rfl, hb⟩
                    refine ⟨_, rfl, ?_⟩
                    have n0_ := Aside0.mk (below_step (by repeat (first | (with_reducible first | exact HB.out | apply below_alloc | apply pw_below_drewN | apply below_drew1) | exact HB.out)) hb)
                    clear HB
                    have HB := n0_
                    clear n0_
                    (try clear hb)
                    (try clear hb2)
                    (try clear hk)
                    (try clear hi)
                    refine hK.out _ _ ⟨((HB.out.cell (World.block_lt_of_cell? w _ hw135_0)).trans hw135_0), ((HB.out.cell (World.block_lt_of_cell? w _ hw135_1)).trans hw135_1), ((HB.out.cell (World.block_lt_of_cell? w _ hw135_2)).trans hw135_2), ((HB.out.cell (World.block_lt_of_cell? w _ hw135_3)).trans hw135_3), ((HB.out.cell (World.block_lt_of_cell? w _ hw137_0)).trans hw137_0), ((HB.out.cell (World.block_lt_of_cell? w _ hw137_1)).trans hw137_1), ((HB.out.cell (World.block_lt_of_cell? w _ hw137_2)).trans hw137_2), ((HB.out.cell (World.block_lt_of_cell? w _ hw137_3)).trans hw137_3), ((HB.out.cell (World.block_lt_of_cell? w _ hw138_0)).trans hw138_0), ((HB.out.cell (World.block_lt_of_cell? w _ hw138_1)).trans hw138_1), ((HB.out.cell (World.block_lt_of_cell? w _ hw138_2)).trans hw138_2), ((HB.out.cell (World.block_lt_of_cell? w _ hw138_3)).trans hw138_3)⟩ (fun hHeld => ?_)
                    clear hK K
                    refine norm_ (a' := ?_) ?_ ?_
                    rotate_left
                    · show Act.put _ (some 14) _ = _
                      simp only [Act.put, List.setIfInBounds_toArray, List.set_cons_zero, List.set_cons_succ, i64_w, i32_w]
                      rfl
                    refine pure_ (i := 5) (N := some 15) (v := ?_) (a' := ?_) #[true, true, true, true, true, true, false, false, false, false, false, false, false, false, false, false, false, false, false, false, false, false, false, false] rfl rfl (any_of HT_.out (by kernel_rfl)) (fun _ _ _ h => h) (Or.inl ⟨by rfl, ?_⟩) ?_ ?_
                    rotate_left
                    · intro w'
                      go_simp
                      first | with_reducible rfl | (rw [if_neg (by simp only [ByteArray.size_append, ByteArray.size_extract, show ∀ (a : UInt8) (l : List UInt8), (⟨⟨a :: l⟩⟩ : ByteArray).size = l.length + 1 from fun _ _ => rfl, List.length_cons, List.length_nil] at *; omega)]; done) | (rw [if_neg (by simp only [ByteArray.size_append, ByteArray.size_extract, show ∀ (a : UInt8) (l : List UInt8), (⟨⟨a :: l⟩⟩ : ByteArray).size = l.length + 1 from fun _ _ => rfl, List.length_cons, List.length_nil] at *; omega)]; with_reducible rfl)
                    rotate_left
                    · simp only [Act.put, List.setIfInBounds_toArray, List.set_cons_zero, List.set_cons_succ, i64_w, i32_w]
                      rfl
                    refine pure_ (i := 6) (N := some 16) (v := ?_) (a' := ?_) #[true, true, true, true, true, true, true, false, false, false, false, false, false, false, false, false, false, false, false, false, false, false, false, false] rfl rfl (any_of HT_.out (by kernel_rfl)) (fun _ _ _ h => h) (Or.inl ⟨by rfl, ?_⟩) ?_ ?_
                    rotate_left
                    · intro w'
                      go_simp
                      first | with_reducible rfl | (rw [if_neg (by simp only [ByteArray.size_append, ByteArray.size_extract, show ∀ (a : UInt8) (l : List UInt8), (⟨⟨a :: l⟩⟩ : ByteArray).size = l.length + 1 from fun _ _ => rfl, List.length_cons, List.length_nil] at *; omega)]; done) | (rw [if_neg (by simp only [ByteArray.size_append, ByteArray.size_extract, show ∀ (a : UInt8) (l : List UInt8), (⟨⟨a :: l⟩⟩ : ByteArray).size = l.length + 1 from fun _ _ => rfl, List.length_cons, List.length_nil] at *; omega)]; with_reducible rfl)
                    rotate_left
                    · simp only [Act.put, List.setIfInBounds_toArray, List.set_cons_zero, List.set_cons_succ, i64_w, i32_w]
                      rfl
                    refine pure_ (i := 7) (N := some 17) (v := ?_) (a' := ?_) #[true, true, true, true, true, true, true, true, false, false, false, false, false, false, false, false, false, false, false, false, false, false, false, false] rfl rfl (any_of HT_.out (by kernel_rfl)) (fun _ _ _ h => h) (Or.inl ⟨by rfl, ?_⟩) ?_ ?_
                    rotate_left
                    · intro w'
                      go_simp
                      first | with_reducible rfl | (rw [if_neg (by simp only [ByteArray.size_append, ByteArray.size_extract, show ∀ (a : UInt8) (l : List UInt8), (⟨⟨a :: l⟩⟩ : ByteArray).size = l.length + 1 from fun _ _ => rfl, List.length_cons, List.length_nil] at *; omega)]; done) | (rw [if_neg (by simp only [ByteArray.size_append, ByteArray.size_extract, show ∀ (a : UInt8) (l : List UInt8), (⟨⟨a :: l⟩⟩ : ByteArray).size = l.length + 1 from fun _ _ => rfl, List.length_cons, List.length_nil] at *; omega)]; with_reducible rfl)
                    rotate_left
                    · simp only [Act.put, List.setIfInBounds_toArray, List.set_cons_zero, List.set_cons_succ, i64_w, i32_w]
                      rfl
                    refine pure_ (i := 8) (N := some 18) (v := ?_) (a' := ?_) #[true, true, true, true, true, true, true, true, true, false, false, false, false, false, false, false, false, false, false, false, false, false, false, false] rfl rfl (any_of HT_.out (by kernel_rfl)) (fun _ _ _ h => h) (Or.inl ⟨by rfl, ?_⟩) ?_ ?_
                    rotate_left
                    · intro w'
                      go_simp
                      first | with_reducible rfl | (rw [if_neg (by simp only [ByteArray.size_append, ByteArray.size_extract, show ∀ (a : UInt8) (l : List UInt8), (⟨⟨a :: l⟩⟩ : ByteArray).size = l.length + 1 from fun _ _ => rfl, List.length_cons, List.length_nil] at *; omega)]; done) | (rw [if_neg (by simp only [ByteArray.size_append, ByteArray.size_extract, show ∀ (a : UInt8) (l : List UInt8), (⟨⟨a :: l⟩⟩ : ByteArray).size = l.length + 1 from fun _ _ => rfl, List.length_cons, List.length_nil] at *; omega)]; with_reducible rfl)
                    rotate_left
                    · simp only [Act.put, List.setIfInBounds_toArray, List.set_cons_zero, List.set_cons_succ, i64_w, i32_w]
                      rfl
                    refine pure_ (i := 9) (N := some 19) (v := ?_) (a' := ?_) #[true, true, true, true, true, true, true, true, true, true, false, false, false, false, false, false, false, false, false, false, false, false, false, false] rfl rfl (any_of HT_.out (by kernel_rfl)) (fun _ _ _ h => h) (Or.inl ⟨by rfl, ?_⟩) ?_ ?_
                    rotate_left
                    · intro w'
                      go_simp
                      first | with_reducible rfl | (rw [if_neg (by simp only [ByteArray.size_append, ByteArray.size_extract, show ∀ (a : UInt8) (l : List UInt8), (⟨⟨a :: l⟩⟩ : ByteArray).size = l.length + 1 from fun _ _ => rfl, List.length_cons, List.length_nil] at *; omega)]; done) | (rw [if_neg (by simp only [ByteArray.size_append, ByteArray.size_extract, show ∀ (a : UInt8) (l : List UInt8), (⟨⟨a :: l⟩⟩ : ByteArray).size = l.length + 1 from fun _ _ => rfl, List.length_cons, List.length_nil] at *; omega)]; with_reducible rfl)
                    rotate_left
                    · simp only [Act.put, List.setIfInBounds_toArray, List.set_cons_zero, List.set_cons_succ, i64_w, i32_w]
                      rfl
                    refine pure_ (i := 10) (N := some 20) (v := ?_) (a' := ?_) #[true, true, true, true, true, true, true, true, true, true, true, false, false, false, false, false, false, false, false, false, false, false, false, false] rfl rfl (any_of HT_.out (by kernel_rfl)) (fun _ _ _ h => h) (Or.inl ⟨by rfl, ?_⟩) ?_ ?_
                    rotate_left
                    · intro w'
                      go_simp
                      first | with_reducible rfl | (rw [if_neg (by simp only [ByteArray.size_append, ByteArray.size_extract, show ∀ (a : UInt8) (l : List UInt8), (⟨⟨a :: l⟩⟩ : ByteArray).size = l.length + 1 from fun _ _ => rfl, List.length_cons, List.length_nil] at *; omega)]; done) | (rw [if_neg (by simp only [ByteArray.size_append, ByteArray.size_extract, show ∀ (a : UInt8) (l : List UInt8), (⟨⟨a :: l⟩⟩ : ByteArray).size = l.length + 1 from fun _ _ => rfl, List.length_cons, List.length_nil] at *; omega)]; with_reducible rfl)
                    rotate_left
                    · simp only [Act.put, List.setIfInBounds_toArray, List.set_cons_zero, List.set_cons_succ, i64_w, i32_w]
                      rfl
                    refine pure_ (i := 11) (N := some 21) (v := ?_) (a' := ?_) #[true, true, true, true, true, true, true, true, true, true, true, true, false, false, false, false, false, false, false, false, false, false, false, false] rfl rfl (any_of HT_.out (by kernel_rfl)) (fun _ _ _ h => h) (Or.inl ⟨by rfl, ?_⟩) ?_ ?_
                    rotate_left
                    · intro w'
                      go_simp
                      first | with_reducible rfl | (rw [if_neg (by simp only [ByteArray.size_append, ByteArray.size_extract, show ∀ (a : UInt8) (l : List UInt8), (⟨⟨a :: l⟩⟩ : ByteArray).size = l.length + 1 from fun _ _ => rfl, List.length_cons, List.length_nil] at *; omega)]; done) | (rw [if_neg (by simp only [ByteArray.size_append, ByteArray.size_extract, show ∀ (a : UInt8) (l : List UInt8), (⟨⟨a :: l⟩⟩ : ByteArray).size = l.length + 1 from fun _ _ => rfl, List.length_cons, List.length_nil] at *; omega)]; with_reducible rfl)
                    rotate_left
                    · simp only [Act.put, List.setIfInBounds_toArray, List.set_cons_zero, List.set_cons_succ, i64_w, i32_w]
                      rfl
                    refine pure_ (i := 12) (N := some 22) (v := ?_) (a' := ?_) #[true, true, true, true, true, true, true, true, true, true, true, true, true, false, false, false, false, false, false, false, false, false, false, false] rfl rfl (any_of HT_.out (by kernel_rfl)) (fun _ _ _ h => h) (Or.inl ⟨by rfl, ?_⟩) ?_ ?_
                    rotate_left
                    · intro w'
                      go_simp
                      first | with_reducible rfl | (rw [if_neg (by simp only [ByteArray.size_append, ByteArray.size_extract, show ∀ (a : UInt8) (l : List UInt8), (⟨⟨a :: l⟩⟩ : ByteArray).size = l.length + 1 from fun _ _ => rfl, List.length_cons, List.length_nil] at *; omega)]; done) | (rw [if_neg (by simp only [ByteArray.size_append, ByteArray.size_extract, show ∀ (a : UInt8) (l : List UInt8), (⟨⟨a :: l⟩⟩ : ByteArray).size = l.length + 1 from fun _ _ => rfl, List.length_cons, List.length_nil] at *; omega)]; with_reducible rfl)
                    rotate_left
                    · simp only [Act.put, List.setIfInBounds_toArray, List.set_cons_zero, List.set_cons_succ, i64_w, i32_w]
                      rfl
                    refine pure_ (i := 13) (N := some 23) (v := ?_) (a' := ?_) #[true, true, true, true, true, true, true, true, true, true, true, true, true, true, false, false, false, false, false, false, false, false, false, false] rfl rfl (any_of HT_.out (by kernel_rfl)) (fun _ _ _ h => h) (Or.inl ⟨by rfl, ?_⟩) ?_ ?_
                    rotate_left
                    · intro w'
                      go_simp
                      first | with_reducible rfl | (rw [if_neg (by simp only [ByteArray.size_append, ByteArray.size_extract, show ∀ (a : UInt8) (l : List UInt8), (⟨⟨a :: l⟩⟩ : ByteArray).size = l.length + 1 from fun _ _ => rfl, List.length_cons, List.length_nil] at *; omega)]; done) | (rw [if_neg (by simp only [ByteArray.size_append, ByteArray.size_extract, show ∀ (a : UInt8) (l : List UInt8), (⟨⟨a :: l⟩⟩ : ByteArray).size = l.length + 1 from fun _ _ => rfl, List.length_cons, List.length_nil] at *; omega)]; with_reducible rfl)
                    rotate_left
                    · simp only [Act.put, List.setIfInBounds_toArray, List.set_cons_zero, List.set_cons_succ, i64_w, i32_w]
                      rfl
                    refine pure_ (i := 14) (N := some 24) (v := ?_) (a' := ?_) #[true, true, true, true, true, true, true, true, true, true, true, true, true, true, true, false, false, false, false, false, false, false, false, false] rfl rfl (any_of HT_.out (by kernel_rfl)) (fun _ _ _ h => h) (Or.inl ⟨by rfl, ?_⟩) ?_ ?_
                    rotate_left
                    · intro w'
                      go_simp
                      first | with_reducible rfl | (rw [if_neg (by simp only [ByteArray.size_append, ByteArray.size_extract, show ∀ (a : UInt8) (l : List UInt8), (⟨⟨a :: l⟩⟩ : ByteArray).size = l.length + 1 from fun _ _ => rfl, List.length_cons, List.length_nil] at *; omega)]; done) | (rw [if_neg (by simp only [ByteArray.size_append, ByteArray.size_extract, show ∀ (a : UInt8) (l : List UInt8), (⟨⟨a :: l⟩⟩ : ByteArray).size = l.length + 1 from fun _ _ => rfl, List.length_cons, List.length_nil] at *; omega)]; with_reducible rfl)
                    rotate_left
                    · simp only [Act.put, List.setIfInBounds_toArray, List.set_cons_zero, List.set_cons_succ, i64_w, i32_w]
                      rfl
                    refine pure_ (i := 16) (N := some 26) (v := ?_) (a' := ?_) #[true, true, true, true, true, true, true, true, true, true, true, true, true, true, true, false, true, false, false, false, false, false, false, false] rfl rfl (any_of HT_.out (by kernel_rfl)) (fun _ _ _ h => h) (Or.inl ⟨by rfl, ?_⟩) ?_ ?_
                    rotate_left
                    · intro w'
                      go_simp
                      first | with_reducible rfl | (rw [if_neg (by simp only [ByteArray.size_append, ByteArray.size_extract, show ∀ (a : UInt8) (l : List UInt8), (⟨⟨a :: l⟩⟩ : ByteArray).size = l.length + 1 from fun _ _ => rfl, List.length_cons, List.length_nil] at *; omega)]; done) | (rw [if_neg (by simp only [ByteArray.size_append, ByteArray.size_extract, show ∀ (a : UInt8) (l : List UInt8), (⟨⟨a :: l⟩⟩ : ByteArray).size = l.length + 1 from fun _ _ => rfl, List.length_cons, List.length_nil] at *; omega)]; with_reducible rfl)
                    rotate_left
                    · simp only [Act.put, List.setIfInBounds_toArray, List.set_cons_zero, List.set_cons_succ, i64_w, i32_w]
                      rfl
                    refine pure_ (i := 17) (N := some 27) (v := ?_) (a' := ?_) #[true, true, true, true, true, true, true, true, true, true, true, true, true, true, true, false, true, true, false, false, false, false, false, false] rfl rfl (any_of HT_.out (by kernel_rfl)) (fun _ _ _ h => h) (Or.inl ⟨by rfl, ?_⟩) ?_ ?_
                    rotate_left
                    · intro w'
                      go_simp
                      first | with_reducible rfl | (rw [if_neg (by simp only [ByteArray.size_append, ByteArray.size_extract, show ∀ (a : UInt8) (l : List UInt8), (⟨⟨a :: l⟩⟩ : ByteArray).size = l.length + 1 from fun _ _ => rfl, List.length_cons, List.length_nil] at *; omega)]; done) | (rw [if_neg (by simp only [ByteArray.size_append, ByteArray.size_extract, show ∀ (a : UInt8) (l : List UInt8), (⟨⟨a :: l⟩⟩ : ByteArray).size = l.length + 1 from fun _ _ => rfl, List.length_cons, List.length_nil] at *; omega)]; with_reducible rfl)
                    rotate_left
                    · simp only [Act.put, List.setIfInBounds_toArray, List.set_cons_zero, List.set_cons_succ, i64_w, i32_w]
                      rfl
                    refine pure_ (i := 18) (N := some 28) (v := ?_) (a' := ?_) #[true, true, true, true, true, true, true, true, true, true, true, true, true, true, true, false, true, true, true, false, false, false, false, false] rfl rfl (any_of HT_.out (by kernel_rfl)) (fun _ _ _ h => h) (Or.inl ⟨by rfl, ?_⟩) ?_ ?_
                    rotate_left
                    · intro w'
                      go_simp
                      first | with_reducible rfl | (rw [if_neg (by simp only [ByteArray.size_append, ByteArray.size_extract, show ∀ (a : UInt8) (l : List UInt8), (⟨⟨a :: l⟩⟩ : ByteArray).size = l.length + 1 from fun _ _ => rfl, List.length_cons, List.length_nil] at *; omega)]; done) | (rw [if_neg (by simp only [ByteArray.size_append, ByteArray.size_extract, show ∀ (a : UInt8) (l : List UInt8), (⟨⟨a :: l⟩⟩ : ByteArray).size = l.length + 1 from fun _ _ => rfl, List.length_cons, List.length_nil] at *; omega)]; with_reducible rfl)
                    rotate_left
                    · simp only [Act.put, List.setIfInBounds_toArray, List.set_cons_zero, List.set_cons_succ, i64_w, i32_w]
                      rfl
                    refine pure_ (i := 19) (N := some 29) (v := ?_) (a' := ?_) #[true, true, true, true, true, true, true, true, true, true, true, true, true, true, true, false, true, true, true, true, false, false, false, false] rfl rfl (any_of HT_.out (by kernel_rfl)) (fun _ _ _ h => h) (Or.inl ⟨by rfl, ?_⟩) ?_ ?_
                    rotate_left
                    · intro w'
                      go_simp
                      first | with_reducible rfl | (rw [if_neg (by simp only [ByteArray.size_append, ByteArray.size_extract, show ∀ (a : UInt8) (l : List UInt8), (⟨⟨a :: l⟩⟩ : ByteArray).size = l.length + 1 from fun _ _ => rfl, List.length_cons, List.length_nil] at *; omega)]; done) | (rw [if_neg (by simp only [ByteArray.size_append, ByteArray.size_extract, show ∀ (a : UInt8) (l : List UInt8), (⟨⟨a :: l⟩⟩ : ByteArray).size = l.length + 1 from fun _ _ => rfl, List.length_cons, List.length_nil] at *; omega)]; with_reducible rfl)
                    rotate_left
                    · simp only [Act.put, List.setIfInBounds_toArray, List.set_cons_zero, List.set_cons_succ, i64_w, i32_w]
                      rfl
                    refine take_ (i := 15) (N := some 25) (v := ?_) (a' := ?_) #[true, true, true, true, true, true, true, true, true, true, true, true, true, true, true, true, true, true, true, true, false, false, false, false] rfl rfl (take_ofW HT_.out HW_.out (by kernel_rfl)) (fun _ _ _ h => h) (Or.inl ⟨by rfl, ?_⟩) hHeld ?_ ?_
                    rotate_left
                    · rintro w' ⟨s0, s1, s2, s3, s4, s5, s6, s7, s8, s9, s10, s11⟩
                      go_simp
                      first | with_reducible rfl | (rw [if_neg (by simp only [ByteArray.size_append, ByteArray.size_extract, show ∀ (a : UInt8) (l : List UInt8), (⟨⟨a :: l⟩⟩ : ByteArray).size = l.length + 1 from fun _ _ => rfl, List.length_cons, List.length_nil] at *; omega)]; done) | (rw [if_neg (by simp only [ByteArray.size_append, ByteArray.size_extract, show ∀ (a : UInt8) (l : List UInt8), (⟨⟨a :: l⟩⟩ : ByteArray).size = l.length + 1 from fun _ _ => rfl, List.length_cons, List.length_nil] at *; omega)]; with_reducible rfl)
                    rotate_left
                    · simp only [Act.put, List.setIfInBounds_toArray, List.set_cons_zero, List.set_cons_succ, i64_w, i32_w]
                      rfl
                    refine take_ (i := 20) (N := some 30) (v := ?_) (a' := ?_) #[true, true, true, true, true, true, true, true, true, true, true, true, true, true, true, true, true, true, true, true, true, false, false, false] rfl rfl (take_ofW HT_.out HW_.out (by kernel_rfl)) (fun _ _ _ h => h) (Or.inl ⟨by rfl, ?_⟩) hHeld ?_ ?_
                    rotate_left
                    · rintro w' ⟨s0, s1, s2, s3, s4, s5, s6, s7, s8, s9, s10, s11⟩
                      go_simp
                      first | with_reducible rfl | (rw [if_neg (by simp only [ByteArray.size_append, ByteArray.size_extract, show ∀ (a : UInt8) (l : List UInt8), (⟨⟨a :: l⟩⟩ : ByteArray).size = l.length + 1 from fun _ _ => rfl, List.length_cons, List.length_nil] at *; omega)]; done) | (rw [if_neg (by simp only [ByteArray.size_append, ByteArray.size_extract, show ∀ (a : UInt8) (l : List UInt8), (⟨⟨a :: l⟩⟩ : ByteArray).size = l.length + 1 from fun _ _ => rfl, List.length_cons, List.length_nil] at *; omega)]; with_reducible rfl)
                    rotate_left
                    · simp only [Act.put, List.setIfInBounds_toArray, List.set_cons_zero, List.set_cons_succ, i64_w, i32_w]
                      rfl
                    refine pure_ (i := 21) (N := some 31) (v := ?_) (a' := ?_) #[true, true, true, true, true, true, true, true, true, true, true, true, true, true, true, true, true, true, true, true, true, true, false, false] rfl rfl (any_of HT_.out (by kernel_rfl)) (fun _ _ _ h => h) (Or.inl ⟨by rfl, ?_⟩) ?_ ?_
                    rotate_left
                    · intro w'
                      go_simp
                      first | with_reducible rfl | (rw [if_neg (by simp only [ByteArray.size_append, ByteArray.size_extract, show ∀ (a : UInt8) (l : List UInt8), (⟨⟨a :: l⟩⟩ : ByteArray).size = l.length + 1 from fun _ _ => rfl, List.length_cons, List.length_nil] at *; omega)]; done) | (rw [if_neg (by simp only [ByteArray.size_append, ByteArray.size_extract, show ∀ (a : UInt8) (l : List UInt8), (⟨⟨a :: l⟩⟩ : ByteArray).size = l.length + 1 from fun _ _ => rfl, List.length_cons, List.length_nil] at *; omega)]; with_reducible rfl)
                    rotate_left
                    · simp only [Act.put, List.setIfInBounds_toArray, List.set_cons_zero, List.set_cons_succ, i64_w, i32_w]
                      rfl
                    refine pure_ (i := 22) (N := some 32) (v := ?_) (a' := ?_) #[true, true, true, true, true, true, true, true, true, true, true, true, true, true, true, true, true, true, true, true, true, true, true, false] rfl rfl (any_of HT_.out (by kernel_rfl)) (fun _ _ _ h => h) (Or.inl ⟨by rfl, ?_⟩) ?_ ?_
                    rotate_left
                    · intro w'
                      go_simp
                      first | with_reducible rfl | (rw [if_neg (by simp only [ByteArray.size_append, ByteArray.size_extract, show ∀ (a : UInt8) (l : List UInt8), (⟨⟨a :: l⟩⟩ : ByteArray).size = l.length + 1 from fun _ _ => rfl, List.length_cons, List.length_nil] at *; omega)]; done) | (rw [if_neg (by simp only [ByteArray.size_append, ByteArray.size_extract, show ∀ (a : UInt8) (l : List UInt8), (⟨⟨a :: l⟩⟩ : ByteArray).size = l.length + 1 from fun _ _ => rfl, List.length_cons, List.length_nil] at *; omega)]; with_reducible rfl)
                    rotate_left
                    · simp only [Act.put, List.setIfInBounds_toArray, List.set_cons_zero, List.set_cons_succ, i64_w, i32_w]
                      rfl
                    refine pure_ (i := 23) (N := some 33) (v := ?_) (a' := ?_) #[true, true, true, true, true, true, true, true, true, true, true, true, true, true, true, true, true, true, true, true, true, true, true, true] rfl rfl (any_of HT_.out (by kernel_rfl)) (fun _ _ _ h => h) (Or.inl ⟨by rfl, ?_⟩) ?_ ?_
                    rotate_left
                    · intro w'
                      go_simp
                      first | with_reducible rfl | (rw [if_neg (by simp only [ByteArray.size_append, ByteArray.size_extract, show ∀ (a : UInt8) (l : List UInt8), (⟨⟨a :: l⟩⟩ : ByteArray).size = l.length + 1 from fun _ _ => rfl, List.length_cons, List.length_nil] at *; omega)]; done) | (rw [if_neg (by simp only [ByteArray.size_append, ByteArray.size_extract, show ∀ (a : UInt8) (l : List UInt8), (⟨⟨a :: l⟩⟩ : ByteArray).size = l.length + 1 from fun _ _ => rfl, List.length_cons, List.length_nil] at *; omega)]; with_reducible rfl)
                    rotate_left
                    · simp only [Act.put, List.setIfInBounds_toArray, List.set_cons_zero, List.set_cons_succ, i64_w, i32_w]
                      rfl
                    refine done_ (done_of HT_.out (by kernel_rfl)) ?_
                    try go_wp2
                    go_roundg k1
                    case measure => have := HK1.out; omega
                    case rel => exact ⟨(wrap64 (x3_1 + 1)), (by first | rfl | (simp; done) | (simp [*]; done)), H', ⟨by have := HK1.out; omega⟩, ⟨by repeat (first | (with_reducible first | exact HB.out | apply below_alloc | apply pw_below_drewN | apply below_drew1) | exact HB.out)⟩⟩
                  · rw [if_neg c10] at H
                    have c10b0 : (Op.bytesLess (((rd_T26 l0 (ji7)).f0).toList) (((rd_T26 l0 x3_1).f0).toList)) = false := by simpa using c10
                    clear c10
                    obtain rfl := Option.some.inj H
                    try go_wp2
                    have n0_ := Aside0.mk (below_drew1 HB.out)
                    clear HB
                    have HB := n0_
                    clear n0_
                    have p135 : 0 ≤ (x3_1 : Int) := of_decide_eq_true (by first | (with_reducible assumption) | assumption)
                    have q135 : x3_1 < (l0.length : Int) := of_decide_eq_true (by first | (with_reducible assumption) | assumption)
                    obtain ⟨ad135, e135, hx135_0, hx135_1, hx135_2, hx135_3⟩ := at_T26 HR0.out x3_1 p135 q135
                    have hw135_3 := hx135_3
                    have hw135_2 := hx135_2
                    have hw135_1 := hx135_1
                    have hw135_0 := hx135_0
                    cases e135
                    replace hx135_0 := (HB.out.cell (World.block_lt_of_cell? w _ hx135_0)).trans hx135_0
                    replace hx135_1 := (HB.out.cell (World.block_lt_of_cell? w _ hx135_1)).trans hx135_1
                    replace hx135_2 := (HB.out.cell (World.block_lt_of_cell? w _ hx135_2)).trans hx135_2
                    replace hx135_3 := (HB.out.cell (World.block_lt_of_cell? w _ hx135_3)).trans hx135_3
                    replace p135 := eq_true p135
                    replace q135 := eq_true q135
                    have p137 : 0 ≤ ((ji7) : Int) := of_decide_eq_true (by first | (with_reducible assumption) | assumption)
                    have q137 : (ji7) < (l0.length : Int) := of_decide_eq_true (by first | (with_reducible assumption) | assumption)
                    obtain ⟨ad137, e137, hx137_0, hx137_1, hx137_2, hx137_3⟩ := at_T26 HR0.out (ji7) p137 q137
                    have hw137_3 := hx137_3
                    have hw137_2 := hx137_2
                    have hw137_1 := hx137_1
                    have hw137_0 := hx137_0
                    obtain rfl : ad135 = ad137 := (by injection e137)
                    replace hx137_0 := (HB.out.cell (World.block_lt_of_cell? w _ hx137_0)).trans hx137_0
                    replace hx137_1 := (HB.out.cell (World.block_lt_of_cell? w _ hx137_1)).trans hx137_1
                    replace hx137_2 := (HB.out.cell (World.block_lt_of_cell? w _ hx137_2)).trans hx137_2
                    replace hx137_3 := (HB.out.cell (World.block_lt_of_cell? w _ hx137_3)).trans hx137_3
                    replace p137 := eq_true p137
                    replace q137 := eq_true q137
                    have p138 : 0 ≤ (x3_1 : Int) := of_decide_eq_true (by first | (with_reducible assumption) | assumption)
                    have q138 : x3_1 < (l0.length : Int) := of_decide_eq_true (by first | (with_reducible assumption) | assumption)
                    obtain ⟨ad138, e138, hx138_0, hx138_1, hx138_2, hx138_3⟩ := at_T26 HR0.out x3_1 p138 q138
                    have hw138_3 := hx138_3
                    have hw138_2 := hx138_2
                    have hw138_1 := hx138_1
                    have hw138_0 := hx138_0
                    obtain rfl : ad135 = ad138 := (by injection e138)
                    replace hx138_0 := (HB.out.cell (World.block_lt_of_cell? w _ hx138_0)).trans hx138_0
                    replace hx138_1 := (HB.out.cell (World.block_lt_of_cell? w _ hx138_1)).trans hx138_1
                    replace hx138_2 := (HB.out.cell (World.block_lt_of_cell? w _ hx138_2)).trans hx138_2
                    replace hx138_3 := (HB.out.cell (World.block_lt_of_cell? w _ hx138_3)).trans hx138_3
                    replace p138 := eq_true p138
                    replace q138 := eq_true q138
                    refine start_ (n := 24) (S := fun w' => w'.cell? (ad135.add ((x3_1).toNat * 4)) = some (.string ((rd_T26 l0 x3_1).f0)) ∧ w'.cell? ⟨(ad135.add ((x3_1).toNat * 4)).block, (ad135.add ((x3_1).toNat * 4)).off + 1, none⟩ = some (.int .i64 ((rd_T26 l0 x3_1).f1)) ∧ w'.cell? ⟨(ad135.add ((x3_1).toNat * 4)).block, (ad135.add ((x3_1).toNat * 4)).off + 2, none⟩ = some (.int .i64 ((rd_T26 l0 x3_1).f2)) ∧ w'.cell? ⟨(ad135.add ((x3_1).toNat * 4)).block, (ad135.add ((x3_1).toNat * 4)).off + 3, none⟩ = some (.int .i64 ((rd_T26 l0 x3_1).f3)) ∧ w'.cell? (ad135.add (((ji7)).toNat * 4)) = some (.string ((rd_T26 l0 (ji7)).f0)) ∧ w'.cell? ⟨(ad135.add (((ji7)).toNat * 4)).block, (ad135.add (((ji7)).toNat * 4)).off + 1, none⟩ = some (.int .i64 ((rd_T26 l0 (ji7)).f1)) ∧ w'.cell? ⟨(ad135.add (((ji7)).toNat * 4)).block, (ad135.add (((ji7)).toNat * 4)).off + 2, none⟩ = some (.int .i64 ((rd_T26 l0 (ji7)).f2)) ∧ w'.cell? ⟨(ad135.add (((ji7)).toNat * 4)).block, (ad135.add (((ji7)).toNat * 4)).off + 3, none⟩ = some (.int .i64 ((rd_T26 l0 (ji7)).f3)) ∧ w'.cell? (ad135.add ((x3_1).toNat * 4)) = some (.string ((rd_T26 l0 x3_1).f0)) ∧ w'.cell? ⟨(ad135.add ((x3_1).toNat * 4)).block, (ad135.add ((x3_1).toNat * 4)).off + 1, none⟩ = some (.int .i64 ((rd_T26 l0 x3_1).f1)) ∧ w'.cell? ⟨(ad135.add ((x3_1).toNat * 4)).block, (ad135.add ((x3_1).toNat * 4)).off + 2, none⟩ = some (.int .i64 ((rd_T26 l0 x3_1).f2)) ∧ w'.cell? ⟨(ad135.add ((x3_1).toNat * 4)).block, (ad135.add ((x3_1).toNat * 4)).off + 3, none⟩ = some (.int .i64 ((rd_T26 l0 x3_1).f3))) (ds := []) #[false, false, false, false, false, false, false, false, false, false, false, false, false, false, false, false, false, false, false, false, false, false, false, false] (by kernel_rfl) rfl rfl ⟨((HB.out.cell (World.block_lt_of_cell? w _ hw135_0)).trans hw135_0), ((HB.out.cell (World.block_lt_of_cell? w _ hw135_1)).trans hw135_1), ((HB.out.cell (World.block_lt_of_cell? w _ hw135_2)).trans hw135_2), ((HB.out.cell (World.block_lt_of_cell? w _ hw135_3)).trans hw135_3), ((HB.out.cell (World.block_lt_of_cell? w _ hw137_0)).trans hw137_0), ((HB.out.cell (World.block_lt_of_cell? w _ hw137_1)).trans hw137_1), ((HB.out.cell (World.block_lt_of_cell? w _ hw137_2)).trans hw137_2), ((HB.out.cell (World.block_lt_of_cell? w _ hw137_3)).trans hw137_3), ((HB.out.cell (World.block_lt_of_cell? w _ hw138_0)).trans hw138_0), ((HB.out.cell (World.block_lt_of_cell? w _ hw138_1)).trans hw138_1), ((HB.out.cell (World.block_lt_of_cell? w _ hw138_2)).trans hw138_2), ((HB.out.cell (World.block_lt_of_cell? w _ hw138_3)).trans hw138_3)⟩ (fun hHeld => ?_); refine with_tabW spec_l26Good.tab4 spec_l26Good.bits4 (fun HT_ HW_ => ?_)
                    generalize wr.drew = w13 at HB hx135_0 hx135_1 hx135_2 hx135_3 hx137_0 hx137_1 hx137_2 hx137_3 hx138_0 hx138_1 hx138_2 hx138_3 hHeld ⊢
                    refine pure_ (i := 0) (N := some 10) (v := ?_) (a' := ?_) #[true, false, false, false, false, false, false, false, false, false, false, false, false, false, false, false, false, false, false, false, false, false, false, false] rfl rfl (any_of HT_.out (by kernel_rfl)) (fun _ _ _ h => h) (Or.inl ⟨by rfl, ?_⟩) ?_ ?_
                    rotate_left
                    · intro w'
                      go_simp
                      first | with_reducible rfl | (rw [if_neg (by simp only [ByteArray.size_append, ByteArray.size_extract, show ∀ (a : UInt8) (l : List UInt8), (⟨⟨a :: l⟩⟩ : ByteArray).size = l.length + 1 from fun _ _ => rfl, List.length_cons, List.length_nil] at *; omega)]; done) | (rw [if_neg (by simp only [ByteArray.size_append, ByteArray.size_extract, show ∀ (a : UInt8) (l : List UInt8), (⟨⟨a :: l⟩⟩ : ByteArray).size = l.length + 1 from fun _ _ => rfl, List.length_cons, List.length_nil] at *; omega)]; with_reducible rfl)
                    rotate_left
                    · simp only [Act.put, List.setIfInBounds_toArray, List.set_cons_zero, List.set_cons_succ, i64_w, i32_w]
                      rfl
                    refine pure_ (i := 1) (N := some 11) (v := ?_) (a' := ?_) #[true, true, false, false, false, false, false, false, false, false, false, false, false, false, false, false, false, false, false, false, false, false, false, false] rfl rfl (any_of HT_.out (by kernel_rfl)) (fun _ _ _ h => h) (Or.inl ⟨by rfl, ?_⟩) ?_ ?_
                    rotate_left
                    · intro w'
                      go_simp
                      first | with_reducible rfl | (rw [if_neg (by simp only [ByteArray.size_append, ByteArray.size_extract, show ∀ (a : UInt8) (l : List UInt8), (⟨⟨a :: l⟩⟩ : ByteArray).size = l.length + 1 from fun _ _ => rfl, List.length_cons, List.length_nil] at *; omega)]; done) | (rw [if_neg (by simp only [ByteArray.size_append, ByteArray.size_extract, show ∀ (a : UInt8) (l : List UInt8), (⟨⟨a :: l⟩⟩ : ByteArray).size = l.length + 1 from fun _ _ => rfl, List.length_cons, List.length_nil] at *; omega)]; with_reducible rfl)
                    rotate_left
                    · simp only [Act.put, List.setIfInBounds_toArray, List.set_cons_zero, List.set_cons_succ, i64_w, i32_w]
                      rfl
                    refine pure_ (i := 2) (N := some 12) (v := ?_) (a' := ?_) #[true, true, true, false, false, false, false, false, false, false, false, false, false, false, false, false, false, false, false, false, false, false, false, false] rfl rfl (any_of HT_.out (by kernel_rfl)) (fun _ _ _ h => h) (Or.inl ⟨by rfl, ?_⟩) ?_ ?_
                    rotate_left
                    · intro w'
                      go_simp
                      first | with_reducible rfl | (rw [if_neg (by simp only [ByteArray.size_append, ByteArray.size_extract, show ∀ (a : UInt8) (l : List UInt8), (⟨⟨a :: l⟩⟩ : ByteArray).size = l.length + 1 from fun _ _ => rfl, List.length_cons, List.length_nil] at *; omega)]; done) | (rw [if_neg (by simp only [ByteArray.size_append, ByteArray.size_extract, show ∀ (a : UInt8) (l : List UInt8), (⟨⟨a :: l⟩⟩ : ByteArray).size = l.length + 1 from fun _ _ => rfl, List.length_cons, List.length_nil] at *; omega)]; with_reducible rfl)
                    rotate_left
                    · simp only [Act.put, List.setIfInBounds_toArray, List.set_cons_zero, List.set_cons_succ, i64_w, i32_w]
                      rfl
                    refine take_ (i := 3) (N := some 13) (v := ?_) (a' := ?_) #[true, true, true, true, false, false, false, false, false, false, false, false, false, false, false, false, false, false, false, false, false, false, false, false] rfl rfl (take_ofW HT_.out HW_.out (by kernel_rfl)) (fun _ _ _ h => h) (Or.inl ⟨by rfl, ?_⟩) hHeld ?_ ?_
                    rotate_left
                    · rintro w' ⟨s0, s1, s2, s3, s4, s5, s6, s7, s8, s9, s10, s11⟩
                      go_simp
                      first | with_reducible rfl | (rw [if_neg (by simp only [ByteArray.size_append, ByteArray.size_extract, show ∀ (a : UInt8) (l : List UInt8), (⟨⟨a :: l⟩⟩ : ByteArray).size = l.length + 1 from fun _ _ => rfl, List.length_cons, List.length_nil] at *; omega)]; done) | (rw [if_neg (by simp only [ByteArray.size_append, ByteArray.size_extract, show ∀ (a : UInt8) (l : List UInt8), (⟨⟨a :: l⟩⟩ : ByteArray).size = l.length + 1 from fun _ _ => rfl, List.length_cons, List.length_nil] at *; omega)]; with_reducible rfl)
                    rotate_left
                    · simp only [Act.put, List.setIfInBounds_toArray, List.set_cons_zero, List.set_cons_succ, i64_w, i32_w]
                      rfl
                    refine one_ (i := 4) (N := some 14) #[true, true, true, true, true, false, false, false, false, false, false, false, false, false, false, false, false, false, false, false, false, false, false, false] rfl rfl (one_of HT_.out (by kernel_rfl)) (by decide) (fun K hK => ?_)
                    refine goes_ Tryd.func55 (by kernel_rfl) rfl #[.agg #[.string ((rd_T26 l0 x3_1).f0), .int .i64 ((rd_T26 l0 x3_1).f1), .int .i64 ((rd_T26 l0 x3_1).f2), .int .i64 ((rd_T26 l0 x3_1).f3)]] (by rfl) rfl rfl (by (try simp only [List.map_toArray, List.map_cons, List.map_nil]); first | done | rfl | (simp only [List.length_drop, List.length_take]; rfl)) ?_
                    with_reducible refine (spec_l26One.calls k1 ((rd_T26 l0 x3_1).f0) ((rd_T26 l0 x3_1).f1) ((rd_T26 l0 x3_1).f2) ((rd_T26 l0 x3_1).f3) true _ A4.out).mono ?_
                    rintro e w14 ⟨rfl, hb⟩
                    refine ⟨_, rfl, ?_⟩
                    have n0_ := Aside0.mk (below_step (by repeat (first | (with_reducible first | exact HB.out | apply below_alloc | apply pw_below_drewN | apply below_drew1) | exact HB.out)) hb)
                    clear HB
                    have HB := n0_
                    clear n0_
                    (try clear hb)
                    (try clear hb2)
                    (try clear hk)
                    (try clear hi)
                    refine hK.out _ _ ⟨((HB.out.cell (World.block_lt_of_cell? w _ hw135_0)).trans hw135_0), ((HB.out.cell (World.block_lt_of_cell? w _ hw135_1)).trans hw135_1), ((HB.out.cell (World.block_lt_of_cell? w _ hw135_2)).trans hw135_2), ((HB.out.cell (World.block_lt_of_cell? w _ hw135_3)).trans hw135_3), ((HB.out.cell (World.block_lt_of_cell? w _ hw137_0)).trans hw137_0), ((HB.out.cell (World.block_lt_of_cell? w _ hw137_1)).trans hw137_1), ((HB.out.cell (World.block_lt_of_cell? w _ hw137_2)).trans hw137_2), ((HB.out.cell (World.block_lt_of_cell? w _ hw137_3)).trans hw137_3), ((HB.out.cell (World.block_lt_of_cell? w _ hw138_0)).trans hw138_0), ((HB.out.cell (World.block_lt_of_cell? w _ hw138_1)).trans hw138_1), ((HB.out.cell (World.block_lt_of_cell? w _ hw138_2)).trans hw138_2), ((HB.out.cell (World.block_lt_of_cell? w _ hw138_3)).trans hw138_3)⟩ (fun hHeld => ?_)
                    clear hK K
                    refine norm_ (a' := ?_) ?_ ?_
                    rotate_left
                    · show Act.put _ (some 14) _ = _
                      simp only [Act.put, List.setIfInBounds_toArray, List.set_cons_zero, List.set_cons_succ, i64_w, i32_w]
                      rfl
                    refine pure_ (i := 5) (N := some 15) (v := ?_) (a' := ?_) #[true, true, true, true, true, true, false, false, false, false, false, false, false, false, false, false, false, false, false, false, false, false, false, false] rfl rfl (any_of HT_.out (by kernel_rfl)) (fun _ _ _ h => h) (Or.inl ⟨by rfl, ?_⟩) ?_ ?_
                    rotate_left
                    · intro w'
                      go_simp
                      first | with_reducible rfl | (rw [if_neg (by simp only [ByteArray.size_append, ByteArray.size_extract, show ∀ (a : UInt8) (l : List UInt8), (⟨⟨a :: l⟩⟩ : ByteArray).size = l.length + 1 from fun _ _ => rfl, List.length_cons, List.length_nil] at *; omega)]; done) | (rw [if_neg (by simp only [ByteArray.size_append, ByteArray.size_extract, show ∀ (a : UInt8) (l : List UInt8), (⟨⟨a :: l⟩⟩ : ByteArray).size = l.length + 1 from fun _ _ => rfl, List.length_cons, List.length_nil] at *; omega)]; with_reducible rfl)
                    rotate_left
                    · simp only [Act.put, List.setIfInBounds_toArray, List.set_cons_zero, List.set_cons_succ, i64_w, i32_w]
                      rfl
                    refine pure_ (i := 6) (N := some 16) (v := ?_) (a' := ?_) #[true, true, true, true, true, true, true, false, false, false, false, false, false, false, false, false, false, false, false, false, false, false, false, false] rfl rfl (any_of HT_.out (by kernel_rfl)) (fun _ _ _ h => h) (Or.inl ⟨by rfl, ?_⟩) ?_ ?_
                    rotate_left
                    · intro w'
                      go_simp
                      first | with_reducible rfl | (rw [if_neg (by simp only [ByteArray.size_append, ByteArray.size_extract, show ∀ (a : UInt8) (l : List UInt8), (⟨⟨a :: l⟩⟩ : ByteArray).size = l.length + 1 from fun _ _ => rfl, List.length_cons, List.length_nil] at *; omega)]; done) | (rw [if_neg (by simp only [ByteArray.size_append, ByteArray.size_extract, show ∀ (a : UInt8) (l : List UInt8), (⟨⟨a :: l⟩⟩ : ByteArray).size = l.length + 1 from fun _ _ => rfl, List.length_cons, List.length_nil] at *; omega)]; with_reducible rfl)
                    rotate_left
                    · simp only [Act.put, List.setIfInBounds_toArray, List.set_cons_zero, List.set_cons_succ, i64_w, i32_w]
                      rfl
                    refine pure_ (i := 7) (N := some 17) (v := ?_) (a' := ?_) #[true, true, true, true, true, true, true, true, false, false, false, false, false, false, false, false, false, false, false, false, false, false, false, false] rfl rfl (any_of HT_.out (by kernel_rfl)) (fun _ _ _ h => h) (Or.inl ⟨by rfl, ?_⟩) ?_ ?_
                    rotate_left
                    · intro w'
                      go_simp
                      first | with_reducible rfl | (rw [if_neg (by simp only [ByteArray.size_append, ByteArray.size_extract, show ∀ (a : UInt8) (l : List UInt8), (⟨⟨a :: l⟩⟩ : ByteArray).size = l.length + 1 from fun _ _ => rfl, List.length_cons, List.length_nil] at *; omega)]; done) | (rw [if_neg (by simp only [ByteArray.size_append, ByteArray.size_extract, show ∀ (a : UInt8) (l : List UInt8), (⟨⟨a :: l⟩⟩ : ByteArray).size = l.length + 1 from fun _ _ => rfl, List.length_cons, List.length_nil] at *; omega)]; with_reducible rfl)
                    rotate_left
                    · simp only [Act.put, List.setIfInBounds_toArray, List.set_cons_zero, List.set_cons_succ, i64_w, i32_w]
                      rfl
                    refine pure_ (i := 8) (N := some 18) (v := ?_) (a' := ?_) #[true, true, true, true, true, true, true, true, true, false, false, false, false, false, false, false, false, false, false, false, false, false, false, false] rfl rfl (any_of HT_.out (by kernel_rfl)) (fun _ _ _ h => h) (Or.inl ⟨by rfl, ?_⟩) ?_ ?_
                    rotate_left
                    · intro w'
                      go_simp
                      first | with_reducible rfl | (rw [if_neg (by simp only [ByteArray.size_append, ByteArray.size_extract, show ∀ (a : UInt8) (l : List UInt8), (⟨⟨a :: l⟩⟩ : ByteArray).size = l.length + 1 from fun _ _ => rfl, List.length_cons, List.length_nil] at *; omega)]; done) | (rw [if_neg (by simp only [ByteArray.size_append, ByteArray.size_extract, show ∀ (a : UInt8) (l : List UInt8), (⟨⟨a :: l⟩⟩ : ByteArray).size = l.length + 1 from fun _ _ => rfl, List.length_cons, List.length_nil] at *; omega)]; with_reducible rfl)
                    rotate_left
                    · simp only [Act.put, List.setIfInBounds_toArray, List.set_cons_zero, List.set_cons_succ, i64_w, i32_w]
                      rfl
                    refine pure_ (i := 9) (N := some 19) (v := ?_) (a' := ?_) #[true, true, true, true, true, true, true, true, true, true, false, false, false, false, false, false, false, false, false, false, false, false, false, false] rfl rfl (any_of HT_.out (by kernel_rfl)) (fun _ _ _ h => h) (Or.inl ⟨by rfl, ?_⟩) ?_ ?_
                    rotate_left
                    · intro w'
                      go_simp
                      first | with_reducible rfl | (rw [if_neg (by simp only [ByteArray.size_append, ByteArray.size_extract, show ∀ (a : UInt8) (l : List UInt8), (⟨⟨a :: l⟩⟩ : ByteArray).size = l.length + 1 from fun _ _ => rfl, List.length_cons, List.length_nil] at *; omega)]; done) | (rw [if_neg (by simp only [ByteArray.size_append, ByteArray.size_extract, show ∀ (a : UInt8) (l : List UInt8), (⟨⟨a :: l⟩⟩ : ByteArray).size = l.length + 1 from fun _ _ => rfl, List.length_cons, List.length_nil] at *; omega)]; with_reducible rfl)
                    rotate_left
                    · simp only [Act.put, List.setIfInBounds_toArray, List.set_cons_zero, List.set_cons_succ, i64_w, i32_w]
                      rfl
                    refine pure_ (i := 10) (N := some 20) (v := ?_) (a' := ?_) #[true, true, true, true, true, true, true, true, true, true, true, false, false, false, false, false, false, false, false, false, false, false, false, false] rfl rfl (any_of HT_.out (by kernel_rfl)) (fun _ _ _ h => h) (Or.inl ⟨by rfl, ?_⟩) ?_ ?_
                    rotate_left
                    · intro w'
                      go_simp
                      first | with_reducible rfl | (rw [if_neg (by simp only [ByteArray.size_append, ByteArray.size_extract, show ∀ (a : UInt8) (l : List UInt8), (⟨⟨a :: l⟩⟩ : ByteArray).size = l.length + 1 from fun _ _ => rfl, List.length_cons, List.length_nil] at *; omega)]; done) | (rw [if_neg (by simp only [ByteArray.size_append, ByteArray.size_extract, show ∀ (a : UInt8) (l : List UInt8), (⟨⟨a :: l⟩⟩ : ByteArray).size = l.length + 1 from fun _ _ => rfl, List.length_cons, List.length_nil] at *; omega)]; with_reducible rfl)
                    rotate_left
                    · simp only [Act.put, List.setIfInBounds_toArray, List.set_cons_zero, List.set_cons_succ, i64_w, i32_w]
                      rfl
                    refine pure_ (i := 11) (N := some 21) (v := ?_) (a' := ?_) #[true, true, true, true, true, true, true, true, true, true, true, true, false, false, false, false, false, false, false, false, false, false, false, false] rfl rfl (any_of HT_.out (by kernel_rfl)) (fun _ _ _ h => h) (Or.inl ⟨by rfl, ?_⟩) ?_ ?_
                    rotate_left
                    · intro w'
                      go_simp
                      first | with_reducible rfl | (rw [if_neg (by simp only [ByteArray.size_append, ByteArray.size_extract, show ∀ (a : UInt8) (l : List UInt8), (⟨⟨a :: l⟩⟩ : ByteArray).size = l.length + 1 from fun _ _ => rfl, List.length_cons, List.length_nil] at *; omega)]; done) | (rw [if_neg (by simp only [ByteArray.size_append, ByteArray.size_extract, show ∀ (a : UInt8) (l : List UInt8), (⟨⟨a :: l⟩⟩ : ByteArray).size = l.length + 1 from fun _ _ => rfl, List.length_cons, List.length_nil] at *; omega)]; with_reducible rfl)
                    rotate_left
                    · simp only [Act.put, List.setIfInBounds_toArray, List.set_cons_zero, List.set_cons_succ, i64_w, i32_w]
                      rfl
                    refine pure_ (i := 12) (N := some 22) (v := ?_) (a' := ?_) #[true, true, true, true, true, true, true, true, true, true, true, true, true, false, false, false, false, false, false, false, false, false, false, false] rfl rfl (any_of HT_.out (by kernel_rfl)) (fun _ _ _ h => h) (Or.inl ⟨by rfl, ?_⟩) ?_ ?_
                    rotate_left
                    · intro w'
                      go_simp
                      first | with_reducible rfl | (rw [if_neg (by simp only [ByteArray.size_append, ByteArray.size_extract, show ∀ (a : UInt8) (l : List UInt8), (⟨⟨a :: l⟩⟩ : ByteArray).size = l.length + 1 from fun _ _ => rfl, List.length_cons, List.length_nil] at *; omega)]; done) | (rw [if_neg (by simp only [ByteArray.size_append, ByteArray.size_extract, show ∀ (a : UInt8) (l : List UInt8), (⟨⟨a :: l⟩⟩ : ByteArray).size = l.length + 1 from fun _ _ => rfl, List.length_cons, List.length_nil] at *; omega)]; with_reducible rfl)
                    rotate_left
                    · simp only [Act.put, List.setIfInBounds_toArray, List.set_cons_zero, List.set_cons_succ, i64_w, i32_w]
                      rfl
                    refine pure_ (i := 13) (N := some 23) (v := ?_) (a' := ?_) #[true, true, true, true, true, true, true, true, true, true, true, true, true, true, false, false, false, false, false, false, false, false, false, false] rfl rfl (any_of HT_.out (by kernel_rfl)) (fun _ _ _ h => h) (Or.inl ⟨by rfl, ?_⟩) ?_ ?_
                    rotate_left
                    · intro w'
                      go_simp
                      first | with_reducible rfl | (rw [if_neg (by simp only [ByteArray.size_append, ByteArray.size_extract, show ∀ (a : UInt8) (l : List UInt8), (⟨⟨a :: l⟩⟩ : ByteArray).size = l.length + 1 from fun _ _ => rfl, List.length_cons, List.length_nil] at *; omega)]; done) | (rw [if_neg (by simp only [ByteArray.size_append, ByteArray.size_extract, show ∀ (a : UInt8) (l : List UInt8), (⟨⟨a :: l⟩⟩ : ByteArray).size = l.length + 1 from fun _ _ => rfl, List.length_cons, List.length_nil] at *; omega)]; with_reducible rfl)
                    rotate_left
                    · simp only [Act.put, List.setIfInBounds_toArray, List.set_cons_zero, List.set_cons_succ, i64_w, i32_w]
                      rfl
                    refine pure_ (i := 14) (N := some 24) (v := ?_) (a' := ?_) #[true, true, true, true, true, true, true, true, true, true, true, true, true, true, true, false, false, false, false, false, false, false, false, false] rfl rfl (any_of HT_.out (by kernel_rfl)) (fun _ _ _ h => h) (Or.inl ⟨by rfl, ?_⟩) ?_ ?_
                    rotate_left
                    · intro w'
                      go_simp
                      first | with_reducible rfl | (rw [if_neg (by simp only [ByteArray.size_append, ByteArray.size_extract, show ∀ (a : UInt8) (l : List UInt8), (⟨⟨a :: l⟩⟩ : ByteArray).size = l.length + 1 from fun _ _ => rfl, List.length_cons, List.length_nil] at *; omega)]; done) | (rw [if_neg (by simp only [ByteArray.size_append, ByteArray.size_extract, show ∀ (a : UInt8) (l : List UInt8), (⟨⟨a :: l⟩⟩ : ByteArray).size = l.length + 1 from fun _ _ => rfl, List.length_cons, List.length_nil] at *; omega)]; with_reducible rfl)
                    rotate_left
                    · simp only [Act.put, List.setIfInBounds_toArray, List.set_cons_zero, List.set_cons_succ, i64_w, i32_w]
                      rfl
                    refine pure_ (i := 16) (N := some 26) (v := ?_) (a' := ?_) #[true, true, true, true, true, true, true, true, true, true, true, true, true, true, true, false, true, false, false, false, false, false, false, false] rfl rfl (any_of HT_.out (by kernel_rfl)) (fun _ _ _ h => h) (Or.inl ⟨by rfl, ?_⟩) ?_ ?_
                    rotate_left
                    · intro w'
                      go_simp
                      first | with_reducible rfl | (rw [if_neg (by simp only [ByteArray.size_append, ByteArray.size_extract, show ∀ (a : UInt8) (l : List UInt8), (⟨⟨a :: l⟩⟩ : ByteArray).size = l.length + 1 from fun _ _ => rfl, List.length_cons, List.length_nil] at *; omega)]; done) | (rw [if_neg (by simp only [ByteArray.size_append, ByteArray.size_extract, show ∀ (a : UInt8) (l : List UInt8), (⟨⟨a :: l⟩⟩ : ByteArray).size = l.length + 1 from fun _ _ => rfl, List.length_cons, List.length_nil] at *; omega)]; with_reducible rfl)
                    rotate_left
                    · simp only [Act.put, List.setIfInBounds_toArray, List.set_cons_zero, List.set_cons_succ, i64_w, i32_w]
                      rfl
                    refine pure_ (i := 17) (N := some 27) (v := ?_) (a' := ?_) #[true, true, true, true, true, true, true, true, true, true, true, true, true, true, true, false, true, true, false, false, false, false, false, false] rfl rfl (any_of HT_.out (by kernel_rfl)) (fun _ _ _ h => h) (Or.inl ⟨by rfl, ?_⟩) ?_ ?_
                    rotate_left
                    · intro w'
                      go_simp
                      first | with_reducible rfl | (rw [if_neg (by simp only [ByteArray.size_append, ByteArray.size_extract, show ∀ (a : UInt8) (l : List UInt8), (⟨⟨a :: l⟩⟩ : ByteArray).size = l.length + 1 from fun _ _ => rfl, List.length_cons, List.length_nil] at *; omega)]; done) | (rw [if_neg (by simp only [ByteArray.size_append, ByteArray.size_extract, show ∀ (a : UInt8) (l : List UInt8), (⟨⟨a :: l⟩⟩ : ByteArray).size = l.length + 1 from fun _ _ => rfl, List.length_cons, List.length_nil] at *; omega)]; with_reducible rfl)
                    rotate_left
                    · simp only [Act.put, List.setIfInBounds_toArray, List.set_cons_zero, List.set_cons_succ, i64_w, i32_w]
                      rfl
                    refine pure_ (i := 18) (N := some 28) (v := ?_) (a' := ?_) #[true, true, true, true, true, true, true, true, true, true, true, true, true, true, true, false, true, true, true, false, false, false, false, false] rfl rfl (any_of HT_.out (by kernel_rfl)) (fun _ _ _ h => h) (Or.inl ⟨by rfl, ?_⟩) ?_ ?_
                    rotate_left
                    · intro w'
                      go_simp
                      first | with_reducible rfl | (rw [if_neg (by simp only [ByteArray.size_append, ByteArray.size_extract, show ∀ (a : UInt8) (l : List UInt8), (⟨⟨a :: l⟩⟩ : ByteArray).size = l.length + 1 from fun _ _ => rfl, List.length_cons, List.length_nil] at *; omega)]; done) | (rw [if_neg (by simp only [ByteArray.size_append, ByteArray.size_extract, show ∀ (a : UInt8) (l : List UInt8), (⟨⟨a :: l⟩⟩ : ByteArray).size = l.length + 1 from fun _ _ => rfl, List.length_cons, List.length_nil] at *; omega)]; with_reducible rfl)
                    rotate_left
                    · simp only [Act.put, List.setIfInBounds_toArray, List.set_cons_zero, List.set_cons_succ, i64_w, i32_w]
                      rfl
                    refine pure_ (i := 19) (N := some 29) (v := ?_) (a' := ?_) #[true, true, true, true, true, true, true, true, true, true, true, true, true, true, true, false, true, true, true, true, false, false, false, false] rfl rfl (any_of HT_.out (by kernel_rfl)) (fun _ _ _ h => h) (Or.inl ⟨by rfl, ?_⟩) ?_ ?_
                    rotate_left
                    · intro w'
                      go_simp
                      first | with_reducible rfl | (rw [if_neg (by simp only [ByteArray.size_append, ByteArray.size_extract, show ∀ (a : UInt8) (l : List UInt8), (⟨⟨a :: l⟩⟩ : ByteArray).size = l.length + 1 from fun _ _ => rfl, List.length_cons, List.length_nil] at *; omega)]; done) | (rw [if_neg (by simp only [ByteArray.size_append, ByteArray.size_extract, show ∀ (a : UInt8) (l : List UInt8), (⟨⟨a :: l⟩⟩ : ByteArray).size = l.length + 1 from fun _ _ => rfl, List.length_cons, List.length_nil] at *; omega)]; with_reducible rfl)
                    rotate_left
                    · simp only [Act.put, List.setIfInBounds_toArray, List.set_cons_zero, List.set_cons_succ, i64_w, i32_w]
                      rfl
                    refine take_ (i := 15) (N := some 25) (v := ?_) (a' := ?_) #[true, true, true, true, true, true, true, true, true, true, true, true, true, true, true, true, true, true, true, true, false, false, false, false] rfl rfl (take_ofW HT_.out HW_.out (by kernel_rfl)) (fun _ _ _ h => h) (Or.inl ⟨by rfl, ?_⟩) hHeld ?_ ?_
                    rotate_left
                    · rintro w' ⟨s0, s1, s2, s3, s4, s5, s6, s7, s8, s9, s10, s11⟩
                      go_simp
                      first | with_reducible rfl | (rw [if_neg (by simp only [ByteArray.size_append, ByteArray.size_extract, show ∀ (a : UInt8) (l : List UInt8), (⟨⟨a :: l⟩⟩ : ByteArray).size = l.length + 1 from fun _ _ => rfl, List.length_cons, List.length_nil] at *; omega)]; done) | (rw [if_neg (by simp only [ByteArray.size_append, ByteArray.size_extract, show ∀ (a : UInt8) (l : List UInt8), (⟨⟨a :: l⟩⟩ : ByteArray).size = l.length + 1 from fun _ _ => rfl, List.length_cons, List.length_nil] at *; omega)]; with_reducible rfl)
                    rotate_left
                    · simp only [Act.put, List.setIfInBounds_toArray, List.set_cons_zero, List.set_cons_succ, i64_w, i32_w]
                      rfl
                    refine take_ (i := 20) (N := some 30) (v := ?_) (a' := ?_) #[true, true, true, true, true, true, true, true, true, true, true, true, true, true, true, true, true, true, true, true, true, false, false, false] rfl rfl (take_ofW HT_.out HW_.out (by kernel_rfl)) (fun _ _ _ h => h) (Or.inl ⟨by rfl, ?_⟩) hHeld ?_ ?_
                    rotate_left
                    · rintro w' ⟨s0, s1, s2, s3, s4, s5, s6, s7, s8, s9, s10, s11⟩
                      go_simp
                      first | with_reducible rfl | (rw [if_neg (by simp only [ByteArray.size_append, ByteArray.size_extract, show ∀ (a : UInt8) (l : List UInt8), (⟨⟨a :: l⟩⟩ : ByteArray).size = l.length + 1 from fun _ _ => rfl, List.length_cons, List.length_nil] at *; omega)]; done) | (rw [if_neg (by simp only [ByteArray.size_append, ByteArray.size_extract, show ∀ (a : UInt8) (l : List UInt8), (⟨⟨a :: l⟩⟩ : ByteArray).size = l.length + 1 from fun _ _ => rfl, List.length_cons, List.length_nil] at *; omega)]; with_reducible rfl)
                    rotate_left
                    · simp only [Act.put, List.setIfInBounds_toArray, List.set_cons_zero, List.set_cons_succ, i64_w, i32_w]
                      rfl
                    refine pure_ (i := 21) (N := some 31) (v := ?_) (a' := ?_) #[true, true, true, true, true, true, true, true, true, true, true, true, true, true, true, true, true, true, true, true, true, true, false, false] rfl rfl (any_of HT_.out (by kernel_rfl)) (fun _ _ _ h => h) (Or.inl ⟨by rfl, ?_⟩) ?_ ?_
                    rotate_left
                    · intro w'
                      go_simp
                      first | with_reducible rfl | (rw [if_neg (by simp only [ByteArray.size_append, ByteArray.size_extract, show ∀ (a : UInt8) (l : List UInt8), (⟨⟨a :: l⟩⟩ : ByteArray).size = l.length + 1 from fun _ _ => rfl, List.length_cons, List.length_nil] at *; omega)]; done) | (rw [if_neg (by simp only [ByteArray.size_append, ByteArray.size_extract, show ∀ (a : UInt8) (l : List UInt8), (⟨⟨a :: l⟩⟩ : ByteArray).size = l.length + 1 from fun _ _ => rfl, List.length_cons, List.length_nil] at *; omega)]; with_reducible rfl)
                    rotate_left
                    · simp only [Act.put, List.setIfInBounds_toArray, List.set_cons_zero, List.set_cons_succ, i64_w, i32_w]
                      rfl
                    refine pure_ (i := 22) (N := some 32) (v := ?_) (a' := ?_) #[true, true, true, true, true, true, true, true, true, true, true, true, true, true, true, true, true, true, true, true, true, true, true, false] rfl rfl (any_of HT_.out (by kernel_rfl)) (fun _ _ _ h => h) (Or.inl ⟨by rfl, ?_⟩) ?_ ?_
                    rotate_left
                    · intro w'
                      go_simp
                      first | with_reducible rfl | (rw [if_neg (by simp only [ByteArray.size_append, ByteArray.size_extract, show ∀ (a : UInt8) (l : List UInt8), (⟨⟨a :: l⟩⟩ : ByteArray).size = l.length + 1 from fun _ _ => rfl, List.length_cons, List.length_nil] at *; omega)]; done) | (rw [if_neg (by simp only [ByteArray.size_append, ByteArray.size_extract, show ∀ (a : UInt8) (l : List UInt8), (⟨⟨a :: l⟩⟩ : ByteArray).size = l.length + 1 from fun _ _ => rfl, List.length_cons, List.length_nil] at *; omega)]; with_reducible rfl)
                    rotate_left
                    · simp only [Act.put, List.setIfInBounds_toArray, List.set_cons_zero, List.set_cons_succ, i64_w, i32_w]
                      rfl
                    refine pure_ (i := 23) (N := some 33) (v := ?_) (a' := ?_) #[true, true, true, true, true, true, true, true, true, true, true, true, true, true, true, true, true, true, true, true, true, true, true, true] rfl rfl (any_of HT_.out (by kernel_rfl)) (fun _ _ _ h => h) (Or.inl ⟨by rfl, ?_⟩) ?_ ?_
                    rotate_left
                    · intro w'
                      go_simp
                      first | with_reducible rfl | (rw [if_neg (by simp only [ByteArray.size_append, ByteArray.size_extract, show ∀ (a : UInt8) (l : List UInt8), (⟨⟨a :: l⟩⟩ : ByteArray).size = l.length + 1 from fun _ _ => rfl, List.length_cons, List.length_nil] at *; omega)]; done) | (rw [if_neg (by simp only [ByteArray.size_append, ByteArray.size_extract, show ∀ (a : UInt8) (l : List UInt8), (⟨⟨a :: l⟩⟩ : ByteArray).size = l.length + 1 from fun _ _ => rfl, List.length_cons, List.length_nil] at *; omega)]; with_reducible rfl)
                    rotate_left
                    · simp only [Act.put, List.setIfInBounds_toArray, List.set_cons_zero, List.set_cons_succ, i64_w, i32_w]
                      rfl
                    refine done_ (done_of HT_.out (by kernel_rfl)) ?_
                    try go_wp2
                    go_ret
                    exact ⟨by first | rfl | (simp [errW_none, errW_some] <;> rfl) | (simp only [← hji7]; first | rfl | (simp [errW_none, errW_some] <;> rfl)) | (simp [*, errW_none, errW_some] <;> rfl), by repeat (first | (with_reducible first | exact HB.out | apply below_alloc | apply pw_below_drewN | apply below_drew1) | exact HB.out)⟩
                · rw [if_neg c9] at H
                  exact absurd H (by simp)
              · rw [if_neg c8] at H
                exact absurd H (by simp)
            · rw [if_neg c6] at H
              have c6b0 : decide (0 < x3_1) = false := decide_eq_false c6
              clear c6
              have H' := Aside0.mk H
              clear H
              try go_wp2
              have n0_ := Aside0.mk (below_drew1 HB.out)
              clear HB
              have HB := n0_
              clear n0_
              have p135 : 0 ≤ (x3_1 : Int) := of_decide_eq_true (by first | (with_reducible assumption) | assumption)
              have q135 : x3_1 < (l0.length : Int) := of_decide_eq_true (by first | (with_reducible assumption) | assumption)
              obtain ⟨ad135, e135, hx135_0, hx135_1, hx135_2, hx135_3⟩ := at_T26 HR0.out x3_1 p135 q135
              have hw135_3 := hx135_3
              have hw135_2 := hx135_2
              have hw135_1 := hx135_1
              have hw135_0 := hx135_0
              cases e135
              replace hx135_0 := (HB.out.cell (World.block_lt_of_cell? w _ hx135_0)).trans hx135_0
              replace hx135_1 := (HB.out.cell (World.block_lt_of_cell? w _ hx135_1)).trans hx135_1
              replace hx135_2 := (HB.out.cell (World.block_lt_of_cell? w _ hx135_2)).trans hx135_2
              replace hx135_3 := (HB.out.cell (World.block_lt_of_cell? w _ hx135_3)).trans hx135_3
              replace p135 := eq_true p135
              replace q135 := eq_true q135
              refine start_ (n := 24) (S := fun w' => w'.cell? (ad135.add ((x3_1).toNat * 4)) = some (.string ((rd_T26 l0 x3_1).f0)) ∧ w'.cell? ⟨(ad135.add ((x3_1).toNat * 4)).block, (ad135.add ((x3_1).toNat * 4)).off + 1, none⟩ = some (.int .i64 ((rd_T26 l0 x3_1).f1)) ∧ w'.cell? ⟨(ad135.add ((x3_1).toNat * 4)).block, (ad135.add ((x3_1).toNat * 4)).off + 2, none⟩ = some (.int .i64 ((rd_T26 l0 x3_1).f2)) ∧ w'.cell? ⟨(ad135.add ((x3_1).toNat * 4)).block, (ad135.add ((x3_1).toNat * 4)).off + 3, none⟩ = some (.int .i64 ((rd_T26 l0 x3_1).f3))) (ds := []) #[false, false, false, false, false, false, false, false, false, false, false, false, false, false, false, false, false, false, false, false, false, false, false, false] (by kernel_rfl) rfl rfl ⟨((HB.out.cell (World.block_lt_of_cell? w _ hw135_0)).trans hw135_0), ((HB.out.cell (World.block_lt_of_cell? w _ hw135_1)).trans hw135_1), ((HB.out.cell (World.block_lt_of_cell? w _ hw135_2)).trans hw135_2), ((HB.out.cell (World.block_lt_of_cell? w _ hw135_3)).trans hw135_3)⟩ (fun hHeld => ?_); refine with_tabW spec_l26Good.tab4 spec_l26Good.bits4 (fun HT_ HW_ => ?_)
              generalize wr.drew = w15 at HB hx135_0 hx135_1 hx135_2 hx135_3 hHeld ⊢
              refine pure_ (i := 0) (N := some 10) (v := ?_) (a' := ?_) #[true, false, false, false, false, false, false, false, false, false, false, false, false, false, false, false, false, false, false, false, false, false, false, false] rfl rfl (any_of HT_.out (by kernel_rfl)) (fun _ _ _ h => h) (Or.inl ⟨by rfl, ?_⟩) ?_ ?_
              rotate_left
              · intro w'
                go_simp
                first | with_reducible rfl | (rw [if_neg (by simp only [ByteArray.size_append, ByteArray.size_extract, show ∀ (a : UInt8) (l : List UInt8), (⟨⟨a :: l⟩⟩ : ByteArray).size = l.length + 1 from fun _ _ => rfl, List.length_cons, List.length_nil] at *; omega)]; done) | (rw [if_neg (by simp only [ByteArray.size_append, ByteArray.size_extract, show ∀ (a : UInt8) (l : List UInt8), (⟨⟨a :: l⟩⟩ : ByteArray).size = l.length + 1 from fun _ _ => rfl, List.length_cons, List.length_nil] at *; omega)]; with_reducible rfl)
              rotate_left
              · simp only [Act.put, List.setIfInBounds_toArray, List.set_cons_zero, List.set_cons_succ, i64_w, i32_w]
                rfl
              refine pure_ (i := 1) (N := some 11) (v := ?_) (a' := ?_) #[true, true, false, false, false, false, false, false, false, false, false, false, false, false, false, false, false, false, false, false, false, false, false, false] rfl rfl (any_of HT_.out (by kernel_rfl)) (fun _ _ _ h => h) (Or.inl ⟨by rfl, ?_⟩) ?_ ?_
              rotate_left
              · intro w'
                go_simp
                first | with_reducible rfl | (rw [if_neg (by simp only [ByteArray.size_append, ByteArray.size_extract, show ∀ (a : UInt8) (l : List UInt8), (⟨⟨a :: l⟩⟩ : ByteArray).size = l.length + 1 from fun _ _ => rfl, List.length_cons, List.length_nil] at *; omega)]; done) | (rw [if_neg (by simp only [ByteArray.size_append, ByteArray.size_extract, show ∀ (a : UInt8) (l : List UInt8), (⟨⟨a :: l⟩⟩ : ByteArray).size = l.length + 1 from fun _ _ => rfl, List.length_cons, List.length_nil] at *; omega)]; with_reducible rfl)
              rotate_left
              · simp only [Act.put, List.setIfInBounds_toArray, List.set_cons_zero, List.set_cons_succ, i64_w, i32_w]
                rfl
              refine pure_ (i := 2) (N := some 12) (v := ?_) (a' := ?_) #[true, true, true, false, false, false, false, false, false, false, false, false, false, false, false, false, false, false, false, false, false, false, false, false] rfl rfl (any_of HT_.out (by kernel_rfl)) (fun _ _ _ h => h) (Or.inl ⟨by rfl, ?_⟩) ?_ ?_
              rotate_left
              · intro w'
                go_simp
                first | with_reducible rfl | (rw [if_neg (by simp only [ByteArray.size_append, ByteArray.size_extract, show ∀ (a : UInt8) (l : List UInt8), (⟨⟨a :: l⟩⟩ : ByteArray).size = l.length + 1 from fun _ _ => rfl, List.length_cons, List.length_nil] at *; omega)]; done) | (rw [if_neg (by simp only [ByteArray.size_append, ByteArray.size_extract, show ∀ (a : UInt8) (l : List UInt8), (⟨⟨a :: l⟩⟩ : ByteArray).size = l.length + 1 from fun _ _ => rfl, List.length_cons, List.length_nil] at *; omega)]; with_reducible rfl)
              rotate_left
              · simp only [Act.put, List.setIfInBounds_toArray, List.set_cons_zero, List.set_cons_succ, i64_w, i32_w]
                rfl
              refine take_ (i := 3) (N := some 13) (v := ?_) (a' := ?_) #[true, true, true, true, false, false, false, false, false, false, false, false, false, false, false, false, false, false, false, false, false, false, false, false] rfl rfl (take_ofW HT_.out HW_.out (by kernel_rfl)) (fun _ _ _ h => h) (Or.inl ⟨by rfl, ?_⟩) hHeld ?_ ?_
              rotate_left
              · rintro w' ⟨s0, s1, s2, s3⟩
                go_simp
                first | with_reducible rfl | (rw [if_neg (by simp only [ByteArray.size_append, ByteArray.size_extract, show ∀ (a : UInt8) (l : List UInt8), (⟨⟨a :: l⟩⟩ : ByteArray).size = l.length + 1 from fun _ _ => rfl, List.length_cons, List.length_nil] at *; omega)]; done) | (rw [if_neg (by simp only [ByteArray.size_append, ByteArray.size_extract, show ∀ (a : UInt8) (l : List UInt8), (⟨⟨a :: l⟩⟩ : ByteArray).size = l.length + 1 from fun _ _ => rfl, List.length_cons, List.length_nil] at *; omega)]; with_reducible rfl)
              rotate_left
              · simp only [Act.put, List.setIfInBounds_toArray, List.set_cons_zero, List.set_cons_succ, i64_w, i32_w]
                rfl
              refine one_ (i := 4) (N := some 14) #[true, true, true, true, true, false, false, false, false, false, false, false, false, false, false, false, false, false, false, false, false, false, false, false] rfl rfl (one_of HT_.out (by kernel_rfl)) (by decide) (fun K hK => ?_)
              refine goes_ Tryd.func55 (by kernel_rfl) rfl #[.agg #[.string ((rd_T26 l0 x3_1).f0), .int .i64 ((rd_T26 l0 x3_1).f1), .int .i64 ((rd_T26 l0 x3_1).f2), .int .i64 ((rd_T26 l0 x3_1).f3)]] (by rfl) rfl rfl (by (try simp only [List.map_toArray, List.map_cons, List.map_nil]); first | done | rfl | (simp only [List.length_drop, List.length_take]; rfl)) ?_
              with_reducible refine (spec_l26One.calls k1 ((rd_T26 l0 x3_1).f0) ((rd_T26 l0 x3_1).f1) ((rd_T26 l0 x3_1).f2) ((rd_T26 l0 x3_1).f3) true _ A4.out).mono ?_
              rintro e w16 ⟨rfl, hb⟩
              refine ⟨_, rfl, ?_⟩
              have n0_ := Aside0.mk (below_step (by repeat (first | (with_reducible first | exact HB.out | apply below_alloc | apply pw_below_drewN | apply below_drew1) | exact HB.out)) hb)
              clear HB
              have HB := n0_
              clear n0_
              (try clear hb)
              (try clear hb2)
              (try clear hk)
              (try clear hi)
              refine hK.out _ _ ⟨((HB.out.cell (World.block_lt_of_cell? w _ hw135_0)).trans hw135_0), ((HB.out.cell (World.block_lt_of_cell? w _ hw135_1)).trans hw135_1), ((HB.out.cell (World.block_lt_of_cell? w _ hw135_2)).trans hw135_2), ((HB.out.cell (World.block_lt_of_cell? w _ hw135_3)).trans hw135_3)⟩ (fun hHeld => ?_)
              clear hK K
              refine norm_ (a' := ?_) ?_ ?_
              rotate_left
              · show Act.put _ (some 14) _ = _
                simp only [Act.put, List.setIfInBounds_toArray, List.set_cons_zero, List.set_cons_succ, i64_w, i32_w]
                rfl
              refine pure_ (i := 5) (N := some 15) (v := ?_) (a' := ?_) #[true, true, true, true, true, true, false, false, false, false, false, false, false, false, false, false, false, false, false, false, false, false, false, false] rfl rfl (any_of HT_.out (by kernel_rfl)) (fun _ _ _ h => h) (Or.inl ⟨by rfl, ?_⟩) ?_ ?_
              rotate_left
              · intro w'
                go_simp
                first | with_reducible rfl | (rw [if_neg (by simp only [ByteArray.size_append, ByteArray.size_extract, show ∀ (a : UInt8) (l : List UInt8), (⟨⟨a :: l⟩⟩ : ByteArray).size = l.length + 1 from fun _ _ => rfl, List.length_cons, List.length_nil] at *; omega)]; done) | (rw [if_neg (by simp only [ByteArray.size_append, ByteArray.size_extract, show ∀ (a : UInt8) (l : List UInt8), (⟨⟨a :: l⟩⟩ : ByteArray).size = l.length + 1 from fun _ _ => rfl, List.length_cons, List.length_nil] at *; omega)]; with_reducible rfl)
              rotate_left
              · simp only [Act.put, List.setIfInBounds_toArray, List.set_cons_zero, List.set_cons_succ, i64_w, i32_w]
                rfl
              refine pure_ (i := 6) (N := some 16) (v := ?_) (a' := ?_) #[true, true, true, true, true, true, true, false, false, false, false, false, false, false, false, false, false, false, false, false, false, false, false, false] rfl rfl (any_of HT_.out (by kernel_rfl)) (fun _ _ _ h => h) (Or.inl ⟨by rfl, ?_⟩) ?_ ?_
              rotate_left
              · intro w'
                go_simp
                first | with_reducible rfl | (rw [if_neg (by simp only [ByteArray.size_append, ByteArray.size_extract, show ∀ (a : UInt8) (l : List UInt8), (⟨⟨a :: l⟩⟩ : ByteArray).size = l.length + 1 from fun _ _ => rfl, List.length_cons, List.length_nil] at *; omega)]; done) | (rw [if_neg (by simp only [ByteArray.size_append, ByteArray.size_extract, show ∀ (a : UInt8) (l : List UInt8), (⟨⟨a :: l⟩⟩ : ByteArray).size = l.length + 1 from fun _ _ => rfl, List.length_cons, List.length_nil] at *; omega)]; with_reducible rfl)
              rotate_left
              · simp only [Act.put, List.setIfInBounds_toArray, List.set_cons_zero, List.set_cons_succ, i64_w, i32_w]
                rfl
              refine pure_ (i := 7) (N := some 17) (v := ?_) (a' := ?_) #[true, true, true, true, true, true, true, true, false, false, false, false, false, false, false, false, false, false, false, false, false, false, false, false] rfl rfl (any_of HT_.out (by kernel_rfl)) (fun _ _ _ h => h) (Or.inl ⟨by rfl, ?_⟩) ?_ ?_
              rotate_left
              · intro w'
                go_simp
                first | with_reducible rfl | (rw [if_neg (by simp only [ByteArray.size_append, ByteArray.size_extract, show ∀ (a : UInt8) (l : List UInt8), (⟨⟨a :: l⟩⟩ : ByteArray).size = l.length + 1 from fun _ _ => rfl, List.length_cons, List.length_nil] at *; omega)]; done) | (rw [if_neg (by simp only [ByteArray.size_append, ByteArray.size_extract, show ∀ (a : UInt8) (l : List UInt8), (⟨⟨a :: l⟩⟩ : ByteArray).size = l.length + 1 from fun _ _ => rfl, List.length_cons, List.length_nil] at *; omega)]; with_reducible rfl)
              rotate_left
              · simp only [Act.put, List.setIfInBounds_toArray, List.set_cons_zero, List.set_cons_succ, i64_w, i32_w]
                rfl
              refine pure_ (i := 8) (N := some 18) (v := ?_) (a' := ?_) #[true, true, true, true, true, true, true, true, true, false, false, false, false, false, false, false, false, false, false, false, false, false, false, false] rfl rfl (any_of HT_.out (by kernel_rfl)) (fun _ _ _ h => h) (Or.inl ⟨by rfl, ?_⟩) ?_ ?_
              rotate_left
              · intro w'
                go_simp
                first | with_reducible rfl | (rw [if_neg (by simp only [ByteArray.size_append, ByteArray.size_extract, show ∀ (a : UInt8) (l : List UInt8), (⟨⟨a :: l⟩⟩ : ByteArray).size = l.length + 1 from fun _ _ => rfl, List.length_cons, List.length_nil] at *; omega)]; done) | (rw [if_neg (by simp only [ByteArray.size_append, ByteArray.size_extract, show ∀ (a : UInt8) (l : List UInt8), (⟨⟨a :: l⟩⟩ : ByteArray).size = l.length + 1 from fun _ _ => rfl, List.length_cons, List.length_nil] at *; omega)]; with_reducible rfl)
              rotate_left
              · simp only [Act.put, List.setIfInBounds_toArray, List.set_cons_zero, List.set_cons_succ, i64_w, i32_w]
                rfl
              refine pure_ (i := 9) (N := some 19) (v := ?_) (a' := ?_) #[true, true, true, true, true, true, true, true, true, true, false, false, false, false, false, false, false, false, false, false, false, false, false, false] rfl rfl (any_of HT_.out (by kernel_rfl)) (fun _ _ _ h => h) (Or.inl ⟨by rfl, ?_⟩) ?_ ?_
              rotate_left
              · intro w'
                go_simp
                first | with_reducible rfl | (rw [if_neg (by simp only [ByteArray.size_append, ByteArray.size_extract, show ∀ (a : UInt8) (l : List UInt8), (⟨⟨a :: l⟩⟩ : ByteArray).size = l.length + 1 from fun _ _ => rfl, List.length_cons, List.length_nil] at *; omega)]; done) | (rw [if_neg (by simp only [ByteArray.size_append, ByteArray.size_extract, show ∀ (a : UInt8) (l : List UInt8), (⟨⟨a :: l⟩⟩ : ByteArray).size = l.length + 1 from fun _ _ => rfl, List.length_cons, List.length_nil] at *; omega)]; with_reducible rfl)
              rotate_left
              · simp only [Act.put, List.setIfInBounds_toArray, List.set_cons_zero, List.set_cons_succ, i64_w, i32_w]
                rfl
              refine pure_ (i := 10) (N := some 20) (v := undef) (a' := ?_) #[true, true, true, true, true, true, true, true, true, true, true, false, false, false, false, false, false, false, false, false, false, false, false, false] rfl rfl (any_of HT_.out (by kernel_rfl)) (fun _ _ _ h => h) (Or.inr ⟨by rfl, rfl⟩) ?_ ?_
              rotate_left
              · simp only [Act.put, List.setIfInBounds_toArray, List.set_cons_zero, List.set_cons_succ, i64_w, i32_w]
                rfl
              refine pure_ (i := 11) (N := some 21) (v := undef) (a' := ?_) #[true, true, true, true, true, true, true, true, true, true, true, true, false, false, false, false, false, false, false, false, false, false, false, false] rfl rfl (any_of HT_.out (by kernel_rfl)) (fun _ _ _ h => h) (Or.inr ⟨by rfl, rfl⟩) ?_ ?_
              rotate_left
              · simp only [Act.put, List.setIfInBounds_toArray, List.set_cons_zero, List.set_cons_succ, i64_w, i32_w]
                rfl
              refine pure_ (i := 12) (N := some 22) (v := undef) (a' := ?_) #[true, true, true, true, true, true, true, true, true, true, true, true, true, false, false, false, false, false, false, false, false, false, false, false] rfl rfl (any_of HT_.out (by kernel_rfl)) (fun _ _ _ h => h) (Or.inr ⟨by rfl, rfl⟩) ?_ ?_
              rotate_left
              · simp only [Act.put, List.setIfInBounds_toArray, List.set_cons_zero, List.set_cons_succ, i64_w, i32_w]
                rfl
              refine pure_ (i := 13) (N := some 23) (v := undef) (a' := ?_) #[true, true, true, true, true, true, true, true, true, true, true, true, true, true, false, false, false, false, false, false, false, false, false, false] rfl rfl (any_of HT_.out (by kernel_rfl)) (fun _ _ _ h => h) (Or.inr ⟨by rfl, rfl⟩) ?_ ?_
              rotate_left
              · simp only [Act.put, List.setIfInBounds_toArray, List.set_cons_zero, List.set_cons_succ, i64_w, i32_w]
                rfl
              refine pure_ (i := 14) (N := some 24) (v := undef) (a' := ?_) #[true, true, true, true, true, true, true, true, true, true, true, true, true, true, true, false, false, false, false, false, false, false, false, false] rfl rfl (any_of HT_.out (by kernel_rfl)) (fun _ _ _ h => h) (Or.inr ⟨by rfl, rfl⟩) ?_ ?_
              rotate_left
              · simp only [Act.put, List.setIfInBounds_toArray, List.set_cons_zero, List.set_cons_succ, i64_w, i32_w]
                rfl
              refine pure_ (i := 15) (N := some 25) (v := undef) (a' := ?_) #[true, true, true, true, true, true, true, true, true, true, true, true, true, true, true, true, false, false, false, false, false, false, false, false] rfl rfl (any_of HT_.out (by kernel_rfl)) (fun _ _ _ h => h) (Or.inr ⟨by rfl, rfl⟩) ?_ ?_
              rotate_left
              · simp only [Act.put, List.setIfInBounds_toArray, List.set_cons_zero, List.set_cons_succ, i64_w, i32_w]
                rfl
              refine pure_ (i := 16) (N := some 26) (v := undef) (a' := ?_) #[true, true, true, true, true, true, true, true, true, true, true, true, true, true, true, true, true, false, false, false, false, false, false, false] rfl rfl (any_of HT_.out (by kernel_rfl)) (fun _ _ _ h => h) (Or.inr ⟨by rfl, rfl⟩) ?_ ?_
              rotate_left
              · simp only [Act.put, List.setIfInBounds_toArray, List.set_cons_zero, List.set_cons_succ, i64_w, i32_w]
                rfl
              refine pure_ (i := 17) (N := some 27) (v := undef) (a' := ?_) #[true, true, true, true, true, true, true, true, true, true, true, true, true, true, true, true, true, true, false, false, false, false, false, false] rfl rfl (any_of HT_.out (by kernel_rfl)) (fun _ _ _ h => h) (Or.inr ⟨by rfl, rfl⟩) ?_ ?_
              rotate_left
              · simp only [Act.put, List.setIfInBounds_toArray, List.set_cons_zero, List.set_cons_succ, i64_w, i32_w]
                rfl
              refine pure_ (i := 18) (N := some 28) (v := undef) (a' := ?_) #[true, true, true, true, true, true, true, true, true, true, true, true, true, true, true, true, true, true, true, false, false, false, false, false] rfl rfl (any_of HT_.out (by kernel_rfl)) (fun _ _ _ h => h) (Or.inr ⟨by rfl, rfl⟩) ?_ ?_
              rotate_left
              · simp only [Act.put, List.setIfInBounds_toArray, List.set_cons_zero, List.set_cons_succ, i64_w, i32_w]
                rfl
              refine pure_ (i := 19) (N := some 29) (v := undef) (a' := ?_) #[true, true, true, true, true, true, true, true, true, true, true, true, true, true, true, true, true, true, true, true, false, false, false, false] rfl rfl (any_of HT_.out (by kernel_rfl)) (fun _ _ _ h => h) (Or.inr ⟨by rfl, rfl⟩) ?_ ?_
              rotate_left
              · simp only [Act.put, List.setIfInBounds_toArray, List.set_cons_zero, List.set_cons_succ, i64_w, i32_w]
                rfl
              refine pure_ (i := 20) (N := some 30) (v := undef) (a' := ?_) #[true, true, true, true, true, true, true, true, true, true, true, true, true, true, true, true, true, true, true, true, true, false, false, false] rfl rfl (any_of HT_.out (by kernel_rfl)) (fun _ _ _ h => h) (Or.inr ⟨by rfl, rfl⟩) ?_ ?_
              rotate_left
              · simp only [Act.put, List.setIfInBounds_toArray, List.set_cons_zero, List.set_cons_succ, i64_w, i32_w]
                rfl
              refine pure_ (i := 21) (N := some 31) (v := undef) (a' := ?_) #[true, true, true, true, true, true, true, true, true, true, true, true, true, true, true, true, true, true, true, true, true, true, false, false] rfl rfl (any_of HT_.out (by kernel_rfl)) (fun _ _ _ h => h) (Or.inr ⟨by rfl, rfl⟩) ?_ ?_
              rotate_left
              · simp only [Act.put, List.setIfInBounds_toArray, List.set_cons_zero, List.set_cons_succ, i64_w, i32_w]
                rfl
              refine pure_ (i := 22) (N := some 32) (v := ?_) (a' := ?_) #[true, true, true, true, true, true, true, true, true, true, true, true, true, true, true, true, true, true, true, true, true, true, true, false] rfl rfl (any_of HT_.out (by kernel_rfl)) (fun _ _ _ h => h) (Or.inl ⟨by rfl, ?_⟩) ?_ ?_
              rotate_left
              · intro w'
                go_simp
                first | with_reducible rfl | (rw [if_neg (by simp only [ByteArray.size_append, ByteArray.size_extract, show ∀ (a : UInt8) (l : List UInt8), (⟨⟨a :: l⟩⟩ : ByteArray).size = l.length + 1 from fun _ _ => rfl, List.length_cons, List.length_nil] at *; omega)]; done) | (rw [if_neg (by simp only [ByteArray.size_append, ByteArray.size_extract, show ∀ (a : UInt8) (l : List UInt8), (⟨⟨a :: l⟩⟩ : ByteArray).size = l.length + 1 from fun _ _ => rfl, List.length_cons, List.length_nil] at *; omega)]; with_reducible rfl)
              rotate_left
              · simp only [Act.put, List.setIfInBounds_toArray, List.set_cons_zero, List.set_cons_succ, i64_w, i32_w]
                rfl
              refine pure_ (i := 23) (N := some 33) (v := ?_) (a' := ?_) #[true, true, true, true, true, true, true, true, true, true, true, true, true, true, true, true, true, true, true, true, true, true, true, true] rfl rfl (any_of HT_.out (by kernel_rfl)) (fun _ _ _ h => h) (Or.inl ⟨by rfl, ?_⟩) ?_ ?_
              rotate_left
              · intro w'
                go_simp
                first | with_reducible rfl | (rw [if_neg (by simp only [ByteArray.size_append, ByteArray.size_extract, show ∀ (a : UInt8) (l : List UInt8), (⟨⟨a :: l⟩⟩ : ByteArray).size = l.length + 1 from fun _ _ => rfl, List.length_cons, List.length_nil] at *; omega)]; done) | (rw [if_neg (by simp only [ByteArray.size_append, ByteArray.size_extract, show ∀ (a : UInt8) (l : List UInt8), (⟨⟨a :: l⟩⟩ : ByteArray).size = l.length + 1 from fun _ _ => rfl, List.length_cons, List.length_nil] at *; omega)]; with_reducible rfl)
              rotate_left
              · simp only [Act.put, List.setIfInBounds_toArray, List.set_cons_zero, List.set_cons_succ, i64_w, i32_w]
                rfl
              refine done_ (done_of HT_.out (by kernel_rfl)) ?_
              try go_wp2
              go_roundg k1
              case measure => have := HK1.out; omega
              case rel => exact ⟨(wrap64 (x3_1 + 1)), (by first | rfl | (simp; done) | (simp [*]; done)), H', ⟨by have := HK1.out; omega⟩, ⟨by repeat (first | (with_reducible first | exact HB.out | apply below_alloc | apply pw_below_drewN | apply below_drew1) | exact HB.out)⟩⟩
          · replace c5 := Bool.eq_false_iff.mpr c5
            subst c5
            have H1 : (some false) = some r := by rw [if_neg (show ¬ (false = true) by decide)] at H; exact H
            clear H
            have H := H1
            clear H1
            obtain rfl := Option.some.inj H
            try go_wp2
            have n0_ := Aside0.mk (below_drew1 HB.out)
            clear HB
            have HB := n0_
            clear n0_
            have p135 : 0 ≤ (x3_1 : Int) := of_decide_eq_true (by first | (with_reducible assumption) | assumption)
            have q135 : x3_1 < (l0.length : Int) := of_decide_eq_true (by first | (with_reducible assumption) | assumption)
            obtain ⟨ad135, e135, hx135_0, hx135_1, hx135_2, hx135_3⟩ := at_T26 HR0.out x3_1 p135 q135
            have hw135_3 := hx135_3
            have hw135_2 := hx135_2
            have hw135_1 := hx135_1
            have hw135_0 := hx135_0
            cases e135
            replace hx135_0 := (HB.out.cell (World.block_lt_of_cell? w _ hx135_0)).trans hx135_0
            replace hx135_1 := (HB.out.cell (World.block_lt_of_cell? w _ hx135_1)).trans hx135_1
            replace hx135_2 := (HB.out.cell (World.block_lt_of_cell? w _ hx135_2)).trans hx135_2
            replace hx135_3 := (HB.out.cell (World.block_lt_of_cell? w _ hx135_3)).trans hx135_3
            replace p135 := eq_true p135
            replace q135 := eq_true q135
            refine start_ (n := 24) (S := fun w' => w'.cell? (ad135.add ((x3_1).toNat * 4)) = some (.string ((rd_T26 l0 x3_1).f0)) ∧ w'.cell? ⟨(ad135.add ((x3_1).toNat * 4)).block, (ad135.add ((x3_1).toNat * 4)).off + 1, none⟩ = some (.int .i64 ((rd_T26 l0 x3_1).f1)) ∧ w'.cell? ⟨(ad135.add ((x3_1).toNat * 4)).block, (ad135.add ((x3_1).toNat * 4)).off + 2, none⟩ = some (.int .i64 ((rd_T26 l0 x3_1).f2)) ∧ w'.cell? ⟨(ad135.add ((x3_1).toNat * 4)).block, (ad135.add ((x3_1).toNat * 4)).off + 3, none⟩ = some (.int .i64 ((rd_T26 l0 x3_1).f3))) (ds := []) #[false, false, false, false, false, false, false, false, false, false, false, false, false, false, false, false, false, false, false, false, false, false, false, false] (by kernel_rfl) rfl rfl ⟨((HB.out.cell (World.block_lt_of_cell? w _ hw135_0)).trans hw135_0), ((HB.out.cell (World.block_lt_of_cell? w _ hw135_1)).trans hw135_1), ((HB.out.cell (World.block_lt_of_cell? w _ hw135_2)).trans hw135_2), ((HB.out.cell (World.block_lt_of_cell? w _ hw135_3)).trans hw135_3)⟩ (fun hHeld => ?_); refine with_tabW spec_l26Good.tab4 spec_l26Good.bits4 (fun HT_ HW_ => ?_)
            generalize wr.drew = w17 at HB hx135_0 hx135_1 hx135_2 hx135_3 hHeld ⊢
            refine pure_ (i := 0) (N := some 10) (v := ?_) (a' := ?_) #[true, false, false, false, false, false, false, false, false, false, false, false, false, false, false, false, false, false, false, false, false, false, false, false] rfl rfl (any_of HT_.out (by kernel_rfl)) (fun _ _ _ h => h) (Or.inl ⟨by rfl, ?_⟩) ?_ ?_
            rotate_left
            · intro w'
              go_simp
              first | with_reducible rfl | (rw [if_neg (by simp only [ByteArray.size_append, ByteArray.size_extract, show ∀ (a : UInt8) (l : List UInt8), (⟨⟨a :: l⟩⟩ : ByteArray).size = l.length + 1 from fun _ _ => rfl, List.length_cons, List.length_nil] at *; omega)]; done) | (rw [if_neg (by simp only [ByteArray.size_append, ByteArray.size_extract, show ∀ (a : UInt8) (l : List UInt8), (⟨⟨a :: l⟩⟩ : ByteArray).size = l.length + 1 from fun _ _ => rfl, List.length_cons, List.length_nil] at *; omega)]; with_reducible rfl)
            rotate_left
            · simp only [Act.put, List.setIfInBounds_toArray, List.set_cons_zero, List.set_cons_succ, i64_w, i32_w]
              rfl
            refine pure_ (i := 1) (N := some 11) (v := ?_) (a' := ?_) #[true, true, false, false, false, false, false, false, false, false, false, false, false, false, false, false, false, false, false, false, false, false, false, false] rfl rfl (any_of HT_.out (by kernel_rfl)) (fun _ _ _ h => h) (Or.inl ⟨by rfl, ?_⟩) ?_ ?_
            rotate_left
            · intro w'
              go_simp
              first | with_reducible rfl | (rw [if_neg (by simp only [ByteArray.size_append, ByteArray.size_extract, show ∀ (a : UInt8) (l : List UInt8), (⟨⟨a :: l⟩⟩ : ByteArray).size = l.length + 1 from fun _ _ => rfl, List.length_cons, List.length_nil] at *; omega)]; done) | (rw [if_neg (by simp only [ByteArray.size_append, ByteArray.size_extract, show ∀ (a : UInt8) (l : List UInt8), (⟨⟨a :: l⟩⟩ : ByteArray).size = l.length + 1 from fun _ _ => rfl, List.length_cons, List.length_nil] at *; omega)]; with_reducible rfl)
            rotate_left
            · simp only [Act.put, List.setIfInBounds_toArray, List.set_cons_zero, List.set_cons_succ, i64_w, i32_w]
              rfl
            refine pure_ (i := 2) (N := some 12) (v := ?_) (a' := ?_) #[true, true, true, false, false, false, false, false, false, false, false, false, false, false, false, false, false, false, false, false, false, false, false, false] rfl rfl (any_of HT_.out (by kernel_rfl)) (fun _ _ _ h => h) (Or.inl ⟨by rfl, ?_⟩) ?_ ?_
            rotate_left
            · intro w'
              go_simp
              first | with_reducible rfl | (rw [if_neg (by simp only [ByteArray.size_append, ByteArray.size_extract, show ∀ (a : UInt8) (l : List UInt8), (⟨⟨a :: l⟩⟩ : ByteArray).size = l.length + 1 from fun _ _ => rfl, List.length_cons, List.length_nil] at *; omega)]; done) | (rw [if_neg (by simp only [ByteArray.size_append, ByteArray.size_extract, show ∀ (a : UInt8) (l : List UInt8), (⟨⟨a :: l⟩⟩ : ByteArray).size = l.length + 1 from fun _ _ => rfl, List.length_cons, List.length_nil] at *; omega)]; with_reducible rfl)
            rotate_left
            · simp only [Act.put, List.setIfInBounds_toArray, List.set_cons_zero, List.set_cons_succ, i64_w, i32_w]
              rfl
            refine take_ (i := 3) (N := some 13) (v := ?_) (a' := ?_) #[true, true, true, true, false, false, false, false, false, false, false, false, false, false, false, false, false, false, false, false, false, false, false, false] rfl rfl (take_ofW HT_.out HW_.out (by kernel_rfl)) (fun _ _ _ h => h) (Or.inl ⟨by rfl, ?_⟩) hHeld ?_ ?_
            rotate_left
            · rintro w' ⟨s0, s1, s2, s3⟩
              go_simp
              first | with_reducible rfl | (rw [if_neg (by simp only [ByteArray.size_append, ByteArray.size_extract, show ∀ (a : UInt8) (l : List UInt8), (⟨⟨a :: l⟩⟩ : ByteArray).size = l.length + 1 from fun _ _ => rfl, List.length_cons, List.length_nil] at *; omega)]; done) | (rw [if_neg (by simp only [ByteArray.size_append, ByteArray.size_extract, show ∀ (a : UInt8) (l : List UInt8), (⟨⟨a :: l⟩⟩ : ByteArray).size = l.length + 1 from fun _ _ => rfl, List.length_cons, List.length_nil] at *; omega)]; with_reducible rfl)
            rotate_left
            · simp only [Act.put, List.setIfInBounds_toArray, List.set_cons_zero, List.set_cons_succ, i64_w, i32_w]
              rfl
            refine one_ (i := 4) (N := some 14) #[true, true, true, true, true, false, false, false, false, false, false, false, false, false, false, false, false, false, false, false, false, false, false, false] rfl rfl (one_of HT_.out (by kernel_rfl)) (by decide) (fun K hK => ?_)
            refine goes_ Tryd.func55 (by kernel_rfl) rfl #[.agg #[.string ((rd_T26 l0 x3_1).f0), .int .i64 ((rd_T26 l0 x3_1).f1), .int .i64 ((rd_T26 l0 x3_1).f2), .int .i64 ((rd_T26 l0 x3_1).f3)]] (by rfl) rfl rfl (by (try simp only [List.map_toArray, List.map_cons, List.map_nil]); first | done | rfl | (simp only [List.length_drop, List.length_take]; rfl)) ?_
            with_reducible refine (spec_l26One.calls k1 ((rd_T26 l0 x3_1).f0) ((rd_T26 l0 x3_1).f1) ((rd_T26 l0 x3_1).f2) ((rd_T26 l0 x3_1).f3) false _ A4.out).mono ?_
            rintro e w18 ⟨rfl, hb⟩
            refine ⟨_, rfl, ?_⟩
            have n0_ := Aside0.mk (below_step (by repeat (first | (with_reducible first | exact HB.out | apply below_alloc | apply pw_below_drewN | apply below_drew1) | exact HB.out)) hb)
            clear HB
            have HB := n0_
            clear n0_
            (try clear hb)
            (try clear hb2)
            (try clear hk)
            (try clear hi)
            refine hK.out _ _ ⟨((HB.out.cell (World.block_lt_of_cell? w _ hw135_0)).trans hw135_0), ((HB.out.cell (World.block_lt_of_cell? w _ hw135_1)).trans hw135_1), ((HB.out.cell (World.block_lt_of_cell? w _ hw135_2)).trans hw135_2), ((HB.out.cell (World.block_lt_of_cell? w _ hw135_3)).trans hw135_3)⟩ (fun hHeld => ?_)
            clear hK K
            refine norm_ (a' := ?_) ?_ ?_
            rotate_left
            · show Act.put _ (some 14) _ = _
              simp only [Act.put, List.setIfInBounds_toArray, List.set_cons_zero, List.set_cons_succ, i64_w, i32_w]
              rfl
            refine pure_ (i := 5) (N := some 15) (v := ?_) (a' := ?_) #[true, true, true, true, true, true, false, false, false, false, false, false, false, false, false, false, false, false, false, false, false, false, false, false] rfl rfl (any_of HT_.out (by kernel_rfl)) (fun _ _ _ h => h) (Or.inl ⟨by rfl, ?_⟩) ?_ ?_
            rotate_left
            · intro w'
              go_simp
              first | with_reducible rfl | (rw [if_neg (by simp only [ByteArray.size_append, ByteArray.size_extract, show ∀ (a : UInt8) (l : List UInt8), (⟨⟨a :: l⟩⟩ : ByteArray).size = l.length + 1 from fun _ _ => rfl, List.length_cons, List.length_nil] at *; omega)]; done) | (rw [if_neg (by simp only [ByteArray.size_append, ByteArray.size_extract, show ∀ (a : UInt8) (l : List UInt8), (⟨⟨a :: l⟩⟩ : ByteArray).size = l.length + 1 from fun _ _ => rfl, List.length_cons, List.length_nil] at *; omega)]; with_reducible rfl)
            rotate_left
            · simp only [Act.put, List.setIfInBounds_toArray, List.set_cons_zero, List.set_cons_succ, i64_w, i32_w]
              rfl
            refine pure_ (i := 6) (N := some 16) (v := ?_) (a' := ?_) #[true, true, true, true, true, true, true, false, false, false, false, false, false, false, false, false, false, false, false, false, false, false, false, false] rfl rfl (any_of HT_.out (by kernel_rfl)) (fun _ _ _ h => h) (Or.inl ⟨by rfl, ?_⟩) ?_ ?_
            rotate_left
            · intro w'
              go_simp
              first | with_reducible rfl | (rw [if_neg (by simp only [ByteArray.size_append, ByteArray.size_extract, show ∀ (a : UInt8) (l : List UInt8), (⟨⟨a :: l⟩⟩ : ByteArray).size = l.length + 1 from fun _ _ => rfl, List.length_cons, List.length_nil] at *; omega)]; done) | (rw [if_neg (by simp only [ByteArray.size_append, ByteArray.size_extract, show ∀ (a : UInt8) (l : List UInt8), (⟨⟨a :: l⟩⟩ : ByteArray).size = l.length + 1 from fun _ _ => rfl, List.length_cons, List.length_nil] at *; omega)]; with_reducible rfl)
            rotate_left
            · simp only [Act.put, List.setIfInBounds_toArray, List.set_cons_zero, List.set_cons_succ, i64_w, i32_w]
              rfl
            refine pure_ (i := 7) (N := some 17) (v := undef) (a' := ?_) #[true, true, true, true, true, true, true, true, false, false, false, false, false, false, false, false, false, false, false, false, false, false, false, false] rfl rfl (any_of HT_.out (by kernel_rfl)) (fun _ _ _ h => h) (Or.inr ⟨by rfl, rfl⟩) ?_ ?_
            rotate_left
            · simp only [Act.put, List.setIfInBounds_toArray, List.set_cons_zero, List.set_cons_succ, i64_w, i32_w]
              rfl
            refine pure_ (i := 8) (N := some 18) (v := undef) (a' := ?_) #[true, true, true, true, true, true, true, true, true, false, false, false, false, false, false, false, false, false, false, false, false, false, false, false] rfl rfl (any_of HT_.out (by kernel_rfl)) (fun _ _ _ h => h) (Or.inr ⟨by rfl, rfl⟩) ?_ ?_
            rotate_left
            · simp only [Act.put, List.setIfInBounds_toArray, List.set_cons_zero, List.set_cons_succ, i64_w, i32_w]
              rfl
            refine pure_ (i := 9) (N := some 19) (v := undef) (a' := ?_) #[true, true, true, true, true, true, true, true, true, true, false, false, false, false, false, false, false, false, false, false, false, false, false, false] rfl rfl (any_of HT_.out (by kernel_rfl)) (fun _ _ _ h => h) (Or.inr ⟨by rfl, rfl⟩) ?_ ?_
            rotate_left
            · simp only [Act.put, List.setIfInBounds_toArray, List.set_cons_zero, List.set_cons_succ, i64_w, i32_w]
              rfl
            refine pure_ (i := 10) (N := some 20) (v := undef) (a' := ?_) #[true, true, true, true, true, true, true, true, true, true, true, false, false, false, false, false, false, false, false, false, false, false, false, false] rfl rfl (any_of HT_.out (by kernel_rfl)) (fun _ _ _ h => h) (Or.inr ⟨by rfl, rfl⟩) ?_ ?_
            rotate_left
            · simp only [Act.put, List.setIfInBounds_toArray, List.set_cons_zero, List.set_cons_succ, i64_w, i32_w]
              rfl
            refine pure_ (i := 11) (N := some 21) (v := undef) (a' := ?_) #[true, true, true, true, true, true, true, true, true, true, true, true, false, false, false, false, false, false, false, false, false, false, false, false] rfl rfl (any_of HT_.out (by kernel_rfl)) (fun _ _ _ h => h) (Or.inr ⟨by rfl, rfl⟩) ?_ ?_
            rotate_left
            · simp only [Act.put, List.setIfInBounds_toArray, List.set_cons_zero, List.set_cons_succ, i64_w, i32_w]
              rfl
            refine pure_ (i := 12) (N := some 22) (v := undef) (a' := ?_) #[true, true, true, true, true, true, true, true, true, true, true, true, true, false, false, false, false, false, false, false, false, false, false, false] rfl rfl (any_of HT_.out (by kernel_rfl)) (fun _ _ _ h => h) (Or.inr ⟨by rfl, rfl⟩) ?_ ?_
            rotate_left
            · simp only [Act.put, List.setIfInBounds_toArray, List.set_cons_zero, List.set_cons_succ, i64_w, i32_w]
              rfl
            refine pure_ (i := 13) (N := some 23) (v := undef) (a' := ?_) #[true, true, true, true, true, true, true, true, true, true, true, true, true, true, false, false, false, false, false, false, false, false, false, false] rfl rfl (any_of HT_.out (by kernel_rfl)) (fun _ _ _ h => h) (Or.inr ⟨by rfl, rfl⟩) ?_ ?_
            rotate_left
            · simp only [Act.put, List.setIfInBounds_toArray, List.set_cons_zero, List.set_cons_succ, i64_w, i32_w]
              rfl
            refine pure_ (i := 14) (N := some 24) (v := undef) (a' := ?_) #[true, true, true, true, true, true, true, true, true, true, true, true, true, true, true, false, false, false, false, false, false, false, false, false] rfl rfl (any_of HT_.out (by kernel_rfl)) (fun _ _ _ h => h) (Or.inr ⟨by rfl, rfl⟩) ?_ ?_
            rotate_left
            · simp only [Act.put, List.setIfInBounds_toArray, List.set_cons_zero, List.set_cons_succ, i64_w, i32_w]
              rfl
            refine pure_ (i := 15) (N := some 25) (v := undef) (a' := ?_) #[true, true, true, true, true, true, true, true, true, true, true, true, true, true, true, true, false, false, false, false, false, false, false, false] rfl rfl (any_of HT_.out (by kernel_rfl)) (fun _ _ _ h => h) (Or.inr ⟨by rfl, rfl⟩) ?_ ?_
            rotate_left
            · simp only [Act.put, List.setIfInBounds_toArray, List.set_cons_zero, List.set_cons_succ, i64_w, i32_w]
              rfl
            refine pure_ (i := 16) (N := some 26) (v := undef) (a' := ?_) #[true, true, true, true, true, true, true, true, true, true, true, true, true, true, true, true, true, false, false, false, false, false, false, false] rfl rfl (any_of HT_.out (by kernel_rfl)) (fun _ _ _ h => h) (Or.inr ⟨by rfl, rfl⟩) ?_ ?_
            rotate_left
            · simp only [Act.put, List.setIfInBounds_toArray, List.set_cons_zero, List.set_cons_succ, i64_w, i32_w]
              rfl
            refine pure_ (i := 17) (N := some 27) (v := undef) (a' := ?_) #[true, true, true, true, true, true, true, true, true, true, true, true, true, true, true, true, true, true, false, false, false, false, false, false] rfl rfl (any_of HT_.out (by kernel_rfl)) (fun _ _ _ h => h) (Or.inr ⟨by rfl, rfl⟩) ?_ ?_
            rotate_left
            · simp only [Act.put, List.setIfInBounds_toArray, List.set_cons_zero, List.set_cons_succ, i64_w, i32_w]
              rfl
            refine pure_ (i := 18) (N := some 28) (v := undef) (a' := ?_) #[true, true, true, true, true, true, true, true, true, true, true, true, true, true, true, true, true, true, true, false, false, false, false, false] rfl rfl (any_of HT_.out (by kernel_rfl)) (fun _ _ _ h => h) (Or.inr ⟨by rfl, rfl⟩) ?_ ?_
            rotate_left
            · simp only [Act.put, List.setIfInBounds_toArray, List.set_cons_zero, List.set_cons_succ, i64_w, i32_w]
              rfl
            refine pure_ (i := 19) (N := some 29) (v := undef) (a' := ?_) #[true, true, true, true, true, true, true, true, true, true, true, true, true, true, true, true, true, true, true, true, false, false, false, false] rfl rfl (any_of HT_.out (by kernel_rfl)) (fun _ _ _ h => h) (Or.inr ⟨by rfl, rfl⟩) ?_ ?_
            rotate_left
            · simp only [Act.put, List.setIfInBounds_toArray, List.set_cons_zero, List.set_cons_succ, i64_w, i32_w]
              rfl
            refine pure_ (i := 20) (N := some 30) (v := undef) (a' := ?_) #[true, true, true, true, true, true, true, true, true, true, true, true, true, true, true, true, true, true, true, true, true, false, false, false] rfl rfl (any_of HT_.out (by kernel_rfl)) (fun _ _ _ h => h) (Or.inr ⟨by rfl, rfl⟩) ?_ ?_
            rotate_left
            · simp only [Act.put, List.setIfInBounds_toArray, List.set_cons_zero, List.set_cons_succ, i64_w, i32_w]
              rfl
            refine pure_ (i := 21) (N := some 31) (v := undef) (a' := ?_) #[true, true, true, true, true, true, true, true, true, true, true, true, true, true, true, true, true, true, true, true, true, true, false, false] rfl rfl (any_of HT_.out (by kernel_rfl)) (fun _ _ _ h => h) (Or.inr ⟨by rfl, rfl⟩) ?_ ?_
            rotate_left
            · simp only [Act.put, List.setIfInBounds_toArray, List.set_cons_zero, List.set_cons_succ, i64_w, i32_w]
              rfl
            refine pure_ (i := 22) (N := some 32) (v := undef) (a' := ?_) #[true, true, true, true, true, true, true, true, true, true, true, true, true, true, true, true, true, true, true, true, true, true, true, false] rfl rfl (any_of HT_.out (by kernel_rfl)) (fun _ _ _ h => h) (Or.inr ⟨by rfl, rfl⟩) ?_ ?_
            rotate_left
            · simp only [Act.put, List.setIfInBounds_toArray, List.set_cons_zero, List.set_cons_succ, i64_w, i32_w]
              rfl
            refine pure_ (i := 23) (N := some 33) (v := ?_) (a' := ?_) #[true, true, true, true, true, true, true, true, true, true, true, true, true, true, true, true, true, true, true, true, true, true, true, true] rfl rfl (any_of HT_.out (by kernel_rfl)) (fun _ _ _ h => h) (Or.inl ⟨by rfl, ?_⟩) ?_ ?_
            rotate_left
            · intro w'
              go_simp
              first | with_reducible rfl | (rw [if_neg (by simp only [ByteArray.size_append, ByteArray.size_extract, show ∀ (a : UInt8) (l : List UInt8), (⟨⟨a :: l⟩⟩ : ByteArray).size = l.length + 1 from fun _ _ => rfl, List.length_cons, List.length_nil] at *; omega)]; done) | (rw [if_neg (by simp only [ByteArray.size_append, ByteArray.size_extract, show ∀ (a : UInt8) (l : List UInt8), (⟨⟨a :: l⟩⟩ : ByteArray).size = l.length + 1 from fun _ _ => rfl, List.length_cons, List.length_nil] at *; omega)]; with_reducible rfl)
            rotate_left
            · simp only [Act.put, List.setIfInBounds_toArray, List.set_cons_zero, List.set_cons_succ, i64_w, i32_w]
              rfl
            refine done_ (done_of HT_.out (by kernel_rfl)) ?_
            try go_wp2
            go_ret
            exact ⟨by first | rfl | (simp [errW_none, errW_some] <;> rfl) | (simp [*, errW_none, errW_some] <;> rfl), by repeat (first | (with_reducible first | exact HB.out | apply below_alloc | apply pw_below_drewN | apply below_drew1) | exact HB.out)⟩
        · rw [if_neg c3] at H
          exact absurd H (by simp)
      · rw [if_neg c2] at H
        have c2b0 : decide (x3_1 < (l0.length : Int)) = false := decide_eq_false c2
        clear c2
        obtain rfl := Option.some.inj H
        go_wp2
        go_ret
        exact ⟨by first | rfl | (simp [errW_none, errW_some] <;> rfl) | (simp [*, errW_none, errW_some] <;> rfl), by repeat (first | (with_reducible first | exact HB.out | apply below_alloc | apply pw_below_drewN | apply below_drew1) | exact HB.out)⟩

end Go.Proofs.YteepnlofbfccgaaDoor.Pr

namespace Go.Proofs.YteepnlofbfccgaaDoor.Pr
open Go.RowKit Go.Proofs.YteepnlofbfccgaaDoorW.PrintWords Go.Proofs.YteepnlofbfccgaaDoorW.PrintLast Go.Proofs.YteepnlofbfccgaaDoorW.PrintMore
attribute [local go_sem] max2_int min2_int max_two min_two max_three min_three max_four min_four sc_in sx_in   -- for this text's walks alone
set_option linter.unusedVariables false
set_option linter.unusedSimpArgs false

/-! ### spec_l1Num: function 93 -/
def spec_l1Num.f : Nat → Int → Option (ByteArray)
  | 0, _ => none
  | k + 1, a0 => if a0 < 0 then ((spec_l1Num.f k (wrap64 (-a0))).bind fun t406 => (if 1 + t406.size ≤ 9223372036854775807 then (some (sc (⟨#[45]⟩ : ByteArray) t406)) else (none))) else (if a0 < 10 then (if 0 ≤ a0 then (if a0 ≤ (wrap64 (a0 + 1)) then (if (wrap64 (a0 + 1)) ≤ 10 then (some (sx (⟨#[48, 49, 50, 51, 52, 53, 54, 55, 56, 57]⟩ : ByteArray) ((a0 : Int).toNat) (((wrap64 (a0 + 1)) : Int).toNat))) else (none)) else (none)) else (none)) else ((spec_l1Num.f k (wrap64 (Int.tdiv a0 10))).bind fun t407 => (if 0 ≤ (Int.tmod a0 10) then (if (Int.tmod a0 10) ≤ (wrap64 ((Int.tmod a0 10) + 1)) then (if (wrap64 ((Int.tmod a0 10) + 1)) ≤ 10 then (if t407.size + (sx (⟨#[48, 49, 50, 51, 52, 53, 54, 55, 56, 57]⟩ : ByteArray) (((Int.tmod a0 10) : Int).toNat) (((wrap64 ((Int.tmod a0 10) + 1)) : Int).toNat)).size ≤ 9223372036854775807 then (some (sc t407 (sx (⟨#[48, 49, 50, 51, 52, 53, 54, 55, 56, 57]⟩ : ByteArray) (((Int.tmod a0 10) : Int).toNat) (((wrap64 ((Int.tmod a0 10) + 1)) : Int).toNat)))) else (none)) else (none)) else (none)) else (none))))
theorem spec_l1Num.mono_l : ∀ k, (∀ y0, LeO (spec_l1Num.f k y0) (spec_l1Num.f (k + 1) y0))
  | 0 => fun _ r h => by simp [spec_l1Num.f] at h
  | k + 1 => by
    have ih0 := spec_l1Num.mono_l k
    · intro y0
      unfold spec_l1Num.f
      repeat' first
      | (with_reducible exact ih0 _)
      | (with_reducible exact LeO.refl _)
      | (with_reducible exact LeO.none _)
      | (with_reducible refine LeO.ite ?_ ?_)
      | (with_reducible refine LeO.bind ?_ (fun _ => ?_))
      | exact ih0 _
      | exact LeO.none _
      | refine LeO.ite ?_ ?_
      | refine LeO.bind ?_ (fun _ => ?_)
theorem spec_l1Num.mono : ∀ a0 k, LeO (spec_l1Num.f k a0) (spec_l1Num.f (k + 1) a0) := by
  intro a0 k
  have ih0 := spec_l1Num.mono_l k
  exact ih0 a0
def spec_l1Num.T5 : Bool × List (List Nat × List Nat) := (true, [([], []), ([0], [0]), ([1], [1]), ([], []), ([3], [3]), ([], []), ([5], [5]), ([6], [6]), ([4, 7], [4, 7]), ([2, 8], [2, 8]), ([9, 2, 0, 1, 2, 3, 4, 5, 6, 7, 8, 9], [9])])
def spec_l1Num.B5 : List Nat := [0, 1, 3, 0, 8, 0, 32, 96, 248, 511, 1023]
theorem spec_l1Num.tab5 : rtab .any (opsOf Tryd.f93 5) = spec_l1Num.T5 := by kernel_rfl
theorem spec_l1Num.bits5 : waitsOk spec_l1Num.T5.2 spec_l1Num.B5 = true := by kernel_rfl
set_option maxHeartbeats 8000000 in
set_option maxRecDepth 100000 in
theorem spec_l1Num.calls (k : Nat) : ∀ (a0 : Int) (r : ByteArray) (w : World) (h : spec_l1Num.f k a0 = some r),
    Calls Tryd.prog 93 #[.int .i64 a0] w fun e w' => e = .returned (.string r) ∧ Below w.heap.size w w' := by
  induction k using Nat.strongRecOn with
  | _ k ih =>
  intro a0 r w h
  cases k with
  | zero => exact absurd h (by simp [spec_l1Num.f])
  | succ k =>
  simp only [spec_l1Num.f] at h
  have HB := Aside0.mk (Below.refl w.heap.size w)
  have H : (if a0 < 0 then ((spec_l1Num.f k (wrap64 (-a0))).bind fun t406 => (if 1 + t406.size ≤ 9223372036854775807 then (some (sc (⟨#[45]⟩ : ByteArray) t406)) else (none))) else (if a0 < 10 then (if 0 ≤ a0 then (if a0 ≤ (wrap64 (a0 + 1)) then (if (wrap64 (a0 + 1)) ≤ 10 then (some (sx (⟨#[48, 49, 50, 51, 52, 53, 54, 55, 56, 57]⟩ : ByteArray) ((a0 : Int).toNat) (((wrap64 (a0 + 1)) : Int).toNat))) else (none)) else (none)) else (none)) else ((spec_l1Num.f k (wrap64 (Int.tdiv a0 10))).bind fun t407 => (if 0 ≤ (Int.tmod a0 10) then (if (Int.tmod a0 10) ≤ (wrap64 ((Int.tmod a0 10) + 1)) then (if (wrap64 ((Int.tmod a0 10) + 1)) ≤ 10 then (if t407.size + (sx (⟨#[48, 49, 50, 51, 52, 53, 54, 55, 56, 57]⟩ : ByteArray) (((Int.tmod a0 10) : Int).toNat) (((wrap64 ((Int.tmod a0 10) + 1)) : Int).toNat)).size ≤ 9223372036854775807 then (some (sc t407 (sx (⟨#[48, 49, 50, 51, 52, 53, 54, 55, 56, 57]⟩ : ByteArray) (((Int.tmod a0 10) : Int).toNat) (((wrap64 ((Int.tmod a0 10) + 1)) : Int).toNat)))) else (none)) else (none)) else (none)) else (none))))) = some r := h
  clear h
  by_cases c2 : a0 < 0
  · rw [if_pos c2] at H
    have c2b0 : decide (a0 < 0) = true := decide_eq_true c2
    clear c2
    replace H := Option.bind_eq_some_iff.mp H
    obtain ⟨t406, A30, H⟩ := H
    replace H : (if 1 + t406.size ≤ 9223372036854775807 then (some (sc (⟨#[45]⟩ : ByteArray) t406)) else (none)) = some r := H
    have A3 := Aside0.mk A30
    clear A30
    by_cases c4 : 1 + t406.size ≤ 9223372036854775807
    · rw [if_pos c4] at H
      have c4b0 := eq_true c4
      have c4b1 : decide (1 + t406.size ≤ 9223372036854775807) = true := decide_eq_true c4
      try have c4b2 : (9223372036854775807 < 1 + t406.size) = False := eq_false (Nat.not_lt.2 c4)
      obtain rfl := Option.some.inj H
      go_enter Tryd.func93, Tryd.ntmps93
      go_wp2_with (first | ((with_reducible refine gate_callee (f := 93) rfl ?_); refine goesL_ (some 7) rfl rfl Tryd.func93 (by kernel_rfl) rfl #[.int .i64 (wrap64 (-a0))] rfl (by (try simp only [List.map_toArray, List.map_cons, List.map_nil]); first | done | rfl | (simp only [List.length_drop, List.length_take]; rfl)) ?_; (with_reducible refine (ih k (by omega) (wrap64 (-a0)) t406 _ A3.out).mono ?_); rintro e w5 ⟨rfl, hb⟩; refine ⟨_, rfl, ?_⟩; have n0_ := Aside0.mk (below_step (by repeat (first | (with_reducible first | exact HB.out | apply below_alloc | apply pw_below_drewN | apply below_drew1) | exact HB.out)) hb); clear HB; have HB := n0_; clear n0_; (try clear hb); (try clear hb2); (try clear hk); (try clear hi)))
      go_ret
      exact ⟨by first | rfl | (simp [errW_none, errW_some] <;> rfl) | (simp [*, errW_none, errW_some] <;> rfl), by repeat (first | (with_reducible first | exact HB.out | apply below_alloc | apply pw_below_drewN | apply below_drew1) | exact HB.out)⟩
    · rw [if_neg c4] at H
      exact absurd H (by simp)
  · rw [if_neg c2] at H
    have c2b0 : decide (a0 < 0) = false := decide_eq_false c2
    clear c2
    by_cases c6 : a0 < 10
    · rw [if_pos c6] at H
      have c6b0 : decide (a0 < 10) = true := decide_eq_true c6
      clear c6
      by_cases c7 : 0 ≤ a0
      · rw [if_pos c7] at H
        have c7b0 := eq_true c7
        have c7b1 : decide (0 ≤ a0) = true := decide_eq_true c7
        clear c7
        by_cases c8 : a0 ≤ (wrap64 (a0 + 1))
        · rw [if_pos c8] at H
          have c8b0 := eq_true c8
          have c8b1 : decide (a0 ≤ (wrap64 (a0 + 1))) = true := decide_eq_true c8
          by_cases c9 : (wrap64 (a0 + 1)) ≤ 10
          · rw [if_pos c9] at H
            have c9b0 := eq_true c9
            have c9b1 : decide ((wrap64 (a0 + 1)) ≤ 10) = true := decide_eq_true c9
            obtain rfl := Option.some.inj H
            go_enter Tryd.func93, Tryd.ntmps93
            go_wp2
            go_ret
            exact ⟨by first | rfl | (simp [errW_none, errW_some] <;> rfl) | (simp [*, errW_none, errW_some] <;> rfl), by repeat (first | (with_reducible first | exact HB.out | apply below_alloc | apply pw_below_drewN | apply below_drew1) | exact HB.out)⟩
          · rw [if_neg c9] at H
            exact absurd H (by simp)
        · rw [if_neg c8] at H
          exact absurd H (by simp)
      · rw [if_neg c7] at H
        exact absurd H (by simp)
    · rw [if_neg c6] at H
      have c6b0 : decide (a0 < 10) = false := decide_eq_false c6
      clear c6
      replace H := Option.bind_eq_some_iff.mp H
      obtain ⟨t407, A100, H⟩ := H
      replace H : (if 0 ≤ (Int.tmod a0 10) then (if (Int.tmod a0 10) ≤ (wrap64 ((Int.tmod a0 10) + 1)) then (if (wrap64 ((Int.tmod a0 10) + 1)) ≤ 10 then (if t407.size + (sx (⟨#[48, 49, 50, 51, 52, 53, 54, 55, 56, 57]⟩ : ByteArray) (((Int.tmod a0 10) : Int).toNat) (((wrap64 ((Int.tmod a0 10) + 1)) : Int).toNat)).size ≤ 9223372036854775807 then (some (sc t407 (sx (⟨#[48, 49, 50, 51, 52, 53, 54, 55, 56, 57]⟩ : ByteArray) (((Int.tmod a0 10) : Int).toNat) (((wrap64 ((Int.tmod a0 10) + 1)) : Int).toNat)))) else (none)) else (none)) else (none)) else (none)) = some r := H
      have A10 := Aside0.mk A100
      clear A100
      obtain ⟨ji11, hji11⟩ : ∃ j_ : Int, (Int.tmod a0 10) = j_ := ⟨_, rfl⟩
      replace H : (if 0 ≤ (ji11) then (if (ji11) ≤ (wrap64 ((ji11) + 1)) then (if (wrap64 ((ji11) + 1)) ≤ 10 then (if t407.size + (sx (⟨#[48, 49, 50, 51, 52, 53, 54, 55, 56, 57]⟩ : ByteArray) (((ji11) : Int).toNat) (((wrap64 ((ji11) + 1)) : Int).toNat)).size ≤ 9223372036854775807 then (some (sc t407 (sx (⟨#[48, 49, 50, 51, 52, 53, 54, 55, 56, 57]⟩ : ByteArray) (((ji11) : Int).toNat) (((wrap64 ((ji11) + 1)) : Int).toNat)))) else (none)) else (none)) else (none)) else (none)) = some r := by first | (rw [hji11] at H; exact H) | (simp only [hji11] at H ⊢; exact H)
      (try rw [hji11] at A10)
      by_cases c12 : 0 ≤ (ji11)
      · rw [if_pos c12] at H
        have c12b0 := eq_true c12
        have c12b1 : decide (0 ≤ (ji11)) = true := decide_eq_true c12
        clear c12
        by_cases c13 : (ji11) ≤ (wrap64 ((ji11) + 1))
        · rw [if_pos c13] at H
          have c13b0 := eq_true c13
          have c13b1 : decide ((ji11) ≤ (wrap64 ((ji11) + 1))) = true := decide_eq_true c13
          by_cases c14 : (wrap64 ((ji11) + 1)) ≤ 10
          · rw [if_pos c14] at H
            have c14b0 := eq_true c14
            have c14b1 : decide ((wrap64 ((ji11) + 1)) ≤ 10) = true := decide_eq_true c14
            by_cases c15 : t407.size + (sx (⟨#[48, 49, 50, 51, 52, 53, 54, 55, 56, 57]⟩ : ByteArray) (((ji11) : Int).toNat) (((wrap64 ((ji11) + 1)) : Int).toNat)).size ≤ 9223372036854775807
            · rw [if_pos c15] at H
              have c15b0 := eq_true c15
              have c15b1 : decide (t407.size + (sx (⟨#[48, 49, 50, 51, 52, 53, 54, 55, 56, 57]⟩ : ByteArray) (((ji11) : Int).toNat) (((wrap64 ((ji11) + 1)) : Int).toNat)).size ≤ 9223372036854775807) = true := decide_eq_true c15
              try have c15b2 : (9223372036854775807 < t407.size + (sx (⟨#[48, 49, 50, 51, 52, 53, 54, 55, 56, 57]⟩ : ByteArray) (((ji11) : Int).toNat) (((wrap64 ((ji11) + 1)) : Int).toNat)).size) = False := eq_false (Nat.not_lt.2 c15)
              obtain rfl := Option.some.inj H
              go_enter Tryd.func93, Tryd.ntmps93
              try go_wp2
              have n0_ := Aside0.mk (below_drew1 HB.out)
              clear HB
              have HB := n0_
              clear n0_
              refine start_ (n := 11) (S := fun w' => True) (ds := []) #[false, false, false, false, false, false, false, false, false, false, false] (by kernel_rfl) rfl rfl trivial (fun hHeld => ?_); refine with_tabW spec_l1Num.tab5 spec_l1Num.bits5 (fun HT_ HW_ => ?_)
              generalize w.drew = w16 at HB hHeld ⊢
              refine pure_ (i := 0) (N := some 15) (v := ?_) (a' := ?_) #[true, false, false, false, false, false, false, false, false, false, false] rfl rfl (any_of HT_.out (by kernel_rfl)) (fun _ _ _ h => h) (Or.inl ⟨by rfl, ?_⟩) ?_ ?_
              rotate_left
              · intro w'
                go_simp
                first | with_reducible rfl | (rw [if_neg (by simp only [ByteArray.size_append, ByteArray.size_extract, show ∀ (a : UInt8) (l : List UInt8), (⟨⟨a :: l⟩⟩ : ByteArray).size = l.length + 1 from fun _ _ => rfl, List.length_cons, List.length_nil] at *; omega)]; done) | (rw [if_neg (by simp only [ByteArray.size_append, ByteArray.size_extract, show ∀ (a : UInt8) (l : List UInt8), (⟨⟨a :: l⟩⟩ : ByteArray).size = l.length + 1 from fun _ _ => rfl, List.length_cons, List.length_nil] at *; omega)]; with_reducible rfl)
              rotate_left
              · simp only [Act.put, List.setIfInBounds_toArray, List.set_cons_zero, List.set_cons_succ, i64_w, i32_w]
                rfl
              refine pure_ (i := 1) (N := some 16) (v := ?_) (a' := ?_) #[true, true, false, false, false, false, false, false, false, false, false] rfl rfl (any_of HT_.out (by kernel_rfl)) (fun _ _ _ h => h) (Or.inl ⟨by rfl, ?_⟩) ?_ ?_
              rotate_left
              · intro w'
                go_simp
                first | with_reducible rfl | (rw [if_neg (by simp only [ByteArray.size_append, ByteArray.size_extract, show ∀ (a : UInt8) (l : List UInt8), (⟨⟨a :: l⟩⟩ : ByteArray).size = l.length + 1 from fun _ _ => rfl, List.length_cons, List.length_nil] at *; omega)]; done) | (rw [if_neg (by simp only [ByteArray.size_append, ByteArray.size_extract, show ∀ (a : UInt8) (l : List UInt8), (⟨⟨a :: l⟩⟩ : ByteArray).size = l.length + 1 from fun _ _ => rfl, List.length_cons, List.length_nil] at *; omega)]; with_reducible rfl)
              rotate_left
              · simp only [Act.put, List.setIfInBounds_toArray, List.set_cons_zero, List.set_cons_succ, i64_w, i32_w]
                rfl
              refine pure_ (i := 3) (N := some 18) (v := ?_) (a' := ?_) #[true, true, false, true, false, false, false, false, false, false, false] rfl rfl (any_of HT_.out (by kernel_rfl)) (fun _ _ _ h => h) (Or.inl ⟨by rfl, ?_⟩) ?_ ?_
              rotate_left
              · intro w'
                go_simp
                first | with_reducible rfl | (rw [if_neg (by simp only [ByteArray.size_append, ByteArray.size_extract, show ∀ (a : UInt8) (l : List UInt8), (⟨⟨a :: l⟩⟩ : ByteArray).size = l.length + 1 from fun _ _ => rfl, List.length_cons, List.length_nil] at *; omega)]; done) | (rw [if_neg (by simp only [ByteArray.size_append, ByteArray.size_extract, show ∀ (a : UInt8) (l : List UInt8), (⟨⟨a :: l⟩⟩ : ByteArray).size = l.length + 1 from fun _ _ => rfl, List.length_cons, List.length_nil] at *; omega)]; with_reducible rfl)
              rotate_left
              · simp only [Act.put, List.setIfInBounds_toArray, List.set_cons_zero, List.set_cons_succ, i64_w, i32_w]
                rfl
              refine pure_ (i := 4) (N := some 19) (v := ?_) (a' := ?_) #[true, true, false, true, true, false, false, false, false, false, false] rfl rfl (any_of HT_.out (by kernel_rfl)) (fun _ _ _ h => h) (Or.inl ⟨by rfl, ?_⟩) ?_ ?_
              rotate_left
              · intro w'
                go_simp
                first | with_reducible rfl | (rw [if_neg (by simp only [ByteArray.size_append, ByteArray.size_extract, show ∀ (a : UInt8) (l : List UInt8), (⟨⟨a :: l⟩⟩ : ByteArray).size = l.length + 1 from fun _ _ => rfl, List.length_cons, List.length_nil] at *; omega)]; done) | (rw [if_neg (by simp only [ByteArray.size_append, ByteArray.size_extract, show ∀ (a : UInt8) (l : List UInt8), (⟨⟨a :: l⟩⟩ : ByteArray).size = l.length + 1 from fun _ _ => rfl, List.length_cons, List.length_nil] at *; omega)]; with_reducible rfl)
              rotate_left
              · simp only [Act.put, List.setIfInBounds_toArray, List.set_cons_zero, List.set_cons_succ, i64_w, i32_w]
                rfl
              refine pure_ (i := 5) (N := some 20) (v := ?_) (a' := ?_) #[true, true, false, true, true, true, false, false, false, false, false] rfl rfl (any_of HT_.out (by kernel_rfl)) (fun _ _ _ h => h) (Or.inl ⟨by rfl, ?_⟩) ?_ ?_
              rotate_left
              · intro w'
                go_simp
                first | with_reducible rfl | (rw [if_neg (by simp only [ByteArray.size_append, ByteArray.size_extract, show ∀ (a : UInt8) (l : List UInt8), (⟨⟨a :: l⟩⟩ : ByteArray).size = l.length + 1 from fun _ _ => rfl, List.length_cons, List.length_nil] at *; omega)]; done) | (rw [if_neg (by simp only [ByteArray.size_append, ByteArray.size_extract, show ∀ (a : UInt8) (l : List UInt8), (⟨⟨a :: l⟩⟩ : ByteArray).size = l.length + 1 from fun _ _ => rfl, List.length_cons, List.length_nil] at *; omega)]; with_reducible rfl)
              rotate_left
              · simp only [Act.put, List.setIfInBounds_toArray, List.set_cons_zero, List.set_cons_succ, i64_w, i32_w]
                rfl
              refine pure_ (i := 6) (N := some 21) (v := ?_) (a' := ?_) #[true, true, false, true, true, true, true, false, false, false, false] rfl rfl (any_of HT_.out (by kernel_rfl)) (fun _ _ _ h => h) (Or.inl ⟨by rfl, ?_⟩) ?_ ?_
              rotate_left
              · intro w'
                go_simp
                first | with_reducible rfl | (rw [if_neg (by simp only [ByteArray.size_append, ByteArray.size_extract, show ∀ (a : UInt8) (l : List UInt8), (⟨⟨a :: l⟩⟩ : ByteArray).size = l.length + 1 from fun _ _ => rfl, List.length_cons, List.length_nil] at *; omega)]; done) | (rw [if_neg (by simp only [ByteArray.size_append, ByteArray.size_extract, show ∀ (a : UInt8) (l : List UInt8), (⟨⟨a :: l⟩⟩ : ByteArray).size = l.length + 1 from fun _ _ => rfl, List.length_cons, List.length_nil] at *; omega)]; with_reducible rfl)
              rotate_left
              · simp only [Act.put, List.setIfInBounds_toArray, List.set_cons_zero, List.set_cons_succ, i64_w, i32_w]
                rfl
              refine pure_ (i := 7) (N := some 22) (v := ?_) (a' := ?_) #[true, true, false, true, true, true, true, true, false, false, false] rfl rfl (any_of HT_.out (by kernel_rfl)) (fun _ _ _ h => h) (Or.inl ⟨by rfl, ?_⟩) ?_ ?_
              rotate_left
              · intro w'
                go_simp
                first | with_reducible rfl | (rw [if_neg (by simp only [ByteArray.size_append, ByteArray.size_extract, show ∀ (a : UInt8) (l : List UInt8), (⟨⟨a :: l⟩⟩ : ByteArray).size = l.length + 1 from fun _ _ => rfl, List.length_cons, List.length_nil] at *; omega)]; done) | (rw [if_neg (by simp only [ByteArray.size_append, ByteArray.size_extract, show ∀ (a : UInt8) (l : List UInt8), (⟨⟨a :: l⟩⟩ : ByteArray).size = l.length + 1 from fun _ _ => rfl, List.length_cons, List.length_nil] at *; omega)]; with_reducible rfl)
              rotate_left
              · simp only [Act.put, List.setIfInBounds_toArray, List.set_cons_zero, List.set_cons_succ, i64_w, i32_w]
                rfl
              refine pure_ (i := 8) (N := some 23) (v := ?_) (a' := ?_) #[true, true, false, true, true, true, true, true, true, false, false] rfl rfl (any_of HT_.out (by kernel_rfl)) (fun _ _ _ h => h) (Or.inl ⟨by rfl, ?_⟩) ?_ ?_
              rotate_left
              · intro w'
                go_simp
                first | with_reducible rfl | (rw [if_neg (by simp only [ByteArray.size_append, ByteArray.size_extract, show ∀ (a : UInt8) (l : List UInt8), (⟨⟨a :: l⟩⟩ : ByteArray).size = l.length + 1 from fun _ _ => rfl, List.length_cons, List.length_nil] at *; omega)]; done) | (rw [if_neg (by simp only [ByteArray.size_append, ByteArray.size_extract, show ∀ (a : UInt8) (l : List UInt8), (⟨⟨a :: l⟩⟩ : ByteArray).size = l.length + 1 from fun _ _ => rfl, List.length_cons, List.length_nil] at *; omega)]; with_reducible rfl)
              rotate_left
              · simp only [Act.put, List.setIfInBounds_toArray, List.set_cons_zero, List.set_cons_succ, i64_w, i32_w]
                rfl
              refine one_ (i := 2) (N := some 17) #[true, true, true, true, true, true, true, true, true, false, false] rfl rfl (one_of HT_.out (by kernel_rfl)) (by decide) (fun K hK => ?_)
              refine goes_ Tryd.func93 (by kernel_rfl) rfl #[.int .i64 (wrap64 (Int.tdiv a0 10))] (by rfl) rfl rfl (by (try simp only [List.map_toArray, List.map_cons, List.map_nil]); first | done | rfl | (simp only [List.length_drop, List.length_take]; rfl)) ?_
              with_reducible refine (ih k (by omega) (wrap64 (Int.tdiv a0 10)) t407 _ A10.out).mono ?_
              rintro e w17 ⟨rfl, hb⟩
              refine ⟨_, rfl, ?_⟩
              have n0_ := Aside0.mk (below_step (by repeat (first | (with_reducible first | exact HB.out | apply below_alloc | apply pw_below_drewN | apply below_drew1) | exact HB.out)) hb)
              clear HB
              have HB := n0_
              clear n0_
              (try clear hb)
              (try clear hb2)
              (try clear hk)
              (try clear hi)
              refine hK.out _ _ trivial (fun hHeld => ?_)
              clear hK K
              refine norm_ (a' := ?_) ?_ ?_
              rotate_left
              · show Act.put _ (some 17) _ = _
                simp only [Act.put, List.setIfInBounds_toArray, List.set_cons_zero, List.set_cons_succ, i64_w, i32_w]
                rfl
              refine pure_ (i := 9) (N := some 24) (v := ?_) (a' := ?_) #[true, true, true, true, true, true, true, true, true, true, false] rfl rfl (any_of HT_.out (by kernel_rfl)) (fun _ _ _ h => h) (Or.inl ⟨by rfl, ?_⟩) ?_ ?_
              rotate_left
              · intro w'
                go_simp
                first | with_reducible rfl | (rw [if_neg (by simp only [ByteArray.size_append, ByteArray.size_extract, show ∀ (a : UInt8) (l : List UInt8), (⟨⟨a :: l⟩⟩ : ByteArray).size = l.length + 1 from fun _ _ => rfl, List.length_cons, List.length_nil] at *; omega)]; done) | (rw [if_neg (by simp only [ByteArray.size_append, ByteArray.size_extract, show ∀ (a : UInt8) (l : List UInt8), (⟨⟨a :: l⟩⟩ : ByteArray).size = l.length + 1 from fun _ _ => rfl, List.length_cons, List.length_nil] at *; omega)]; with_reducible rfl)
              rotate_left
              · simp only [Act.put, List.setIfInBounds_toArray, List.set_cons_zero, List.set_cons_succ, i64_w, i32_w]
                rfl
              refine pure_ (i := 10) (N := some 2) (v := ?_) (a' := ?_) #[true, true, true, true, true, true, true, true, true, true, true] rfl rfl (any_of HT_.out (by kernel_rfl)) (fun _ _ _ h => h) (Or.inl ⟨by rfl, ?_⟩) ?_ ?_
              rotate_left
              · intro w'
                go_simp
                first | with_reducible rfl | (rw [if_neg (by simp only [ByteArray.size_append, ByteArray.size_extract, show ∀ (a : UInt8) (l : List UInt8), (⟨⟨a :: l⟩⟩ : ByteArray).size = l.length + 1 from fun _ _ => rfl, List.length_cons, List.length_nil] at *; omega)]; done) | (rw [if_neg (by simp only [ByteArray.size_append, ByteArray.size_extract, show ∀ (a : UInt8) (l : List UInt8), (⟨⟨a :: l⟩⟩ : ByteArray).size = l.length + 1 from fun _ _ => rfl, List.length_cons, List.length_nil] at *; omega)]; with_reducible rfl)
              rotate_left
              · simp only [Act.put, List.setIfInBounds_toArray, List.set_cons_zero, List.set_cons_succ, i64_w, i32_w]
                rfl
              refine done_ (done_of HT_.out (by kernel_rfl)) ?_
              try go_wp2
              go_ret
              exact ⟨by first | rfl | (simp [errW_none, errW_some] <;> rfl) | (simp only [← hji11]; first | rfl | (simp [errW_none, errW_some] <;> rfl)) | (simp [*, errW_none, errW_some] <;> rfl), by repeat (first | (with_reducible first | exact HB.out | apply below_alloc | apply pw_below_drewN | apply below_drew1) | exact HB.out)⟩
            · rw [if_neg c15] at H
              exact absurd H (by simp)
          · rw [if_neg c14] at H
            exact absurd H (by simp)
        · rw [if_neg c13] at H
          exact absurd H (by simp)
      · rw [if_neg c12] at H
        exact absurd H (by simp)

end Go.Proofs.YteepnlofbfccgaaDoor.Pr

namespace Go.Proofs.YteepnlofbfccgaaDoor.Pr
open Go.RowKit Go.Proofs.YteepnlofbfccgaaDoorW.PrintWords Go.Proofs.YteepnlofbfccgaaDoorW.PrintLast Go.Proofs.YteepnlofbfccgaaDoorW.PrintMore
attribute [local go_sem] max2_int min2_int max_two min_two max_three min_three max_four min_four sc_in sx_in   -- for this text's walks alone
set_option linter.unusedVariables false
set_option linter.unusedSimpArgs false

/-! ### spec_l26Line: function 70 -/
def spec_l26Line.f (k : Nat) (a0_0 : ByteArray) (a0_1 : Int) (a0_2 : Int) (a0_3 : Int) : Option (ByteArray) := if a0_1 = 0 then (if a0_0.size + 14 ≤ 9223372036854775807 then (some (sc a0_0 (⟨#[58, 32, 110, 111, 116, 32, 115, 117, 114, 118, 101, 121, 101, 100]⟩ : ByteArray))) else (none)) else (if a0_0.size + 2 ≤ 9223372036854775807 then ((spec_l1Num.f k (wrap64 (Int.tdiv a0_1 10))).bind fun t409 => (if (sc a0_0 (⟨#[58, 32]⟩ : ByteArray)).size + t409.size ≤ 9223372036854775807 then (if (sc (sc a0_0 (⟨#[58, 32]⟩ : ByteArray)) t409).size + 9 ≤ 9223372036854775807 then ((spec_l1Num.f k (wrap64 (Int.tdiv a0_2 10))).bind fun t410 => (if (sc (sc (sc a0_0 (⟨#[58, 32]⟩ : ByteArray)) t409) (⟨#[32, 109, 32, 108, 111, 110, 103, 44, 32]⟩ : ByteArray)).size + t410.size ≤ 9223372036854775807 then (if (sc (sc (sc (sc a0_0 (⟨#[58, 32]⟩ : ByteArray)) t409) (⟨#[32, 109, 32, 108, 111, 110, 103, 44, 32]⟩ : ByteArray)) t410).size + 9 ≤ 9223372036854775807 then ((spec_l1Num.f k a0_3).bind fun t411 => (if (sc (sc (sc (sc (sc a0_0 (⟨#[58, 32]⟩ : ByteArray)) t409) (⟨#[32, 109, 32, 108, 111, 110, 103, 44, 32]⟩ : ByteArray)) t410) (⟨#[32, 109, 32, 100, 101, 101, 112, 44, 32]⟩ : ByteArray)).size + t411.size ≤ 9223372036854775807 then (if (sc (sc (sc (sc (sc (sc a0_0 (⟨#[58, 32]⟩ : ByteArray)) t409) (⟨#[32, 109, 32, 108, 111, 110, 103, 44, 32]⟩ : ByteArray)) t410) (⟨#[32, 109, 32, 100, 101, 101, 112, 44, 32]⟩ : ByteArray)) t411).size + 4 ≤ 9223372036854775807 then (if a0_3 = 1 then (some (sc (sc (sc (sc (sc (sc (sc a0_0 (⟨#[58, 32]⟩ : ByteArray)) t409) (⟨#[32, 109, 32, 108, 111, 110, 103, 44, 32]⟩ : ByteArray)) t410) (⟨#[32, 109, 32, 100, 101, 101, 112, 44, 32]⟩ : ByteArray)) t411) (⟨#[32, 108, 101, 103]⟩ : ByteArray))) else (if (sc (sc (sc (sc (sc (sc (sc a0_0 (⟨#[58, 32]⟩ : ByteArray)) t409) (⟨#[32, 109, 32, 108, 111, 110, 103, 44, 32]⟩ : ByteArray)) t410) (⟨#[32, 109, 32, 100, 101, 101, 112, 44, 32]⟩ : ByteArray)) t411) (⟨#[32, 108, 101, 103]⟩ : ByteArray)).size + 1 ≤ 9223372036854775807 then (some (sc (sc (sc (sc (sc (sc (sc (sc a0_0 (⟨#[58, 32]⟩ : ByteArray)) t409) (⟨#[32, 109, 32, 108, 111, 110, 103, 44, 32]⟩ : ByteArray)) t410) (⟨#[32, 109, 32, 100, 101, 101, 112, 44, 32]⟩ : ByteArray)) t411) (⟨#[32, 108, 101, 103]⟩ : ByteArray)) (⟨#[115]⟩ : ByteArray))) else (none))) else (none)) else (none))) else (none)) else (none))) else (none)) else (none))) else (none))
theorem spec_l26Line.mono : ∀ a0 a1 a2 a3 k, LeO (spec_l26Line.f k a0 a1 a2 a3) (spec_l26Line.f (k + 1) a0 a1 a2 a3) := by
  intro a0 a1 a2 a3 k
  unfold spec_l26Line.f
  repeat' first
      | (with_reducible exact spec_l1Num.mono _ _)
      | (with_reducible exact LeO.refl _)
      | (with_reducible exact LeO.none _)
      | (with_reducible refine LeO.ite ?_ ?_)
      | (with_reducible refine LeO.bind ?_ (fun _ => ?_))
      | exact spec_l1Num.mono _ _
      | exact LeO.none _
      | refine LeO.ite ?_ ?_
      | refine LeO.bind ?_ (fun _ => ?_)
def spec_l26Line.T3 : Bool × List (List Nat × List Nat) := (true, [([], []), ([0], [0]), ([1], [1]), ([], []), ([3], [3]), ([4], [4]), ([5], [5]), ([2, 6], [2, 6]), ([7], [7]), ([], []), ([9], [9]), ([10], [10]), ([11, 6], [11]), ([8, 12], [8, 12]), ([13], [13]), ([], []), ([15], [15]), ([16, 12], [16]), ([14, 17], [14, 17]), ([18], [18]), ([19, 17, 0, 1, 2, 3, 4, 5, 6, 7, 8, 9, 10, 11, 12, 13, 14, 15, 16, 17, 18, 19], [19])])
def spec_l26Line.B3 : List Nat := [0, 1, 3, 0, 8, 24, 56, 127, 255, 0, 512, 1536, 3704, 8191, 16383, 0, 32768, 106104, 262143, 524287, 1048575]
theorem spec_l26Line.tab3 : rtab .any (opsOf Tryd.f70 3) = spec_l26Line.T3 := by kernel_rfl
theorem spec_l26Line.bits3 : waitsOk spec_l26Line.T3.2 spec_l26Line.B3 = true := by kernel_rfl
set_option maxHeartbeats 8000000 in
set_option maxRecDepth 100000 in
theorem spec_l26Line.calls (k : Nat) (a0_0 : ByteArray) (a0_1 : Int) (a0_2 : Int) (a0_3 : Int) (r : ByteArray) (w : World) (h : spec_l26Line.f k a0_0 a0_1 a0_2 a0_3 = some r) :
    Calls Tryd.prog 70 #[.agg #[.string a0_0, .int .i64 a0_1, .int .i64 a0_2, .int .i64 a0_3]] w fun e w' => e = .returned (.string r) ∧ Below w.heap.size w w' := by
  have hu26 := Tryd.underlying26
  have HB := Aside0.mk (Below.refl w.heap.size w)
  have H : (if a0_1 = 0 then (if a0_0.size + 14 ≤ 9223372036854775807 then (some (sc a0_0 (⟨#[58, 32, 110, 111, 116, 32, 115, 117, 114, 118, 101, 121, 101, 100]⟩ : ByteArray))) else (none)) else (if a0_0.size + 2 ≤ 9223372036854775807 then ((spec_l1Num.f k (wrap64 (Int.tdiv a0_1 10))).bind fun t409 => (if (sc a0_0 (⟨#[58, 32]⟩ : ByteArray)).size + t409.size ≤ 9223372036854775807 then (if (sc (sc a0_0 (⟨#[58, 32]⟩ : ByteArray)) t409).size + 9 ≤ 9223372036854775807 then ((spec_l1Num.f k (wrap64 (Int.tdiv a0_2 10))).bind fun t410 => (if (sc (sc (sc a0_0 (⟨#[58, 32]⟩ : ByteArray)) t409) (⟨#[32, 109, 32, 108, 111, 110, 103, 44, 32]⟩ : ByteArray)).size + t410.size ≤ 9223372036854775807 then (if (sc (sc (sc (sc a0_0 (⟨#[58, 32]⟩ : ByteArray)) t409) (⟨#[32, 109, 32, 108, 111, 110, 103, 44, 32]⟩ : ByteArray)) t410).size + 9 ≤ 9223372036854775807 then ((spec_l1Num.f k a0_3).bind fun t411 => (if (sc (sc (sc (sc (sc a0_0 (⟨#[58, 32]⟩ : ByteArray)) t409) (⟨#[32, 109, 32, 108, 111, 110, 103, 44, 32]⟩ : ByteArray)) t410) (⟨#[32, 109, 32, 100, 101, 101, 112, 44, 32]⟩ : ByteArray)).size + t411.size ≤ 9223372036854775807 then (if (sc (sc (sc (sc (sc (sc a0_0 (⟨#[58, 32]⟩ : ByteArray)) t409) (⟨#[32, 109, 32, 108, 111, 110, 103, 44, 32]⟩ : ByteArray)) t410) (⟨#[32, 109, 32, 100, 101, 101, 112, 44, 32]⟩ : ByteArray)) t411).size + 4 ≤ 9223372036854775807 then (if a0_3 = 1 then (some (sc (sc (sc (sc (sc (sc (sc a0_0 (⟨#[58, 32]⟩ : ByteArray)) t409) (⟨#[32, 109, 32, 108, 111, 110, 103, 44, 32]⟩ : ByteArray)) t410) (⟨#[32, 109, 32, 100, 101, 101, 112, 44, 32]⟩ : ByteArray)) t411) (⟨#[32, 108, 101, 103]⟩ : ByteArray))) else (if (sc (sc (sc (sc (sc (sc (sc a0_0 (⟨#[58, 32]⟩ : ByteArray)) t409) (⟨#[32, 109, 32, 108, 111, 110, 103, 44, 32]⟩ : ByteArray)) t410) (⟨#[32, 109, 32, 100, 101, 101, 112, 44, 32]⟩ : ByteArray)) t411) (⟨#[32, 108, 101, 103]⟩ : ByteArray)).size + 1 ≤ 9223372036854775807 then (some (sc (sc (sc (sc (sc (sc (sc (sc a0_0 (⟨#[58, 32]⟩ : ByteArray)) t409) (⟨#[32, 109, 32, 108, 111, 110, 103, 44, 32]⟩ : ByteArray)) t410) (⟨#[32, 109, 32, 100, 101, 101, 112, 44, 32]⟩ : ByteArray)) t411) (⟨#[32, 108, 101, 103]⟩ : ByteArray)) (⟨#[115]⟩ : ByteArray))) else (none))) else (none)) else (none))) else (none)) else (none))) else (none)) else (none))) else (none))) = some r := h
  clear h
  by_cases c2 : a0_1 = 0
  · rw [if_pos c2] at H
    have c2b0 : (a0_1 == 0) = true := beq_iff_eq.mpr c2
    have c2b1 : (a0_1 != 0) = false := bne_eq_false_iff_eq.mpr c2
    clear c2
    by_cases c3 : a0_0.size + 14 ≤ 9223372036854775807
    · rw [if_pos c3] at H
      have c3b0 := eq_true c3
      have c3b1 : decide (a0_0.size + 14 ≤ 9223372036854775807) = true := decide_eq_true c3
      try have c3b2 : (9223372036854775807 < a0_0.size + 14) = False := eq_false (Nat.not_lt.2 c3)
      obtain rfl := Option.some.inj H
      go_enter Tryd.func70, Tryd.ntmps70
      go_wp2_with (first | ((with_reducible refine gate_dst (N := 1) rfl ?_); refine box_event ?hg (N := 1) ?hd (cs := #[.string a0_0, .int .i64 a0_1, .int .i64 a0_2, .int .i64 a0_3]) (t := 26) ?hr ?_; (case hd => rfl); (case hg => rfl); (case hr => first | (go_simp; done) | (go_simp; rfl)); intro gb408 hg w4 hbox hb; have n0_ := Aside0.mk (below_step (by repeat (first | (with_reducible first | exact HB.out | apply below_alloc | apply pw_below_drewN | apply below_drew1) | exact HB.out)) hb); have n1_ := Aside0.mk (hbox); have n2_ := Aside0.mk ((by rw [hg]; exact (below_size (by repeat (first | (with_reducible first | exact HB.out | apply below_alloc | apply pw_below_drewN | apply below_drew1) | exact HB.out))) : w.heap.size ≤ gb408)); have n3_ := Aside0.mk ((by rw [hg]; exact (below_size (by repeat (first | (with_reducible first | exact HB.out | apply below_alloc | apply pw_below_drewN | apply below_drew1) | exact HB.out))) : w.heap.size ≤ gb408)); clear HB; have HB := n0_; have BK408 := n1_; have GW408 := n2_; have GE408 := n3_; clear n0_ n1_ n2_ n3_; clear hb hbox hg; have hcz5_0 : w4.cell? ⟨gb408, 0, none⟩ = some (.string a0_0) := (blk_cell BK408.out 0).trans rfl; have hcz5_1 : w4.cell? ⟨gb408, 1, none⟩ = some (.int .i64 a0_1) := (blk_cell BK408.out 1).trans rfl; have hcz5_2 : w4.cell? ⟨gb408, 2, none⟩ = some (.int .i64 a0_2) := (blk_cell BK408.out 2).trans rfl; have hcz5_3 : w4.cell? ⟨gb408, 3, none⟩ = some (.int .i64 a0_3) := (blk_cell BK408.out 3).trans rfl; have hfz5_0 := blk_frozen BK408.out 0; have hfz5_1 := blk_frozen BK408.out 1; have hfz5_2 := blk_frozen BK408.out 2; have hfz5_3 := blk_frozen BK408.out 3))
      go_ret
      exact ⟨by first | rfl | (simp [errW_none, errW_some] <;> rfl) | (simp [*, errW_none, errW_some] <;> rfl), by repeat (first | (with_reducible first | exact HB.out | apply below_alloc | apply pw_below_drewN | apply below_drew1 | refine below_set ?_ GE408.out) | exact HB.out)⟩
    · rw [if_neg c3] at H
      exact absurd H (by simp)
  · rw [if_neg c2] at H
    have c2b0 : (a0_1 == 0) = false := beq_eq_false_iff_ne.mpr c2
    have c2b1 : (a0_1 != 0) = true := bne_iff_ne.mpr c2
    by_cases c6 : a0_0.size + 2 ≤ 9223372036854775807
    · rw [if_pos c6] at H
      have c6b0 := eq_true c6
      have c6b1 : decide (a0_0.size + 2 ≤ 9223372036854775807) = true := decide_eq_true c6
      try have c6b2 : (9223372036854775807 < a0_0.size + 2) = False := eq_false (Nat.not_lt.2 c6)
      replace H := Option.bind_eq_some_iff.mp H
      obtain ⟨t409, A70, H⟩ := H
      replace H : (if (sc a0_0 (⟨#[58, 32]⟩ : ByteArray)).size + t409.size ≤ 9223372036854775807 then (if (sc (sc a0_0 (⟨#[58, 32]⟩ : ByteArray)) t409).size + 9 ≤ 9223372036854775807 then ((spec_l1Num.f k (wrap64 (Int.tdiv a0_2 10))).bind fun t410 => (if (sc (sc (sc a0_0 (⟨#[58, 32]⟩ : ByteArray)) t409) (⟨#[32, 109, 32, 108, 111, 110, 103, 44, 32]⟩ : ByteArray)).size + t410.size ≤ 9223372036854775807 then (if (sc (sc (sc (sc a0_0 (⟨#[58, 32]⟩ : ByteArray)) t409) (⟨#[32, 109, 32, 108, 111, 110, 103, 44, 32]⟩ : ByteArray)) t410).size + 9 ≤ 9223372036854775807 then ((spec_l1Num.f k a0_3).bind fun t411 => (if (sc (sc (sc (sc (sc a0_0 (⟨#[58, 32]⟩ : ByteArray)) t409) (⟨#[32, 109, 32, 108, 111, 110, 103, 44, 32]⟩ : ByteArray)) t410) (⟨#[32, 109, 32, 100, 101, 101, 112, 44, 32]⟩ : ByteArray)).size + t411.size ≤ 9223372036854775807 then (if (sc (sc (sc (sc (sc (sc a0_0 (⟨#[58, 32]⟩ : ByteArray)) t409) (⟨#[32, 109, 32, 108, 111, 110, 103, 44, 32]⟩ : ByteArray)) t410) (⟨#[32, 109, 32, 100, 101, 101, 112, 44, 32]⟩ : ByteArray)) t411).size + 4 ≤ 9223372036854775807 then (if a0_3 = 1 then (some (sc (sc (sc (sc (sc (sc (sc a0_0 (⟨#[58, 32]⟩ : ByteArray)) t409) (⟨#[32, 109, 32, 108, 111, 110, 103, 44, 32]⟩ : ByteArray)) t410) (⟨#[32, 109, 32, 100, 101, 101, 112, 44, 32]⟩ : ByteArray)) t411) (⟨#[32, 108, 101, 103]⟩ : ByteArray))) else (if (sc (sc (sc (sc (sc (sc (sc a0_0 (⟨#[58, 32]⟩ : ByteArray)) t409) (⟨#[32, 109, 32, 108, 111, 110, 103, 44, 32]⟩ : ByteArray)) t410) (⟨#[32, 109, 32, 100, 101, 101, 112, 44, 32]⟩ : ByteArray)) t411) (⟨#[32, 108, 101, 103]⟩ : ByteArray)).size + 1 ≤ 9223372036854775807 then (some (sc (sc (sc (sc (sc (sc (sc (sc a0_0 (⟨#[58, 32]⟩ : ByteArray)) t409) (⟨#[32, 109, 32, 108, 111, 110, 103, 44, 32]⟩ : ByteArray)) t410) (⟨#[32, 109, 32, 100, 101, 101, 112, 44, 32]⟩ : ByteArray)) t411) (⟨#[32, 108, 101, 103]⟩ : ByteArray)) (⟨#[115]⟩ : ByteArray))) else (none))) else (none)) else (none))) else (none)) else (none))) else (none)) else (none)) = some r := H
      have A7 := Aside0.mk A70
      clear A70
      by_cases c8 : (sc a0_0 (⟨#[58, 32]⟩ : ByteArray)).size + t409.size ≤ 9223372036854775807
      · rw [if_pos c8] at H
        have c8b0 := eq_true c8
        have c8b1 : decide ((sc a0_0 (⟨#[58, 32]⟩ : ByteArray)).size + t409.size ≤ 9223372036854775807) = true := decide_eq_true c8
        try have c8b2 : (9223372036854775807 < (sc a0_0 (⟨#[58, 32]⟩ : ByteArray)).size + t409.size) = False := eq_false (Nat.not_lt.2 c8)
        by_cases c9 : (sc (sc a0_0 (⟨#[58, 32]⟩ : ByteArray)) t409).size + 9 ≤ 9223372036854775807
        · rw [if_pos c9] at H
          have c9b0 := eq_true c9
          have c9b1 : decide ((sc (sc a0_0 (⟨#[58, 32]⟩ : ByteArray)) t409).size + 9 ≤ 9223372036854775807) = true := decide_eq_true c9
          try have c9b2 : (9223372036854775807 < (sc (sc a0_0 (⟨#[58, 32]⟩ : ByteArray)) t409).size + 9) = False := eq_false (Nat.not_lt.2 c9)
          replace H := Option.bind_eq_some_iff.mp H
          obtain ⟨t410, A100, H⟩ := H
          replace H : (if (sc (sc (sc a0_0 (⟨#[58, 32]⟩ : ByteArray)) t409) (⟨#[32, 109, 32, 108, 111, 110, 103, 44, 32]⟩ : ByteArray)).size + t410.size ≤ 9223372036854775807 then (if (sc (sc (sc (sc a0_0 (⟨#[58, 32]⟩ : ByteArray)) t409) (⟨#[32, 109, 32, 108, 111, 110, 103, 44, 32]⟩ : ByteArray)) t410).size + 9 ≤ 9223372036854775807 then ((spec_l1Num.f k a0_3).bind fun t411 => (if (sc (sc (sc (sc (sc a0_0 (⟨#[58, 32]⟩ : ByteArray)) t409) (⟨#[32, 109, 32, 108, 111, 110, 103, 44, 32]⟩ : ByteArray)) t410) (⟨#[32, 109, 32, 100, 101, 101, 112, 44, 32]⟩ : ByteArray)).size + t411.size ≤ 9223372036854775807 then (if (sc (sc (sc (sc (sc (sc a0_0 (⟨#[58, 32]⟩ : ByteArray)) t409) (⟨#[32, 109, 32, 108, 111, 110, 103, 44, 32]⟩ : ByteArray)) t410) (⟨#[32, 109, 32, 100, 101, 101, 112, 44, 32]⟩ : ByteArray)) t411).size + 4 ≤ 9223372036854775807 then (if a0_3 = 1 then (some (sc (sc (sc (sc (sc (sc (sc a0_0 (⟨#[58, 32]⟩ : ByteArray)) t409) (⟨#[32, 109, 32, 108, 111, 110, 103, 44, 32]⟩ : ByteArray)) t410) (⟨#[32, 109, 32, 100, 101, 101, 112, 44, 32]⟩ : ByteArray)) t411) (⟨#[32, 108, 101, 103]⟩ : ByteArray))) else (if (sc (sc (sc (sc (sc (sc (sc a0_0 (⟨#[58, 32]⟩ : ByteArray)) t409) (⟨#[32, 109, 32, 108, 111, 110, 103, 44, 32]⟩ : ByteArray)) t410) (⟨#[32, 109, 32, 100, 101, 101, 112, 44, 32]⟩ : ByteArray)) t411) (⟨#[32, 108, 101, 103]⟩ : ByteArray)).size + 1 ≤ 9223372036854775807 then (some (sc (sc (sc (sc (sc (sc (sc (sc a0_0 (⟨#[58, 32]⟩ : ByteArray)) t409) (⟨#[32, 109, 32, 108, 111, 110, 103, 44, 32]⟩ : ByteArray)) t410) (⟨#[32, 109, 32, 100, 101, 101, 112, 44, 32]⟩ : ByteArray)) t411) (⟨#[32, 108, 101, 103]⟩ : ByteArray)) (⟨#[115]⟩ : ByteArray))) else (none))) else (none)) else (none))) else (none)) else (none)) = some r := H
          have A10 := Aside0.mk A100
          clear A100
          by_cases c11 : (sc (sc (sc a0_0 (⟨#[58, 32]⟩ : ByteArray)) t409) (⟨#[32, 109, 32, 108, 111, 110, 103, 44, 32]⟩ : ByteArray)).size + t410.size ≤ 9223372036854775807
          · rw [if_pos c11] at H
            have c11b0 := eq_true c11
            have c11b1 : decide ((sc (sc (sc a0_0 (⟨#[58, 32]⟩ : ByteArray)) t409) (⟨#[32, 109, 32, 108, 111, 110, 103, 44, 32]⟩ : ByteArray)).size + t410.size ≤ 9223372036854775807) = true := decide_eq_true c11
            try have c11b2 : (9223372036854775807 < (sc (sc (sc a0_0 (⟨#[58, 32]⟩ : ByteArray)) t409) (⟨#[32, 109, 32, 108, 111, 110, 103, 44, 32]⟩ : ByteArray)).size + t410.size) = False := eq_false (Nat.not_lt.2 c11)
            by_cases c12 : (sc (sc (sc (sc a0_0 (⟨#[58, 32]⟩ : ByteArray)) t409) (⟨#[32, 109, 32, 108, 111, 110, 103, 44, 32]⟩ : ByteArray)) t410).size + 9 ≤ 9223372036854775807
            · rw [if_pos c12] at H
              have c12b0 := eq_true c12
              have c12b1 : decide ((sc (sc (sc (sc a0_0 (⟨#[58, 32]⟩ : ByteArray)) t409) (⟨#[32, 109, 32, 108, 111, 110, 103, 44, 32]⟩ : ByteArray)) t410).size + 9 ≤ 9223372036854775807) = true := decide_eq_true c12
              try have c12b2 : (9223372036854775807 < (sc (sc (sc (sc a0_0 (⟨#[58, 32]⟩ : ByteArray)) t409) (⟨#[32, 109, 32, 108, 111, 110, 103, 44, 32]⟩ : ByteArray)) t410).size + 9) = False := eq_false (Nat.not_lt.2 c12)
              replace H := Option.bind_eq_some_iff.mp H
              obtain ⟨t411, A130, H⟩ := H
              replace H : (if (sc (sc (sc (sc (sc a0_0 (⟨#[58, 32]⟩ : ByteArray)) t409) (⟨#[32, 109, 32, 108, 111, 110, 103, 44, 32]⟩ : ByteArray)) t410) (⟨#[32, 109, 32, 100, 101, 101, 112, 44, 32]⟩ : ByteArray)).size + t411.size ≤ 9223372036854775807 then (if (sc (sc (sc (sc (sc (sc a0_0 (⟨#[58, 32]⟩ : ByteArray)) t409) (⟨#[32, 109, 32, 108, 111, 110, 103, 44, 32]⟩ : ByteArray)) t410) (⟨#[32, 109, 32, 100, 101, 101, 112, 44, 32]⟩ : ByteArray)) t411).size + 4 ≤ 9223372036854775807 then (if a0_3 = 1 then (some (sc (sc (sc (sc (sc (sc (sc a0_0 (⟨#[58, 32]⟩ : ByteArray)) t409) (⟨#[32, 109, 32, 108, 111, 110, 103, 44, 32]⟩ : ByteArray)) t410) (⟨#[32, 109, 32, 100, 101, 101, 112, 44, 32]⟩ : ByteArray)) t411) (⟨#[32, 108, 101, 103]⟩ : ByteArray))) else (if (sc (sc (sc (sc (sc (sc (sc a0_0 (⟨#[58, 32]⟩ : ByteArray)) t409) (⟨#[32, 109, 32, 108, 111, 110, 103, 44, 32]⟩ : ByteArray)) t410) (⟨#[32, 109, 32, 100, 101, 101, 112, 44, 32]⟩ : ByteArray)) t411) (⟨#[32, 108, 101, 103]⟩ : ByteArray)).size + 1 ≤ 9223372036854775807 then (some (sc (sc (sc (sc (sc (sc (sc (sc a0_0 (⟨#[58, 32]⟩ : ByteArray)) t409) (⟨#[32, 109, 32, 108, 111, 110, 103, 44, 32]⟩ : ByteArray)) t410) (⟨#[32, 109, 32, 100, 101, 101, 112, 44, 32]⟩ : ByteArray)) t411) (⟨#[32, 108, 101, 103]⟩ : ByteArray)) (⟨#[115]⟩ : ByteArray))) else (none))) else (none)) else (none)) = some r := H
              have A13 := Aside0.mk A130
              clear A130
              by_cases c14 : (sc (sc (sc (sc (sc a0_0 (⟨#[58, 32]⟩ : ByteArray)) t409) (⟨#[32, 109, 32, 108, 111, 110, 103, 44, 32]⟩ : ByteArray)) t410) (⟨#[32, 109, 32, 100, 101, 101, 112, 44, 32]⟩ : ByteArray)).size + t411.size ≤ 9223372036854775807
              · rw [if_pos c14] at H
                have c14b0 := eq_true c14
                have c14b1 : decide ((sc (sc (sc (sc (sc a0_0 (⟨#[58, 32]⟩ : ByteArray)) t409) (⟨#[32, 109, 32, 108, 111, 110, 103, 44, 32]⟩ : ByteArray)) t410) (⟨#[32, 109, 32, 100, 101, 101, 112, 44, 32]⟩ : ByteArray)).size + t411.size ≤ 9223372036854775807) = true := decide_eq_true c14
                try have c14b2 : (9223372036854775807 < (sc (sc (sc (sc (sc a0_0 (⟨#[58, 32]⟩ : ByteArray)) t409) (⟨#[32, 109, 32, 108, 111, 110, 103, 44, 32]⟩ : ByteArray)) t410) (⟨#[32, 109, 32, 100, 101, 101, 112, 44, 32]⟩ : ByteArray)).size + t411.size) = False := eq_false (Nat.not_lt.2 c14)
                by_cases c15 : (sc (sc (sc (sc (sc (sc a0_0 (⟨#[58, 32]⟩ : ByteArray)) t409) (⟨#[32, 109, 32, 108, 111, 110, 103, 44, 32]⟩ : ByteArray)) t410) (⟨#[32, 109, 32, 100, 101, 101, 112, 44, 32]⟩ : ByteArray)) t411).size + 4 ≤ 9223372036854775807
                · rw [if_pos c15] at H
                  have c15b0 := eq_true c15
                  have c15b1 : decide ((sc (sc (sc (sc (sc (sc a0_0 (⟨#[58, 32]⟩ : ByteArray)) t409) (⟨#[32, 109, 32, 108, 111, 110, 103, 44, 32]⟩ : ByteArray)) t410) (⟨#[32, 109, 32, 100, 101, 101, 112, 44, 32]⟩ : ByteArray)) t411).size + 4 ≤ 9223372036854775807) = true := decide_eq_true c15
                  try have c15b2 : (9223372036854775807 < (sc (sc (sc (sc (sc (sc a0_0 (⟨#[58, 32]⟩ : ByteArray)) t409) (⟨#[32, 109, 32, 108, 111, 110, 103, 44, 32]⟩ : ByteArray)) t410) (⟨#[32, 109, 32, 100, 101, 101, 112, 44, 32]⟩ : ByteArray)) t411).size + 4) = False := eq_false (Nat.not_lt.2 c15)
                  by_cases c16 : a0_3 = 1
                  · rw [if_pos c16] at H
                    have c16b0 : (a0_3 == 1) = true := beq_iff_eq.mpr c16
                    have c16b1 : (a0_3 != 1) = false := bne_eq_false_iff_eq.mpr c16
                    clear c16
                    obtain rfl := Option.some.inj H
                    go_enter Tryd.func70, Tryd.ntmps70
                    try go_wp2_with (first | ((with_reducible refine gate_dst (N := 1) rfl ?_); refine box_event ?hg (N := 1) ?hd (cs := #[.string a0_0, .int .i64 a0_1, .int .i64 a0_2, .int .i64 a0_3]) (t := 26) ?hr ?_; (case hd => rfl); (case hg => rfl); (case hr => first | (go_simp; done) | (go_simp; rfl)); intro gb408 hg w17 hbox hb; have n0_ := Aside0.mk (below_step (by repeat (first | (with_reducible first | exact HB.out | apply below_alloc | apply pw_below_drewN | apply below_drew1) | exact HB.out)) hb); have n1_ := Aside0.mk (hbox); have n2_ := Aside0.mk ((by rw [hg]; exact (below_size (by repeat (first | (with_reducible first | exact HB.out | apply below_alloc | apply pw_below_drewN | apply below_drew1) | exact HB.out))) : w.heap.size ≤ gb408)); have n3_ := Aside0.mk ((by rw [hg]; exact (below_size (by repeat (first | (with_reducible first | exact HB.out | apply below_alloc | apply pw_below_drewN | apply below_drew1) | exact HB.out))) : w.heap.size ≤ gb408)); clear HB; have HB := n0_; have BK408 := n1_; have GW408 := n2_; have GE408 := n3_; clear n0_ n1_ n2_ n3_; clear hb hbox hg; have hcz18_0 : w17.cell? ⟨gb408, 0, none⟩ = some (.string a0_0) := (blk_cell BK408.out 0).trans rfl; have hcz18_1 : w17.cell? ⟨gb408, 1, none⟩ = some (.int .i64 a0_1) := (blk_cell BK408.out 1).trans rfl; have hcz18_2 : w17.cell? ⟨gb408, 2, none⟩ = some (.int .i64 a0_2) := (blk_cell BK408.out 2).trans rfl; have hcz18_3 : w17.cell? ⟨gb408, 3, none⟩ = some (.int .i64 a0_3) := (blk_cell BK408.out 3).trans rfl; have hfz18_0 := blk_frozen BK408.out 0; have hfz18_1 := blk_frozen BK408.out 1; have hfz18_2 := blk_frozen BK408.out 2; have hfz18_3 := blk_frozen BK408.out 3))
                    have n0_ := Aside0.mk (blk_drew BK408.out)
                    have n1_ := Aside0.mk (below_drew1 HB.out)
                    clear BK408
                    clear HB
                    have BK408 := n0_
                    have HB := n1_
                    clear n0_ n1_
                    refine start_ (n := 21) (S := fun w' => w'.cell? ⟨gb408, 0, none⟩ = some (.string a0_0) ∧ w'.cell? ⟨gb408, 1, none⟩ = some (.int .i64 a0_1) ∧ w'.cell? ⟨gb408, 2, none⟩ = some (.int .i64 a0_2) ∧ w'.cell? ⟨gb408, 3, none⟩ = some (.int .i64 a0_3)) (ds := []) #[false, false, false, false, false, false, false, false, false, false, false, false, false, false, false, false, false, false, false, false, false] (by kernel_rfl) rfl rfl ⟨(blk_cell BK408.out 0).trans rfl, (blk_cell BK408.out 1).trans rfl, (blk_cell BK408.out 2).trans rfl, (blk_cell BK408.out 3).trans rfl⟩ (fun hHeld => ?_); refine with_tabW spec_l26Line.tab3 spec_l26Line.bits3 (fun HT_ HW_ => ?_)
                    generalize w17.drew = w19 at BK408 HB hHeld ⊢
                    refine pure_ (i := 0) (N := some 10) (v := ?_) (a' := ?_) #[true, false, false, false, false, false, false, false, false, false, false, false, false, false, false, false, false, false, false, false, false] rfl rfl (any_of HT_.out (by kernel_rfl)) (fun _ _ _ h => h) (Or.inl ⟨by rfl, ?_⟩) ?_ ?_
                    rotate_left
                    · intro w'
                      go_simp
                      first | with_reducible rfl | (rw [if_neg (by simp only [ByteArray.size_append, ByteArray.size_extract, show ∀ (a : UInt8) (l : List UInt8), (⟨⟨a :: l⟩⟩ : ByteArray).size = l.length + 1 from fun _ _ => rfl, List.length_cons, List.length_nil] at *; omega)]; done) | (rw [if_neg (by simp only [ByteArray.size_append, ByteArray.size_extract, show ∀ (a : UInt8) (l : List UInt8), (⟨⟨a :: l⟩⟩ : ByteArray).size = l.length + 1 from fun _ _ => rfl, List.length_cons, List.length_nil] at *; omega)]; with_reducible rfl)
                    rotate_left
                    · simp only [Act.put, List.setIfInBounds_toArray, List.set_cons_zero, List.set_cons_succ, i64_w, i32_w]
                      rfl
                    refine pure_ (i := 3) (N := some 13) (v := ?_) (a' := ?_) #[true, false, false, true, false, false, false, false, false, false, false, false, false, false, false, false, false, false, false, false, false] rfl rfl (any_of HT_.out (by kernel_rfl)) (fun _ _ _ h => h) (Or.inl ⟨by rfl, ?_⟩) ?_ ?_
                    rotate_left
                    · intro w'
                      go_simp
                      first | with_reducible rfl | (rw [if_neg (by simp only [ByteArray.size_append, ByteArray.size_extract, show ∀ (a : UInt8) (l : List UInt8), (⟨⟨a :: l⟩⟩ : ByteArray).size = l.length + 1 from fun _ _ => rfl, List.length_cons, List.length_nil] at *; omega)]; done) | (rw [if_neg (by simp only [ByteArray.size_append, ByteArray.size_extract, show ∀ (a : UInt8) (l : List UInt8), (⟨⟨a :: l⟩⟩ : ByteArray).size = l.length + 1 from fun _ _ => rfl, List.length_cons, List.length_nil] at *; omega)]; with_reducible rfl)
                    rotate_left
                    · simp only [Act.put, List.setIfInBounds_toArray, List.set_cons_zero, List.set_cons_succ, i64_w, i32_w]
                      rfl
                    refine pure_ (i := 9) (N := some 19) (v := ?_) (a' := ?_) #[true, false, false, true, false, false, false, false, false, true, false, false, false, false, false, false, false, false, false, false, false] rfl rfl (any_of HT_.out (by kernel_rfl)) (fun _ _ _ h => h) (Or.inl ⟨by rfl, ?_⟩) ?_ ?_
                    rotate_left
                    · intro w'
                      go_simp
                      first | with_reducible rfl | (rw [if_neg (by simp only [ByteArray.size_append, ByteArray.size_extract, show ∀ (a : UInt8) (l : List UInt8), (⟨⟨a :: l⟩⟩ : ByteArray).size = l.length + 1 from fun _ _ => rfl, List.length_cons, List.length_nil] at *; omega)]; done) | (rw [if_neg (by simp only [ByteArray.size_append, ByteArray.size_extract, show ∀ (a : UInt8) (l : List UInt8), (⟨⟨a :: l⟩⟩ : ByteArray).size = l.length + 1 from fun _ _ => rfl, List.length_cons, List.length_nil] at *; omega)]; with_reducible rfl)
                    rotate_left
                    · simp only [Act.put, List.setIfInBounds_toArray, List.set_cons_zero, List.set_cons_succ, i64_w, i32_w]
                      rfl
                    refine pure_ (i := 15) (N := some 25) (v := ?_) (a' := ?_) #[true, false, false, true, false, false, false, false, false, true, false, false, false, false, false, true, false, false, false, false, false] rfl rfl (any_of HT_.out (by kernel_rfl)) (fun _ _ _ h => h) (Or.inl ⟨by rfl, ?_⟩) ?_ ?_
                    rotate_left
                    · intro w'
                      go_simp
                      first | with_reducible rfl | (rw [if_neg (by simp only [ByteArray.size_append, ByteArray.size_extract, show ∀ (a : UInt8) (l : List UInt8), (⟨⟨a :: l⟩⟩ : ByteArray).size = l.length + 1 from fun _ _ => rfl, List.length_cons, List.length_nil] at *; omega)]; done) | (rw [if_neg (by simp only [ByteArray.size_append, ByteArray.size_extract, show ∀ (a : UInt8) (l : List UInt8), (⟨⟨a :: l⟩⟩ : ByteArray).size = l.length + 1 from fun _ _ => rfl, List.length_cons, List.length_nil] at *; omega)]; with_reducible rfl)
                    rotate_left
                    · simp only [Act.put, List.setIfInBounds_toArray, List.set_cons_zero, List.set_cons_succ, i64_w, i32_w]
                      rfl
                    refine take_ (i := 1) (N := some 11) (v := ?_) (a' := ?_) #[true, true, false, true, false, false, false, false, false, true, false, false, false, false, false, true, false, false, false, false, false] rfl rfl (take_ofW HT_.out HW_.out (by kernel_rfl)) (fun _ _ _ h => h) (Or.inl ⟨by rfl, ?_⟩) hHeld ?_ ?_
                    rotate_left
                    · rintro w' ⟨s0, s1, s2, s3⟩
                      go_simp
                      first | with_reducible rfl | (rw [if_neg (by simp only [ByteArray.size_append, ByteArray.size_extract, show ∀ (a : UInt8) (l : List UInt8), (⟨⟨a :: l⟩⟩ : ByteArray).size = l.length + 1 from fun _ _ => rfl, List.length_cons, List.length_nil] at *; omega)]; done) | (rw [if_neg (by simp only [ByteArray.size_append, ByteArray.size_extract, show ∀ (a : UInt8) (l : List UInt8), (⟨⟨a :: l⟩⟩ : ByteArray).size = l.length + 1 from fun _ _ => rfl, List.length_cons, List.length_nil] at *; omega)]; with_reducible rfl)
                    rotate_left
                    · simp only [Act.put, List.setIfInBounds_toArray, List.set_cons_zero, List.set_cons_succ, i64_w, i32_w]
                      rfl
                    refine pure_ (i := 2) (N := some 12) (v := ?_) (a' := ?_) #[true, true, true, true, false, false, false, false, false, true, false, false, false, false, false, true, false, false, false, false, false] rfl rfl (any_of HT_.out (by kernel_rfl)) (fun _ _ _ h => h) (Or.inl ⟨by rfl, ?_⟩) ?_ ?_
                    rotate_left
                    · intro w'
                      go_simp
                      first | with_reducible rfl | (rw [if_neg (by simp only [ByteArray.size_append, ByteArray.size_extract, show ∀ (a : UInt8) (l : List UInt8), (⟨⟨a :: l⟩⟩ : ByteArray).size = l.length + 1 from fun _ _ => rfl, List.length_cons, List.length_nil] at *; omega)]; done) | (rw [if_neg (by simp only [ByteArray.size_append, ByteArray.size_extract, show ∀ (a : UInt8) (l : List UInt8), (⟨⟨a :: l⟩⟩ : ByteArray).size = l.length + 1 from fun _ _ => rfl, List.length_cons, List.length_nil] at *; omega)]; with_reducible rfl)
                    rotate_left
                    · simp only [Act.put, List.setIfInBounds_toArray, List.set_cons_zero, List.set_cons_succ, i64_w, i32_w]
                      rfl
                    refine take_ (i := 4) (N := some 14) (v := ?_) (a' := ?_) #[true, true, true, true, true, false, false, false, false, true, false, false, false, false, false, true, false, false, false, false, false] rfl rfl (take_ofW HT_.out HW_.out (by kernel_rfl)) (fun _ _ _ h => h) (Or.inl ⟨by rfl, ?_⟩) hHeld ?_ ?_
                    rotate_left
                    · rintro w' ⟨s0, s1, s2, s3⟩
                      go_simp
                      first | with_reducible rfl | (rw [if_neg (by simp only [ByteArray.size_append, ByteArray.size_extract, show ∀ (a : UInt8) (l : List UInt8), (⟨⟨a :: l⟩⟩ : ByteArray).size = l.length + 1 from fun _ _ => rfl, List.length_cons, List.length_nil] at *; omega)]; done) | (rw [if_neg (by simp only [ByteArray.size_append, ByteArray.size_extract, show ∀ (a : UInt8) (l : List UInt8), (⟨⟨a :: l⟩⟩ : ByteArray).size = l.length + 1 from fun _ _ => rfl, List.length_cons, List.length_nil] at *; omega)]; with_reducible rfl)
                    rotate_left
                    · simp only [Act.put, List.setIfInBounds_toArray, List.set_cons_zero, List.set_cons_succ, i64_w, i32_w]
                      rfl
                    refine pure_ (i := 5) (N := some 15) (v := ?_) (a' := ?_) #[true, true, true, true, true, true, false, false, false, true, false, false, false, false, false, true, false, false, false, false, false] rfl rfl (any_of HT_.out (by kernel_rfl)) (fun _ _ _ h => h) (Or.inl ⟨by rfl, ?_⟩) ?_ ?_
                    rotate_left
                    · intro w'
                      go_simp
                      first | with_reducible rfl | (rw [if_neg (by simp only [ByteArray.size_append, ByteArray.size_extract, show ∀ (a : UInt8) (l : List UInt8), (⟨⟨a :: l⟩⟩ : ByteArray).size = l.length + 1 from fun _ _ => rfl, List.length_cons, List.length_nil] at *; omega)]; done) | (rw [if_neg (by simp only [ByteArray.size_append, ByteArray.size_extract, show ∀ (a : UInt8) (l : List UInt8), (⟨⟨a :: l⟩⟩ : ByteArray).size = l.length + 1 from fun _ _ => rfl, List.length_cons, List.length_nil] at *; omega)]; with_reducible rfl)
                    rotate_left
                    · simp only [Act.put, List.setIfInBounds_toArray, List.set_cons_zero, List.set_cons_succ, i64_w, i32_w]
                      rfl
                    refine take_ (i := 10) (N := some 20) (v := ?_) (a' := ?_) #[true, true, true, true, true, true, false, false, false, true, true, false, false, false, false, true, false, false, false, false, false] rfl rfl (take_ofW HT_.out HW_.out (by kernel_rfl)) (fun _ _ _ h => h) (Or.inl ⟨by rfl, ?_⟩) hHeld ?_ ?_
                    rotate_left
                    · rintro w' ⟨s0, s1, s2, s3⟩
                      go_simp
                      first | with_reducible rfl | (rw [if_neg (by simp only [ByteArray.size_append, ByteArray.size_extract, show ∀ (a : UInt8) (l : List UInt8), (⟨⟨a :: l⟩⟩ : ByteArray).size = l.length + 1 from fun _ _ => rfl, List.length_cons, List.length_nil] at *; omega)]; done) | (rw [if_neg (by simp only [ByteArray.size_append, ByteArray.size_extract, show ∀ (a : UInt8) (l : List UInt8), (⟨⟨a :: l⟩⟩ : ByteArray).size = l.length + 1 from fun _ _ => rfl, List.length_cons, List.length_nil] at *; omega)]; with_reducible rfl)
                    rotate_left
                    · simp only [Act.put, List.setIfInBounds_toArray, List.set_cons_zero, List.set_cons_succ, i64_w, i32_w]
                      rfl
                    refine pure_ (i := 11) (N := some 21) (v := ?_) (a' := ?_) #[true, true, true, true, true, true, false, false, false, true, true, true, false, false, false, true, false, false, false, false, false] rfl rfl (any_of HT_.out (by kernel_rfl)) (fun _ _ _ h => h) (Or.inl ⟨by rfl, ?_⟩) ?_ ?_
                    rotate_left
                    · intro w'
                      go_simp
                      first | with_reducible rfl | (rw [if_neg (by simp only [ByteArray.size_append, ByteArray.size_extract, show ∀ (a : UInt8) (l : List UInt8), (⟨⟨a :: l⟩⟩ : ByteArray).size = l.length + 1 from fun _ _ => rfl, List.length_cons, List.length_nil] at *; omega)]; done) | (rw [if_neg (by simp only [ByteArray.size_append, ByteArray.size_extract, show ∀ (a : UInt8) (l : List UInt8), (⟨⟨a :: l⟩⟩ : ByteArray).size = l.length + 1 from fun _ _ => rfl, List.length_cons, List.length_nil] at *; omega)]; with_reducible rfl)
                    rotate_left
                    · simp only [Act.put, List.setIfInBounds_toArray, List.set_cons_zero, List.set_cons_succ, i64_w, i32_w]
                      rfl
                    refine take_ (i := 16) (N := some 26) (v := ?_) (a' := ?_) #[true, true, true, true, true, true, false, false, false, true, true, true, false, false, false, true, true, false, false, false, false] rfl rfl (take_ofW HT_.out HW_.out (by kernel_rfl)) (fun _ _ _ h => h) (Or.inl ⟨by rfl, ?_⟩) hHeld ?_ ?_
                    rotate_left
                    · rintro w' ⟨s0, s1, s2, s3⟩
                      go_simp
                      first | with_reducible rfl | (rw [if_neg (by simp only [ByteArray.size_append, ByteArray.size_extract, show ∀ (a : UInt8) (l : List UInt8), (⟨⟨a :: l⟩⟩ : ByteArray).size = l.length + 1 from fun _ _ => rfl, List.length_cons, List.length_nil] at *; omega)]; done) | (rw [if_neg (by simp only [ByteArray.size_append, ByteArray.size_extract, show ∀ (a : UInt8) (l : List UInt8), (⟨⟨a :: l⟩⟩ : ByteArray).size = l.length + 1 from fun _ _ => rfl, List.length_cons, List.length_nil] at *; omega)]; with_reducible rfl)
                    rotate_left
                    · simp only [Act.put, List.setIfInBounds_toArray, List.set_cons_zero, List.set_cons_succ, i64_w, i32_w]
                      rfl
                    refine one_ (i := 6) (N := some 16) #[true, true, true, true, true, true, true, false, false, true, true, true, false, false, false, true, true, false, false, false, false] rfl rfl (one_of HT_.out (by kernel_rfl)) (by decide) (fun K hK => ?_)
                    refine goes_ Tryd.func93 (by kernel_rfl) rfl #[.int .i64 (wrap64 (Int.tdiv a0_1 10))] (by rfl) rfl rfl (by (try simp only [List.map_toArray, List.map_cons, List.map_nil]); first | done | rfl | (simp only [List.length_drop, List.length_take]; rfl)) ?_
                    with_reducible refine (spec_l1Num.calls k (wrap64 (Int.tdiv a0_1 10)) t409 _ A7.out).mono ?_
                    rintro e w20 ⟨rfl, hb⟩
                    refine ⟨_, rfl, ?_⟩
                    have n0_ := Aside0.mk (blk_below (g := gb408) (o := .cells #[.string a0_0, .int .i64 a0_1, .int .i64 a0_2, .int .i64 a0_3] 26 (0, 0)) (by (with_reducible repeat (first | refine blk_drewN ?_ _ | refine blk_drew ?_ | refine blk_alloc ?_ _)); exact BK408.out) hb)
                    have n1_ := Aside0.mk (below_step (by repeat (first | (with_reducible first | exact HB.out | apply below_alloc | apply pw_below_drewN | apply below_drew1 | refine below_set ?_ GE408.out) | exact HB.out)) hb)
                    clear BK408
                    clear HB
                    have BK408 := n0_
                    have HB := n1_
                    clear n0_ n1_
                    (try clear hb)
                    (try clear hb2)
                    (try clear hk)
                    (try clear hi)
                    refine hK.out _ _ ⟨(blk_cell BK408.out 0).trans rfl, (blk_cell BK408.out 1).trans rfl, (blk_cell BK408.out 2).trans rfl, (blk_cell BK408.out 3).trans rfl⟩ (fun hHeld => ?_)
                    clear hK K
                    refine norm_ (a' := ?_) ?_ ?_
                    rotate_left
                    · show Act.put _ (some 16) _ = _
                      simp only [Act.put, List.setIfInBounds_toArray, List.set_cons_zero, List.set_cons_succ, i64_w, i32_w]
                      rfl
                    refine pure_ (i := 7) (N := some 17) (v := ?_) (a' := ?_) #[true, true, true, true, true, true, true, true, false, true, true, true, false, false, false, true, true, false, false, false, false] rfl rfl (any_of HT_.out (by kernel_rfl)) (fun _ _ _ h => h) (Or.inl ⟨by rfl, ?_⟩) ?_ ?_
                    rotate_left
                    · intro w'
                      go_simp
                      first | with_reducible rfl | (rw [if_neg (by simp only [ByteArray.size_append, ByteArray.size_extract, show ∀ (a : UInt8) (l : List UInt8), (⟨⟨a :: l⟩⟩ : ByteArray).size = l.length + 1 from fun _ _ => rfl, List.length_cons, List.length_nil] at *; omega)]; done) | (rw [if_neg (by simp only [ByteArray.size_append, ByteArray.size_extract, show ∀ (a : UInt8) (l : List UInt8), (⟨⟨a :: l⟩⟩ : ByteArray).size = l.length + 1 from fun _ _ => rfl, List.length_cons, List.length_nil] at *; omega)]; with_reducible rfl)
                    rotate_left
                    · simp only [Act.put, List.setIfInBounds_toArray, List.set_cons_zero, List.set_cons_succ, i64_w, i32_w]
                      rfl
                    refine pure_ (i := 8) (N := some 18) (v := ?_) (a' := ?_) #[true, true, true, true, true, true, true, true, true, true, true, true, false, false, false, true, true, false, false, false, false] rfl rfl (any_of HT_.out (by kernel_rfl)) (fun _ _ _ h => h) (Or.inl ⟨by rfl, ?_⟩) ?_ ?_
                    rotate_left
                    · intro w'
                      go_simp
                      first | with_reducible rfl | (rw [if_neg (by simp only [ByteArray.size_append, ByteArray.size_extract, show ∀ (a : UInt8) (l : List UInt8), (⟨⟨a :: l⟩⟩ : ByteArray).size = l.length + 1 from fun _ _ => rfl, List.length_cons, List.length_nil] at *; omega)]; done) | (rw [if_neg (by simp only [ByteArray.size_append, ByteArray.size_extract, show ∀ (a : UInt8) (l : List UInt8), (⟨⟨a :: l⟩⟩ : ByteArray).size = l.length + 1 from fun _ _ => rfl, List.length_cons, List.length_nil] at *; omega)]; with_reducible rfl)
                    rotate_left
                    · simp only [Act.put, List.setIfInBounds_toArray, List.set_cons_zero, List.set_cons_succ, i64_w, i32_w]
                      rfl
                    refine one_ (i := 12) (N := some 22) #[true, true, true, true, true, true, true, true, true, true, true, true, true, false, false, true, true, false, false, false, false] rfl rfl (one_of HT_.out (by kernel_rfl)) (by decide) (fun K hK => ?_)
                    refine goes_ Tryd.func93 (by kernel_rfl) rfl #[.int .i64 (wrap64 (Int.tdiv a0_2 10))] (by rfl) rfl rfl (by (try simp only [List.map_toArray, List.map_cons, List.map_nil]); first | done | rfl | (simp only [List.length_drop, List.length_take]; rfl)) ?_
                    with_reducible refine (spec_l1Num.calls k (wrap64 (Int.tdiv a0_2 10)) t410 _ A10.out).mono ?_
                    rintro e w21 ⟨rfl, hb⟩
                    refine ⟨_, rfl, ?_⟩
                    have n0_ := Aside0.mk (blk_below (g := gb408) (o := .cells #[.string a0_0, .int .i64 a0_1, .int .i64 a0_2, .int .i64 a0_3] 26 (0, 0)) (by (with_reducible repeat (first | refine blk_drewN ?_ _ | refine blk_drew ?_ | refine blk_alloc ?_ _)); exact BK408.out) hb)
                    have n1_ := Aside0.mk (below_step (by repeat (first | (with_reducible first | exact HB.out | apply below_alloc | apply pw_below_drewN | apply below_drew1 | refine below_set ?_ GE408.out) | exact HB.out)) hb)
                    clear BK408
                    clear HB
                    have BK408 := n0_
                    have HB := n1_
                    clear n0_ n1_
                    (try clear hb)
                    (try clear hb2)
                    (try clear hk)
                    (try clear hi)
                    refine hK.out _ _ ⟨(blk_cell BK408.out 0).trans rfl, (blk_cell BK408.out 1).trans rfl, (blk_cell BK408.out 2).trans rfl, (blk_cell BK408.out 3).trans rfl⟩ (fun hHeld => ?_)
                    clear hK K
                    refine norm_ (a' := ?_) ?_ ?_
                    rotate_left
                    · show Act.put _ (some 22) _ = _
                      simp only [Act.put, List.setIfInBounds_toArray, List.set_cons_zero, List.set_cons_succ, i64_w, i32_w]
                      rfl
                    refine pure_ (i := 13) (N := some 23) (v := ?_) (a' := ?_) #[true, true, true, true, true, true, true, true, true, true, true, true, true, true, false, true, true, false, false, false, false] rfl rfl (any_of HT_.out (by kernel_rfl)) (fun _ _ _ h => h) (Or.inl ⟨by rfl, ?_⟩) ?_ ?_
                    rotate_left
                    · intro w'
                      go_simp
                      first | with_reducible rfl | (rw [if_neg (by simp only [ByteArray.size_append, ByteArray.size_extract, show ∀ (a : UInt8) (l : List UInt8), (⟨⟨a :: l⟩⟩ : ByteArray).size = l.length + 1 from fun _ _ => rfl, List.length_cons, List.length_nil] at *; omega)]; done) | (rw [if_neg (by simp only [ByteArray.size_append, ByteArray.size_extract, show ∀ (a : UInt8) (l : List UInt8), (⟨⟨a :: l⟩⟩ : ByteArray).size = l.length + 1 from fun _ _ => rfl, List.length_cons, List.length_nil] at *; omega)]; with_reducible rfl)
                    rotate_left
                    · simp only [Act.put, List.setIfInBounds_toArray, List.set_cons_zero, List.set_cons_succ, i64_w, i32_w]
                      rfl
                    refine pure_ (i := 14) (N := some 24) (v := ?_) (a' := ?_) #[true, true, true, true, true, true, true, true, true, true, true, true, true, true, true, true, true, false, false, false, false] rfl rfl (any_of HT_.out (by kernel_rfl)) (fun _ _ _ h => h) (Or.inl ⟨by rfl, ?_⟩) ?_ ?_
                    rotate_left
                    · intro w'
                      go_simp
                      first | with_reducible rfl | (rw [if_neg (by simp only [ByteArray.size_append, ByteArray.size_extract, show ∀ (a : UInt8) (l : List UInt8), (⟨⟨a :: l⟩⟩ : ByteArray).size = l.length + 1 from fun _ _ => rfl, List.length_cons, List.length_nil] at *; omega)]; done) | (rw [if_neg (by simp only [ByteArray.size_append, ByteArray.size_extract, show ∀ (a : UInt8) (l : List UInt8), (⟨⟨a :: l⟩⟩ : ByteArray).size = l.length + 1 from fun _ _ => rfl, List.length_cons, List.length_nil] at *; omega)]; with_reducible rfl)
                    rotate_left
                    · simp only [Act.put, List.setIfInBounds_toArray, List.set_cons_zero, List.set_cons_succ, i64_w, i32_w]
                      rfl
                    refine one_ (i := 17) (N := some 27) #[true, true, true, true, true, true, true, true, true, true, true, true, true, true, true, true, true, true, false, false, false] rfl rfl (one_of HT_.out (by kernel_rfl)) (by decide) (fun K hK => ?_)
                    refine goes_ Tryd.func93 (by kernel_rfl) rfl #[.int .i64 a0_3] (by rfl) rfl rfl (by (try simp only [List.map_toArray, List.map_cons, List.map_nil]); first | done | rfl | (simp only [List.length_drop, List.length_take]; rfl)) ?_
                    with_reducible refine (spec_l1Num.calls k a0_3 t411 _ A13.out).mono ?_
                    rintro e w22 ⟨rfl, hb⟩
                    refine ⟨_, rfl, ?_⟩
                    have n0_ := Aside0.mk (blk_below (g := gb408) (o := .cells #[.string a0_0, .int .i64 a0_1, .int .i64 a0_2, .int .i64 a0_3] 26 (0, 0)) (by (with_reducible repeat (first | refine blk_drewN ?_ _ | refine blk_drew ?_ | refine blk_alloc ?_ _)); exact BK408.out) hb)
                    have n1_ := Aside0.mk (below_step (by repeat (first | (with_reducible first | exact HB.out | apply below_alloc | apply pw_below_drewN | apply below_drew1 | refine below_set ?_ GE408.out) | exact HB.out)) hb)
                    clear BK408
                    clear HB
                    have BK408 := n0_
                    have HB := n1_
                    clear n0_ n1_
                    (try clear hb)
                    (try clear hb2)
                    (try clear hk)
                    (try clear hi)
                    refine hK.out _ _ ⟨(blk_cell BK408.out 0).trans rfl, (blk_cell BK408.out 1).trans rfl, (blk_cell BK408.out 2).trans rfl, (blk_cell BK408.out 3).trans rfl⟩ (fun hHeld => ?_)
                    clear hK K
                    refine norm_ (a' := ?_) ?_ ?_
                    rotate_left
                    · show Act.put _ (some 27) _ = _
                      simp only [Act.put, List.setIfInBounds_toArray, List.set_cons_zero, List.set_cons_succ, i64_w, i32_w]
                      rfl
                    refine pure_ (i := 18) (N := some 28) (v := ?_) (a' := ?_) #[true, true, true, true, true, true, true, true, true, true, true, true, true, true, true, true, true, true, true, false, false] rfl rfl (any_of HT_.out (by kernel_rfl)) (fun _ _ _ h => h) (Or.inl ⟨by rfl, ?_⟩) ?_ ?_
                    rotate_left
                    · intro w'
                      go_simp
                      first | with_reducible rfl | (rw [if_neg (by simp only [ByteArray.size_append, ByteArray.size_extract, show ∀ (a : UInt8) (l : List UInt8), (⟨⟨a :: l⟩⟩ : ByteArray).size = l.length + 1 from fun _ _ => rfl, List.length_cons, List.length_nil] at *; omega)]; done) | (rw [if_neg (by simp only [ByteArray.size_append, ByteArray.size_extract, show ∀ (a : UInt8) (l : List UInt8), (⟨⟨a :: l⟩⟩ : ByteArray).size = l.length + 1 from fun _ _ => rfl, List.length_cons, List.length_nil] at *; omega)]; with_reducible rfl)
                    rotate_left
                    · simp only [Act.put, List.setIfInBounds_toArray, List.set_cons_zero, List.set_cons_succ, i64_w, i32_w]
                      rfl
                    refine pure_ (i := 19) (N := some 29) (v := ?_) (a' := ?_) #[true, true, true, true, true, true, true, true, true, true, true, true, true, true, true, true, true, true, true, true, false] rfl rfl (any_of HT_.out (by kernel_rfl)) (fun _ _ _ h => h) (Or.inl ⟨by rfl, ?_⟩) ?_ ?_
                    rotate_left
                    · intro w'
                      go_simp
                      first | with_reducible rfl | (rw [if_neg (by simp only [ByteArray.size_append, ByteArray.size_extract, show ∀ (a : UInt8) (l : List UInt8), (⟨⟨a :: l⟩⟩ : ByteArray).size = l.length + 1 from fun _ _ => rfl, List.length_cons, List.length_nil] at *; omega)]; done) | (rw [if_neg (by simp only [ByteArray.size_append, ByteArray.size_extract, show ∀ (a : UInt8) (l : List UInt8), (⟨⟨a :: l⟩⟩ : ByteArray).size = l.length + 1 from fun _ _ => rfl, List.length_cons, List.length_nil] at *; omega)]; with_reducible rfl)
                    rotate_left
                    · simp only [Act.put, List.setIfInBounds_toArray, List.set_cons_zero, List.set_cons_succ, i64_w, i32_w]
                      rfl
                    refine pure_ (i := 20) (N := some 3) (v := ?_) (a' := ?_) #[true, true, true, true, true, true, true, true, true, true, true, true, true, true, true, true, true, true, true, true, true] rfl rfl (any_of HT_.out (by kernel_rfl)) (fun _ _ _ h => h) (Or.inl ⟨by rfl, ?_⟩) ?_ ?_
                    rotate_left
                    · intro w'
                      go_simp
                      first | with_reducible rfl | (rw [if_neg (by simp only [ByteArray.size_append, ByteArray.size_extract, show ∀ (a : UInt8) (l : List UInt8), (⟨⟨a :: l⟩⟩ : ByteArray).size = l.length + 1 from fun _ _ => rfl, List.length_cons, List.length_nil] at *; omega)]; done) | (rw [if_neg (by simp only [ByteArray.size_append, ByteArray.size_extract, show ∀ (a : UInt8) (l : List UInt8), (⟨⟨a :: l⟩⟩ : ByteArray).size = l.length + 1 from fun _ _ => rfl, List.length_cons, List.length_nil] at *; omega)]; with_reducible rfl)
                    rotate_left
                    · simp only [Act.put, List.setIfInBounds_toArray, List.set_cons_zero, List.set_cons_succ, i64_w, i32_w]
                      rfl
                    refine done_ (done_of HT_.out (by kernel_rfl)) ?_
                    have hcz23_0 : w22.cell? ⟨gb408, 0, none⟩ = some (.string a0_0) := (blk_cell BK408.out 0).trans rfl
                    have hcz23_1 : w22.cell? ⟨gb408, 1, none⟩ = some (.int .i64 a0_1) := (blk_cell BK408.out 1).trans rfl
                    have hcz23_2 : w22.cell? ⟨gb408, 2, none⟩ = some (.int .i64 a0_2) := (blk_cell BK408.out 2).trans rfl
                    have hcz23_3 : w22.cell? ⟨gb408, 3, none⟩ = some (.int .i64 a0_3) := (blk_cell BK408.out 3).trans rfl
                    have hfz23_0 := blk_frozen BK408.out 0
                    have hfz23_1 := blk_frozen BK408.out 1
                    have hfz23_2 := blk_frozen BK408.out 2
                    have hfz23_3 := blk_frozen BK408.out 3
                    try go_wp2
                    go_ret
                    exact ⟨by first | rfl | (simp [errW_none, errW_some] <;> rfl) | (simp [*, errW_none, errW_some] <;> rfl), by repeat (first | (with_reducible first | exact HB.out | apply below_alloc | apply pw_below_drewN | apply below_drew1 | refine below_set ?_ GE408.out) | exact HB.out)⟩
                  · rw [if_neg c16] at H
                    have c16b0 : (a0_3 == 1) = false := beq_eq_false_iff_ne.mpr c16
                    have c16b1 : (a0_3 != 1) = true := bne_iff_ne.mpr c16
                    by_cases c24 : (sc (sc (sc (sc (sc (sc (sc a0_0 (⟨#[58, 32]⟩ : ByteArray)) t409) (⟨#[32, 109, 32, 108, 111, 110, 103, 44, 32]⟩ : ByteArray)) t410) (⟨#[32, 109, 32, 100, 101, 101, 112, 44, 32]⟩ : ByteArray)) t411) (⟨#[32, 108, 101, 103]⟩ : ByteArray)).size + 1 ≤ 9223372036854775807
                    · rw [if_pos c24] at H
                      have c24b0 := eq_true c24
                      have c24b1 : decide ((sc (sc (sc (sc (sc (sc (sc a0_0 (⟨#[58, 32]⟩ : ByteArray)) t409) (⟨#[32, 109, 32, 108, 111, 110, 103, 44, 32]⟩ : ByteArray)) t410) (⟨#[32, 109, 32, 100, 101, 101, 112, 44, 32]⟩ : ByteArray)) t411) (⟨#[32, 108, 101, 103]⟩ : ByteArray)).size + 1 ≤ 9223372036854775807) = true := decide_eq_true c24
                      try have c24b2 : (9223372036854775807 < (sc (sc (sc (sc (sc (sc (sc a0_0 (⟨#[58, 32]⟩ : ByteArray)) t409) (⟨#[32, 109, 32, 108, 111, 110, 103, 44, 32]⟩ : ByteArray)) t410) (⟨#[32, 109, 32, 100, 101, 101, 112, 44, 32]⟩ : ByteArray)) t411) (⟨#[32, 108, 101, 103]⟩ : ByteArray)).size + 1) = False := eq_false (Nat.not_lt.2 c24)
                      obtain rfl := Option.some.inj H
                      go_enter Tryd.func70, Tryd.ntmps70
                      try go_wp2_with (first | ((with_reducible refine gate_dst (N := 1) rfl ?_); refine box_event ?hg (N := 1) ?hd (cs := #[.string a0_0, .int .i64 a0_1, .int .i64 a0_2, .int .i64 a0_3]) (t := 26) ?hr ?_; (case hd => rfl); (case hg => rfl); (case hr => first | (go_simp; done) | (go_simp; rfl)); intro gb408 hg w25 hbox hb; have n0_ := Aside0.mk (below_step (by repeat (first | (with_reducible first | exact HB.out | apply below_alloc | apply pw_below_drewN | apply below_drew1) | exact HB.out)) hb); have n1_ := Aside0.mk (hbox); have n2_ := Aside0.mk ((by rw [hg]; exact (below_size (by repeat (first | (with_reducible first | exact HB.out | apply below_alloc | apply pw_below_drewN | apply below_drew1) | exact HB.out))) : w.heap.size ≤ gb408)); have n3_ := Aside0.mk ((by rw [hg]; exact (below_size (by repeat (first | (with_reducible first | exact HB.out | apply below_alloc | apply pw_below_drewN | apply below_drew1) | exact HB.out))) : w.heap.size ≤ gb408)); clear HB; have HB := n0_; have BK408 := n1_; have GW408 := n2_; have GE408 := n3_; clear n0_ n1_ n2_ n3_; clear hb hbox hg; have hcz26_0 : w25.cell? ⟨gb408, 0, none⟩ = some (.string a0_0) := (blk_cell BK408.out 0).trans rfl; have hcz26_1 : w25.cell? ⟨gb408, 1, none⟩ = some (.int .i64 a0_1) := (blk_cell BK408.out 1).trans rfl; have hcz26_2 : w25.cell? ⟨gb408, 2, none⟩ = some (.int .i64 a0_2) := (blk_cell BK408.out 2).trans rfl; have hcz26_3 : w25.cell? ⟨gb408, 3, none⟩ = some (.int .i64 a0_3) := (blk_cell BK408.out 3).trans rfl; have hfz26_0 := blk_frozen BK408.out 0; have hfz26_1 := blk_frozen BK408.out 1; have hfz26_2 := blk_frozen BK408.out 2; have hfz26_3 := blk_frozen BK408.out 3))
                      have n0_ := Aside0.mk (blk_drew BK408.out)
                      have n1_ := Aside0.mk (below_drew1 HB.out)
                      clear BK408
                      clear HB
                      have BK408 := n0_
                      have HB := n1_
                      clear n0_ n1_
                      refine start_ (n := 21) (S := fun w' => w'.cell? ⟨gb408, 0, none⟩ = some (.string a0_0) ∧ w'.cell? ⟨gb408, 1, none⟩ = some (.int .i64 a0_1) ∧ w'.cell? ⟨gb408, 2, none⟩ = some (.int .i64 a0_2) ∧ w'.cell? ⟨gb408, 3, none⟩ = some (.int .i64 a0_3)) (ds := []) #[false, false, false, false, false, false, false, false, false, false, false, false, false, false, false, false, false, false, false, false, false] (by kernel_rfl) rfl rfl ⟨(blk_cell BK408.out 0).trans rfl, (blk_cell BK408.out 1).trans rfl, (blk_cell BK408.out 2).trans rfl, (blk_cell BK408.out 3).trans rfl⟩ (fun hHeld => ?_); refine with_tabW spec_l26Line.tab3 spec_l26Line.bits3 (fun HT_ HW_ => ?_)
                      generalize w25.drew = w27 at BK408 HB hHeld ⊢
                      refine pure_ (i := 0) (N := some 10) (v := ?_) (a' := ?_) #[true, false, false, false, false, false, false, false, false, false, false, false, false, false, false, false, false, false, false, false, false] rfl rfl (any_of HT_.out (by kernel_rfl)) (fun _ _ _ h => h) (Or.inl ⟨by rfl, ?_⟩) ?_ ?_
                      rotate_left
                      · intro w'
                        go_simp
                        first | with_reducible rfl | (rw [if_neg (by simp only [ByteArray.size_append, ByteArray.size_extract, show ∀ (a : UInt8) (l : List UInt8), (⟨⟨a :: l⟩⟩ : ByteArray).size = l.length + 1 from fun _ _ => rfl, List.length_cons, List.length_nil] at *; omega)]; done) | (rw [if_neg (by simp only [ByteArray.size_append, ByteArray.size_extract, show ∀ (a : UInt8) (l : List UInt8), (⟨⟨a :: l⟩⟩ : ByteArray).size = l.length + 1 from fun _ _ => rfl, List.length_cons, List.length_nil] at *; omega)]; with_reducible rfl)
                      rotate_left
                      · simp only [Act.put, List.setIfInBounds_toArray, List.set_cons_zero, List.set_cons_succ, i64_w, i32_w]
                        rfl
                      refine pure_ (i := 3) (N := some 13) (v := ?_) (a' := ?_) #[true, false, false, true, false, false, false, false, false, false, false, false, false, false, false, false, false, false, false, false, false] rfl rfl (any_of HT_.out (by kernel_rfl)) (fun _ _ _ h => h) (Or.inl ⟨by rfl, ?_⟩) ?_ ?_
                      rotate_left
                      · intro w'
                        go_simp
                        first | with_reducible rfl | (rw [if_neg (by simp only [ByteArray.size_append, ByteArray.size_extract, show ∀ (a : UInt8) (l : List UInt8), (⟨⟨a :: l⟩⟩ : ByteArray).size = l.length + 1 from fun _ _ => rfl, List.length_cons, List.length_nil] at *; omega)]; done) | (rw [if_neg (by simp only [ByteArray.size_append, ByteArray.size_extract, show ∀ (a : UInt8) (l : List UInt8), (⟨⟨a :: l⟩⟩ : ByteArray).size = l.length + 1 from fun _ _ => rfl, List.length_cons, List.length_nil] at *; omega)]; with_reducible rfl)
                      rotate_left
                      · simp only [Act.put, List.setIfInBounds_toArray, List.set_cons_zero, List.set_cons_succ, i64_w, i32_w]
                        rfl
                      refine pure_ (i := 9) (N := some 19) (v := ?_) (a' := ?_) #[true, false, false, true, false, false, false, false, false, true, false, false, false, false, false, false, false, false, false, false, false] rfl rfl (any_of HT_.out (by kernel_rfl)) (fun _ _ _ h => h) (Or.inl ⟨by rfl, ?_⟩) ?_ ?_
                      rotate_left
                      · intro w'
                        go_simp
                        first | with_reducible rfl | (rw [if_neg (by simp only [ByteArray.size_append, ByteArray.size_extract, show ∀ (a : UInt8) (l : List UInt8), (⟨⟨a :: l⟩⟩ : ByteArray).size = l.length + 1 from fun _ _ => rfl, List.length_cons, List.length_nil] at *; omega)]; done) | (rw [if_neg (by simp only [ByteArray.size_append, ByteArray.size_extract, show ∀ (a : UInt8) (l : List UInt8), (⟨⟨a :: l⟩⟩ : ByteArray).size = l.length + 1 from fun _ _ => rfl, List.length_cons, List.length_nil] at *; omega)]; with_reducible rfl)
                      rotate_left
                      · simp only [Act.put, List.setIfInBounds_toArray, List.set_cons_zero, List.set_cons_succ, i64_w, i32_w]
                        rfl
                      refine pure_ (i := 15) (N := some 25) (v := ?_) (a' := ?_) #[true, false, false, true, false, false, false, false, false, true, false, false, false, false, false, true, false, false, false, false, false] rfl rfl (any_of HT_.out (by kernel_rfl)) (fun _ _ _ h => h) (Or.inl ⟨by rfl, ?_⟩) ?_ ?_
                      rotate_left
                      · intro w'
                        go_simp
                        first | with_reducible rfl | (rw [if_neg (by simp only [ByteArray.size_append, ByteArray.size_extract, show ∀ (a : UInt8) (l : List UInt8), (⟨⟨a :: l⟩⟩ : ByteArray).size = l.length + 1 from fun _ _ => rfl, List.length_cons, List.length_nil] at *; omega)]; done) | (rw [if_neg (by simp only [ByteArray.size_append, ByteArray.size_extract, show ∀ (a : UInt8) (l : List UInt8), (⟨⟨a :: l⟩⟩ : ByteArray).size = l.length + 1 from fun _ _ => rfl, List.length_cons, List.length_nil] at *; omega)]; with_reducible rfl)
                      rotate_left
                      · simp only [Act.put, List.setIfInBounds_toArray, List.set_cons_zero, List.set_cons_succ, i64_w, i32_w]
                        rfl
                      refine take_ (i := 1) (N := some 11) (v := ?_) (a' := ?_) #[true, true, false, true, false, false, false, false, false, true, false, false, false, false, false, true, false, false, false, false, false] rfl rfl (take_ofW HT_.out HW_.out (by kernel_rfl)) (fun _ _ _ h => h) (Or.inl ⟨by rfl, ?_⟩) hHeld ?_ ?_
                      rotate_left
                      · rintro w' ⟨s0, s1, s2, s3⟩
                        go_simp
                        first | with_reducible rfl | (rw [if_neg (by simp only [ByteArray.size_append, ByteArray.size_extract, show ∀ (a : UInt8) (l : List UInt8), (⟨⟨a :: l⟩⟩ : ByteArray).size = l.length + 1 from fun _ _ => rfl, List.length_cons, List.length_nil] at *; omega)]; done) | (rw [if_neg (by simp only [ByteArray.size_append, ByteArray.size_extract, show ∀ (a : UInt8) (l : List UInt8), (⟨⟨a :: l⟩⟩ : ByteArray).size = l.length + 1 from fun _ _ => rfl, List.length_cons, List.length_nil] at *; omega)]; with_reducible rfl)
                      rotate_left
                      · simp only [Act.put, List.setIfInBounds_toArray, List.set_cons_zero, List.set_cons_succ, i64_w, i32_w]
                        rfl
                      refine pure_ (i := 2) (N := some 12) (v := ?_) (a' := ?_) #[true, true, true, true, false, false, false, false, false, true, false, false, false, false, false, true, false, false, false, false, false] rfl rfl (any_of HT_.out (by kernel_rfl)) (fun _ _ _ h => h) (Or.inl ⟨by rfl, ?_⟩) ?_ ?_
                      rotate_left
                      · intro w'
                        go_simp
                        first | with_reducible rfl | (rw [if_neg (by simp only [ByteArray.size_append, ByteArray.size_extract, show ∀ (a : UInt8) (l : List UInt8), (⟨⟨a :: l⟩⟩ : ByteArray).size = l.length + 1 from fun _ _ => rfl, List.length_cons, List.length_nil] at *; omega)]; done) | (rw [if_neg (by simp only [ByteArray.size_append, ByteArray.size_extract, show ∀ (a : UInt8) (l : List UInt8), (⟨⟨a :: l⟩⟩ : ByteArray).size = l.length + 1 from fun _ _ => rfl, List.length_cons, List.length_nil] at *; omega)]; with_reducible rfl)
                      rotate_left
                      · simp only [Act.put, List.setIfInBounds_toArray, List.set_cons_zero, List.set_cons_succ, i64_w, i32_w]
                        rfl
                      refine take_ (i := 4) (N := some 14) (v := ?_) (a' := ?_) #[true, true, true, true, true, false, false, false, false, true, false, false, false, false, false, true, false, false, false, false, false] rfl rfl (take_ofW HT_.out HW_.out (by kernel_rfl)) (fun _ _ _ h => h) (Or.inl ⟨by rfl, ?_⟩) hHeld ?_ ?_
                      rotate_left
                      · rintro w' ⟨s0, s1, s2, s3⟩
                        go_simp
                        first | with_reducible rfl | (rw [if_neg (by simp only [ByteArray.size_append, ByteArray.size_extract, show ∀ (a : UInt8) (l : List UInt8), (⟨⟨a :: l⟩⟩ : ByteArray).size = l.length + 1 from fun _ _ => rfl, List.length_cons, List.length_nil] at *; omega)]; done) | (rw [if_neg (by simp only [ByteArray.size_append, ByteArray.size_extract, show ∀ (a : UInt8) (l : List UInt8), (⟨⟨a :: l⟩⟩ : ByteArray).size = l.length + 1 from fun _ _ => rfl, List.length_cons, List.length_nil] at *; omega)]; with_reducible rfl)
                      rotate_left
                      · simp only [Act.put, List.setIfInBounds_toArray, List.set_cons_zero, List.set_cons_succ, i64_w, i32_w]
                        rfl
                      refine pure_ (i := 5) (N := some 15) (v := ?_) (a' := ?_) #[true, true, true, true, true, true, false, false, false, true, false, false, false, false, false, true, false, false, false, false, false] rfl rfl (any_of HT_.out (by kernel_rfl)) (fun _ _ _ h => h) (Or.inl ⟨by rfl, ?_⟩) ?_ ?_
                      rotate_left
                      · intro w'
                        go_simp
                        first | with_reducible rfl | (rw [if_neg (by simp only [ByteArray.size_append, ByteArray.size_extract, show ∀ (a : UInt8) (l : List UInt8), (⟨⟨a :: l⟩⟩ : ByteArray).size = l.length + 1 from fun _ _ => rfl, List.length_cons, List.length_nil] at *; omega)]; done) | (rw [if_neg (by simp only [ByteArray.size_append, ByteArray.size_extract, show ∀ (a : UInt8) (l : List UInt8), (⟨⟨a :: l⟩⟩ : ByteArray).size = l.length + 1 from fun _ _ => rfl, List.length_cons, List.length_nil] at *; omega)]; with_reducible rfl)
                      rotate_left
                      · simp only [Act.put, List.setIfInBounds_toArray, List.set_cons_zero, List.set_cons_succ, i64_w, i32_w]
                        rfl
                      refine take_ (i := 10) (N := some 20) (v := ?_) (a' := ?_) #[true, true, true, true, true, true, false, false, false, true, true, false, false, false, false, true, false, false, false, false, false] rfl rfl (take_ofW HT_.out HW_.out (by kernel_rfl)) (fun _ _ _ h => h) (Or.inl ⟨by rfl, ?_⟩) hHeld ?_ ?_
                      rotate_left
                      · rintro w' ⟨s0, s1, s2, s3⟩
                        go_simp
                        first | with_reducible rfl | (rw [if_neg (by simp only [ByteArray.size_append, ByteArray.size_extract, show ∀ (a : UInt8) (l : List UInt8), (⟨⟨a :: l⟩⟩ : ByteArray).size = l.length + 1 from fun _ _ => rfl, List.length_cons, List.length_nil] at *; omega)]; done) | (rw [if_neg (by simp only [ByteArray.size_append, ByteArray.size_extract, show ∀ (a : UInt8) (l : List UInt8), (⟨⟨a :: l⟩⟩ : ByteArray).size = l.length + 1 from fun _ _ => rfl, List.length_cons, List.length_nil] at *; omega)]; with_reducible rfl)
                      rotate_left
                      · simp only [Act.put, List.setIfInBounds_toArray, List.set_cons_zero, List.set_cons_succ, i64_w, i32_w]
                        rfl
                      refine pure_ (i := 11) (N := some 21) (v := ?_) (a' := ?_) #[true, true, true, true, true, true, false, false, false, true, true, true, false, false, false, true, false, false, false, false, false] rfl rfl (any_of HT_.out (by kernel_rfl)) (fun _ _ _ h => h) (Or.inl ⟨by rfl, ?_⟩) ?_ ?_
                      rotate_left
                      · intro w'
                        go_simp
                        first | with_reducible rfl | (rw [if_neg (by simp only [ByteArray.size_append, ByteArray.size_extract, show ∀ (a : UInt8) (l : List UInt8), (⟨⟨a :: l⟩⟩ : ByteArray).size = l.length + 1 from fun _ _ => rfl, List.length_cons, List.length_nil] at *; omega)]; done) | (rw [if_neg (by simp only [ByteArray.size_append, ByteArray.size_extract, show ∀ (a : UInt8) (l : List UInt8), (⟨⟨a :: l⟩⟩ : ByteArray).size = l.length + 1 from fun _ _ => rfl, List.length_cons, List.length_nil] at *; omega)]; with_reducible rfl)
                      rotate_left
                      · simp only [Act.put, List.setIfInBounds_toArray, List.set_cons_zero, List.set_cons_succ, i64_w, i32_w]
                        rfl
                      refine take_ (i := 16) (N := some 26) (v := ?_) (a' := ?_) #[true, true, true, true, true, true, false, false, false, true, true, true, false, false, false, true, true, false, false, false, false] rfl rfl (take_ofW HT_.out HW_.out (by kernel_rfl)) (fun _ _ _ h => h) (Or.inl ⟨by rfl, ?_⟩) hHeld ?_ ?_
                      rotate_left
                      · rintro w' ⟨s0, s1, s2, s3⟩
                        go_simp
                        first | with_reducible rfl | (rw [if_neg (by simp only [ByteArray.size_append, ByteArray.size_extract, show ∀ (a : UInt8) (l : List UInt8), (⟨⟨a :: l⟩⟩ : ByteArray).size = l.length + 1 from fun _ _ => rfl, List.length_cons, List.length_nil] at *; omega)]; done) | (rw [if_neg (by simp only [ByteArray.size_append, ByteArray.size_extract, show ∀ (a : UInt8) (l : List UInt8), (⟨⟨a :: l⟩⟩ : ByteArray).size = l.length + 1 from fun _ _ => rfl, List.length_cons, List.length_nil] at *; omega)]; with_reducible rfl)
                      rotate_left
                      · simp only [Act.put, List.setIfInBounds_toArray, List.set_cons_zero, List.set_cons_succ, i64_w, i32_w]
                        rfl
                      refine one_ (i := 6) (N := some 16) #[true, true, true, true, true, true, true, false, false, true, true, true, false, false, false, true, true, false, false, false, false] rfl rfl (one_of HT_.out (by kernel_rfl)) (by decide) (fun K hK => ?_)
                      refine goes_ Tryd.func93 (by kernel_rfl) rfl #[.int .i64 (wrap64 (Int.tdiv a0_1 10))] (by rfl) rfl rfl (by (try simp only [List.map_toArray, List.map_cons, List.map_nil]); first | done | rfl | (simp only [List.length_drop, List.length_take]; rfl)) ?_
                      with_reducible refine (spec_l1Num.calls k (wrap64 (Int.tdiv a0_1 10)) t409 _ A7.out).mono ?_
                      rintro e w28 ⟨rfl, hb⟩
                      refine ⟨_, rfl, ?_⟩
                      have n0_ := Aside0.mk (blk_below (g := gb408) (o := .cells #[.string a0_0, .int .i64 a0_1, .int .i64 a0_2, .int .i64 a0_3] 26 (0, 0)) (by (with_reducible repeat (first | refine blk_drewN ?_ _ | refine blk_drew ?_ | refine blk_alloc ?_ _)); exact BK408.out) hb)
                      have n1_ := Aside0.mk (below_step (by repeat (first | (with_reducible first | exact HB.out | apply below_alloc | apply pw_below_drewN | apply below_drew1 | refine below_set ?_ GE408.out) | exact HB.out)) hb)
                      clear BK408
                      clear HB
                      have BK408 := n0_
                      have HB := n1_
                      clear n0_ n1_
                      (try clear hb)
                      (try clear hb2)
                      (try clear hk)
                      (try clear hi)
                      refine hK.out _ _ ⟨(blk_cell BK408.out 0).trans rfl, (blk_cell BK408.out 1).trans rfl, (blk_cell BK408.out 2).trans rfl, (blk_cell BK408.out 3).trans rfl⟩ (fun hHeld => ?_)
                      clear hK K
                      refine norm_ (a' := ?_) ?_ ?_
                      rotate_left
                      · show Act.put _ (some 16) _ = _
                        simp only [Act.put, List.setIfInBounds_toArray, List.set_cons_zero, List.set_cons_succ, i64_w, i32_w]
                        rfl
                      refine pure_ (i := 7) (N := some 17) (v := ?_) (a' := ?_) #[true, true, true, true, true, true, true, true, false, true, true, true, false, false, false, true, true, false, false, false, false] rfl rfl (any_of HT_.out (by kernel_rfl)) (fun _ _ _ h => h) (Or.inl ⟨by rfl, ?_⟩) ?_ ?_
                      rotate_left
                      · intro w'
                        go_simp
                        first | with_reducible rfl | (rw [if_neg (by simp only [ByteArray.size_append, ByteArray.size_extract, show ∀ (a : UInt8) (l : List UInt8), (⟨⟨a :: l⟩⟩ : ByteArray).size = l.length + 1 from fun _ _ => rfl, List.length_cons, List.length_nil] at *; omega)]; done) | (rw [if_neg (by simp only [ByteArray.size_append, ByteArray.size_extract, show ∀ (a : UInt8) (l : List UInt8), (⟨⟨a :: l⟩⟩ : ByteArray).size = l.length + 1 from fun _ _ => rfl, List.length_cons, List.length_nil] at *; omega)]; with_reducible rfl)
                      rotate_left
                      · simp only [Act.put, List.setIfInBounds_toArray, List.set_cons_zero, List.set_cons_succ, i64_w, i32_w]
                        rfl
                      refine pure_ (i := 8) (N := some 18) (v := ?_) (a' := ?_) #[true, true, true, true, true, true, true, true, true, true, true, true, false, false, false, true, true, false, false, false, false] rfl rfl (any_of HT_.out (by kernel_rfl)) (fun _ _ _ h => h) (Or.inl ⟨by rfl, ?_⟩) ?_ ?_
                      rotate_left
                      · intro w'
                        go_simp
                        first | with_reducible rfl | (rw [if_neg (by simp only [ByteArray.size_append, ByteArray.size_extract, show ∀ (a : UInt8) (l : List UInt8), (⟨⟨a :: l⟩⟩ : ByteArray).size = l.length + 1 from fun _ _ => rfl, List.length_cons, List.length_nil] at *; omega)]; done) | (rw [if_neg (by simp only [ByteArray.size_append, ByteArray.size_extract, show ∀ (a : UInt8) (l : List UInt8), (⟨⟨a :: l⟩⟩ : ByteArray).size = l.length + 1 from fun _ _ => rfl, List.length_cons, List.length_nil] at *; omega)]; with_reducible rfl)
                      rotate_left
                      · simp only [Act.put, List.setIfInBounds_toArray, List.set_cons_zero, List.set_cons_succ, i64_w, i32_w]
                        rfl
                      refine one_ (i := 12) (N := some 22) #[true, true, true, true, true, true, true, true, true, true, true, true, true, false, false, true, true, false, false, false, false] rfl rfl (one_of HT_.out (by kernel_rfl)) (by decide) (fun K hK => ?_)
                      refine goes_ Tryd.func93 (by kernel_rfl) rfl #[.int .i64 (wrap64 (Int.tdiv a0_2 10))] (by rfl) rfl rfl (by (try simp only [List.map_toArray, List.map_cons, List.map_nil]); first | done | rfl | (simp only [List.length_drop, List.length_take]; rfl)) ?_
                      with_reducible refine (spec_l1Num.calls k (wrap64 (Int.tdiv a0_2 10)) t410 _ A10.out).mono ?_
                      rintro e w29 ⟨rfl, hb⟩
                      refine ⟨_, rfl, ?_⟩
                      have n0_ := Aside0.mk (blk_below (g := gb408) (o := .cells #[.string a0_0, .int .i64 a0_1, .int .i64 a0_2, .int .i64 a0_3] 26 (0, 0)) (by (with_reducible repeat (first | refine blk_drewN ?_ _ | refine blk_drew ?_ | refine blk_alloc ?_ _)); exact BK408.out) hb)
                      have n1_ := Aside0.mk (below_step (by repeat (first | (with_reducible first | exact HB.out | apply below_alloc | apply pw_below_drewN | apply below_drew1 | refine below_set ?_ GE408.out) | exact HB.out)) hb)
                      clear BK408
                      clear HB
                      have BK408 := n0_
                      have HB := n1_
                      clear n0_ n1_
                      (try clear hb)
                      (try clear hb2)
                      (try clear hk)
                      (try clear hi)
                      refine hK.out _ _ ⟨(blk_cell BK408.out 0).trans rfl, (blk_cell BK408.out 1).trans rfl, (blk_cell BK408.out 2).trans rfl, (blk_cell BK408.out 3).trans rfl⟩ (fun hHeld => ?_)
                      clear hK K
                      refine norm_ (a' := ?_) ?_ ?_
                      rotate_left
                      · show Act.put _ (some 22) _ = _
                        simp only [Act.put, List.setIfInBounds_toArray, List.set_cons_zero, List.set_cons_succ, i64_w, i32_w]
                        rfl
                      refine pure_ (i := 13) (N := some 23) (v := ?_) (a' := ?_) #[true, true, true, true, true, true, true, true, true, true, true, true, true, true, false, true, true, false, false, false, false] rfl rfl (any_of HT_.out (by kernel_rfl)) (fun _ _ _ h => h) (Or.inl ⟨by rfl, ?_⟩) ?_ ?_
                      rotate_left
                      · intro w'
                        go_simp
                        first | with_reducible rfl | (rw [if_neg (by simp only [ByteArray.size_append, ByteArray.size_extract, show ∀ (a : UInt8) (l : List UInt8), (⟨⟨a :: l⟩⟩ : ByteArray).size = l.length + 1 from fun _ _ => rfl, List.length_cons, List.length_nil] at *; omega)]; done) | (rw [if_neg (by simp only [ByteArray.size_append, ByteArray.size_extract, show ∀ (a : UInt8) (l : List UInt8), (⟨⟨a :: l⟩⟩ : ByteArray).size = l.length + 1 from fun _ _ => rfl, List.length_cons, List.length_nil] at *; omega)]; with_reducible rfl)
                      rotate_left
                      · simp only [Act.put, List.setIfInBounds_toArray, List.set_cons_zero, List.set_cons_succ, i64_w, i32_w]
                        rfl
                      refine pure_ (i := 14) (N := some 24) (v := ?_) (a' := ?_) #[true, true, true, true, true, true, true, true, true, true, true, true, true, true, true, true, true, false, false, false, false] rfl rfl (any_of HT_.out (by kernel_rfl)) (fun _ _ _ h => h) (Or.inl ⟨by rfl, ?_⟩) ?_ ?_
                      rotate_left
                      · intro w'
                        go_simp
                        first | with_reducible rfl | (rw [if_neg (by simp only [ByteArray.size_append, ByteArray.size_extract, show ∀ (a : UInt8) (l : List UInt8), (⟨⟨a :: l⟩⟩ : ByteArray).size = l.length + 1 from fun _ _ => rfl, List.length_cons, List.length_nil] at *; omega)]; done) | (rw [if_neg (by simp only [ByteArray.size_append, ByteArray.size_extract, show ∀ (a : UInt8) (l : List UInt8), (⟨⟨a :: l⟩⟩ : ByteArray).size = l.length + 1 from fun _ _ => rfl, List.length_cons, List.length_nil] at *; omega)]; with_reducible rfl)
                      rotate_left
                      · simp only [Act.put, List.setIfInBounds_toArray, List.set_cons_zero, List.set_cons_succ, i64_w, i32_w]
                        rfl
                      refine one_ (i := 17) (N := some 27) #[true, true, true, true, true, true, true, true, true, true, true, true, true, true, true, true, true, true, false, false, false] rfl rfl (one_of HT_.out (by kernel_rfl)) (by decide) (fun K hK => ?_)
                      refine goes_ Tryd.func93 (by kernel_rfl) rfl #[.int .i64 a0_3] (by rfl) rfl rfl (by (try simp only [List.map_toArray, List.map_cons, List.map_nil]); first | done | rfl | (simp only [List.length_drop, List.length_take]; rfl)) ?_
                      with_reducible refine (spec_l1Num.calls k a0_3 t411 _ A13.out).mono ?_
                      rintro e w30 ⟨rfl, hb⟩
                      refine ⟨_, rfl, ?_⟩
                      have n0_ := Aside0.mk (blk_below (g := gb408) (o := .cells #[.string a0_0, .int .i64 a0_1, .int .i64 a0_2, .int .i64 a0_3] 26 (0, 0)) (by (with_reducible repeat (first | refine blk_drewN ?_ _ | refine blk_drew ?_ | refine blk_alloc ?_ _)); exact BK408.out) hb)
                      have n1_ := Aside0.mk (below_step (by repeat (first | (with_reducible first | exact HB.out | apply below_alloc | apply pw_below_drewN | apply below_drew1 | refine below_set ?_ GE408.out) | exact HB.out)) hb)
                      clear BK408
                      clear HB
                      have BK408 := n0_
                      have HB := n1_
                      clear n0_ n1_
                      (try clear hb)
                      (try clear hb2)
                      (try clear hk)
                      (try clear hi)
                      refine hK.out _ _ ⟨(blk_cell BK408.out 0).trans rfl, (blk_cell BK408.out 1).trans rfl, (blk_cell BK408.out 2).trans rfl, (blk_cell BK408.out 3).trans rfl⟩ (fun hHeld => ?_)
                      clear hK K
                      refine norm_ (a' := ?_) ?_ ?_
                      rotate_left
                      · show Act.put _ (some 27) _ = _
                        simp only [Act.put, List.setIfInBounds_toArray, List.set_cons_zero, List.set_cons_succ, i64_w, i32_w]
                        rfl
                      refine pure_ (i := 18) (N := some 28) (v := ?_) (a' := ?_) #[true, true, true, true, true, true, true, true, true, true, true, true, true, true, true, true, true, true, true, false, false] rfl rfl (any_of HT_.out (by kernel_rfl)) (fun _ _ _ h => h) (Or.inl ⟨by rfl, ?_⟩) ?_ ?_
                      rotate_left
                      · intro w'
                        go_simp
                        first | with_reducible rfl | (rw [if_neg (by simp only [ByteArray.size_append, ByteArray.size_extract, show ∀ (a : UInt8) (l : List UInt8), (⟨⟨a :: l⟩⟩ : ByteArray).size = l.length + 1 from fun _ _ => rfl, List.length_cons, List.length_nil] at *; omega)]; done) | (rw [if_neg (by simp only [ByteArray.size_append, ByteArray.size_extract, show ∀ (a : UInt8) (l : List UInt8), (⟨⟨a :: l⟩⟩ : ByteArray).size = l.length + 1 from fun _ _ => rfl, List.length_cons, List.length_nil] at *; omega)]; with_reducible rfl)
                      rotate_left
                      · simp only [Act.put, List.setIfInBounds_toArray, List.set_cons_zero, List.set_cons_succ, i64_w, i32_w]
                        rfl
                      refine pure_ (i := 19) (N := some 29) (v := ?_) (a' := ?_) #[true, true, true, true, true, true, true, true, true, true, true, true, true, true, true, true, true, true, true, true, false] rfl rfl (any_of HT_.out (by kernel_rfl)) (fun _ _ _ h => h) (Or.inl ⟨by rfl, ?_⟩) ?_ ?_
                      rotate_left
                      · intro w'
                        go_simp
                        first | with_reducible rfl | (rw [if_neg (by simp only [ByteArray.size_append, ByteArray.size_extract, show ∀ (a : UInt8) (l : List UInt8), (⟨⟨a :: l⟩⟩ : ByteArray).size = l.length + 1 from fun _ _ => rfl, List.length_cons, List.length_nil] at *; omega)]; done) | (rw [if_neg (by simp only [ByteArray.size_append, ByteArray.size_extract, show ∀ (a : UInt8) (l : List UInt8), (⟨⟨a :: l⟩⟩ : ByteArray).size = l.length + 1 from fun _ _ => rfl, List.length_cons, List.length_nil] at *; omega)]; with_reducible rfl)
                      rotate_left
                      · simp only [Act.put, List.setIfInBounds_toArray, List.set_cons_zero, List.set_cons_succ, i64_w, i32_w]
                        rfl
                      refine pure_ (i := 20) (N := some 3) (v := ?_) (a' := ?_) #[true, true, true, true, true, true, true, true, true, true, true, true, true, true, true, true, true, true, true, true, true] rfl rfl (any_of HT_.out (by kernel_rfl)) (fun _ _ _ h => h) (Or.inl ⟨by rfl, ?_⟩) ?_ ?_
                      rotate_left
                      · intro w'
                        go_simp
                        first | with_reducible rfl | (rw [if_neg (by simp only [ByteArray.size_append, ByteArray.size_extract, show ∀ (a : UInt8) (l : List UInt8), (⟨⟨a :: l⟩⟩ : ByteArray).size = l.length + 1 from fun _ _ => rfl, List.length_cons, List.length_nil] at *; omega)]; done) | (rw [if_neg (by simp only [ByteArray.size_append, ByteArray.size_extract, show ∀ (a : UInt8) (l : List UInt8), (⟨⟨a :: l⟩⟩ : ByteArray).size = l.length + 1 from fun _ _ => rfl, List.length_cons, List.length_nil] at *; omega)]; with_reducible rfl)
                      rotate_left
                      · simp only [Act.put, List.setIfInBounds_toArray, List.set_cons_zero, List.set_cons_succ, i64_w, i32_w]
                        rfl
                      refine done_ (done_of HT_.out (by kernel_rfl)) ?_
                      have hcz31_0 : w30.cell? ⟨gb408, 0, none⟩ = some (.string a0_0) := (blk_cell BK408.out 0).trans rfl
                      have hcz31_1 : w30.cell? ⟨gb408, 1, none⟩ = some (.int .i64 a0_1) := (blk_cell BK408.out 1).trans rfl
                      have hcz31_2 : w30.cell? ⟨gb408, 2, none⟩ = some (.int .i64 a0_2) := (blk_cell BK408.out 2).trans rfl
                      have hcz31_3 : w30.cell? ⟨gb408, 3, none⟩ = some (.int .i64 a0_3) := (blk_cell BK408.out 3).trans rfl
                      have hfz31_0 := blk_frozen BK408.out 0
                      have hfz31_1 := blk_frozen BK408.out 1
                      have hfz31_2 := blk_frozen BK408.out 2
                      have hfz31_3 := blk_frozen BK408.out 3
                      try go_wp2
                      go_ret
                      exact ⟨by first | rfl | (simp [errW_none, errW_some] <;> rfl) | (simp [*, errW_none, errW_some] <;> rfl), by repeat (first | (with_reducible first | exact HB.out | apply below_alloc | apply pw_below_drewN | apply below_drew1 | refine below_set ?_ GE408.out) | exact HB.out)⟩
                    · rw [if_neg c24] at H
                      exact absurd H (by simp)
                · rw [if_neg c15] at H
                  exact absurd H (by simp)
              · rw [if_neg c14] at H
                exact absurd H (by simp)
            · rw [if_neg c12] at H
              exact absurd H (by simp)
          · rw [if_neg c11] at H
            exact absurd H (by simp)
        · rw [if_neg c9] at H
          exact absurd H (by simp)
      · rw [if_neg c8] at H
        exact absurd H (by simp)
    · rw [if_neg c6] at H
      exact absurd H (by simp)

end Go.Proofs.YteepnlofbfccgaaDoor.Pr

namespace Go.Proofs.YteepnlofbfccgaaDoor.Pr
open Go.RowKit Go.Proofs.YteepnlofbfccgaaDoorW.PrintWords Go.Proofs.YteepnlofbfccgaaDoorW.PrintLast Go.Proofs.YteepnlofbfccgaaDoorW.PrintMore
attribute [local go_sem] max2_int min2_int max_two min_two max_three min_three max_four min_four sc_in sx_in   -- for this text's walks alone
set_option linter.unusedVariables false
set_option linter.unusedSimpArgs false

/-! ### spec_CavesText: function 41 -/
def spec_CavesText.l0 : Nat → List (S26) → ByteArray → Int → Option (ByteArray × Bool)
  | 0, _, _, _ => none
  | k + 1, x0, x4, x5 => if x5 < (x0.length : Int) then (if 0 ≤ x5 then ((spec_l26Line.f k ((rd_T26 x0 x5).f0) ((rd_T26 x0 x5).f1) ((rd_T26 x0 x5).f2) ((rd_T26 x0 x5).f3)).bind fun t529 => (if x4.size + t529.size ≤ 9223372036854775807 then (if (sc x4 t529).size + 1 ≤ 9223372036854775807 then (spec_CavesText.l0 k x0 (sc (sc x4 t529) (⟨#[10]⟩ : ByteArray)) (wrap64 (x5 + 1))) else (none)) else (none))) else (none)) else (some (x4, true))
def spec_CavesText.f (k : Nat) (l0 : List (S26)) : Option (ByteArray × Bool) := (spec_l26Good.f k l0).bind fun t527 => (if t527 = true then (spec_CavesText.l0 k l0 (⟨#[]⟩ : ByteArray) 0) else (some ((⟨#[]⟩ : ByteArray), false)))
theorem spec_CavesText.mono_l : ∀ k, (∀ y0 y1 y2, LeO (spec_CavesText.l0 k y0 y1 y2) (spec_CavesText.l0 (k + 1) y0 y1 y2))
  | 0 => fun _ _ _ r h => by simp [spec_CavesText.l0] at h
  | k + 1 => by
    have ih0 := spec_CavesText.mono_l k
    · intro y0 y1 y2
      unfold spec_CavesText.l0
      repeat' first
      | (with_reducible exact ih0 _ _ _)
      | (with_reducible exact spec_l26Good.mono _ _)
      | (with_reducible exact spec_l26Line.mono _ _ _ _ _)
      | (with_reducible exact LeO.refl _)
      | (with_reducible exact LeO.none _)
      | (with_reducible refine LeO.ite ?_ ?_)
      | (with_reducible refine LeO.bind ?_ (fun _ => ?_))
      | exact ih0 _ _ _
      | exact spec_l26Good.mono _ _
      | exact spec_l26Line.mono _ _ _ _ _
      | exact LeO.none _
      | refine LeO.ite ?_ ?_
      | refine LeO.bind ?_ (fun _ => ?_)
theorem spec_CavesText.mono : ∀ a0 k, LeO (spec_CavesText.f k a0) (spec_CavesText.f (k + 1) a0) := by
  intro a0 k
  have ih0 := spec_CavesText.mono_l k
  unfold spec_CavesText.f
  repeat' first
      | (with_reducible exact ih0 _ _ _)
      | (with_reducible exact spec_l26Good.mono _ _)
      | (with_reducible exact spec_l26Line.mono _ _ _ _ _)
      | (with_reducible exact LeO.refl _)
      | (with_reducible exact LeO.none _)
      | (with_reducible refine LeO.ite ?_ ?_)
      | (with_reducible refine LeO.bind ?_ (fun _ => ?_))
      | exact ih0 _ _ _
      | exact spec_l26Good.mono _ _
      | exact spec_l26Line.mono _ _ _ _ _
      | exact LeO.none _
      | refine LeO.ite ?_ ?_
      | refine LeO.bind ?_ (fun _ => ?_)
set_option maxHeartbeats 8000000 in
set_option maxRecDepth 100000 in
theorem spec_CavesText.calls (k : Nat) (A0 : Option Addr) (c0 : Nat) (l0 : List (S26)) (r1 : ByteArray) (r2 : Bool) (w : World) (hr0 : Kd.C k26 w A0 l0.length l0) (hc0 : l0.length ≤ c0) (h : spec_CavesText.f k l0 = some (r1, r2)) :
    Calls Tryd.prog 41 #[.slice A0 l0.length c0] w fun e w' => e = .returned (.tuple #[.string r1, .bool r2]) ∧ Below w.heap.size w w' := by
  have hu26 := Tryd.underlying26
  have HR0 := Aside0.mk hr0
  have HC0 := Aside0.mk hc0
  clear hr0 hc0
  have HB := Aside0.mk (Below.refl w.heap.size w)
  have H : ((spec_l26Good.f k l0).bind fun t527 => (if t527 = true then (spec_CavesText.l0 k l0 (⟨#[]⟩ : ByteArray) 0) else (some ((⟨#[]⟩ : ByteArray), false)))) = some (r1, r2) := h
  clear h
  replace H := Option.bind_eq_some_iff.mp H
  obtain ⟨t527, A20, H⟩ := H
  replace H : (if t527 = true then (spec_CavesText.l0 k l0 (⟨#[]⟩ : ByteArray) 0) else (some ((⟨#[]⟩ : ByteArray), false))) = some (r1, r2) := H
  have A2 := Aside0.mk A20
  clear A20
  by_cases c3 : t527 = true
  · subst c3
    have H1 : (spec_CavesText.l0 k l0 (⟨#[]⟩ : ByteArray) 0) = some (r1, r2) := by rw [if_pos rfl] at H; exact H
    clear H
    have H := H1
    clear H1
    have H' := Aside0.mk H
    clear H
    go_enter Tryd.func41, Tryd.ntmps41
    go_wp2_with (first | ((with_reducible refine gate_callee (f := 58) rfl ?_); refine goesL_ (some 7) rfl rfl Tryd.func58 (by kernel_rfl) rfl #[.slice A0 l0.length c0] rfl (by (try simp only [List.map_toArray, List.map_cons, List.map_nil]); first | done | rfl | (simp only [List.length_drop, List.length_take]; rfl)) ?_; (with_reducible refine (spec_l26Good.calls k _ _ l0 true _ ?side1 ?side2 A2.out).mono ?_); (case side1 => repeat (first | exact HR0.out | (with_reducible refine Kd.C_alloc ?_ _) | (with_reducible refine Kd.C_drewN ?_ _) | (with_reducible refine Kd.C_drew ?_))); (case side2 => exact HC0.out); rintro e w4 ⟨rfl, hb⟩; refine ⟨_, rfl, ?_⟩; have n0_ := Aside0.mk (below_step (by repeat (first | (with_reducible first | exact HB.out | apply below_alloc | apply pw_below_drewN | apply below_drew1) | exact HB.out)) hb); clear HB; have HB := n0_; clear n0_; (try clear hb); (try clear hb2); (try clear hk); (try clear hi)))
    go_loopg [4, 5] k (fun kq v4 v5 w' => ∃ (x4_1 : ByteArray) (x5_1 : Int), v4 = .string x4_1 ∧ v5 = .int .i64 x5_1 ∧ Aside0 (spec_CavesText.l0 kq l0 x4_1 x5_1 = some (r1, r2)) ∧ Aside0 (kq ≤ k) ∧ Aside0 (Below w.heap.size w w'))
    case atStart => exact ⟨((⟨#[]⟩ : ByteArray)), (0), (by first | rfl | (simp; done) | (simp [*]; done)), (by first | rfl | (simp; done) | (simp [*]; done)), H', ⟨Nat.le_refl _⟩, ⟨by repeat (first | (with_reducible first | exact HB.out | apply below_alloc | apply pw_below_drewN | apply below_drew1) | exact HB.out)⟩⟩
    case round =>
      clear H'
      try clear p2
      try clear c3
      try clear c4
      obtain ⟨x4_1, x5_1, rfl, rfl, HA, HK1, HB⟩ := hrel
      cases gk with
      | zero => exact absurd HA.out (by simp [spec_CavesText.l0])
      | succ k1 =>
        have H := HA.out
        clear HA
        simp only [spec_CavesText.l0] at H
        by_cases c5 : x5_1 < (l0.length : Int)
        · rw [if_pos c5] at H
          have c5b0 : decide (x5_1 < (l0.length : Int)) = true := decide_eq_true c5
          clear c5
          by_cases c6 : 0 ≤ x5_1
          · rw [if_pos c6] at H
            have c6b0 : decide (0 ≤ x5_1) = true := decide_eq_true c6
            clear c6
            replace H := Option.bind_eq_some_iff.mp H
            obtain ⟨t529, A70, H⟩ := H
            replace H : (if x4_1.size + t529.size ≤ 9223372036854775807 then (if (sc x4_1 t529).size + 1 ≤ 9223372036854775807 then (spec_CavesText.l0 k1 l0 (sc (sc x4_1 t529) (⟨#[10]⟩ : ByteArray)) (wrap64 (x5_1 + 1))) else (none)) else (none)) = some (r1, r2) := H
            have A7 := Aside0.mk A70
            clear A70
            by_cases c8 : x4_1.size + t529.size ≤ 9223372036854775807
            · rw [if_pos c8] at H
              have c8b0 := eq_true c8
              have c8b1 : decide (x4_1.size + t529.size ≤ 9223372036854775807) = true := decide_eq_true c8
              try have c8b2 : (9223372036854775807 < x4_1.size + t529.size) = False := eq_false (Nat.not_lt.2 c8)
              by_cases c9 : (sc x4_1 t529).size + 1 ≤ 9223372036854775807
              · rw [if_pos c9] at H
                have c9b0 := eq_true c9
                have c9b1 : decide ((sc x4_1 t529).size + 1 ≤ 9223372036854775807) = true := decide_eq_true c9
                try have c9b2 : (9223372036854775807 < (sc x4_1 t529).size + 1) = False := eq_false (Nat.not_lt.2 c9)
                have H' := Aside0.mk H
                clear H
                have p528 : 0 ≤ (x5_1 : Int) := of_decide_eq_true (by first | (with_reducible assumption) | assumption)
                have q528 : x5_1 < (l0.length : Int) := of_decide_eq_true (by first | (with_reducible assumption) | assumption)
                obtain ⟨ad528, e528, hx528_0, hx528_1, hx528_2, hx528_3⟩ := at_T26 HR0.out x5_1 p528 q528
                cases e528
                replace hx528_0 := (HB.out.cell (World.block_lt_of_cell? w _ hx528_0)).trans hx528_0
                replace hx528_1 := (HB.out.cell (World.block_lt_of_cell? w _ hx528_1)).trans hx528_1
                replace hx528_2 := (HB.out.cell (World.block_lt_of_cell? w _ hx528_2)).trans hx528_2
                replace hx528_3 := (HB.out.cell (World.block_lt_of_cell? w _ hx528_3)).trans hx528_3
                replace p528 := eq_true p528
                replace q528 := eq_true q528
                go_wp2_with (first | ((with_reducible refine gate_callee (f := 70) rfl ?_); refine goesL_ (some 20) rfl rfl Tryd.func70 (by kernel_rfl) rfl #[.agg #[.string ((rd_T26 l0 x5_1).f0), .int .i64 ((rd_T26 l0 x5_1).f1), .int .i64 ((rd_T26 l0 x5_1).f2), .int .i64 ((rd_T26 l0 x5_1).f3)]] rfl (by (try simp only [List.map_toArray, List.map_cons, List.map_nil]); first | done | rfl | (simp only [List.length_drop, List.length_take]; rfl)) ?_; (with_reducible refine (spec_l26Line.calls k1 ((rd_T26 l0 x5_1).f0) ((rd_T26 l0 x5_1).f1) ((rd_T26 l0 x5_1).f2) ((rd_T26 l0 x5_1).f3) t529 _ A7.out).mono ?_); rintro e w10 ⟨rfl, hb⟩; refine ⟨_, rfl, ?_⟩; have n0_ := Aside0.mk (below_step (by repeat (first | (with_reducible first | exact HB.out | apply below_alloc | apply pw_below_drewN | apply below_drew1) | exact HB.out)) hb); clear HB; have HB := n0_; clear n0_; (try clear hb); (try clear hb2); (try clear hk); (try clear hi)))
                go_roundg k1
                case measure => have := HK1.out; omega
                case rel => exact ⟨(sc (sc x4_1 t529) (⟨#[10]⟩ : ByteArray)), (wrap64 (x5_1 + 1)), (by first | rfl | (simp; done) | (simp [*]; done)), (by first | rfl | (simp; done) | (simp [*]; done)), H', ⟨by have := HK1.out; omega⟩, ⟨by repeat (first | (with_reducible first | exact HB.out | apply below_alloc | apply pw_below_drewN | apply below_drew1) | exact HB.out)⟩⟩
              · rw [if_neg c9] at H
                exact absurd H (by simp)
            · rw [if_neg c8] at H
              exact absurd H (by simp)
          · rw [if_neg c6] at H
            exact absurd H (by simp)
        · rw [if_neg c5] at H
          have c5b0 : decide (x5_1 < (l0.length : Int)) = false := decide_eq_false c5
          clear c5
          simp only [Option.some.injEq, Prod.mk.injEq] at H
          obtain ⟨rfl, rfl⟩ := H
          go_wp2
          go_ret2
          exact ⟨by first | rfl | (simp [errW_none, errW_some] <;> rfl) | (simp [*, errW_none, errW_some] <;> rfl), by repeat (first | (with_reducible first | exact HB.out | apply below_alloc | apply pw_below_drewN | apply below_drew1) | exact HB.out)⟩
  · replace c3 := Bool.eq_false_iff.mpr c3
    subst c3
    have H1 : (some ((⟨#[]⟩ : ByteArray), false)) = some (r1, r2) := by rw [if_neg (show ¬ (false = true) by decide)] at H; exact H
    clear H
    have H := H1
    clear H1
    simp only [Option.some.injEq, Prod.mk.injEq] at H
    obtain ⟨rfl, rfl⟩ := H
    go_enter Tryd.func41, Tryd.ntmps41
    go_wp2_with (first | ((with_reducible refine gate_callee (f := 58) rfl ?_); refine goesL_ (some 7) rfl rfl Tryd.func58 (by kernel_rfl) rfl #[.slice A0 l0.length c0] rfl (by (try simp only [List.map_toArray, List.map_cons, List.map_nil]); first | done | rfl | (simp only [List.length_drop, List.length_take]; rfl)) ?_; (with_reducible refine (spec_l26Good.calls k _ _ l0 false _ ?side1 ?side2 A2.out).mono ?_); (case side1 => repeat (first | exact HR0.out | (with_reducible refine Kd.C_alloc ?_ _) | (with_reducible refine Kd.C_drewN ?_ _) | (with_reducible refine Kd.C_drew ?_))); (case side2 => exact HC0.out); rintro e w11 ⟨rfl, hb⟩; refine ⟨_, rfl, ?_⟩; have n0_ := Aside0.mk (below_step (by repeat (first | (with_reducible first | exact HB.out | apply below_alloc | apply pw_below_drewN | apply below_drew1) | exact HB.out)) hb); clear HB; have HB := n0_; clear n0_; (try clear hb); (try clear hb2); (try clear hk); (try clear hi)))
    go_ret2
    exact ⟨by first | rfl | (simp [errW_none, errW_some] <;> rfl) | (simp [*, errW_none, errW_some] <;> rfl), by repeat (first | (with_reducible first | exact HB.out | apply below_alloc | apply pw_below_drewN | apply below_drew1) | exact HB.out)⟩

end Go.Proofs.YteepnlofbfccgaaDoor.Pr

namespace Go.Proofs.YteepnlofbfccgaaDoor.Pr
open Go.RowKit Go.Proofs.YteepnlofbfccgaaDoorW.PrintWords Go.Proofs.YteepnlofbfccgaaDoorW.PrintLast Go.Proofs.YteepnlofbfccgaaDoorW.PrintMore
attribute [local go_sem] max2_int min2_int max_two min_two max_three min_three max_four min_four   -- for this text's walks alone
set_option linter.unusedVariables false
set_option linter.unusedSimpArgs false

theorem heap_new_ (w : World) (cs : Array Value) (t : TypeId) : (w.alloc (.cells cs t)).heap[w.heap.size]? = some (.cells cs t (0, 0)) := by
  show (w.heap.push _)[w.heap.size]? = _
  simp
theorem heap_size_ (w : World) (o : Obj) : (w.alloc o).heap.size = w.heap.size + 1 := by
  show (w.heap.push o).size = _
  simp
/-- A row made behind the state stays while the state alone is written. -/
theorem row_keep {α : Type} {d : Kd α} {e : Nat} {w w1 : World} {base g : Nat} {v : Value} {xs : List α} (h : d.R e w base (fun _ => True) v xs) (hg : g < base) (hk : KeepBut w w1 g none) : d.R e w1 base (fun _ => True) v xs :=
  Kd.R_mono (Kd.R_keep (Kd.R_bound h) hk (fun k hk => by have := hk.2.1; omega)) (fun _ _ => trivial)

end Go.Proofs.YteepnlofbfccgaaDoor.Pr

namespace Go.Proofs.YteepnlofbfccgaaDoor.Pr
open Go.RowKit Go.Proofs.YteepnlofbfccgaaDoorW.PrintWords Go.Proofs.YteepnlofbfccgaaDoorW.PrintLast Go.Proofs.YteepnlofbfccgaaDoorW.PrintMore
attribute [local go_sem] max2_int min2_int max_two min_two max_three min_three max_four min_four   -- for this text's walks alone
set_option linter.unusedVariables false
set_option linter.unusedSimpArgs false

/-- The library's table of powers of ten lies in the world, and in each that leaves the world's blocks as they are. -/
def Tb (w : World) : Prop := ∀ w', Below w.heap.size w w' → Lib.TabIs Tryd.prog w' "internal/strconv.uint64pow10" .u64 Lib.pow10Tab
theorem Tb.step {w W : World} (h : Tb w) (hb : Below w.heap.size w W) : Tb W := fun w' hw => h w' (below_then hb hb.size hw)
theorem grow_below_ (w : World) (q : Nat) (os : Array Obj) : Below w.heap.size w (Go.Sort.grow (w.drewN q) os) :=
  ⟨rfl, rfl, rfl, by simp [Go.Sort.grow, World.drewN], fun k hk => by simp [Go.Sort.grow, World.drewN, Array.getElem?_append, hk]⟩

end Go.Proofs.YteepnlofbfccgaaDoor.Pr

namespace Go.Proofs.YteepnlofbfccgaaDoor.Pr
open Go.RowKit Go.Proofs.YteepnlofbfccgaaDoorW.PrintWords Go.Proofs.YteepnlofbfccgaaDoorW.PrintLast Go.Proofs.YteepnlofbfccgaaDoorW.PrintMore
attribute [local go_sem] max2_int min2_int max_two min_two max_three min_three max_four min_four   -- for this text's walks alone
set_option linter.unusedVariables false
set_option linter.unusedSimpArgs false

/-! ### strings_Trim: function 88 -/
def strings_Trim.f (a0 : ByteArray) (a1 : ByteArray) : Option ByteArray := if a0.size ≤ 9223372036854775807 then (if a1.size < 1000 then (if a1.data.toList.all (fun b => decide (b.toNat < 128)) = true then some ⟨(Lib.trimS a0.data.toList a1.data.toList).toArray⟩ else none) else none) else none
theorem strings_Trim.calls (a0 : ByteArray) (a1 : ByteArray) (r : ByteArray) (w : World) (h : strings_Trim.f a0 a1 = some r) :
    Calls Tryd.prog 88 #[.string a0, .string a1] w fun e w' => e = .returned (.string r) ∧ Below w.heap.size w w' := by
  unfold strings_Trim.f at h
  by_cases h0 : a0.size ≤ 9223372036854775807
  · rw [if_pos h0] at h
    by_cases h1 : a1.size < 1000
    · rw [if_pos h1] at h
      by_cases h2 : a1.data.toList.all (fun b => decide (b.toNat < 128)) = true
      · rw [if_pos h2] at h
        obtain rfl := Option.some.inj h
        exact Any.strings_Trim_laid Tryd.lays160 (by kernel_rfl) a0 a1 w h0 (by omega) (ascii_of_all h2)
      · rw [if_neg h2] at h
        cases h
    · rw [if_neg h1] at h
      cases h
  · rw [if_neg h0] at h
    cases h

end Go.Proofs.YteepnlofbfccgaaDoor.Pr

namespace Go.Proofs.YteepnlofbfccgaaDoor.Pr
open Go.RowKit Go.Proofs.YteepnlofbfccgaaDoorW.PrintWords Go.Proofs.YteepnlofbfccgaaDoorW.PrintLast Go.Proofs.YteepnlofbfccgaaDoorW.PrintMore
attribute [local go_sem] max2_int min2_int max_two min_two max_three min_three max_four min_four   -- for this text's walks alone
set_option linter.unusedVariables false
set_option linter.unusedSimpArgs false

/-! ### impl_isWord: function 56 -/
def impl_isWord.f (a0 : ByteArray) : Option (Bool) := if (a0.size : Int) ≥ 1 then (if (a0.size : Int) ≤ 10 then ((strings_Trim.f a0 (⟨#[97, 98, 99, 100, 101, 102, 103, 104, 105, 106, 107, 108, 109, 110, 111, 112, 113, 114, 115, 116, 117, 118, 119, 120, 121, 122]⟩ : ByteArray)).bind fun t115 => (some (t115.toList == ([] : List UInt8)))) else (some false)) else (some false)
set_option maxHeartbeats 8000000 in
set_option maxRecDepth 100000 in
theorem impl_isWord.calls (a0 : ByteArray) (r : Bool) (w : World) (h : impl_isWord.f a0 = some r) :
    Calls Tryd.prog 56 #[.string a0] w fun e w' => e = .returned (.bool r) ∧ Below w.heap.size w w' := by
  have HB := Aside0.mk (Below.refl w.heap.size w)
  have H : (if (a0.size : Int) ≥ 1 then (if (a0.size : Int) ≤ 10 then ((strings_Trim.f a0 (⟨#[97, 98, 99, 100, 101, 102, 103, 104, 105, 106, 107, 108, 109, 110, 111, 112, 113, 114, 115, 116, 117, 118, 119, 120, 121, 122]⟩ : ByteArray)).bind fun t115 => (some (t115.toList == ([] : List UInt8)))) else (some false)) else (some false)) = some r := h
  clear h
  by_cases c2 : (a0.size : Int) ≥ 1
  · rw [if_pos c2] at H
    have c2b0 : decide (1 ≤ (a0.size : Int)) = true := decide_eq_true c2
    have c2b1 : decide (1 ≤ a0.size) = true := decide_eq_true (by omega)
    clear c2
    by_cases c3 : (a0.size : Int) ≤ 10
    · rw [if_pos c3] at H
      have c3b0 : decide ((a0.size : Int) ≤ 10) = true := decide_eq_true c3
      have c3b1 : decide (a0.size ≤ 10) = true := decide_eq_true (by omega)
      clear c3
      replace H := Option.bind_eq_some_iff.mp H
      obtain ⟨t115, A40, H⟩ := H
      replace H : (some (t115.toList == ([] : List UInt8))) = some r := H
      have A4 := Aside0.mk A40
      clear A40
      obtain rfl := Option.some.inj H
      go_enter Tryd.func56, Tryd.ntmps56
      go_wp2_with (first | (go_at_call 88; (with_reducible refine (strings_Trim.calls a0 (⟨#[97, 98, 99, 100, 101, 102, 103, 104, 105, 106, 107, 108, 109, 110, 111, 112, 113, 114, 115, 116, 117, 118, 119, 120, 121, 122]⟩ : ByteArray) t115 _ A4.out).mono ?_); rintro e w5 ⟨rfl, hb⟩; have n0_ := Aside0.mk (below_step (by repeat (first | (with_reducible first | exact HB.out | apply below_alloc | apply pw_below_drewN | apply below_drew1) | exact HB.out)) hb); clear HB; have HB := n0_; clear n0_; (try clear hb); (try clear hb2); (try clear hk); (try clear hi)))
      go_ret
      exact ⟨by first | rfl | (simp [errW_none, errW_some] <;> rfl) | (simp [*, errW_none, errW_some] <;> rfl), by repeat (first | (with_reducible first | exact HB.out | apply below_alloc | apply pw_below_drewN | apply below_drew1) | exact HB.out)⟩
    · rw [if_neg c3] at H
      have c3b0 : decide ((a0.size : Int) ≤ 10) = false := decide_eq_false c3
      have c3b1 : decide (a0.size ≤ 10) = false := decide_eq_false (by omega)
      clear c3
      obtain rfl := Option.some.inj H
      go_enter Tryd.func56, Tryd.ntmps56
      go_wp2
      go_ret
      exact ⟨by first | rfl | (simp [errW_none, errW_some] <;> rfl) | (simp [*, errW_none, errW_some] <;> rfl), by repeat (first | (with_reducible first | exact HB.out | apply below_alloc | apply pw_below_drewN | apply below_drew1) | exact HB.out)⟩
  · rw [if_neg c2] at H
    have c2b0 : decide (1 ≤ (a0.size : Int)) = false := decide_eq_false c2
    have c2b1 : decide (1 ≤ a0.size) = false := decide_eq_false (by omega)
    clear c2
    obtain rfl := Option.some.inj H
    go_enter Tryd.func56, Tryd.ntmps56
    go_wp2
    go_ret
    exact ⟨by first | rfl | (simp [errW_none, errW_some] <;> rfl) | (simp [*, errW_none, errW_some] <;> rfl), by repeat (first | (with_reducible first | exact HB.out | apply below_alloc | apply pw_below_drewN | apply below_drew1) | exact HB.out)⟩

end Go.Proofs.YteepnlofbfccgaaDoor.Pr

namespace Go.Proofs.YteepnlofbfccgaaDoor.Pr
open Go.RowKit Go.Proofs.YteepnlofbfccgaaDoorW.PrintWords Go.Proofs.YteepnlofbfccgaaDoorW.PrintLast Go.Proofs.YteepnlofbfccgaaDoorW.PrintMore
attribute [local go_sem] max2_int min2_int max_two min_two max_three min_three max_four min_four   -- for this text's walks alone
set_option linter.unusedVariables false
set_option linter.unusedSimpArgs false

/-! ### impl_within: function 57 -/
def impl_within.f (a0 : Int) (a1 : Int) (a2 : Int) : Option (Bool) := if a0 ≥ a1 then (some (decide (a0 ≤ a2))) else (some false)
set_option maxHeartbeats 8000000 in
set_option maxRecDepth 100000 in
theorem impl_within.calls (a0 : Int) (a1 : Int) (a2 : Int) (r : Bool) (w : World) (h : impl_within.f a0 a1 a2 = some r) :
    Calls Tryd.prog 57 #[.int .i64 a0, .int .i64 a1, .int .i64 a2] w fun e w' => e = .returned (.bool r) ∧ Drawn0 w w' := by
  have H : (if a0 ≥ a1 then (some (decide (a0 ≤ a2))) else (some false)) = some r := h
  clear h
  by_cases c4 : a0 ≥ a1
  · rw [if_pos c4] at H
    have c4b0 : decide (a1 ≤ a0) = true := decide_eq_true c4
    clear c4
    obtain rfl := Option.some.inj H
    go_enter Tryd.func57, Tryd.ntmps57
    go_wp2
    go_ret
    exact ⟨by first | rfl | (simp; done) | (simp [*]; done), by repeat (first | exact Drawn0.refl _ | apply Drawn0.step)⟩
  · rw [if_neg c4] at H
    have c4b0 : decide (a1 ≤ a0) = false := decide_eq_false c4
    clear c4
    obtain rfl := Option.some.inj H
    go_enter Tryd.func57, Tryd.ntmps57
    go_wp2
    go_ret
    exact ⟨by first | rfl | (simp; done) | (simp [*]; done), by repeat (first | exact Drawn0.refl _ | apply Drawn0.step)⟩

end Go.Proofs.YteepnlofbfccgaaDoor.Pr

namespace Go.Proofs.YteepnlofbfccgaaDoor.Pr
open Go.RowKit Go.Proofs.YteepnlofbfccgaaDoorW.PrintWords Go.Proofs.YteepnlofbfccgaaDoorW.PrintLast Go.Proofs.YteepnlofbfccgaaDoorW.PrintMore
attribute [local go_sem] max2_int min2_int max_two min_two max_three min_three max_four min_four   -- for this text's walks alone
set_option linter.unusedVariables false
set_option linter.unusedSimpArgs false

/-! ### impl_IsCaveRow: function 18 -/
def impl_IsCaveRow.f (a0_0 : ByteArray) (a0_1 : Int) (a0_2 : Int) (a0_3 : Int) : Option (Bool) := (impl_isWord.f a0_0).bind fun t117 => (if t117 = true then ((impl_within.f a0_1 0 1000000).bind fun t118 => (if t118 = true then ((impl_within.f a0_2 0 (mn 20000 a0_1)).bind fun t119 => (if t119 = true then ((impl_within.f a0_3 0 9999).bind fun t120 => (if t120 = true then (some ((a0_3 == 0) == (a0_1 == 0))) else (some false))) else (some false))) else (some false))) else (some false))
set_option maxHeartbeats 8000000 in
set_option maxRecDepth 100000 in
theorem impl_IsCaveRow.calls (a0_0 : ByteArray) (a0_1 : Int) (a0_2 : Int) (a0_3 : Int) (r : Bool) (w : World) (h : impl_IsCaveRow.f a0_0 a0_1 a0_2 a0_3 = some r) :
    Calls Tryd.prog 18 #[.agg #[.string a0_0, .int .i64 a0_1, .int .i64 a0_2, .int .i64 a0_3]] w fun e w' => e = .returned (.bool r) ∧ Below w.heap.size w w' := by
  have hu26 := Tryd.underlying26
  have HB := Aside0.mk (Below.refl w.heap.size w)
  have H : ((impl_isWord.f a0_0).bind fun t117 => (if t117 = true then ((impl_within.f a0_1 0 1000000).bind fun t118 => (if t118 = true then ((impl_within.f a0_2 0 (mn 20000 a0_1)).bind fun t119 => (if t119 = true then ((impl_within.f a0_3 0 9999).bind fun t120 => (if t120 = true then (some ((a0_3 == 0) == (a0_1 == 0))) else (some false))) else (some false))) else (some false))) else (some false))) = some r := h
  clear h
  replace H := Option.bind_eq_some_iff.mp H
  obtain ⟨t117, A20, H⟩ := H
  replace H : (if t117 = true then ((impl_within.f a0_1 0 1000000).bind fun t118 => (if t118 = true then ((impl_within.f a0_2 0 (mn 20000 a0_1)).bind fun t119 => (if t119 = true then ((impl_within.f a0_3 0 9999).bind fun t120 => (if t120 = true then (some ((a0_3 == 0) == (a0_1 == 0))) else (some false))) else (some false))) else (some false))) else (some false)) = some r := H
  have A2 := Aside0.mk A20
  clear A20
  by_cases c3 : t117 = true
  · subst c3
    have H1 : ((impl_within.f a0_1 0 1000000).bind fun t118 => (if t118 = true then ((impl_within.f a0_2 0 (mn 20000 a0_1)).bind fun t119 => (if t119 = true then ((impl_within.f a0_3 0 9999).bind fun t120 => (if t120 = true then (some ((a0_3 == 0) == (a0_1 == 0))) else (some false))) else (some false))) else (some false))) = some r := by rw [if_pos rfl] at H; exact H
    clear H
    have H := H1
    clear H1
    replace H := Option.bind_eq_some_iff.mp H
    obtain ⟨t118, A40, H⟩ := H
    replace H : (if t118 = true then ((impl_within.f a0_2 0 (mn 20000 a0_1)).bind fun t119 => (if t119 = true then ((impl_within.f a0_3 0 9999).bind fun t120 => (if t120 = true then (some ((a0_3 == 0) == (a0_1 == 0))) else (some false))) else (some false))) else (some false)) = some r := H
    have A4 := Aside0.mk A40
    clear A40
    by_cases c5 : t118 = true
    · subst c5
      have H1 : ((impl_within.f a0_2 0 (mn 20000 a0_1)).bind fun t119 => (if t119 = true then ((impl_within.f a0_3 0 9999).bind fun t120 => (if t120 = true then (some ((a0_3 == 0) == (a0_1 == 0))) else (some false))) else (some false))) = some r := by rw [if_pos rfl] at H; exact H
      clear H
      have H := H1
      clear H1
      obtain ⟨ji6, hji6⟩ : ∃ j_ : Int, (mn 20000 a0_1) = j_ := ⟨_, rfl⟩
      replace H : ((impl_within.f a0_2 0 (ji6)).bind fun t119 => (if t119 = true then ((impl_within.f a0_3 0 9999).bind fun t120 => (if t120 = true then (some ((a0_3 == 0) == (a0_1 == 0))) else (some false))) else (some false))) = some r := by first | (rw [hji6] at H; exact H) | (simp only [hji6] at H ⊢; exact H)
      (try rw [hji6] at A2)
      (try rw [hji6] at A4)
      (try (have hji6h : ji6 ≤ 20000 := by (rw [← hji6]; unfold mn; (repeat' split) <;> omega)))
      (try (have hji6g : ji6 ≤ 64 := by omega))
      have hji6_ : (if a0_1 < 20000 then a0_1 else 20000) = ji6 := hji6
      replace H := Option.bind_eq_some_iff.mp H
      obtain ⟨t119, A70, H⟩ := H
      replace H : (if t119 = true then ((impl_within.f a0_3 0 9999).bind fun t120 => (if t120 = true then (some ((a0_3 == 0) == (a0_1 == 0))) else (some false))) else (some false)) = some r := H
      have A7 := Aside0.mk A70
      clear A70
      by_cases c8 : t119 = true
      · subst c8
        have H1 : ((impl_within.f a0_3 0 9999).bind fun t120 => (if t120 = true then (some ((a0_3 == 0) == (a0_1 == 0))) else (some false))) = some r := by rw [if_pos rfl] at H; exact H
        clear H
        have H := H1
        clear H1
        replace H := Option.bind_eq_some_iff.mp H
        obtain ⟨t120, A90, H⟩ := H
        replace H : (if t120 = true then (some ((a0_3 == 0) == (a0_1 == 0))) else (some false)) = some r := H
        have A9 := Aside0.mk A90
        clear A90
        by_cases c10 : t120 = true
        · subst c10
          have H1 : (some ((a0_3 == 0) == (a0_1 == 0))) = some r := by rw [if_pos rfl] at H; exact H
          clear H
          have H := H1
          clear H1
          obtain rfl := Option.some.inj H
          go_enter Tryd.func18, Tryd.ntmps18
          go_wp2_with (first | ((with_reducible refine gate_dst (N := 1) rfl ?_); (try (refine gate_guard (by rfl) ?_; dsimp only)); refine box_event ?hg (N := 1) ?hd (cs := #[.string a0_0, .int .i64 a0_1, .int .i64 a0_2, .int .i64 a0_3]) (t := 26) ?hr ?_; (case hd => rfl); (case hg => rfl); (case hr => first | (go_simp; done) | (go_simp; rfl)); intro gb116 hg w11 hbox hb; have n0_ := Aside0.mk (below_step (by repeat (first | (with_reducible first | exact HB.out | apply below_alloc | apply pw_below_drewN | apply below_drew1) | exact HB.out)) hb); have n1_ := Aside0.mk (hbox); have n2_ := Aside0.mk ((by rw [hg]; exact (below_size (by repeat (first | (with_reducible first | exact HB.out | apply below_alloc | apply pw_below_drewN | apply below_drew1) | exact HB.out))) : w.heap.size ≤ gb116)); have n3_ := Aside0.mk ((by rw [hg]; exact (below_size (by repeat (first | (with_reducible first | exact HB.out | apply below_alloc | apply pw_below_drewN | apply below_drew1) | exact HB.out))) : w.heap.size ≤ gb116)); clear HB; have HB := n0_; have BK116 := n1_; have GW116 := n2_; have GE116 := n3_; clear n0_ n1_ n2_ n3_; clear hb hbox hg; have hcz12_0 : w11.cell? ⟨gb116, 0, none⟩ = some (.string a0_0) := (blk_cell BK116.out 0).trans rfl; have hcz12_1 : w11.cell? ⟨gb116, 1, none⟩ = some (.int .i64 a0_1) := (blk_cell BK116.out 1).trans rfl; have hcz12_2 : w11.cell? ⟨gb116, 2, none⟩ = some (.int .i64 a0_2) := (blk_cell BK116.out 2).trans rfl; have hcz12_3 : w11.cell? ⟨gb116, 3, none⟩ = some (.int .i64 a0_3) := (blk_cell BK116.out 3).trans rfl; have hfz12_0 := blk_frozen BK116.out 0; have hfz12_1 := blk_frozen BK116.out 1; have hfz12_2 := blk_frozen BK116.out 2; have hfz12_3 := blk_frozen BK116.out 3) | ((with_reducible refine gate_callee (f := 56) rfl ?_); refine goesL_ (some 5) rfl rfl Tryd.func56 (by kernel_rfl) rfl #[.string a0_0] rfl (by (try simp only [List.map_toArray, List.map_cons, List.map_nil]); first | done | rfl | (simp only [List.length_drop, List.length_take]; rfl)) ?_; (with_reducible refine (impl_isWord.calls a0_0 true _ A2.out).mono ?_); rintro e w13 ⟨rfl, hb⟩; refine ⟨_, rfl, ?_⟩; have n0_ := Aside0.mk (blk_below (g := gb116) (o := .cells #[.string a0_0, .int .i64 a0_1, .int .i64 a0_2, .int .i64 a0_3] 26 (0, 0)) (by (with_reducible repeat (first | refine blk_drewN ?_ _ | refine blk_drew ?_ | refine blk_alloc ?_ _)); exact BK116.out) hb); have n1_ := Aside0.mk (below_step (by repeat (first | (with_reducible first | exact HB.out | apply below_alloc | apply pw_below_drewN | apply below_drew1 | refine below_set ?_ GE116.out) | exact HB.out)) hb); clear BK116; clear HB; have BK116 := n0_; have HB := n1_; clear n0_ n1_; (try clear hb); (try clear hb2); (try clear hk); (try clear hi); have hcz14_0 : w13.cell? ⟨gb116, 0, none⟩ = some (.string a0_0) := (blk_cell BK116.out 0).trans rfl; have hcz14_1 : w13.cell? ⟨gb116, 1, none⟩ = some (.int .i64 a0_1) := (blk_cell BK116.out 1).trans rfl; have hcz14_2 : w13.cell? ⟨gb116, 2, none⟩ = some (.int .i64 a0_2) := (blk_cell BK116.out 2).trans rfl; have hcz14_3 : w13.cell? ⟨gb116, 3, none⟩ = some (.int .i64 a0_3) := (blk_cell BK116.out 3).trans rfl; have hfz14_0 := blk_frozen BK116.out 0; have hfz14_1 := blk_frozen BK116.out 1; have hfz14_2 := blk_frozen BK116.out 2; have hfz14_3 := blk_frozen BK116.out 3) | (go_at_call 57; (with_reducible refine (impl_within.calls a0_1 0 1000000 true _ A4.out).mono ?_); rintro e w' ⟨rfl, ⟨nd, rfl⟩⟩) | (go_at_call 57; (with_reducible refine (impl_within.calls a0_2 0 ji6 true _ A7.out).mono ?_); rintro e w' ⟨rfl, ⟨nd, rfl⟩⟩) | (go_at_call 57; (with_reducible refine (impl_within.calls a0_3 0 9999 true _ A9.out).mono ?_); rintro e w' ⟨rfl, ⟨nd, rfl⟩⟩))
          go_ret
          exact ⟨by first | rfl | (simp [errW_none, errW_some] <;> rfl) | (simp only [← hji6]; first | rfl | (simp [errW_none, errW_some] <;> rfl)) | (simp [*, errW_none, errW_some] <;> rfl), by repeat (first | (with_reducible first | exact HB.out | apply below_alloc | apply pw_below_drewN | apply below_drew1 | refine below_set ?_ GE116.out) | exact HB.out)⟩
        · replace c10 := Bool.eq_false_iff.mpr c10
          subst c10
          have H1 : (some false) = some r := by rw [if_neg (show ¬ (false = true) by decide)] at H; exact H
          clear H
          have H := H1
          clear H1
          obtain rfl := Option.some.inj H
          go_enter Tryd.func18, Tryd.ntmps18
          go_wp2_with (first | ((with_reducible refine gate_dst (N := 1) rfl ?_); (try (refine gate_guard (by rfl) ?_; dsimp only)); refine box_event ?hg (N := 1) ?hd (cs := #[.string a0_0, .int .i64 a0_1, .int .i64 a0_2, .int .i64 a0_3]) (t := 26) ?hr ?_; (case hd => rfl); (case hg => rfl); (case hr => first | (go_simp; done) | (go_simp; rfl)); intro gb116 hg w15 hbox hb; have n0_ := Aside0.mk (below_step (by repeat (first | (with_reducible first | exact HB.out | apply below_alloc | apply pw_below_drewN | apply below_drew1) | exact HB.out)) hb); have n1_ := Aside0.mk (hbox); have n2_ := Aside0.mk ((by rw [hg]; exact (below_size (by repeat (first | (with_reducible first | exact HB.out | apply below_alloc | apply pw_below_drewN | apply below_drew1) | exact HB.out))) : w.heap.size ≤ gb116)); have n3_ := Aside0.mk ((by rw [hg]; exact (below_size (by repeat (first | (with_reducible first | exact HB.out | apply below_alloc | apply pw_below_drewN | apply below_drew1) | exact HB.out))) : w.heap.size ≤ gb116)); clear HB; have HB := n0_; have BK116 := n1_; have GW116 := n2_; have GE116 := n3_; clear n0_ n1_ n2_ n3_; clear hb hbox hg; have hcz16_0 : w15.cell? ⟨gb116, 0, none⟩ = some (.string a0_0) := (blk_cell BK116.out 0).trans rfl; have hcz16_1 : w15.cell? ⟨gb116, 1, none⟩ = some (.int .i64 a0_1) := (blk_cell BK116.out 1).trans rfl; have hcz16_2 : w15.cell? ⟨gb116, 2, none⟩ = some (.int .i64 a0_2) := (blk_cell BK116.out 2).trans rfl; have hcz16_3 : w15.cell? ⟨gb116, 3, none⟩ = some (.int .i64 a0_3) := (blk_cell BK116.out 3).trans rfl; have hfz16_0 := blk_frozen BK116.out 0; have hfz16_1 := blk_frozen BK116.out 1; have hfz16_2 := blk_frozen BK116.out 2; have hfz16_3 := blk_frozen BK116.out 3) | ((with_reducible refine gate_callee (f := 56) rfl ?_); refine goesL_ (some 5) rfl rfl Tryd.func56 (by kernel_rfl) rfl #[.string a0_0] rfl (by (try simp only [List.map_toArray, List.map_cons, List.map_nil]); first | done | rfl | (simp only [List.length_drop, List.length_take]; rfl)) ?_; (with_reducible refine (impl_isWord.calls a0_0 true _ A2.out).mono ?_); rintro e w17 ⟨rfl, hb⟩; refine ⟨_, rfl, ?_⟩; have n0_ := Aside0.mk (blk_below (g := gb116) (o := .cells #[.string a0_0, .int .i64 a0_1, .int .i64 a0_2, .int .i64 a0_3] 26 (0, 0)) (by (with_reducible repeat (first | refine blk_drewN ?_ _ | refine blk_drew ?_ | refine blk_alloc ?_ _)); exact BK116.out) hb); have n1_ := Aside0.mk (below_step (by repeat (first | (with_reducible first | exact HB.out | apply below_alloc | apply pw_below_drewN | apply below_drew1 | refine below_set ?_ GE116.out) | exact HB.out)) hb); clear BK116; clear HB; have BK116 := n0_; have HB := n1_; clear n0_ n1_; (try clear hb); (try clear hb2); (try clear hk); (try clear hi); have hcz18_0 : w17.cell? ⟨gb116, 0, none⟩ = some (.string a0_0) := (blk_cell BK116.out 0).trans rfl; have hcz18_1 : w17.cell? ⟨gb116, 1, none⟩ = some (.int .i64 a0_1) := (blk_cell BK116.out 1).trans rfl; have hcz18_2 : w17.cell? ⟨gb116, 2, none⟩ = some (.int .i64 a0_2) := (blk_cell BK116.out 2).trans rfl; have hcz18_3 : w17.cell? ⟨gb116, 3, none⟩ = some (.int .i64 a0_3) := (blk_cell BK116.out 3).trans rfl; have hfz18_0 := blk_frozen BK116.out 0; have hfz18_1 := blk_frozen BK116.out 1; have hfz18_2 := blk_frozen BK116.out 2; have hfz18_3 := blk_frozen BK116.out 3) | (go_at_call 57; (with_reducible refine (impl_within.calls a0_1 0 1000000 true _ A4.out).mono ?_); rintro e w' ⟨rfl, ⟨nd, rfl⟩⟩) | (go_at_call 57; (with_reducible refine (impl_within.calls a0_2 0 ji6 true _ A7.out).mono ?_); rintro e w' ⟨rfl, ⟨nd, rfl⟩⟩) | (go_at_call 57; (with_reducible refine (impl_within.calls a0_3 0 9999 false _ A9.out).mono ?_); rintro e w' ⟨rfl, ⟨nd, rfl⟩⟩))
          go_ret
          exact ⟨by first | rfl | (simp [errW_none, errW_some] <;> rfl) | (simp only [← hji6]; first | rfl | (simp [errW_none, errW_some] <;> rfl)) | (simp [*, errW_none, errW_some] <;> rfl), by repeat (first | (with_reducible first | exact HB.out | apply below_alloc | apply pw_below_drewN | apply below_drew1 | refine below_set ?_ GE116.out) | exact HB.out)⟩
      · replace c8 := Bool.eq_false_iff.mpr c8
        subst c8
        have H1 : (some false) = some r := by rw [if_neg (show ¬ (false = true) by decide)] at H; exact H
        clear H
        have H := H1
        clear H1
        obtain rfl := Option.some.inj H
        go_enter Tryd.func18, Tryd.ntmps18
        go_wp2_with (first | ((with_reducible refine gate_dst (N := 1) rfl ?_); (try (refine gate_guard (by rfl) ?_; dsimp only)); refine box_event ?hg (N := 1) ?hd (cs := #[.string a0_0, .int .i64 a0_1, .int .i64 a0_2, .int .i64 a0_3]) (t := 26) ?hr ?_; (case hd => rfl); (case hg => rfl); (case hr => first | (go_simp; done) | (go_simp; rfl)); intro gb116 hg w19 hbox hb; have n0_ := Aside0.mk (below_step (by repeat (first | (with_reducible first | exact HB.out | apply below_alloc | apply pw_below_drewN | apply below_drew1) | exact HB.out)) hb); have n1_ := Aside0.mk (hbox); have n2_ := Aside0.mk ((by rw [hg]; exact (below_size (by repeat (first | (with_reducible first | exact HB.out | apply below_alloc | apply pw_below_drewN | apply below_drew1) | exact HB.out))) : w.heap.size ≤ gb116)); have n3_ := Aside0.mk ((by rw [hg]; exact (below_size (by repeat (first | (with_reducible first | exact HB.out | apply below_alloc | apply pw_below_drewN | apply below_drew1) | exact HB.out))) : w.heap.size ≤ gb116)); clear HB; have HB := n0_; have BK116 := n1_; have GW116 := n2_; have GE116 := n3_; clear n0_ n1_ n2_ n3_; clear hb hbox hg; have hcz20_0 : w19.cell? ⟨gb116, 0, none⟩ = some (.string a0_0) := (blk_cell BK116.out 0).trans rfl; have hcz20_1 : w19.cell? ⟨gb116, 1, none⟩ = some (.int .i64 a0_1) := (blk_cell BK116.out 1).trans rfl; have hcz20_2 : w19.cell? ⟨gb116, 2, none⟩ = some (.int .i64 a0_2) := (blk_cell BK116.out 2).trans rfl; have hcz20_3 : w19.cell? ⟨gb116, 3, none⟩ = some (.int .i64 a0_3) := (blk_cell BK116.out 3).trans rfl; have hfz20_0 := blk_frozen BK116.out 0; have hfz20_1 := blk_frozen BK116.out 1; have hfz20_2 := blk_frozen BK116.out 2; have hfz20_3 := blk_frozen BK116.out 3) | ((with_reducible refine gate_callee (f := 56) rfl ?_); refine goesL_ (some 5) rfl rfl Tryd.func56 (by kernel_rfl) rfl #[.string a0_0] rfl (by (try simp only [List.map_toArray, List.map_cons, List.map_nil]); first | done | rfl | (simp only [List.length_drop, List.length_take]; rfl)) ?_; (with_reducible refine (impl_isWord.calls a0_0 true _ A2.out).mono ?_); rintro e w21 ⟨rfl, hb⟩; refine ⟨_, rfl, ?_⟩; have n0_ := Aside0.mk (blk_below (g := gb116) (o := .cells #[.string a0_0, .int .i64 a0_1, .int .i64 a0_2, .int .i64 a0_3] 26 (0, 0)) (by (with_reducible repeat (first | refine blk_drewN ?_ _ | refine blk_drew ?_ | refine blk_alloc ?_ _)); exact BK116.out) hb); have n1_ := Aside0.mk (below_step (by repeat (first | (with_reducible first | exact HB.out | apply below_alloc | apply pw_below_drewN | apply below_drew1 | refine below_set ?_ GE116.out) | exact HB.out)) hb); clear BK116; clear HB; have BK116 := n0_; have HB := n1_; clear n0_ n1_; (try clear hb); (try clear hb2); (try clear hk); (try clear hi); have hcz22_0 : w21.cell? ⟨gb116, 0, none⟩ = some (.string a0_0) := (blk_cell BK116.out 0).trans rfl; have hcz22_1 : w21.cell? ⟨gb116, 1, none⟩ = some (.int .i64 a0_1) := (blk_cell BK116.out 1).trans rfl; have hcz22_2 : w21.cell? ⟨gb116, 2, none⟩ = some (.int .i64 a0_2) := (blk_cell BK116.out 2).trans rfl; have hcz22_3 : w21.cell? ⟨gb116, 3, none⟩ = some (.int .i64 a0_3) := (blk_cell BK116.out 3).trans rfl; have hfz22_0 := blk_frozen BK116.out 0; have hfz22_1 := blk_frozen BK116.out 1; have hfz22_2 := blk_frozen BK116.out 2; have hfz22_3 := blk_frozen BK116.out 3) | (go_at_call 57; (with_reducible refine (impl_within.calls a0_1 0 1000000 true _ A4.out).mono ?_); rintro e w' ⟨rfl, ⟨nd, rfl⟩⟩) | (go_at_call 57; (with_reducible refine (impl_within.calls a0_2 0 ji6 false _ A7.out).mono ?_); rintro e w' ⟨rfl, ⟨nd, rfl⟩⟩))
        go_ret
        exact ⟨by first | rfl | (simp [errW_none, errW_some] <;> rfl) | (simp only [← hji6]; first | rfl | (simp [errW_none, errW_some] <;> rfl)) | (simp [*, errW_none, errW_some] <;> rfl), by repeat (first | (with_reducible first | exact HB.out | apply below_alloc | apply pw_below_drewN | apply below_drew1 | refine below_set ?_ GE116.out) | exact HB.out)⟩
    · replace c5 := Bool.eq_false_iff.mpr c5
      subst c5
      have H1 : (some false) = some r := by rw [if_neg (show ¬ (false = true) by decide)] at H; exact H
      clear H
      have H := H1
      clear H1
      obtain rfl := Option.some.inj H
      go_enter Tryd.func18, Tryd.ntmps18
      go_wp2_with (first | ((with_reducible refine gate_dst (N := 1) rfl ?_); (try (refine gate_guard (by rfl) ?_; dsimp only)); refine box_event ?hg (N := 1) ?hd (cs := #[.string a0_0, .int .i64 a0_1, .int .i64 a0_2, .int .i64 a0_3]) (t := 26) ?hr ?_; (case hd => rfl); (case hg => rfl); (case hr => first | (go_simp; done) | (go_simp; rfl)); intro gb116 hg w23 hbox hb; have n0_ := Aside0.mk (below_step (by repeat (first | (with_reducible first | exact HB.out | apply below_alloc | apply pw_below_drewN | apply below_drew1) | exact HB.out)) hb); have n1_ := Aside0.mk (hbox); have n2_ := Aside0.mk ((by rw [hg]; exact (below_size (by repeat (first | (with_reducible first | exact HB.out | apply below_alloc | apply pw_below_drewN | apply below_drew1) | exact HB.out))) : w.heap.size ≤ gb116)); have n3_ := Aside0.mk ((by rw [hg]; exact (below_size (by repeat (first | (with_reducible first | exact HB.out | apply below_alloc | apply pw_below_drewN | apply below_drew1) | exact HB.out))) : w.heap.size ≤ gb116)); clear HB; have HB := n0_; have BK116 := n1_; have GW116 := n2_; have GE116 := n3_; clear n0_ n1_ n2_ n3_; clear hb hbox hg; have hcz24_0 : w23.cell? ⟨gb116, 0, none⟩ = some (.string a0_0) := (blk_cell BK116.out 0).trans rfl; have hcz24_1 : w23.cell? ⟨gb116, 1, none⟩ = some (.int .i64 a0_1) := (blk_cell BK116.out 1).trans rfl; have hcz24_2 : w23.cell? ⟨gb116, 2, none⟩ = some (.int .i64 a0_2) := (blk_cell BK116.out 2).trans rfl; have hcz24_3 : w23.cell? ⟨gb116, 3, none⟩ = some (.int .i64 a0_3) := (blk_cell BK116.out 3).trans rfl; have hfz24_0 := blk_frozen BK116.out 0; have hfz24_1 := blk_frozen BK116.out 1; have hfz24_2 := blk_frozen BK116.out 2; have hfz24_3 := blk_frozen BK116.out 3) | ((with_reducible refine gate_callee (f := 56) rfl ?_); refine goesL_ (some 5) rfl rfl Tryd.func56 (by kernel_rfl) rfl #[.string a0_0] rfl (by (try simp only [List.map_toArray, List.map_cons, List.map_nil]); first | done | rfl | (simp only [List.length_drop, List.length_take]; rfl)) ?_; (with_reducible refine (impl_isWord.calls a0_0 true _ A2.out).mono ?_); rintro e w25 ⟨rfl, hb⟩; refine ⟨_, rfl, ?_⟩; have n0_ := Aside0.mk (blk_below (g := gb116) (o := .cells #[.string a0_0, .int .i64 a0_1, .int .i64 a0_2, .int .i64 a0_3] 26 (0, 0)) (by (with_reducible repeat (first | refine blk_drewN ?_ _ | refine blk_drew ?_ | refine blk_alloc ?_ _)); exact BK116.out) hb); have n1_ := Aside0.mk (below_step (by repeat (first | (with_reducible first | exact HB.out | apply below_alloc | apply pw_below_drewN | apply below_drew1 | refine below_set ?_ GE116.out) | exact HB.out)) hb); clear BK116; clear HB; have BK116 := n0_; have HB := n1_; clear n0_ n1_; (try clear hb); (try clear hb2); (try clear hk); (try clear hi); have hcz26_0 : w25.cell? ⟨gb116, 0, none⟩ = some (.string a0_0) := (blk_cell BK116.out 0).trans rfl; have hcz26_1 : w25.cell? ⟨gb116, 1, none⟩ = some (.int .i64 a0_1) := (blk_cell BK116.out 1).trans rfl; have hcz26_2 : w25.cell? ⟨gb116, 2, none⟩ = some (.int .i64 a0_2) := (blk_cell BK116.out 2).trans rfl; have hcz26_3 : w25.cell? ⟨gb116, 3, none⟩ = some (.int .i64 a0_3) := (blk_cell BK116.out 3).trans rfl; have hfz26_0 := blk_frozen BK116.out 0; have hfz26_1 := blk_frozen BK116.out 1; have hfz26_2 := blk_frozen BK116.out 2; have hfz26_3 := blk_frozen BK116.out 3) | (go_at_call 57; (with_reducible refine (impl_within.calls a0_1 0 1000000 false _ A4.out).mono ?_); rintro e w' ⟨rfl, ⟨nd, rfl⟩⟩))
      go_ret
      exact ⟨by first | rfl | (simp [errW_none, errW_some] <;> rfl) | (simp [*, errW_none, errW_some] <;> rfl), by repeat (first | (with_reducible first | exact HB.out | apply below_alloc | apply pw_below_drewN | apply below_drew1 | refine below_set ?_ GE116.out) | exact HB.out)⟩
  · replace c3 := Bool.eq_false_iff.mpr c3
    subst c3
    have H1 : (some false) = some r := by rw [if_neg (show ¬ (false = true) by decide)] at H; exact H
    clear H
    have H := H1
    clear H1
    obtain rfl := Option.some.inj H
    go_enter Tryd.func18, Tryd.ntmps18
    go_wp2_with (first | ((with_reducible refine gate_dst (N := 1) rfl ?_); (try (refine gate_guard (by rfl) ?_; dsimp only)); refine box_event ?hg (N := 1) ?hd (cs := #[.string a0_0, .int .i64 a0_1, .int .i64 a0_2, .int .i64 a0_3]) (t := 26) ?hr ?_; (case hd => rfl); (case hg => rfl); (case hr => first | (go_simp; done) | (go_simp; rfl)); intro gb116 hg w27 hbox hb; have n0_ := Aside0.mk (below_step (by repeat (first | (with_reducible first | exact HB.out | apply below_alloc | apply pw_below_drewN | apply below_drew1) | exact HB.out)) hb); have n1_ := Aside0.mk (hbox); have n2_ := Aside0.mk ((by rw [hg]; exact (below_size (by repeat (first | (with_reducible first | exact HB.out | apply below_alloc | apply pw_below_drewN | apply below_drew1) | exact HB.out))) : w.heap.size ≤ gb116)); have n3_ := Aside0.mk ((by rw [hg]; exact (below_size (by repeat (first | (with_reducible first | exact HB.out | apply below_alloc | apply pw_below_drewN | apply below_drew1) | exact HB.out))) : w.heap.size ≤ gb116)); clear HB; have HB := n0_; have BK116 := n1_; have GW116 := n2_; have GE116 := n3_; clear n0_ n1_ n2_ n3_; clear hb hbox hg; have hcz28_0 : w27.cell? ⟨gb116, 0, none⟩ = some (.string a0_0) := (blk_cell BK116.out 0).trans rfl; have hcz28_1 : w27.cell? ⟨gb116, 1, none⟩ = some (.int .i64 a0_1) := (blk_cell BK116.out 1).trans rfl; have hcz28_2 : w27.cell? ⟨gb116, 2, none⟩ = some (.int .i64 a0_2) := (blk_cell BK116.out 2).trans rfl; have hcz28_3 : w27.cell? ⟨gb116, 3, none⟩ = some (.int .i64 a0_3) := (blk_cell BK116.out 3).trans rfl; have hfz28_0 := blk_frozen BK116.out 0; have hfz28_1 := blk_frozen BK116.out 1; have hfz28_2 := blk_frozen BK116.out 2; have hfz28_3 := blk_frozen BK116.out 3) | ((with_reducible refine gate_callee (f := 56) rfl ?_); refine goesL_ (some 5) rfl rfl Tryd.func56 (by kernel_rfl) rfl #[.string a0_0] rfl (by (try simp only [List.map_toArray, List.map_cons, List.map_nil]); first | done | rfl | (simp only [List.length_drop, List.length_take]; rfl)) ?_; (with_reducible refine (impl_isWord.calls a0_0 false _ A2.out).mono ?_); rintro e w29 ⟨rfl, hb⟩; refine ⟨_, rfl, ?_⟩; have n0_ := Aside0.mk (blk_below (g := gb116) (o := .cells #[.string a0_0, .int .i64 a0_1, .int .i64 a0_2, .int .i64 a0_3] 26 (0, 0)) (by (with_reducible repeat (first | refine blk_drewN ?_ _ | refine blk_drew ?_ | refine blk_alloc ?_ _)); exact BK116.out) hb); have n1_ := Aside0.mk (below_step (by repeat (first | (with_reducible first | exact HB.out | apply below_alloc | apply pw_below_drewN | apply below_drew1 | refine below_set ?_ GE116.out) | exact HB.out)) hb); clear BK116; clear HB; have BK116 := n0_; have HB := n1_; clear n0_ n1_; (try clear hb); (try clear hb2); (try clear hk); (try clear hi)))
    go_ret
    exact ⟨by first | rfl | (simp [errW_none, errW_some] <;> rfl) | (simp [*, errW_none, errW_some] <;> rfl), by repeat (first | (with_reducible first | exact HB.out | apply below_alloc | apply pw_below_drewN | apply below_drew1 | refine below_set ?_ GE116.out) | exact HB.out)⟩

end Go.Proofs.YteepnlofbfccgaaDoor.Pr

