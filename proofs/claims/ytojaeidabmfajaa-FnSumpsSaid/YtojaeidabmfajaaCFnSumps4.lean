/-
What is proved: parts of the law FnSumps: what the functions that it reaches compute, and the plain law.
Conditions: those of each theorem.
-/
import Derived.ChangeArms
import Derived.ChangeSlices
import Derived.Deep.Slices
import Derived.RowKit
import Derived.SizedLaws
import Derived.WideShapes
import Derived.Test.YtojaeidabmfajaaCFnSumps3
namespace Go.Proofs.Ytojaeidabmfajaa.Pr
open Go.RowKit Go.Proofs.YtojaeidabmfajaaW.PrintWords Go.Proofs.YtojaeidabmfajaaW.PrintLast Go.Proofs.YtojaeidabmfajaaW.PrintMore
attribute [local go_sem] max2_int min2_int max_two min_two max_three min_three max_four min_four   -- for this text's walks alone
set_option linter.unusedVariables false
set_option linter.unusedSimpArgs false
mutual
def laws_FnSumps.j0 : Nat → List Int → List (S54) → Int → Bool → Bool → Bool → Int → Int → Int → Option (Bool)
 | 0, _, _, _, _, _, _, _, _, _ => none
 | k + 1, x0, x3, x5, x6, x7, x73, x773000, x773001, x773002 => if x73 = true then (none) else ((impl_OpenSpans.f k x3 x773000 x773001 x773002).bind fun bt777 => ((spec_OpenSpans.f k x3 x773000 x773001 x773002).bind fun bt781 => (if (bt777.2 != bt781.2) = true then (laws_FnSumps.j1 k x0 x5 x6 x7 bt777.1 true) else ((laws_rTable.f k bt777.1 bt781.1).bind fun t785 => (laws_FnSumps.j1 k x0 x5 x6 x7 bt777.1 (!t785))))))
def laws_FnSumps.j1 : Nat → List Int → Int → Bool → Bool → List (List Int) → Bool → Option (Bool)
 | 0, _, _, _, _, _, _ => none
 | k + 1, x0, x5, x6, x7, x10, x94 => if x94 = true then (none) else (laws_FnSumps.l0 k x0 x5 x6 x7 x10 false 0)
def laws_FnSumps.l0 : Nat → List Int → Int → Bool → Bool → List (List Int) → Bool → Int → Option (Bool)
 | 0, _, _, _, _, _, _, _ => none
 | k + 1, x0, x5, x6, x7, x10, x14, x15 => if x15 < (x10.length : Int) then (if x14 = true then (laws_FnSumps.l0 k x0 x5 x6 x7 x10 true (wrap64 (x15 + 1))) else (if 0 ≤ x15 then (if 0 < ((rd_L9 x10 x15).length : Int) then (if x5 ≥ (rd (rd_L9 x10 x15) 0) then (if 1 < ((rd_L9 x10 x15).length : Int) then (laws_FnSumps.l0 k x0 x5 x6 x7 x10 (decide (x5 ≤ (rd (rd_L9 x10 x15) 1))) (wrap64 (x15 + 1))) else (none)) else (laws_FnSumps.l0 k x0 x5 x6 x7 x10 false (wrap64 (x15 + 1)))) else (none)) else (none))) else (if x7 = true then (laws_FnSumps.j3 k x0 (x14 != x6)) else (laws_FnSumps.j3 k x0 false))
def laws_FnSumps.j3 : Nat → List Int → Bool → Option (Bool)
 | 0, _, _ => none
 | k + 1, x0, x127 => if x127 = true then (none) else ((spec_DrawOpenFor.f k x0).bind fun bt790 => ((impl_OpenFor.f k bt790.1 bt790.2.1 bt790.2.2).bind fun bt797 => ((spec_OpenFor.f k bt790.1 bt790.2.1 bt790.2.2).bind fun bt799 => (if bt797.1 = bt799.1 then (laws_FnSumps.j4 k x0 bt790.1 bt790.2.1 bt790.2.2 bt797.1 bt797.2 (bt797.2 != bt799.2)) else (laws_FnSumps.j4 k x0 bt790.1 bt790.2.1 bt790.2.2 bt797.1 bt797.2 true)))))
def laws_FnSumps.j4 : Nat → List Int → List (S54) → List (S30) → Int → Int → Bool → Bool → Option (Bool)
 | 0, _, _, _, _, _, _, _ => none
 | k + 1, x0, x16, x17, x18, x19, x20, x155 => if x155 = true then (none) else (if x20 = true then ((impl_ClosedSumps.f k x16 x17 x19).bind fun bt801 => ((impl_ClosedSumps.f k x16 x17 (wrap64 ((wrap64 (x19 + x18)) - 1))).bind fun bt805 => (if bt801.2 = true then (if bt805.2 = true then (if (bt801.1.length : Int) = 0 then (if (bt805.1.length : Int) = 0 then (laws_FnSumps.j5 k x0) else (none)) else (none)) else (none)) else (none)))) else (laws_FnSumps.j5 k x0))
def laws_FnSumps.j5 : Nat → List Int → Option (Bool)
 | 0, _ => none
 | k + 1, x0 => (spec_DrawClosedSumps.f k x0).bind fun bt809 => ((impl_ClosedSumps.f k bt809.1 bt809.2.1 bt809.2.2).bind fun bt816 => ((spec_ClosedSumps.f k bt809.1 bt809.2.1 bt809.2.2).bind fun bt820 => (if (bt816.2 != bt820.2) = true then (laws_FnSumps.j6 k x0 true) else ((laws_rInts.f k bt816.1 bt820.1).bind fun t824 => (if t824 = true then ((impl_AreSumps.f k bt809.2.1).bind fun t825 => ((spec_AreSumps.f k bt809.2.1).bind fun t826 => (laws_FnSumps.j6 k x0 (t825 != t826)))) else (laws_FnSumps.j6 k x0 true))))))
def laws_FnSumps.j6 : Nat → List Int → Bool → Option (Bool)
 | 0, _, _ => none
 | k + 1, x0, x225 => if x225 = true then (none) else ((spec_DrawDrownedSumps.f k x0).bind fun bt827 => ((impl_DrownedSumps.f k bt827.1 bt827.2).bind fun bt833 => ((spec_DrownedSumps.f k bt827.1 bt827.2).bind fun bt837 => (if (bt833.2 != bt837.2) = true then (laws_FnSumps.j7 k bt827.1 bt827.2 bt833.1 bt833.2 true) else ((laws_rInts.f k bt833.1 bt837.1).bind fun t841 => (laws_FnSumps.j7 k bt827.1 bt827.2 bt833.1 bt833.2 (!t841)))))))
def laws_FnSumps.j7 : Nat → List (S54) → List (S30) → List Int → Bool → Bool → Option (Bool)
 | 0, _, _, _, _, _ => none
 | k + 1, x34, x35, x36, x37, x251 => if x251 = true then (none) else (laws_FnSumps.l1 k x34 x35 x36 x37 0)
def laws_FnSumps.l1 : Nat → List (S54) → List (S30) → List Int → Bool → Int → Option (Bool)
 | 0, _, _, _, _, _ => none
 | k + 1, x34, x35, x36, x37, x40 => if x40 < (x34.length : Int) then (laws_FnSumps.j9 k x34 x35 x36 x37 x40 x37) else (laws_FnSumps.j9 k x34 x35 x36 x37 x40 false)
def laws_FnSumps.j9 : Nat → List (S54) → List (S30) → List Int → Bool → Int → Bool → Option (Bool)
 | 0, _, _, _, _, _, _ => none
 | k + 1, x34, x35, x36, x37, x40, x258 => if x258 = true then (if 0 ≤ x40 then (if x40 < (x34.length : Int) then ((impl_ClosedSumps.f k x34 x35 ((rd_T54 x34 x40).f0)).bind fun bt843 => (laws_FnSumps.l2 k x34 x35 x36 x37 x40 bt843.1 bt843.2 0)) else (none)) else (none)) else (some true)
def laws_FnSumps.l2 : Nat → List (S54) → List (S30) → List Int → Bool → Int → List Int → Bool → Int → Option (Bool)
 | 0, _, _, _, _, _, _, _, _ => none
 | k + 1, x34, x35, x36, x37, x40, x41, x42, x43 => if x43 < (x35.length : Int) then (if x42 = true then (if 0 ≤ x40 then (if x40 < (x34.length : Int) then (if 0 ≤ x43 then (if ((rd_T54 x34 x40).f1) > ((rd_T30 x35 x43).f1) then ((laws_rHas.f k x41 ((rd_T30 x35 x43).f0)).bind fun t850 => (if t850 = true then ((laws_rHas.f k x36 ((rd_T30 x35 x43).f0)).bind fun t852 => (if t852 = true then (laws_FnSumps.l2 k x34 x35 x36 x37 x40 x41 x42 (wrap64 (x43 + 1))) else (none))) else (none))) else (laws_FnSumps.l2 k x34 x35 x36 x37 x40 x41 x42 (wrap64 (x43 + 1)))) else (none)) else (none)) else (none)) else (none)) else (laws_FnSumps.l1 k x34 x35 x36 x37 (wrap64 (x40 + 1)))
end
def laws_FnSumps.f (k : Nat) (l0 : List Int) : Option (Bool) := (laws_rBig.f l0).bind fun t764 => (if t764 = true then (some true) else ((spec_DrawIsOpen.f k l0).bind fun bt765 => ((impl_IsOpen.f k bt765.1 bt765.2.1 bt765.2.2.1 bt765.2.2.2.1 bt765.2.2.2.2).bind fun bt773 => ((spec_IsOpen.f k bt765.1 bt765.2.1 bt765.2.2.1 bt765.2.2.2.1 bt765.2.2.2.2).bind fun bt775 => (if (bt773.1 != bt775.1) = true then (laws_FnSumps.j0 k l0 bt765.1 bt765.2.2.2.2 bt773.1 bt773.2 true bt765.2.1 bt765.2.2.1 bt765.2.2.2.1) else (laws_FnSumps.j0 k l0 bt765.1 bt765.2.2.2.2 bt773.1 bt773.2 (bt773.2 != bt775.2) bt765.2.1 bt765.2.2.1 bt765.2.2.2.1))))))
def laws_FnSumps.T46 : Bool × List (List Nat × List Nat) := (true, [([], []), ([0], [0]), ([1], [1]), ([2], [2]), ([2], [2]), ([3, 4, 2], [2, 3, 4]), ([5, 2], [2, 5]), ([6, 2], [2, 6]), ([2], [2]), ([2], [2]), ([8, 9, 2], [2, 8, 9]), ([10, 2], [2, 10]), ([11, 2], [2, 11]), ([7, 12, 2], [2, 7, 12]), ([13, 2, 2], [2, 13]), ([14], [14]), ([14], [14]), ([14], [14]), ([16, 17, 14], [14, 16, 17]), ([18, 14], [14, 18]), ([19, 14], [14, 19]), ([15, 20, 14, 14], [14, 15, 20]), ([21, 14], [14, 21]), ([22, 21, 14], [14, 22]), ([23], [23]), ([23], [23]), ([23], [23]), ([25, 26, 23], [23, 25, 26]), ([27, 23], [23, 27]), ([28, 23], [23, 28]), ([24, 29, 23, 23], [23, 24, 29]), ([30, 23], [23, 30]), ([23, 31, 14], [14, 23, 31]), ([14, 32, 2], [2, 14, 32]), ([2, 33], [2, 33])])
def laws_FnSumps.B46 : List Nat := [0, 1, 3, 7, 7, 31, 63, 127, 7, 7, 775, 1799, 3847, 8191, 16383, 32767, 32767, 32767, 229375, 491519, 1015807, 2097151, 4194303, 8388607, 16777215, 16777215, 16777215, 117440511, 251658239, 520093695, 1073741823, 2147483647, 4294967295, 8589934591, 17179869183]
theorem laws_FnSumps.tab46 : rtab .any (opsOf Try.f9 46) = laws_FnSumps.T46 := by kernel_rfl
theorem laws_FnSumps.bits46 : waitsOk laws_FnSumps.T46.2 laws_FnSumps.B46 = true := by kernel_rfl
set_option maxHeartbeats 64000000 in
set_option maxRecDepth 100000 in
theorem laws_FnSumps.calls (k : Nat) (A0 : Option Addr) (c0 : Nat) (l0 : List Int) (r : Bool) (w : World) (hr0 : Kd.C (Kd.int .u8) w A0 l0.length l0) (hc0 : l0.length ≤ c0) (h : laws_FnSumps.f k l0 = some r) :
  Calls Try.prog 9 #[.slice A0 l0.length c0] w fun e w' => e = .returned (.bool r) ∧ Below w.heap.size w w' := by
 have hu30 := Try.underlying30
 have HR0 := Aside0.mk hr0
 have HC0 := Aside0.mk hc0
 clear hr0 hc0
 have HB := Aside0.mk (Below.refl w.heap.size w)
 have H : ((laws_rBig.f l0).bind fun t764 => (if t764 = true then (some true) else ((spec_DrawIsOpen.f k l0).bind fun bt765 => ((impl_IsOpen.f k bt765.1 bt765.2.1 bt765.2.2.1 bt765.2.2.2.1 bt765.2.2.2.2).bind fun bt773 => ((spec_IsOpen.f k bt765.1 bt765.2.1 bt765.2.2.1 bt765.2.2.2.1 bt765.2.2.2.2).bind fun bt775 => (if (bt773.1 != bt775.1) = true then (laws_FnSumps.j0 k l0 bt765.1 bt765.2.2.2.2 bt773.1 bt773.2 true bt765.2.1 bt765.2.2.1 bt765.2.2.2.1) else (laws_FnSumps.j0 k l0 bt765.1 bt765.2.2.2.2 bt773.1 bt773.2 (bt773.2 != bt775.2) bt765.2.1 bt765.2.2.1 bt765.2.2.2.1))))))) = some r := h
 clear h
 replace H := Option.bind_eq_some_iff.mp H
 obtain ⟨t764, A20, H⟩ := H
 replace H : (if t764 = true then (some true) else ((spec_DrawIsOpen.f k l0).bind fun bt765 => ((impl_IsOpen.f k bt765.1 bt765.2.1 bt765.2.2.1 bt765.2.2.2.1 bt765.2.2.2.2).bind fun bt773 => ((spec_IsOpen.f k bt765.1 bt765.2.1 bt765.2.2.1 bt765.2.2.2.1 bt765.2.2.2.2).bind fun bt775 => (if (bt773.1 != bt775.1) = true then (laws_FnSumps.j0 k l0 bt765.1 bt765.2.2.2.2 bt773.1 bt773.2 true bt765.2.1 bt765.2.2.1 bt765.2.2.2.1) else (laws_FnSumps.j0 k l0 bt765.1 bt765.2.2.2.2 bt773.1 bt773.2 (bt773.2 != bt775.2) bt765.2.1 bt765.2.2.1 bt765.2.2.2.1)))))) = some r := H
 have A2 := Aside0.mk A20
 clear A20
 by_cases c3 : t764 = true
 ·
  subst c3
  have H1 : (some true) = some r := by rw [if_pos rfl] at H; exact H
  clear H
  have H := H1
  clear H1
  obtain rfl := Option.some.inj H
  go_enter Try.func9, Try.ntmps9
  go_wp2_with (first | ((with_reducible refine gate_callee (f := 26) rfl ?_); refine ga_ (some 45) Try.func26 #[.slice A0 l0.length c0] ?_; (with_reducible refine (laws_rBig.calls _ _ l0 true _ ?side1 ?side2 A2.out).mono ?_); (case side1 => exact kc_ HR0.out); (case side2 => exact HC0.out); rintro e w' ⟨rfl, ⟨nd, rfl⟩⟩; refine ⟨_, rfl, ?_⟩))
  go_ret
  exact ⟨rr_, lb0_ HB.out⟩
 ·
  replace c3 := Bool.eq_false_iff.mpr c3
  subst c3
  have H1 : ((spec_DrawIsOpen.f k l0).bind fun bt765 => ((impl_IsOpen.f k bt765.1 bt765.2.1 bt765.2.2.1 bt765.2.2.2.1 bt765.2.2.2.2).bind fun bt773 => ((spec_IsOpen.f k bt765.1 bt765.2.1 bt765.2.2.1 bt765.2.2.2.1 bt765.2.2.2.2).bind fun bt775 => (if (bt773.1 != bt775.1) = true then (laws_FnSumps.j0 k l0 bt765.1 bt765.2.2.2.2 bt773.1 bt773.2 true bt765.2.1 bt765.2.2.1 bt765.2.2.2.1) else (laws_FnSumps.j0 k l0 bt765.1 bt765.2.2.2.2 bt773.1 bt773.2 (bt773.2 != bt775.2) bt765.2.1 bt765.2.2.1 bt765.2.2.2.1))))) = some r := by rw [if_neg (show ¬ (false = true) by decide)] at H; exact H
  clear H
  have H := H1
  clear H1
  replace H := Option.bind_eq_some_iff.mp H
  obtain ⟨⟨t765, t768, t769, t770, t771⟩, A40, H⟩ := H
  replace H : ((impl_IsOpen.f k t765 t768 t769 t770 t771).bind fun bt773 => ((spec_IsOpen.f k t765 t768 t769 t770 t771).bind fun bt775 => (if (bt773.1 != bt775.1) = true then (laws_FnSumps.j0 k l0 t765 t771 bt773.1 bt773.2 true t768 t769 t770) else (laws_FnSumps.j0 k l0 t765 t771 bt773.1 bt773.2 (bt773.2 != bt775.2) t768 t769 t770)))) = some r := H
  have A4 := Aside0.mk A40
  clear A40
  replace H := Option.bind_eq_some_iff.mp H
  obtain ⟨⟨t773, t774⟩, A50, H⟩ := H
  replace H : ((spec_IsOpen.f k t765 t768 t769 t770 t771).bind fun bt775 => (if (t773 != bt775.1) = true then (laws_FnSumps.j0 k l0 t765 t771 t773 t774 true t768 t769 t770) else (laws_FnSumps.j0 k l0 t765 t771 t773 t774 (t774 != bt775.2) t768 t769 t770))) = some r := H
  have A5 := Aside0.mk A50
  clear A50
  replace H := Option.bind_eq_some_iff.mp H
  obtain ⟨⟨t775, t776⟩, A60, H⟩ := H
  replace H : (if (t773 != t775) = true then (laws_FnSumps.j0 k l0 t765 t771 t773 t774 true t768 t769 t770) else (laws_FnSumps.j0 k l0 t765 t771 t773 t774 (t774 != t776) t768 t769 t770)) = some r := H
  have A6 := Aside0.mk A60
  clear A60
  have HC7 := Aside0.mk H
  clear H
  go_enter Try.func9, Try.ntmps9
  go_upto_region 6 with (first | ((with_reducible refine gate_callee (f := 26) rfl ?_); refine ga_ (some 45) Try.func26 #[.slice A0 l0.length c0] ?_; (with_reducible refine (laws_rBig.calls _ _ l0 false _ ?side1 ?side2 A2.out).mono ?_); (case side1 => exact kc_ HR0.out); (case side2 => exact HC0.out); rintro e w' ⟨rfl, ⟨nd, rfl⟩⟩; refine ⟨_, rfl, ?_⟩) | ((with_reducible refine gate_callee (f := 45) rfl ?_); refine ga_ (some 48) Try.func45 #[.slice A0 l0.length c0] ?_; (with_reducible refine (spec_DrawIsOpen.calls k _ _ l0 t765 t768 t769 t770 t771 _ ?side1 ?side2 A4.out).mono ?_); (case side1 => exact kc_ HR0.out); (case side2 => exact HC0.out); rintro e w8 ⟨v766, rfl, ho0, hb⟩; refine ⟨_, rfl, ?_⟩; have HO767 := Aside0.mk (Kd.R_lower ho0 (below_size (lb0_ HB.out))); replace HB := Aside0.mk (below_step (lb0_ HB.out) hb); (try clear hb); (try clear hb2); (try clear hk); (try clear hi); (try clear ho0)) | ((with_reducible refine gate_dst (N := 4) rfl ?_); (try (refine gate_guard (by rfl) ?_; dsimp only)); refine box_event ?hg (N := 4) ?hd (cs := #[.int .i64 0, .int .i64 0, .int .i64 0]) (t := 30) ?hr ?_; (case hd => rfl); (case hg => rfl); (case hr => first | (go_simp; done) | (go_simp; rfl)); intro gb772 hg w9 hbox hb; replace HO767 := Aside0.mk (Kd.R_below (kr_ HO767.out) hb); have BK772 := Aside0.mk (hbox); have GW772 := Aside0.mk ((bz_ hg (lb0_ HB.out))); have GE772 := Aside0.mk ((bz_ hg (lb0_ HB.out))); replace HB := Aside0.mk (below_step (lb0_ HB.out) hb); clear hb hbox hg; obtain ⟨hcz10_0, hcz10_1, hcz10_2⟩ := cz3_ BK772.out; obtain ⟨hfz10_0, hfz10_1, hfz10_2⟩ := fz3_ BK772.out; obtain ⟨Ao11, co11, eo11⟩ := Kd.R_slice HO767.out; subst eo11) | ((with_reducible refine gate_callee (f := 14) rfl ?_); refine ga_ (some 56) Try.func14 #[.slice Ao11 t765.length co11, .agg #[.int .i64 t768, .int .i64 t769, .int .i64 t770], .int .i64 t771] ?_; (with_reducible refine (impl_IsOpen.calls k _ _ t765 t768 t769 t770 t771 t773 t774 _ ?side1 ?side2 A5.out).mono ?_); (case side1 => refine (Kd.R_reads' (e := 54) (base := w.heap.size) (ok := fun k_ => True) (n := t765.length) (c := co11) ?_).2.2; exact (kg_ HO767.out BK772.out)); (case side2 => exact (Kd.R_reads' HO767.out).2.1); rintro e w12 ⟨rfl, hb⟩; refine ⟨_, rfl, ?_⟩; replace HO767 := Aside0.mk (Kd.R_below (kg_ HO767.out BK772.out) hb); replace BK772 := Aside0.mk (blk_below (g := gb772) (o := .cells #[.int .i64 t768, .int .i64 t769, .int .i64 t770] 30 (0, 0)) (by (with_reducible repeat (first | refine blk_drewN ?_ _ | refine blk_drew ?_ | refine blk_alloc ?_ _)); exact (p3_ BK772.out _ _ _)) hb); replace HB := Aside0.mk (below_step (lb1_ HB.out GE772.out) hb); (try clear hb); (try clear hb2); (try clear hk); (try clear hi); obtain ⟨hcz13_0, hcz13_1, hcz13_2⟩ := cz3_ BK772.out; obtain ⟨hfz13_0, hfz13_1, hfz13_2⟩ := fz3_ BK772.out) | ((with_reducible refine gate_callee (f := 11) rfl ?_); refine ga_ (some 63) Try.func11 #[.slice Ao11 t765.length co11, .agg #[.int .i64 t768, .int .i64 t769, .int .i64 t770], .int .i64 t771] ?_; (with_reducible refine (spec_IsOpen.calls k _ _ t765 t768 t769 t770 t771 t775 t776 _ ?side1 ?side2 A6.out).mono ?_); (case side1 => exact kc_ (Kd.R_reads' HO767.out).2.2); (case side2 => exact (Kd.R_reads' HO767.out).2.1); rintro e w14 ⟨rfl, hb⟩; refine ⟨_, rfl, ?_⟩; replace HO767 := Aside0.mk (Kd.R_below (kr_ HO767.out) hb); replace BK772 := Aside0.mk (bb_ (bk_ BK772.out) hb); replace HB := Aside0.mk (below_step (lb1_ HB.out GE772.out) hb); (try clear hb); (try clear hb2); (try clear hk); (try clear hi)))
  (try simp only [Act.put, List.setIfInBounds_toArray, List.set_cons_zero, List.set_cons_succ])
  go_cut [73] (fun v73 wc => ∃ (kq : Nat) (x73_6 : Bool), v73 = .bool x73_6 ∧ Aside0 (laws_FnSumps.j0 kq l0 t765 t771 t773 t774 x73_6 t768 t769 t770 = some r) ∧ Aside0 (kq ≤ k) ∧ Aside0 (Kd.R k54 54 wc w.heap.size (fun _ => True) (.slice Ao11 t765.length co11) t765) ∧ Aside0 (wc.heap[gb772]? = some (.cells #[.int .i64 t768, .int .i64 t769, .int .i64 t770] 30 (0, 0))) ∧ Aside0 (Below w.heap.size w wc))
  case first =>
   as_aux_lemma =>
    have H := HC7.out
    clear HC7
    by_cases c15 : (t773 != t775) = true
    ·
     rw [if_pos c15] at H
     have c15b0 : (t773 != t775) = true := c15
     (try (have c15b1 : decide (t773 = t775) = false := by simpa using c15))
     (try (have c15b2 : (t773 == t775) = false := by simpa using c15))
     (try (have c15b3 : ¬ (t773 = t775) := by simpa using c15))
     clear c15
     (first | rw [c15b0] | (simp only [i64_w, i32_w]; rw [c15b0]) | skip)
     have H' := Aside0.mk H
     clear H
     go_wp2
     go_meet
     case rel => exact ⟨_, (true), (by first | rfl | (simp; done) | (simp [*]; done)), H', ⟨by first | omega | exact Nat.le_refl _⟩, ⟨kr_ HO767.out⟩, ⟨bk_ BK772.out⟩, ⟨lb1_ HB.out GE772.out⟩⟩
    ·
     rw [if_neg c15] at H
     have c15b0 : (t773 != t775) = false := by simpa using c15
     (try (have c15b1 : decide (t773 = t775) = true := by simpa using c15))
     (try (have c15b2 : (t773 == t775) = true := by simpa using c15))
     clear c15
     (first | rw [c15b0] | (simp only [i64_w, i32_w]; rw [c15b0]) | skip)
     have H' := Aside0.mk H
     clear H
     go_wp2
     go_meet
     case rel => exact ⟨_, ((t774 != t776)), (by first | rfl | (simp; done) | (simp [*]; done)), H', ⟨by first | omega | exact Nat.le_refl _⟩, ⟨kr_ HO767.out⟩, ⟨bk_ BK772.out⟩, ⟨lb1_ HB.out GE772.out⟩⟩
  case rest =>
   as_aux_lemma =>
    clear HC7
    try clear c1
    try clear c2
    try clear p2
    try clear c3
    try clear c4
    try clear c9
    try clear c11
    try clear c14
    try clear c15
    try clear c15b0
    try clear c15b1
    try clear c15b2
    try clear hcz10_0 hcz10_1 hcz10_2
    try clear hcz13_0 hcz13_1 hcz13_2
    try clear hfz10_0 hfz10_1 hfz10_2
    try clear hfz13_0 hfz13_1 hfz13_2
    obtain ⟨kq, x73_6, rfl, HA, HJ6, HO_3, BK772, HB⟩ := hcut
    cases kq with
    | zero => exact absurd HA.out (by simp [laws_FnSumps.j0])
    | succ kj6 =>
     have H := HA.out
     clear HA
     simp only [laws_FnSumps.j0] at H
     by_cases c16 : x73_6 = true
     ·
      subst c16
      have H1 : (none) = some r := by rw [if_pos rfl] at H; exact H
      clear H
      have H := H1
      clear H1
      exact absurd H (by simp)
     ·
      replace c16 := Bool.eq_false_iff.mpr c16
      subst c16
      have H1 : ((impl_OpenSpans.f kj6 t765 t768 t769 t770).bind fun bt777 => ((spec_OpenSpans.f kj6 t765 t768 t769 t770).bind fun bt781 => (if (bt777.2 != bt781.2) = true then (laws_FnSumps.j1 kj6 l0 t771 t773 t774 bt777.1 true) else ((laws_rTable.f kj6 bt777.1 bt781.1).bind fun t785 => (laws_FnSumps.j1 kj6 l0 t771 t773 t774 bt777.1 (!t785)))))) = some r := by rw [if_neg (show ¬ (false = true) by decide)] at H; exact H
      clear H
      have H := H1
      clear H1
      replace H := Option.bind_eq_some_iff.mp H
      obtain ⟨⟨t777, t780⟩, A170, H⟩ := H
      replace H : ((spec_OpenSpans.f kj6 t765 t768 t769 t770).bind fun bt781 => (if (t780 != bt781.2) = true then (laws_FnSumps.j1 kj6 l0 t771 t773 t774 t777 true) else ((laws_rTable.f kj6 t777 bt781.1).bind fun t785 => (laws_FnSumps.j1 kj6 l0 t771 t773 t774 t777 (!t785))))) = some r := H
      have A17 := Aside0.mk A170
      clear A170
      replace H := Option.bind_eq_some_iff.mp H
      obtain ⟨⟨t781, t784⟩, A180, H⟩ := H
      replace H : (if (t780 != t784) = true then (laws_FnSumps.j1 kj6 l0 t771 t773 t774 t777 true) else ((laws_rTable.f kj6 t777 t781).bind fun t785 => (laws_FnSumps.j1 kj6 l0 t771 t773 t774 t777 (!t785)))) = some r := H
      have A18 := Aside0.mk A180
      clear A180
      have HC19 := Aside0.mk H
      clear H
      obtain ⟨hcz20_0, hcz20_1, hcz20_2⟩ := cz3_ BK772.out
      obtain ⟨hfz20_0, hfz20_1, hfz20_2⟩ := fz3_ BK772.out
      go_upto_region 10 with (first | ((with_reducible refine gate_callee (f := 37) rfl ?_); refine ga_ (some 77) Try.func37 #[.slice Ao11 t765.length co11, .agg #[.int .i64 t768, .int .i64 t769, .int .i64 t770]] ?_; (with_reducible refine (impl_OpenSpans.calls kj6 _ _ t765 t768 t769 t770 t777 t780 _ ?side1 ?side2 A17.out).mono ?_); (case side1 => exact kc_ (Kd.R_reads' HO_3.out).2.2); (case side2 => exact (Kd.R_reads' HO_3.out).2.1); rintro e w21 ⟨v778, rfl, ho0, hb⟩; refine ⟨_, rfl, ?_⟩; replace HO_3 := Aside0.mk (Kd.R_below (kr_ HO_3.out) hb); have HO779 := Aside0.mk (Kd.S_lower ho0 (below_size (lb1_ HB.out GE772.out))); replace BK772 := Aside0.mk (bb_ (bk_ BK772.out) hb); replace HB := Aside0.mk (below_step (lb1_ HB.out GE772.out) hb); (try clear hb); (try clear hb2); (try clear hk); (try clear hi); (try clear ho0); obtain ⟨hcz22_0, hcz22_1, hcz22_2⟩ := cz3_ BK772.out; obtain ⟨hfz22_0, hfz22_1, hfz22_2⟩ := fz3_ BK772.out) | ((with_reducible refine gate_callee (f := 36) rfl ?_); refine ga_ (some 83) Try.func36 #[.slice Ao11 t765.length co11, .agg #[.int .i64 t768, .int .i64 t769, .int .i64 t770]] ?_; (with_reducible refine (spec_OpenSpans.calls kj6 _ _ t765 t768 t769 t770 t781 t784 _ ?side1 ?side2 A18.out).mono ?_); (case side1 => exact kc_ (Kd.R_reads' HO_3.out).2.2); (case side2 => exact (Kd.R_reads' HO_3.out).2.1); rintro e w23 ⟨v782, rfl, ho0, hb⟩; refine ⟨_, rfl, ?_⟩; replace HO_3 := Aside0.mk (Kd.R_below (kr_ HO_3.out) hb); have HO783 := Aside0.mk (Kd.S_lower (Kd.S_new' ho0 (Kd.S_lt (by (with_reducible repeat (first | apply Kd.S_alloc | apply Kd.S_drewN | apply Kd.S_drew)); exact HO779.out))) (below_size (lb1_ HB.out GE772.out))); replace HO779 := Aside0.mk (Kd.S_elder' (by (with_reducible repeat (first | apply Kd.S_alloc | apply Kd.S_drewN | apply Kd.S_drew)); exact HO779.out) (Kd.S_base ho0) hb); replace BK772 := Aside0.mk (bb_ (bk_ BK772.out) hb); replace HB := Aside0.mk (below_step (lb1_ HB.out GE772.out) hb); (try clear hb); (try clear hb2); (try clear hk); (try clear hi); (try clear ho0)))
      (try simp only [Act.put, List.setIfInBounds_toArray, List.set_cons_zero, List.set_cons_succ])
      go_cut [94] (fun v94 wc => ∃ (kq : Nat) (x94_18 : Bool), v94 = .bool x94_18 ∧ Aside0 (laws_FnSumps.j1 kq l0 t771 t773 t774 t777 x94_18 = some r) ∧ Aside0 (kq ≤ kj6) ∧ Aside0 (Kd.S (Kd.slice 3 (Kd.int .i64)) 36 wc w.heap.size (fun _ => True) v778 t777) ∧ Aside0 (wc.heap[gb772]? = some (.cells #[.int .i64 t768, .int .i64 t769, .int .i64 t770] 30 (0, 0))) ∧ Aside0 (Below w.heap.size w wc))
      case first =>
       as_aux_lemma =>
        have H := HC19.out; clear HC19
        by_cases c24 : (t780 != t784) = true
        ·
         rw [if_pos c24] at H
         have c24b0 : (t780 != t784) = true := c24; (try (have c24b1 : decide (t780 = t784) = false := by simpa using c24)); (try (have c24b2 : (t780 == t784) = false := by simpa using c24)); (try (have c24b3 : ¬ (t780 = t784) := by simpa using c24)); clear c24
         (first | rw [c24b0] | (simp only [i64_w, i32_w]; rw [c24b0]) | skip)
         have H' := Aside0.mk H; clear H
         go_wp2
         go_meet
         case rel => exact ⟨_, (true), (by first | rfl | (simp; done) | (simp [*]; done)), H', ⟨by have := HJ6.out; first | omega | exact Nat.le_refl _⟩, ⟨by (with_reducible repeat (first | apply Kd.S_alloc | apply Kd.S_drewN | apply Kd.S_drew)); exact Kd.S_mono HO779.out (fun _ hk => trivial)⟩, ⟨bk_ BK772.out⟩, ⟨lb1_ HB.out GE772.out⟩⟩
        ·
         rw [if_neg c24] at H
         have c24b0 : (t780 != t784) = false := by simpa using c24
         (try (have c24b1 : decide (t780 = t784) = true := by simpa using c24)); (try (have c24b2 : (t780 == t784) = true := by simpa using c24)); clear c24
         (first | rw [c24b0] | (simp only [i64_w, i32_w]; rw [c24b0]) | skip)
         replace H := Option.bind_eq_some_iff.mp H; obtain ⟨t785, A250, H⟩ := H; replace H : (laws_FnSumps.j1 kj6 l0 t771 t773 t774 t777 (!t785)) = some r := H; have A25 := Aside0.mk A250; clear A250; have H' := Aside0.mk H; clear H; obtain ⟨Ao26, co26, eo26⟩ := Kd.S_slice HO779.out; subst eo26; obtain ⟨Ao27, co27, eo27⟩ := Kd.S_slice HO783.out; subst eo27
         go_wp2_with (first | (go_at_call 46; (with_reducible refine (laws_rTable.calls kj6 _ _ t777 _ _ t781 t785 _ ?side1 ?side2 ?side3 ?side4 A25.out).mono ?_); (case side1 => exact kc_ (Kd.S_reads' HO779.out).2.2); (case side2 => exact (Kd.S_reads' HO779.out).2.1); (case side3 => exact kc_ (Kd.S_reads' HO783.out).2.2); (case side4 => exact (Kd.S_reads' HO783.out).2.1); rintro e w' ⟨rfl, ⟨nd, rfl⟩⟩))
         go_meet
         case rel => exact ⟨_, (!t785), (by first | rfl | (simp; done) | (simp [*]; done)), H', ⟨by have := HJ6.out; first | omega | exact Nat.le_refl _⟩, ⟨by (with_reducible repeat (first | apply Kd.S_alloc | apply Kd.S_drewN | apply Kd.S_drew)); exact Kd.S_mono HO779.out (fun _ hk => trivial)⟩, ⟨bk_ BK772.out⟩, ⟨lb1_ HB.out GE772.out⟩⟩
      case rest =>
       as_aux_lemma =>
        clear HC19
        try clear c1
        try clear c2
        try clear p2
        try clear c3
        try clear c4
        try clear c9
        try clear c11
        try clear c14
        try clear c15
        try clear c15b0
        try clear c15b1
        try clear c15b2
        try clear c16
        try clear c24
        try clear c24b0
        try clear c24b1
        try clear c24b2
        try clear c26
        try clear hcz10_0 hcz10_1 hcz10_2
        try clear hcz13_0 hcz13_1 hcz13_2
        try clear hcz20_0 hcz20_1 hcz20_2
        try clear hcz22_0 hcz22_1 hcz22_2
        try clear hfz10_0 hfz10_1 hfz10_2
        try clear hfz13_0 hfz13_1 hfz13_2
        try clear hfz20_0 hfz20_1 hfz20_2
        try clear hfz22_0 hfz22_1 hfz22_2
        try clear p2
        obtain ⟨kq, x94_18, rfl, HA, HJ18, HO_10, BK772, HB⟩ := hcut
        cases kq with
        | zero => exact absurd HA.out (by simp [laws_FnSumps.j1])
        | succ kj18 =>
         have H := HA.out; clear HA; simp only [laws_FnSumps.j1] at H
         by_cases c28 : x94_18 = true
         ·
          subst c28
          have H1 : (none) = some r := by rw [if_pos rfl] at H; exact H
          clear H; have H := H1; clear H1; exact absurd H (by simp)
         ·
          replace c28 := Bool.eq_false_iff.mpr c28; subst c28
          have H1 : (laws_FnSumps.l0 kj18 l0 t771 t773 t774 t777 false 0) = some r := by rw [if_neg (show ¬ (false = true) by decide)] at H; exact H
          clear H; have H := H1; clear H1; have H' := Aside0.mk H; clear H
          go_wp2
          go_loopg [14, 15] kj18 (fun kq v14 v15 w' => ∃ (x14_3 : Bool) (x15_3 : Int), v14 = .bool x14_3 ∧ v15 = .int .i64 x15_3 ∧ Aside0 (laws_FnSumps.l0 kq l0 t771 t773 t774 t777 x14_3 x15_3 = some r) ∧ Aside0 (kq ≤ kj18) ∧ Aside0 (Kd.S (Kd.slice 3 (Kd.int .i64)) 36 w' w.heap.size (fun _ => True) v778 t777) ∧ Aside0 (w'.heap[gb772]? = some (.cells #[.int .i64 t768, .int .i64 t769, .int .i64 t770] 30 (0, 0))) ∧ Aside0 (Below w.heap.size w w'))
          case atStart => exact ⟨(false), (0), (by first | rfl | (simp; done) | (simp [*]; done)), (by first | rfl | (simp; done) | (simp [*]; done)), H', ⟨Nat.le_refl _⟩, ⟨by (with_reducible repeat (first | apply Kd.S_alloc | apply Kd.S_drewN | apply Kd.S_drew)); exact HO_10.out⟩, ⟨bk_ BK772.out⟩, ⟨lb1_ HB.out GE772.out⟩⟩
          case round =>
           as_aux_lemma =>
            clear H'
            try clear c1
            try clear c2
            try clear p2
            try clear c3
            try clear c4
            try clear c9
            try clear c11
            try clear c14
            try clear c15
            try clear c15b0
            try clear c15b1
            try clear c15b2
            try clear c16
            try clear c24
            try clear c24b0
            try clear c24b1
            try clear c24b2
            try clear c26
            try clear c28
            try clear hcz10_0 hcz10_1 hcz10_2
            try clear hcz13_0 hcz13_1 hcz13_2
            try clear hcz20_0 hcz20_1 hcz20_2
            try clear hcz22_0 hcz22_1 hcz22_2
            try clear hfz10_0 hfz10_1 hfz10_2
            try clear hfz13_0 hfz13_1 hfz13_2
            try clear hfz20_0 hfz20_1 hfz20_2
            try clear hfz22_0 hfz22_1 hfz22_2
            try clear p2
            obtain ⟨x14_3, x15_3, rfl, rfl, HA, HK3, HO_10, BK772, HB⟩ := hrel
            cases gk with
            | zero => exact absurd HA.out (by simp [laws_FnSumps.l0])
            | succ k3 =>
             have H := HA.out; clear HA; simp only [laws_FnSumps.l0] at H
             by_cases c29 : x15_3 < (t777.length : Int)
             ·
              rw [if_pos c29] at H
              have c29b0 : decide (x15_3 < (t777.length : Int)) = true := decide_eq_true c29; clear c29
              by_cases c30 : x14_3 = true
              ·
               subst c30
               have H1 : (laws_FnSumps.l0 k3 l0 t771 t773 t774 t777 true (wrap64 (x15_3 + 1))) = some r := by rw [if_pos rfl] at H; exact H
               clear H; have H := H1; clear H1; have H' := Aside0.mk H; clear H; obtain ⟨Ao31, co31, eo31⟩ := Kd.S_slice HO_10.out; subst eo31
               go_wp2
               go_roundg k3
               case measure => have := HJ6.out; have := HJ18.out; have := HK3.out; omega
               case rel => exact ⟨(true), (wrap64 (x15_3 + 1)), (by first | rfl | (simp; done) | (simp [*]; done)), (by first | rfl | (simp; done) | (simp [*]; done)), H', ⟨by have := HJ6.out; have := HJ18.out; have := HK3.out; omega⟩, ⟨by (with_reducible repeat (first | apply Kd.S_alloc | apply Kd.S_drewN | apply Kd.S_drew)); exact HO_10.out⟩, ⟨bk_ BK772.out⟩, ⟨lb1_ HB.out GE772.out⟩⟩
              ·
               replace c30 := Bool.eq_false_iff.mpr c30; subst c30
               have H1 : (if 0 ≤ x15_3 then (if 0 < ((rd_L9 t777 x15_3).length : Int) then (if t771 ≥ (rd (rd_L9 t777 x15_3) 0) then (if 1 < ((rd_L9 t777 x15_3).length : Int) then (laws_FnSumps.l0 k3 l0 t771 t773 t774 t777 (decide (t771 ≤ (rd (rd_L9 t777 x15_3) 1))) (wrap64 (x15_3 + 1))) else (none)) else (laws_FnSumps.l0 k3 l0 t771 t773 t774 t777 false (wrap64 (x15_3 + 1)))) else (none)) else (none)) = some r := by rw [if_neg (show ¬ (false = true) by decide)] at H; exact H
               clear H; have H := H1; clear H1
               by_cases c32 : 0 ≤ x15_3
               ·
                rw [if_pos c32] at H
                have c32b0 : decide (0 ≤ x15_3) = true := decide_eq_true c32; clear c32
                by_cases c33 : 0 < ((rd_L9 t777 x15_3).length : Int)
                ·
                 rw [if_pos c33] at H
                 have c33b0 : decide (0 < ((rd_L9 t777 x15_3).length : Int)) = true := decide_eq_true c33; have c33b1 : decide (0 < (rd_L9 t777 x15_3).length) = true := decide_eq_true (by omega); clear c33
                 by_cases c34 : t771 ≥ (rd (rd_L9 t777 x15_3) 0)
                 ·
                  rw [if_pos c34] at H
                  have c34b0 : decide ((rd (rd_L9 t777 x15_3) 0) ≤ t771) = true := decide_eq_true c34; clear c34
                  by_cases c35 : 1 < ((rd_L9 t777 x15_3).length : Int)
                  ·
                   rw [if_pos c35] at H
                   have c35b0 : decide (1 < ((rd_L9 t777 x15_3).length : Int)) = true := decide_eq_true c35; have c35b1 : decide (1 < (rd_L9 t777 x15_3).length) = true := decide_eq_true (by omega); clear c35; have H' := Aside0.mk H; clear H; obtain ⟨Ao36, co36, eo36⟩ := Kd.S_slice HO_10.out; subst eo36; have p786 : 0 ≤ (x15_3 : Int) := dt_; have q786 : x15_3 < (t777.length : Int) := dt_; obtain ⟨ad786, A786_0, c786_0, e786, hx786_0, hl786_0, hi786_0⟩ := at_L9 (Kd.S_reads' HO_10.out).2.2 x15_3 p786 q786
                   cases e786
                   obtain ⟨ce786, hce786, hMe786, hcc786⟩ := Kd.S_get HO_10.out [] x15_3 p786 (by first | exact q786 | exact dt_ | (have e_ := (Kd.S_reads' HO_10.out).1; omega)); obtain ⟨ve786_0, rfl, ge786_0⟩ := hMe786; have hv786_0 := hcc786 0 _ rfl
                   rw [Nat.add_zero, show ((Kd.slice 3 (Kd.int .i64))).sz = 1 from rfl, Nat.mul_one] at hv786_0
                   replace hv786_0 := Option.some.inj (hv786_0.symm.trans hx786_0)
                   rw [hv786_0] at ge786_0
                   have HL786_0 := Aside0.mk (show Kd.R (Kd.int .i64) 3 _ _ _ _ (rd_L9 t777 x15_3) from ge786_0); clear hv786_0 ge786_0; clear hcc786 hce786; have HR786_0 := Aside0.mk hi786_0; have HC786_0 := Aside0.mk hl786_0; clear hi786_0 hl786_0; replace p786 := eq_true p786; replace q786 := eq_true q786
                   have p787 : 0 ≤ (0 : Int) := (by omega)
                   have q787 : 0 < ((rd_L9 t777 x15_3).length : Int) := dt_; obtain ⟨ad787, e787, hx787_0⟩ := Kd.at_int (by repeat (first | (with_reducible exact HR786_0.out) | (with_reducible refine Kd.C_alloc ?_ _) | (with_reducible refine Kd.C_drewN ?_ _) | (with_reducible refine Kd.C_drew ?_) | exact HR786_0.out)) 0 p787 q787
                   cases e787
                   have qi787 : (0 < (rd_L9 t777 x15_3).length) = True := eq_true (by omega); (try rw [show ((0 : Int)).toNat = 0 from rfl] at hx787_0); (try rw [Addr.add_zero'] at hx787_0); replace p787 := eq_true p787; replace q787 := eq_true q787; have p788 : 0 ≤ (x15_3 : Int) := dt_; have q788 : x15_3 < (t777.length : Int) := dt_; obtain ⟨ad788, A788_0, c788_0, e788, hx788_0, hl788_0, hi788_0⟩ := at_L9 (Kd.S_reads' HO_10.out).2.2 x15_3 p788 q788
                   obtain rfl : ad786 = ad788 := (by injection e788)
                   obtain ⟨ce788, hce788, hMe788, hcc788⟩ := Kd.S_get HO_10.out [] x15_3 p788 (by first | exact q788 | exact dt_ | (have e_ := (Kd.S_reads' HO_10.out).1; omega)); obtain ⟨ve788_0, rfl, ge788_0⟩ := hMe788; have hv788_0 := hcc788 0 _ rfl
                   rw [Nat.add_zero, show ((Kd.slice 3 (Kd.int .i64))).sz = 1 from rfl, Nat.mul_one] at hv788_0
                   replace hv788_0 := Option.some.inj (hv788_0.symm.trans hx788_0)
                   rw [hv788_0] at ge788_0
                   have HL788_0 := Aside0.mk (show Kd.R (Kd.int .i64) 3 _ _ _ _ (rd_L9 t777 x15_3) from ge788_0); clear hv788_0 ge788_0; clear hcc788 hce788; have HR788_0 := Aside0.mk hi788_0; have HC788_0 := Aside0.mk hl788_0; clear hi788_0 hl788_0; replace p788 := eq_true p788; replace q788 := eq_true q788; have ea_ := Option.some.inj (hx786_0.symm.trans hx788_0)
                   injection ea_ with ea_ en_ ec_
                   subst ea_; subst ec_; clear en_
                   have p789 : 0 ≤ (1 : Int) := (by omega)
                   have q789 : 1 < ((rd_L9 t777 x15_3).length : Int) := dt_; obtain ⟨ad789, e789, hx789_0⟩ := Kd.at_int (by repeat (first | (with_reducible exact HR788_0.out) | (with_reducible refine Kd.C_alloc ?_ _) | (with_reducible refine Kd.C_drewN ?_ _) | (with_reducible refine Kd.C_drew ?_) | exact HR788_0.out)) 1 p789 q789
                   cases e789
                   (try simp only [show (1 : Int).toNat = 1 from rfl, Nat.reduceMul, Nat.reduceEqDiff, Go.Addr.add, ↓reduceIte] at hx789_0); have qi789 : (1 < (rd_L9 t777 x15_3).length) = True := eq_true (by omega); (try rw [show ((1 : Int)).toNat = 1 from rfl] at hx789_0); replace p789 := eq_true p789; replace q789 := eq_true q789
                   go_wp2
                   go_roundg k3
                   case measure => have := HJ6.out; have := HJ18.out; have := HK3.out; omega
                   case rel => exact ⟨(decide (t771 ≤ (rd (rd_L9 t777 x15_3) 1))), (wrap64 (x15_3 + 1)), (by first | rfl | (simp; done) | (simp [*]; done)), (by first | rfl | (simp; done) | (simp [*]; done)), H', ⟨by have := HJ6.out; have := HJ18.out; have := HK3.out; omega⟩, ⟨by (with_reducible repeat (first | apply Kd.S_alloc | apply Kd.S_drewN | apply Kd.S_drew)); exact HO_10.out⟩, ⟨bk_ BK772.out⟩, ⟨lb1_ HB.out GE772.out⟩⟩
                  ·
                   rw [if_neg c35] at H
                   exact absurd H (by simp)
                 ·
                  rw [if_neg c34] at H
                  have c34b0 : decide ((rd (rd_L9 t777 x15_3) 0) ≤ t771) = false := decide_eq_false c34; clear c34; have H' := Aside0.mk H; clear H; obtain ⟨Ao37, co37, eo37⟩ := Kd.S_slice HO_10.out; subst eo37; have p786 : 0 ≤ (x15_3 : Int) := dt_; have q786 : x15_3 < (t777.length : Int) := dt_; obtain ⟨ad786, A786_0, c786_0, e786, hx786_0, hl786_0, hi786_0⟩ := at_L9 (Kd.S_reads' HO_10.out).2.2 x15_3 p786 q786
                  cases e786
                  obtain ⟨ce786, hce786, hMe786, hcc786⟩ := Kd.S_get HO_10.out [] x15_3 p786 (by first | exact q786 | exact dt_ | (have e_ := (Kd.S_reads' HO_10.out).1; omega)); obtain ⟨ve786_0, rfl, ge786_0⟩ := hMe786; have hv786_0 := hcc786 0 _ rfl
                  rw [Nat.add_zero, show ((Kd.slice 3 (Kd.int .i64))).sz = 1 from rfl, Nat.mul_one] at hv786_0
                  replace hv786_0 := Option.some.inj (hv786_0.symm.trans hx786_0)
                  rw [hv786_0] at ge786_0
                  have HL786_0 := Aside0.mk (show Kd.R (Kd.int .i64) 3 _ _ _ _ (rd_L9 t777 x15_3) from ge786_0); clear hv786_0 ge786_0; clear hcc786 hce786; have HR786_0 := Aside0.mk hi786_0; have HC786_0 := Aside0.mk hl786_0; clear hi786_0 hl786_0; replace p786 := eq_true p786; replace q786 := eq_true q786
                  have p787 : 0 ≤ (0 : Int) := (by omega)
                  have q787 : 0 < ((rd_L9 t777 x15_3).length : Int) := dt_; obtain ⟨ad787, e787, hx787_0⟩ := Kd.at_int (by repeat (first | (with_reducible exact HR786_0.out) | (with_reducible refine Kd.C_alloc ?_ _) | (with_reducible refine Kd.C_drewN ?_ _) | (with_reducible refine Kd.C_drew ?_) | exact HR786_0.out)) 0 p787 q787
                  cases e787
                  have qi787 : (0 < (rd_L9 t777 x15_3).length) = True := eq_true (by omega); (try rw [show ((0 : Int)).toNat = 0 from rfl] at hx787_0); (try rw [Addr.add_zero'] at hx787_0); replace p787 := eq_true p787; replace q787 := eq_true q787
                  go_wp2
                  go_roundg k3
                  case measure => have := HJ6.out; have := HJ18.out; have := HK3.out; omega
                  case rel => exact ⟨(false), (wrap64 (x15_3 + 1)), (by first | rfl | (simp; done) | (simp [*]; done)), (by first | rfl | (simp; done) | (simp [*]; done)), H', ⟨by have := HJ6.out; have := HJ18.out; have := HK3.out; omega⟩, ⟨by (with_reducible repeat (first | apply Kd.S_alloc | apply Kd.S_drewN | apply Kd.S_drew)); exact HO_10.out⟩, ⟨bk_ BK772.out⟩, ⟨lb1_ HB.out GE772.out⟩⟩
                ·
                 rw [if_neg c33] at H
                 exact absurd H (by simp)
               ·
                rw [if_neg c32] at H
                exact absurd H (by simp)
             ·
              rw [if_neg c29] at H
              have c29b0 : decide (x15_3 < (t777.length : Int)) = false := decide_eq_false c29; clear c29; have HC38 := Aside0.mk H; clear H; obtain ⟨Ao39, co39, eo39⟩ := Kd.S_slice HO_10.out; subst eo39
              go_upto_region 17 with (fail)
              go_cut [127] (fun v127 wc => ∃ (kq : Nat) (x127_37 : Bool), v127 = .bool x127_37 ∧ Aside0 (laws_FnSumps.j3 kq l0 x127_37 = some r) ∧ Aside0 (kq ≤ k3) ∧ Aside0 (wc.heap[gb772]? = some (.cells #[.int .i64 t768, .int .i64 t769, .int .i64 t770] 30 (0, 0))) ∧ Aside0 (Below w.heap.size w wc))
              case first =>
               as_aux_lemma =>
                have H := HC38.out; clear HC38
                by_cases c40 : t774 = true
                ·
                 subst c40
                 have H1 : (laws_FnSumps.j3 k3 l0 (x14_3 != t773)) = some r := by rw [if_pos rfl] at H; exact H
                 clear H; have H := H1; clear H1; have H' := Aside0.mk H; clear H
                 go_wp2
                 go_meet
                 case rel => exact ⟨_, ((x14_3 != t773)), (by first | rfl | (simp; done) | (simp [*]; done)), H', ⟨by have := HJ6.out; have := HJ18.out; have := HK3.out; first | omega | exact Nat.le_refl _⟩, ⟨bk_ BK772.out⟩, ⟨lb1_ HB.out GE772.out⟩⟩
                ·
                 replace c40 := Bool.eq_false_iff.mpr c40; subst c40
                 have H1 : (laws_FnSumps.j3 k3 l0 false) = some r := by rw [if_neg (show ¬ (false = true) by decide)] at H; exact H
                 clear H; have H := H1; clear H1; have H' := Aside0.mk H; clear H
                 go_wp2
                 go_meet
                 case rel => exact ⟨_, (false), (by first | rfl | (simp; done) | (simp [*]; done)), H', ⟨by have := HJ6.out; have := HJ18.out; have := HK3.out; first | omega | exact Nat.le_refl _⟩, ⟨bk_ BK772.out⟩, ⟨lb1_ HB.out GE772.out⟩⟩
              case rest =>
               as_aux_lemma =>
                clear HC38
                try clear c1
                try clear c2
                try clear p2
                try clear c3
                try clear c4
                try clear p6
                try clear c7
                try clear p7
                try clear q7
                try clear hx7
                try clear qi7
                try clear c9
                try clear c11
                try clear c14
                try clear c15
                try clear c15b0
                try clear c15b1
                try clear c15b2
                try clear c16
                try clear c24
                try clear c24b0
                try clear c24b1
                try clear c24b2
                try clear c26
                try clear c28
                try clear c29
                try clear c29b0
                try clear c30
                try clear c32
                try clear c32b0
                try clear c33
                try clear c33b0
                try clear c33b1
                try clear c34
                try clear c34b0
                try clear c35
                try clear c35b0
                try clear c35b1
                try clear c36
                try clear c37
                try clear c40
                try clear hcz10_0 hcz10_1 hcz10_2
                try clear hcz13_0 hcz13_1 hcz13_2
                try clear hcz20_0 hcz20_1 hcz20_2
                try clear hcz22_0 hcz22_1 hcz22_2
                try clear hfz10_0 hfz10_1 hfz10_2
                try clear hfz13_0 hfz13_1 hfz13_2
                try clear hfz20_0 hfz20_1 hfz20_2
                try clear hfz22_0 hfz22_1 hfz22_2
                try clear hx786_0
                try clear hx787_0
                try clear hx788_0
                try clear hx789_0
                try clear p2
                try clear p786
                try clear p787
                try clear p788
                try clear p789
                try clear q786
                try clear q787
                try clear q788
                try clear q789
                obtain ⟨kq, x127_37, rfl, HA, HJ37, BK772, HB⟩ := hcut
                cases kq with
                | zero => exact absurd HA.out (by simp [laws_FnSumps.j3])
                | succ kj37 =>
                 have H := HA.out; clear HA; simp only [laws_FnSumps.j3] at H
                 by_cases c41 : x127_37 = true
                 ·
                  subst c41
                  have H1 : (none) = some r := by rw [if_pos rfl] at H; exact H
                  clear H; have H := H1; clear H1; exact absurd H (by simp)
                 ·
                  replace c41 := Bool.eq_false_iff.mpr c41; subst c41
                  have H1 : ((spec_DrawOpenFor.f kj37 l0).bind fun bt790 => ((impl_OpenFor.f kj37 bt790.1 bt790.2.1 bt790.2.2).bind fun bt797 => ((spec_OpenFor.f kj37 bt790.1 bt790.2.1 bt790.2.2).bind fun bt799 => (if bt797.1 = bt799.1 then (laws_FnSumps.j4 kj37 l0 bt790.1 bt790.2.1 bt790.2.2 bt797.1 bt797.2 (bt797.2 != bt799.2)) else (laws_FnSumps.j4 kj37 l0 bt790.1 bt790.2.1 bt790.2.2 bt797.1 bt797.2 true))))) = some r := by rw [if_neg (show ¬ (false = true) by decide)] at H; exact H
                  clear H; have H := H1; clear H1; replace H := Option.bind_eq_some_iff.mp H; obtain ⟨⟨t790, t791, t792⟩, A420, H⟩ := H; replace H : ((impl_OpenFor.f kj37 t790 t791 t792).bind fun bt797 => ((spec_OpenFor.f kj37 t790 t791 t792).bind fun bt799 => (if bt797.1 = bt799.1 then (laws_FnSumps.j4 kj37 l0 t790 t791 t792 bt797.1 bt797.2 (bt797.2 != bt799.2)) else (laws_FnSumps.j4 kj37 l0 t790 t791 t792 bt797.1 bt797.2 true)))) = some r := H; have A42 := Aside0.mk A420; clear A420; replace H := Option.bind_eq_some_iff.mp H; obtain ⟨⟨t797, t798⟩, A430, H⟩ := H; replace H : ((spec_OpenFor.f kj37 t790 t791 t792).bind fun bt799 => (if t797 = bt799.1 then (laws_FnSumps.j4 kj37 l0 t790 t791 t792 t797 t798 (t798 != bt799.2)) else (laws_FnSumps.j4 kj37 l0 t790 t791 t792 t797 t798 true))) = some r := H; have A43 := Aside0.mk A430; clear A430; replace H := Option.bind_eq_some_iff.mp H; obtain ⟨⟨t799, t800⟩, A440, H⟩ := H; replace H : (if t797 = t799 then (laws_FnSumps.j4 kj37 l0 t790 t791 t792 t797 t798 (t798 != t800)) else (laws_FnSumps.j4 kj37 l0 t790 t791 t792 t797 t798 true)) = some r := H; have A44 := Aside0.mk A440; clear A440; have HC45 := Aside0.mk H; clear H
                  go_upto_region 22 with (first | ((with_reducible refine gate_callee (f := 47) rfl ?_); refine ga_ (some 130) Try.func47 #[.slice A0 l0.length c0] ?_; (with_reducible refine (spec_DrawOpenFor.calls kj37 _ _ l0 t790 t791 t792 _ ?side1 ?side2 A42.out).mono ?_); (case side1 => exact kc_ (Kd.C_below HR0.out HB.out)); (case side2 => exact HC0.out); rintro e w46 ⟨v793, v795, rfl, ho0, ho1, hb⟩; refine ⟨_, rfl, ?_⟩; have HO794 := Aside0.mk (Kd.R_lower ho0 (below_size (lb1_ HB.out GE772.out))); have HO796 := Aside0.mk (Kd.R_lower (Kd.R_newB ho1 (g := gb772) (o := .cells #[.int .i64 t768, .int .i64 t769, .int .i64 t770] 30 (0, 0)) (bk_ BK772.out)) (below_size (lb1_ HB.out GE772.out))); replace BK772 := Aside0.mk (bb_ (bk_ BK772.out) hb); replace HB := Aside0.mk (below_step (lb1_ HB.out GE772.out) hb); (try clear hb); (try clear hb2); (try clear hk); (try clear hi); (try clear ho0); (try clear ho1); obtain ⟨Ao47, co47, eo47⟩ := Kd.R_slice HO794.out; subst eo47; obtain ⟨Ao48, co48, eo48⟩ := Kd.R_slice HO796.out; subst eo48) | ((with_reducible refine gate_callee (f := 42) rfl ?_); refine ga_ (some 138) Try.func42 #[.slice Ao47 t790.length co47, .slice Ao48 t791.length co48, .int .i64 t792] ?_; (with_reducible refine (impl_OpenFor.calls kj37 _ _ t790 _ _ t791 t792 t797 t798 _ ?side1 ?side2 ?side3 ?side4 A43.out).mono ?_); (case side1 => exact kc_ (Kd.R_reads' HO794.out).2.2); (case side2 => exact (Kd.R_reads' HO794.out).2.1); (case side3 => exact kc_ (Kd.R_reads' HO796.out).2.2); (case side4 => exact (Kd.R_reads' HO796.out).2.1); rintro e w49 ⟨rfl, hb⟩; refine ⟨_, rfl, ?_⟩; replace HO794 := Aside0.mk (Kd.R_below (kr_ HO794.out) hb); replace HO796 := Aside0.mk (Kd.R_below (kr_ HO796.out) hb); replace BK772 := Aside0.mk (bb_ (bk_ BK772.out) hb); replace HB := Aside0.mk (below_step (lb1_ HB.out GE772.out) hb); (try clear hb); (try clear hb2); (try clear hk); (try clear hi)) | ((with_reducible refine gate_callee (f := 41) rfl ?_); refine ga_ (some 145) Try.func41 #[.slice Ao47 t790.length co47, .slice Ao48 t791.length co48, .int .i64 t792] ?_; (with_reducible refine (spec_OpenFor.calls kj37 _ _ t790 _ _ t791 t792 t799 t800 _ ?side1 ?side2 ?side3 ?side4 A44.out).mono ?_); (case side1 => exact kc_ (Kd.R_reads' HO794.out).2.2); (case side2 => exact (Kd.R_reads' HO794.out).2.1); (case side3 => exact kc_ (Kd.R_reads' HO796.out).2.2); (case side4 => exact (Kd.R_reads' HO796.out).2.1); rintro e w50 ⟨rfl, hb⟩; refine ⟨_, rfl, ?_⟩; replace HO794 := Aside0.mk (Kd.R_below (kr_ HO794.out) hb); replace HO796 := Aside0.mk (Kd.R_below (kr_ HO796.out) hb); replace BK772 := Aside0.mk (bb_ (bk_ BK772.out) hb); replace HB := Aside0.mk (below_step (lb1_ HB.out GE772.out) hb); (try clear hb); (try clear hb2); (try clear hk); (try clear hi)))
                  (try simp only [Act.put, List.setIfInBounds_toArray, List.set_cons_zero, List.set_cons_succ])
                  go_cut [155] (fun v155 wc => ∃ (kq : Nat) (x155_44 : Bool), v155 = .bool x155_44 ∧ Aside0 (laws_FnSumps.j4 kq l0 t790 t791 t792 t797 t798 x155_44 = some r) ∧ Aside0 (kq ≤ kj37) ∧ Aside0 (Kd.R k54 54 wc w.heap.size (fun _ => True) (.slice Ao47 t790.length co47) t790) ∧ Aside0 (Kd.R k30 30 wc w.heap.size (fun k_ => k_ ≠ gb772) (.slice Ao48 t791.length co48) t791) ∧ Aside0 (wc.heap[gb772]? = some (.cells #[.int .i64 t768, .int .i64 t769, .int .i64 t770] 30 (0, 0))) ∧ Aside0 (Below w.heap.size w wc))
                  case first =>
                   as_aux_lemma =>
                    have H := HC45.out; clear HC45
                    by_cases c51 : t797 = t799
                    ·
                     rw [if_pos c51] at H
                     have c51b0 : (t797 == t799) = true := beq_iff_eq.mpr c51; have c51b1 : (t797 != t799) = false := bne_eq_false_iff_eq.mpr c51; clear c51
                     (first | rw [c51b0] | (simp only [i64_w, i32_w]; rw [c51b0]) | skip)
                     have H' := Aside0.mk H; clear H
                     go_wp2
                     go_meet
                     case rel => exact ⟨_, ((t798 != t800)), (by first | rfl | (simp; done) | (simp [*]; done)), H', ⟨by have := HJ6.out; have := HJ18.out; have := HK3.out; have := HJ37.out; first | omega | exact Nat.le_refl _⟩, ⟨kr_ HO794.out⟩, ⟨krm_ HO796.out (fun _ hk => hk.2)⟩, ⟨bk_ BK772.out⟩, ⟨lb1_ HB.out GE772.out⟩⟩
                    ·
                     rw [if_neg c51] at H
                     have c51b0 : (t797 == t799) = false := beq_eq_false_iff_ne.mpr c51; have c51b1 : (t797 != t799) = true := bne_iff_ne.mpr c51
                     (first | rw [c51b0] | (simp only [i64_w, i32_w]; rw [c51b0]) | skip)
                     have H' := Aside0.mk H; clear H
                     go_wp2
                     go_meet
                     case rel => exact ⟨_, (true), (by first | rfl | (simp; done) | (simp [*]; done)), H', ⟨by have := HJ6.out; have := HJ18.out; have := HK3.out; have := HJ37.out; first | omega | exact Nat.le_refl _⟩, ⟨kr_ HO794.out⟩, ⟨krm_ HO796.out (fun _ hk => hk.2)⟩, ⟨bk_ BK772.out⟩, ⟨lb1_ HB.out GE772.out⟩⟩
                  case rest =>
                   as_aux_lemma =>
                    clear HC45
                    try clear c1
                    try clear c2
                    try clear p2
                    try clear c3
                    try clear c4
                    try clear c5
                    try clear p6
                    try clear c7
                    try clear p7
                    try clear q7
                    try clear hx7
                    try clear qi7
                    try clear c9
                    try clear c11
                    try clear c14
                    try clear c15
                    try clear c15b0
                    try clear c15b1
                    try clear c15b2
                    try clear c16
                    try clear c24
                    try clear c24b0
                    try clear c24b1
                    try clear c24b2
                    try clear c26
                    try clear c28
                    try clear c29
                    try clear c29b0
                    try clear c30
                    try clear c32
                    try clear c32b0
                    try clear c33
                    try clear c33b0
                    try clear c33b1
                    try clear c34
                    try clear c34b0
                    try clear c35
                    try clear c35b0
                    try clear c35b1
                    try clear c36
                    try clear c37
                    try clear c40
                    try clear c41
                    try clear c42
                    try clear c45
                    try clear c47
                    try clear c51
                    try clear c51b0
                    try clear c51b1
                    try clear hcz10_0 hcz10_1 hcz10_2
                    try clear hcz13_0 hcz13_1 hcz13_2
                    try clear hcz20_0 hcz20_1 hcz20_2
                    try clear hcz22_0 hcz22_1 hcz22_2
                    try clear hfz10_0 hfz10_1 hfz10_2
                    try clear hfz13_0 hfz13_1 hfz13_2
                    try clear hfz20_0 hfz20_1 hfz20_2
                    try clear hfz22_0 hfz22_1 hfz22_2
                    try clear hx786_0
                    try clear hx787_0
                    try clear hx788_0
                    try clear hx789_0
                    try clear p2
                    try clear p6
                    try clear p7
                    try clear p786
                    try clear p787
                    try clear p788
                    try clear p789
                    try clear q7
                    try clear q786
                    try clear q787
                    try clear q788
                    try clear q789
                    obtain ⟨kq, x155_44, rfl, HA, HJ44, HO_16, HO_17, BK772, HB⟩ := hcut
                    cases kq with
                    | zero => exact absurd HA.out (by simp [laws_FnSumps.j4])
                    | succ kj44 =>
                     have H := HA.out; clear HA; simp only [laws_FnSumps.j4] at H
                     by_cases c52 : x155_44 = true
                     ·
                      subst c52
                      have H1 : (none) = some r := by rw [if_pos rfl] at H; exact H
                      clear H; have H := H1; clear H1; exact absurd H (by simp)
                     ·
                      replace c52 := Bool.eq_false_iff.mpr c52; subst c52
                      have H1 : (if t798 = true then ((impl_ClosedSumps.f kj44 t790 t791 t797).bind fun bt801 => ((impl_ClosedSumps.f kj44 t790 t791 (wrap64 ((wrap64 (t797 + t792)) - 1))).bind fun bt805 => (if bt801.2 = true then (if bt805.2 = true then (if (bt801.1.length : Int) = 0 then (if (bt805.1.length : Int) = 0 then (laws_FnSumps.j5 kj44 l0) else (none)) else (none)) else (none)) else (none)))) else (laws_FnSumps.j5 kj44 l0)) = some r := by rw [if_neg (show ¬ (false = true) by decide)] at H; exact H
                      clear H; have H := H1; clear H1; have HC53 := Aside0.mk H; clear H
                      go_upto_if 156 with (fail)
                      go_cut [] (fun wc => ∃ (kq : Nat), Aside0 (laws_FnSumps.j5 kq l0 = some r) ∧ Aside0 (kq ≤ kj44) ∧ Aside0 (wc.heap[gb772]? = some (.cells #[.int .i64 t768, .int .i64 t769, .int .i64 t770] 30 (0, 0))) ∧ Aside0 (Below w.heap.size w wc))
                      case first =>
                       as_aux_lemma =>
                        have H := HC53.out; clear HC53
                        by_cases c54 : t798 = true
                        ·
                         subst c54
                         have H1 : ((impl_ClosedSumps.f kj44 t790 t791 t797).bind fun bt801 => ((impl_ClosedSumps.f kj44 t790 t791 (wrap64 ((wrap64 (t797 + t792)) - 1))).bind fun bt805 => (if bt801.2 = true then (if bt805.2 = true then (if (bt801.1.length : Int) = 0 then (if (bt805.1.length : Int) = 0 then (laws_FnSumps.j5 kj44 l0) else (none)) else (none)) else (none)) else (none)))) = some r := by rw [if_pos rfl] at H; exact H
                         clear H; have H := H1; clear H1; replace H := Option.bind_eq_some_iff.mp H; obtain ⟨⟨t801, t802⟩, A550, H⟩ := H; replace H : ((impl_ClosedSumps.f kj44 t790 t791 (wrap64 ((wrap64 (t797 + t792)) - 1))).bind fun bt805 => (if t802 = true then (if bt805.2 = true then (if (t801.length : Int) = 0 then (if (bt805.1.length : Int) = 0 then (laws_FnSumps.j5 kj44 l0) else (none)) else (none)) else (none)) else (none))) = some r := H; have A55 := Aside0.mk A550; clear A550; replace H := Option.bind_eq_some_iff.mp H; obtain ⟨⟨t805, t806⟩, A560, H⟩ := H; replace H : (if t802 = true then (if t806 = true then (if (t801.length : Int) = 0 then (if (t805.length : Int) = 0 then (laws_FnSumps.j5 kj44 l0) else (none)) else (none)) else (none)) else (none)) = some r := H; have A56 := Aside0.mk A560; clear A560
                         by_cases c57 : t802 = true
                         ·
                          subst c57
                          have H1 : (if t806 = true then (if (t801.length : Int) = 0 then (if (t805.length : Int) = 0 then (laws_FnSumps.j5 kj44 l0) else (none)) else (none)) else (none)) = some r := by rw [if_pos rfl] at H; exact H
                          clear H; have H := H1; clear H1
                          by_cases c58 : t806 = true
                          ·
                           subst c58
                           have H1 : (if (t801.length : Int) = 0 then (if (t805.length : Int) = 0 then (laws_FnSumps.j5 kj44 l0) else (none)) else (none)) = some r := by rw [if_pos rfl] at H; exact H
                           clear H; have H := H1; clear H1
                           by_cases c59 : (t801.length : Int) = 0
                           ·
                            rw [if_pos c59] at H
                            have c59b0 : ((t801.length : Int) == 0) = true := beq_iff_eq.mpr c59; have c59b1 : ((t801.length : Int) != 0) = false := bne_eq_false_iff_eq.mpr c59; clear c59
                            (first | rw [c59b0] | (simp only [i64_w, i32_w]; rw [c59b0]) | skip)
                            by_cases c60 : (t805.length : Int) = 0
                            ·
                             rw [if_pos c60] at H
                             have c60b0 : ((t805.length : Int) == 0) = true := beq_iff_eq.mpr c60; have c60b1 : ((t805.length : Int) != 0) = false := bne_eq_false_iff_eq.mpr c60; clear c60; have H' := Aside0.mk H; clear H
                             go_wp2_with (first | ((with_reducible refine gate_callee (f := 44) rfl ?_); refine ga_ (some 161) Try.func44 #[.slice Ao47 t790.length co47, .slice Ao48 t791.length co48, .int .i64 t797] ?_; (with_reducible refine (impl_ClosedSumps.calls kj44 _ _ t790 _ _ t791 t797 t801 true _ ?side1 ?side2 ?side3 ?side4 A55.out).mono ?_); (case side1 => exact kc_ (Kd.R_reads' HO_16.out).2.2); (case side2 => exact (Kd.R_reads' HO_16.out).2.1); (case side3 => exact kc_ (Kd.R_reads' HO_17.out).2.2); (case side4 => exact (Kd.R_reads' HO_17.out).2.1); rintro e w61 ⟨v803, rfl, ho0, hb⟩; refine ⟨_, rfl, ?_⟩; replace HO_16 := Aside0.mk (Kd.R_below (kr_ HO_16.out) hb); replace HO_17 := Aside0.mk (Kd.R_below (kr_ HO_17.out) hb); have HO804 := Aside0.mk (Kd.R_lower ho0 (below_size (lb1_ HB.out GE772.out))); replace BK772 := Aside0.mk (bb_ (bk_ BK772.out) hb); replace HB := Aside0.mk (below_step (lb1_ HB.out GE772.out) hb); (try clear hb); (try clear hb2); (try clear hk); (try clear hi); (try clear ho0)) | ((with_reducible refine gate_callee (f := 44) rfl ?_); refine ga_ (some 171) Try.func44 #[.slice Ao47 t790.length co47, .slice Ao48 t791.length co48, .int .i64 (wrap64 ((wrap64 (t797 + t792)) - 1))] ?_; (with_reducible refine (impl_ClosedSumps.calls kj44 _ _ t790 _ _ t791 (wrap64 ((wrap64 (t797 + t792)) - 1)) t805 true _ ?side1 ?side2 ?side3 ?side4 A56.out).mono ?_); (case side1 => exact kc_ (Kd.R_reads' HO_16.out).2.2); (case side2 => exact (Kd.R_reads' HO_16.out).2.1); (case side3 => exact kc_ (Kd.R_reads' HO_17.out).2.2); (case side4 => exact (Kd.R_reads' HO_17.out).2.1); rintro e w62 ⟨v807, rfl, ho0, hb⟩; refine ⟨_, rfl, ?_⟩; replace HO_16 := Aside0.mk (Kd.R_below (kr_ HO_16.out) hb); replace HO_17 := Aside0.mk (Kd.R_below (kr_ HO_17.out) hb); have HO808 := Aside0.mk (Kd.R_lower (Kd.R_new' ho0 (Kd.R_lt (kr_ HO804.out))) (below_size (lb1_ HB.out GE772.out))); replace HO804 := Aside0.mk (Kd.R_elder' (kr_ HO804.out) (Kd.R_base ho0) hb); replace BK772 := Aside0.mk (bb_ (bk_ BK772.out) hb); replace HB := Aside0.mk (below_step (lb1_ HB.out GE772.out) hb); (try clear hb); (try clear hb2); (try clear hk); (try clear hi); (try clear ho0); obtain ⟨Ao63, co63, eo63⟩ := Kd.R_slice HO804.out; subst eo63; obtain ⟨Ao64, co64, eo64⟩ := Kd.R_slice HO808.out; subst eo64))
                             go_meet
                             case rel => exact ⟨_, H', ⟨by have := HJ6.out; have := HJ18.out; have := HK3.out; have := HJ37.out; have := HJ44.out; first | omega | exact Nat.le_refl _⟩, ⟨bk_ BK772.out⟩, ⟨lb1_ HB.out GE772.out⟩⟩
                            ·
                             rw [if_neg c60] at H
                             exact absurd H (by simp)
                           ·
                            rw [if_neg c59] at H
                            exact absurd H (by simp)
                          ·
                           replace c58 := Bool.eq_false_iff.mpr c58; subst c58
                           have H1 : (none) = some r := by rw [if_neg (show ¬ (false = true) by decide)] at H; exact H
                           clear H; have H := H1; clear H1; exact absurd H (by simp)
                         ·
                          replace c57 := Bool.eq_false_iff.mpr c57; subst c57
                          have H1 : (none) = some r := by rw [if_neg (show ¬ (false = true) by decide)] at H; exact H
                          clear H; have H := H1; clear H1; exact absurd H (by simp)
                        ·
                         replace c54 := Bool.eq_false_iff.mpr c54; subst c54
                         have H1 : (laws_FnSumps.j5 kj44 l0) = some r := by rw [if_neg (show ¬ (false = true) by decide)] at H; exact H
                         clear H; have H := H1; clear H1; have H' := Aside0.mk H; clear H
                         go_wp2
                         go_meet
                         case rel => exact ⟨_, H', ⟨by have := HJ6.out; have := HJ18.out; have := HK3.out; have := HJ37.out; have := HJ44.out; first | omega | exact Nat.le_refl _⟩, ⟨bk_ BK772.out⟩, ⟨lb1_ HB.out GE772.out⟩⟩
                      case rest =>
                       as_aux_lemma =>
                        clear HC53
                        try clear c1
                        try clear c2
                        try clear p2
                        try clear c3
                        try clear c4
                        try clear c5
                        try clear c6
                        try clear p6
                        try clear c7
                        try clear p7
                        try clear q7
                        try clear hx7
                        try clear qi7
                        try clear c9
                        try clear c11
                        try clear c14
                        try clear c15
                        try clear c15b0
                        try clear c15b1
                        try clear c15b2
                        try clear c16
                        try clear c24
                        try clear c24b0
                        try clear c24b1
                        try clear c24b2
                        try clear c26
                        try clear c28
                        try clear c29
                        try clear c29b0
                        try clear c30
                        try clear c32
                        try clear c32b0
                        try clear c33
                        try clear c33b0
                        try clear c33b1
                        try clear c34
                        try clear c34b0
                        try clear c35
                        try clear c35b0
                        try clear c35b1
                        try clear c36
                        try clear c37
                        try clear c40
                        try clear c41
                        try clear c42
                        try clear c44
                        try clear c45
                        try clear c47
                        try clear c51
                        try clear c51b0
                        try clear c51b1
                        try clear c52
                        try clear c54
                        try clear c57
                        try clear c58
                        try clear c59
                        try clear c59b0
                        try clear c59b1
                        try clear c60
                        try clear c60b0
                        try clear c60b1
                        try clear p64
                        try clear hcz10_0 hcz10_1 hcz10_2
                        try clear hcz13_0 hcz13_1 hcz13_2
                        try clear hcz20_0 hcz20_1 hcz20_2
                        try clear hcz22_0 hcz22_1 hcz22_2
                        try clear hfz10_0 hfz10_1 hfz10_2
                        try clear hfz13_0 hfz13_1 hfz13_2
                        try clear hfz20_0 hfz20_1 hfz20_2
                        try clear hfz22_0 hfz22_1 hfz22_2
                        try clear hx786_0
                        try clear hx787_0
                        try clear hx788_0
                        try clear hx789_0
                        try clear p2
                        try clear p6
                        try clear p7
                        try clear p786
                        try clear p787
                        try clear p788
                        try clear p789
                        try clear q7
                        try clear q786
                        try clear q787
                        try clear q788
                        try clear q789
                        obtain ⟨kq, HA, HJ52, BK772, HB⟩ := hcut
                        cases kq with
                        | zero => exact absurd HA.out (by simp [laws_FnSumps.j5])
                        | succ kj52 =>
                         have H := HA.out; clear HA; simp only [laws_FnSumps.j5] at H; replace H := Option.bind_eq_some_iff.mp H; obtain ⟨⟨t809, t810, t811⟩, A650, H⟩ := H; replace H : ((impl_ClosedSumps.f kj52 t809 t810 t811).bind fun bt816 => ((spec_ClosedSumps.f kj52 t809 t810 t811).bind fun bt820 => (if (bt816.2 != bt820.2) = true then (laws_FnSumps.j6 kj52 l0 true) else ((laws_rInts.f kj52 bt816.1 bt820.1).bind fun t824 => (if t824 = true then ((impl_AreSumps.f kj52 t810).bind fun t825 => ((spec_AreSumps.f kj52 t810).bind fun t826 => (laws_FnSumps.j6 kj52 l0 (t825 != t826)))) else (laws_FnSumps.j6 kj52 l0 true)))))) = some r := H; have A65 := Aside0.mk A650; clear A650; replace H := Option.bind_eq_some_iff.mp H; obtain ⟨⟨t816, t817⟩, A660, H⟩ := H; replace H : ((spec_ClosedSumps.f kj52 t809 t810 t811).bind fun bt820 => (if (t817 != bt820.2) = true then (laws_FnSumps.j6 kj52 l0 true) else ((laws_rInts.f kj52 t816 bt820.1).bind fun t824 => (if t824 = true then ((impl_AreSumps.f kj52 t810).bind fun t825 => ((spec_AreSumps.f kj52 t810).bind fun t826 => (laws_FnSumps.j6 kj52 l0 (t825 != t826)))) else (laws_FnSumps.j6 kj52 l0 true))))) = some r := H; have A66 := Aside0.mk A660; clear A660; replace H := Option.bind_eq_some_iff.mp H; obtain ⟨⟨t820, t821⟩, A670, H⟩ := H; replace H : (if (t817 != t821) = true then (laws_FnSumps.j6 kj52 l0 true) else ((laws_rInts.f kj52 t816 t820).bind fun t824 => (if t824 = true then ((impl_AreSumps.f kj52 t810).bind fun t825 => ((spec_AreSumps.f kj52 t810).bind fun t826 => (laws_FnSumps.j6 kj52 l0 (t825 != t826)))) else (laws_FnSumps.j6 kj52 l0 true)))) = some r := H; have A67 := Aside0.mk A670; clear A670; have HC68 := Aside0.mk H; clear H
                         go_upto_region 32 with (first | ((with_reducible refine gate_callee (f := 48) rfl ?_); refine ga_ (some 192) Try.func48 #[.slice A0 l0.length c0] ?_; (with_reducible refine (spec_DrawClosedSumps.calls kj52 _ _ l0 t809 t810 t811 _ ?side1 ?side2 A65.out).mono ?_); (case side1 => exact kc_ (Kd.C_below HR0.out HB.out)); (case side2 => exact HC0.out); rintro e w69 ⟨v812, v814, rfl, ho0, ho1, hb⟩; refine ⟨_, rfl, ?_⟩; have HO813 := Aside0.mk (Kd.R_lower ho0 (below_size (lb1_ HB.out GE772.out))); have HO815 := Aside0.mk (Kd.R_lower (Kd.R_newB ho1 (g := gb772) (o := .cells #[.int .i64 t768, .int .i64 t769, .int .i64 t770] 30 (0, 0)) (bk_ BK772.out)) (below_size (lb1_ HB.out GE772.out))); replace BK772 := Aside0.mk (bb_ (bk_ BK772.out) hb); replace HB := Aside0.mk (below_step (lb1_ HB.out GE772.out) hb); (try clear hb); (try clear hb2); (try clear hk); (try clear hi); (try clear ho0); (try clear ho1); obtain ⟨Ao70, co70, eo70⟩ := Kd.R_slice HO813.out; subst eo70; obtain ⟨Ao71, co71, eo71⟩ := Kd.R_slice HO815.out; subst eo71) | ((with_reducible refine gate_callee (f := 44) rfl ?_); refine ga_ (some 200) Try.func44 #[.slice Ao70 t809.length co70, .slice Ao71 t810.length co71, .int .i64 t811] ?_; (with_reducible refine (impl_ClosedSumps.calls kj52 _ _ t809 _ _ t810 t811 t816 t817 _ ?side1 ?side2 ?side3 ?side4 A66.out).mono ?_); (case side1 => exact kc_ (Kd.R_reads' HO813.out).2.2); (case side2 => exact (Kd.R_reads' HO813.out).2.1); (case side3 => exact kc_ (Kd.R_reads' HO815.out).2.2); (case side4 => exact (Kd.R_reads' HO815.out).2.1); rintro e w72 ⟨v818, rfl, ho0, hb⟩; refine ⟨_, rfl, ?_⟩; replace HO813 := Aside0.mk (Kd.R_below (kr_ HO813.out) hb); replace HO815 := Aside0.mk (Kd.R_below (kr_ HO815.out) hb); have HO819 := Aside0.mk (Kd.R_lower ho0 (below_size (lb1_ HB.out GE772.out))); replace BK772 := Aside0.mk (bb_ (bk_ BK772.out) hb); replace HB := Aside0.mk (below_step (lb1_ HB.out GE772.out) hb); (try clear hb); (try clear hb2); (try clear hk); (try clear hi); (try clear ho0)) | ((with_reducible refine gate_callee (f := 43) rfl ?_); refine ga_ (some 207) Try.func43 #[.slice Ao70 t809.length co70, .slice Ao71 t810.length co71, .int .i64 t811] ?_; (with_reducible refine (spec_ClosedSumps.calls kj52 _ _ t809 _ _ t810 t811 t820 t821 _ ?side1 ?side2 ?side3 ?side4 A67.out).mono ?_); (case side1 => exact kc_ (Kd.R_reads' HO813.out).2.2); (case side2 => exact (Kd.R_reads' HO813.out).2.1); (case side3 => exact kc_ (Kd.R_reads' HO815.out).2.2); (case side4 => exact (Kd.R_reads' HO815.out).2.1); rintro e w73 ⟨v822, rfl, ho0, hb⟩; refine ⟨_, rfl, ?_⟩; replace HO813 := Aside0.mk (Kd.R_below (kr_ HO813.out) hb); replace HO815 := Aside0.mk (Kd.R_below (kr_ HO815.out) hb); have HO823 := Aside0.mk (Kd.R_lower (Kd.R_new' ho0 (Kd.R_lt (kr_ HO819.out))) (below_size (lb1_ HB.out GE772.out))); replace HO819 := Aside0.mk (Kd.R_elder' (kr_ HO819.out) (Kd.R_base ho0) hb); replace BK772 := Aside0.mk (bb_ (bk_ BK772.out) hb); replace HB := Aside0.mk (below_step (lb1_ HB.out GE772.out) hb); (try clear hb); (try clear hb2); (try clear hk); (try clear hi); (try clear ho0)))
                         (try simp only [Act.put, List.setIfInBounds_toArray, List.set_cons_zero, List.set_cons_succ])
                         go_cut [225] (fun v225 wc => ∃ (kq : Nat) (x225_67 : Bool), v225 = .bool x225_67 ∧ Aside0 (laws_FnSumps.j6 kq l0 x225_67 = some r) ∧ Aside0 (kq ≤ kj52) ∧ Aside0 (wc.heap[gb772]? = some (.cells #[.int .i64 t768, .int .i64 t769, .int .i64 t770] 30 (0, 0))) ∧ Aside0 (Below w.heap.size w wc))
                         case first =>
                          as_aux_lemma =>
                           have H := HC68.out; clear HC68
                           by_cases c74 : (t817 != t821) = true
                           ·
                            rw [if_pos c74] at H
                            have c74b0 : (t817 != t821) = true := c74; (try (have c74b1 : decide (t817 = t821) = false := by simpa using c74)); (try (have c74b2 : (t817 == t821) = false := by simpa using c74)); (try (have c74b3 : ¬ (t817 = t821) := by simpa using c74)); clear c74
                            (first | rw [c74b0] | (simp only [i64_w, i32_w]; rw [c74b0]) | skip)
                            have H' := Aside0.mk H; clear H
                            go_wp2
                            go_meet
                            case rel => exact ⟨_, (true), (by first | rfl | (simp; done) | (simp [*]; done)), H', ⟨by have := HJ6.out; have := HJ18.out; have := HK3.out; have := HJ37.out; have := HJ44.out; have := HJ52.out; first | omega | exact Nat.le_refl _⟩, ⟨bk_ BK772.out⟩, ⟨lb1_ HB.out GE772.out⟩⟩
                           ·
                            rw [if_neg c74] at H
                            have c74b0 : (t817 != t821) = false := by simpa using c74
                            (try (have c74b1 : decide (t817 = t821) = true := by simpa using c74)); (try (have c74b2 : (t817 == t821) = true := by simpa using c74)); clear c74
                            (first | rw [c74b0] | (simp only [i64_w, i32_w]; rw [c74b0]) | skip)
                            replace H := Option.bind_eq_some_iff.mp H; obtain ⟨t824, A750, H⟩ := H; replace H : (if t824 = true then ((impl_AreSumps.f kj52 t810).bind fun t825 => ((spec_AreSumps.f kj52 t810).bind fun t826 => (laws_FnSumps.j6 kj52 l0 (t825 != t826)))) else (laws_FnSumps.j6 kj52 l0 true)) = some r := H; have A75 := Aside0.mk A750; clear A750
                            by_cases c76 : t824 = true
                            ·
                             subst c76
                             have H1 : ((impl_AreSumps.f kj52 t810).bind fun t825 => ((spec_AreSumps.f kj52 t810).bind fun t826 => (laws_FnSumps.j6 kj52 l0 (t825 != t826)))) = some r := by rw [if_pos rfl] at H; exact H
                             clear H; have H := H1; clear H1; replace H := Option.bind_eq_some_iff.mp H; obtain ⟨t825, A770, H⟩ := H; replace H : ((spec_AreSumps.f kj52 t810).bind fun t826 => (laws_FnSumps.j6 kj52 l0 (t825 != t826))) = some r := H; have A77 := Aside0.mk A770; clear A770; replace H := Option.bind_eq_some_iff.mp H; obtain ⟨t826, A780, H⟩ := H; replace H : (laws_FnSumps.j6 kj52 l0 (t825 != t826)) = some r := H; have A78 := Aside0.mk A780; clear A780; have H' := Aside0.mk H; clear H; obtain ⟨Ao79, co79, eo79⟩ := Kd.R_slice HO819.out; subst eo79; obtain ⟨Ao80, co80, eo80⟩ := Kd.R_slice HO823.out; subst eo80
                             go_wp2_with (first | (go_at_call 49; (with_reducible refine (laws_rInts.calls kj52 _ _ t816 _ _ t820 true _ ?side1 ?side2 ?side3 ?side4 A75.out).mono ?_); (case side1 => exact kc_ (Kd.R_reads' HO819.out).2.2); (case side2 => exact (Kd.R_reads' HO819.out).2.1); (case side3 => exact kc_ (Kd.R_reads' HO823.out).2.2); (case side4 => exact (Kd.R_reads' HO823.out).2.1); rintro e w' ⟨rfl, ⟨nd, rfl⟩⟩) | (go_at_call 50; (with_reducible refine (impl_AreSumps.calls kj52 _ _ t810 t825 _ ?side1 ?side2 A77.out).mono ?_); (case side1 => exact kc_ (Kd.R_reads' HO815.out).2.2); (case side2 => exact (Kd.R_reads' HO815.out).2.1); rintro e w81 ⟨rfl, hb⟩; replace HO813 := Aside0.mk (Kd.R_below (kr_ HO813.out) hb); replace HO815 := Aside0.mk (Kd.R_below (kr_ HO815.out) hb); replace HO819 := Aside0.mk (Kd.R_below (kr_ HO819.out) hb); replace HO823 := Aside0.mk (Kd.R_below (kr_ HO823.out) hb); replace BK772 := Aside0.mk (bb_ (bk_ BK772.out) hb); replace HB := Aside0.mk (below_step (lb1_ HB.out GE772.out) hb); (try clear hb); (try clear hb2); (try clear hk); (try clear hi)) | (go_at_call 51; (with_reducible refine (spec_AreSumps.calls kj52 _ _ t810 t826 _ ?side1 ?side2 A78.out).mono ?_); (case side1 => exact kc_ (Kd.R_reads' HO815.out).2.2); (case side2 => exact (Kd.R_reads' HO815.out).2.1); rintro e w82 ⟨rfl, hb⟩; replace HO813 := Aside0.mk (Kd.R_below (kr_ HO813.out) hb); replace HO815 := Aside0.mk (Kd.R_below (kr_ HO815.out) hb); replace HO819 := Aside0.mk (Kd.R_below (kr_ HO819.out) hb); replace HO823 := Aside0.mk (Kd.R_below (kr_ HO823.out) hb); replace BK772 := Aside0.mk (bb_ (bk_ BK772.out) hb); replace HB := Aside0.mk (below_step (lb1_ HB.out GE772.out) hb); (try clear hb); (try clear hb2); (try clear hk); (try clear hi)))
                             go_meet
                             case rel => exact ⟨_, ((t825 != t826)), (by first | rfl | (simp; done) | (simp [*]; done)), H', ⟨by have := HJ6.out; have := HJ18.out; have := HK3.out; have := HJ37.out; have := HJ44.out; have := HJ52.out; first | omega | exact Nat.le_refl _⟩, ⟨bk_ BK772.out⟩, ⟨lb1_ HB.out GE772.out⟩⟩
                            ·
                             replace c76 := Bool.eq_false_iff.mpr c76; subst c76
                             have H1 : (laws_FnSumps.j6 kj52 l0 true) = some r := by rw [if_neg (show ¬ (false = true) by decide)] at H; exact H
                             clear H; have H := H1; clear H1; have H' := Aside0.mk H; clear H; obtain ⟨Ao83, co83, eo83⟩ := Kd.R_slice HO819.out; subst eo83; obtain ⟨Ao84, co84, eo84⟩ := Kd.R_slice HO823.out; subst eo84
                             go_wp2_with (first | (go_at_call 49; (with_reducible refine (laws_rInts.calls kj52 _ _ t816 _ _ t820 false _ ?side1 ?side2 ?side3 ?side4 A75.out).mono ?_); (case side1 => exact kc_ (Kd.R_reads' HO819.out).2.2); (case side2 => exact (Kd.R_reads' HO819.out).2.1); (case side3 => exact kc_ (Kd.R_reads' HO823.out).2.2); (case side4 => exact (Kd.R_reads' HO823.out).2.1); rintro e w' ⟨rfl, ⟨nd, rfl⟩⟩))
                             go_meet
                             case rel => exact ⟨_, (true), (by first | rfl | (simp; done) | (simp [*]; done)), H', ⟨by have := HJ6.out; have := HJ18.out; have := HK3.out; have := HJ37.out; have := HJ44.out; have := HJ52.out; first | omega | exact Nat.le_refl _⟩, ⟨bk_ BK772.out⟩, ⟨lb1_ HB.out GE772.out⟩⟩
                         case rest =>
                          as_aux_lemma =>
                           clear HC68
                           try clear c1
                           try clear c2
                           try clear p2
                           try clear c3
                           try clear c4
                           try clear c5
                           try clear c6
                           try clear p6
                           try clear c7
                           try clear p7
                           try clear q7
                           try clear hx7
                           try clear qi7
                           try clear c9
                           try clear c11
                           try clear c14
                           try clear c15
                           try clear c15b0
                           try clear c15b1
                           try clear c15b2
                           try clear c16
                           try clear c24
                           try clear c24b0
                           try clear c24b1
                           try clear c24b2
                           try clear c26
                           try clear c28
                           try clear c29
                           try clear c29b0
                           try clear c30
                           try clear c32
                           try clear c32b0
                           try clear c33
                           try clear c33b0
                           try clear c33b1
                           try clear c34
                           try clear c34b0
                           try clear c35
                           try clear c35b0
                           try clear c35b1
                           try clear c36
                           try clear c37
                           try clear c40
                           try clear c41
                           try clear c42
                           try clear c43
                           try clear c44
                           try clear c45
                           try clear c47
                           try clear c48
                           try clear c51
                           try clear c51b0
                           try clear c51b1
                           try clear c52
                           try clear c54
                           try clear c57
                           try clear c58
                           try clear c59
                           try clear c59b0
                           try clear c59b1
                           try clear c60
                           try clear c60b0
                           try clear c60b1
                           try clear p64
                           try clear c74
                           try clear c74b0
                           try clear c74b1
                           try clear c74b2
                           try clear c76
                           try clear c78
                           try clear p78
                           try clear q78
                           try clear hx78
                           try clear qi78
                           try clear hcz10_0 hcz10_1 hcz10_2
                           try clear hcz13_0 hcz13_1 hcz13_2
                           try clear hcz20_0 hcz20_1 hcz20_2
                           try clear hcz22_0 hcz22_1 hcz22_2
                           try clear hfz10_0 hfz10_1 hfz10_2
                           try clear hfz13_0 hfz13_1 hfz13_2
                           try clear hfz20_0 hfz20_1 hfz20_2
                           try clear hfz22_0 hfz22_1 hfz22_2
                           try clear hx786_0
                           try clear hx787_0
                           try clear hx788_0
                           try clear hx789_0
                           try clear p2
                           try clear p6
                           try clear p64
                           try clear p7
                           try clear p786
                           try clear p787
                           try clear p788
                           try clear p789
                           try clear q7
                           try clear q786
                           try clear q787
                           try clear q788
                           try clear q789
                           obtain ⟨kq, x225_67, rfl, HA, HJ67, BK772, HB⟩ := hcut
                           cases kq with
                           | zero => exact absurd HA.out (by simp [laws_FnSumps.j6])
                           | succ kj67 =>
                            have H := HA.out; clear HA; simp only [laws_FnSumps.j6] at H
                            by_cases c85 : x225_67 = true
                            ·
                             subst c85
                             have H1 : (none) = some r := by rw [if_pos rfl] at H; exact H
                             clear H; have H := H1; clear H1; exact absurd H (by simp)
                            ·
                             replace c85 := Bool.eq_false_iff.mpr c85; subst c85
                             have H1 : ((spec_DrawDrownedSumps.f kj67 l0).bind fun bt827 => ((impl_DrownedSumps.f kj67 bt827.1 bt827.2).bind fun bt833 => ((spec_DrownedSumps.f kj67 bt827.1 bt827.2).bind fun bt837 => (if (bt833.2 != bt837.2) = true then (laws_FnSumps.j7 kj67 bt827.1 bt827.2 bt833.1 bt833.2 true) else ((laws_rInts.f kj67 bt833.1 bt837.1).bind fun t841 => (laws_FnSumps.j7 kj67 bt827.1 bt827.2 bt833.1 bt833.2 (!t841))))))) = some r := by rw [if_neg (show ¬ (false = true) by decide)] at H; exact H
                             clear H; have H := H1; clear H1; replace H := Option.bind_eq_some_iff.mp H; obtain ⟨⟨t827, t828⟩, A860, H⟩ := H; replace H : ((impl_DrownedSumps.f kj67 t827 t828).bind fun bt833 => ((spec_DrownedSumps.f kj67 t827 t828).bind fun bt837 => (if (bt833.2 != bt837.2) = true then (laws_FnSumps.j7 kj67 t827 t828 bt833.1 bt833.2 true) else ((laws_rInts.f kj67 bt833.1 bt837.1).bind fun t841 => (laws_FnSumps.j7 kj67 t827 t828 bt833.1 bt833.2 (!t841)))))) = some r := H; have A86 := Aside0.mk A860; clear A860; replace H := Option.bind_eq_some_iff.mp H; obtain ⟨⟨t833, t834⟩, A870, H⟩ := H; replace H : ((spec_DrownedSumps.f kj67 t827 t828).bind fun bt837 => (if (t834 != bt837.2) = true then (laws_FnSumps.j7 kj67 t827 t828 t833 t834 true) else ((laws_rInts.f kj67 t833 bt837.1).bind fun t841 => (laws_FnSumps.j7 kj67 t827 t828 t833 t834 (!t841))))) = some r := H; have A87 := Aside0.mk A870; clear A870; replace H := Option.bind_eq_some_iff.mp H; obtain ⟨⟨t837, t838⟩, A880, H⟩ := H; replace H : (if (t834 != t838) = true then (laws_FnSumps.j7 kj67 t827 t828 t833 t834 true) else ((laws_rInts.f kj67 t833 t837).bind fun t841 => (laws_FnSumps.j7 kj67 t827 t828 t833 t834 (!t841)))) = some r := H; have A88 := Aside0.mk A880; clear A880; have HC89 := Aside0.mk H; clear H
                             go_upto_region 37 with (first | ((with_reducible refine gate_callee (f := 52) rfl ?_); refine ga_ (some 228) Try.func52 #[.slice A0 l0.length c0] ?_; (with_reducible refine (spec_DrawDrownedSumps.calls kj67 _ _ l0 t827 t828 _ ?side1 ?side2 A86.out).mono ?_); (case side1 => exact kc_ (Kd.C_below HR0.out HB.out)); (case side2 => exact HC0.out); rintro e w90 ⟨v829, v831, rfl, ho0, ho1, hb⟩; refine ⟨_, rfl, ?_⟩; have HO830 := Aside0.mk (Kd.R_lower ho0 (below_size (lb1_ HB.out GE772.out))); have HO832 := Aside0.mk (Kd.R_lower (Kd.R_newB ho1 (g := gb772) (o := .cells #[.int .i64 t768, .int .i64 t769, .int .i64 t770] 30 (0, 0)) (bk_ BK772.out)) (below_size (lb1_ HB.out GE772.out))); replace BK772 := Aside0.mk (bb_ (bk_ BK772.out) hb); replace HB := Aside0.mk (below_step (lb1_ HB.out GE772.out) hb); (try clear hb); (try clear hb2); (try clear hk); (try clear hi); (try clear ho0); (try clear ho1); obtain ⟨Ao91, co91, eo91⟩ := Kd.R_slice HO830.out; subst eo91; obtain ⟨Ao92, co92, eo92⟩ := Kd.R_slice HO832.out; subst eo92) | ((with_reducible refine gate_callee (f := 19) rfl ?_); refine ga_ (some 234) Try.func19 #[.slice Ao91 t827.length co91, .slice Ao92 t828.length co92] ?_; (with_reducible refine (impl_DrownedSumps.calls kj67 _ _ t827 _ _ t828 t833 t834 _ ?side1 ?side2 ?side3 ?side4 A87.out).mono ?_); (case side1 => exact kc_ (Kd.R_reads' HO830.out).2.2); (case side2 => exact (Kd.R_reads' HO830.out).2.1); (case side3 => exact kc_ (Kd.R_reads' HO832.out).2.2); (case side4 => exact (Kd.R_reads' HO832.out).2.1); rintro e w93 ⟨v835, rfl, ho0, hb⟩; refine ⟨_, rfl, ?_⟩; replace HO830 := Aside0.mk (Kd.R_below (kr_ HO830.out) hb); replace HO832 := Aside0.mk (Kd.R_below (kr_ HO832.out) hb); have HO836 := Aside0.mk (Kd.R_lower ho0 (below_size (lb1_ HB.out GE772.out))); replace BK772 := Aside0.mk (bb_ (bk_ BK772.out) hb); replace HB := Aside0.mk (below_step (lb1_ HB.out GE772.out) hb); (try clear hb); (try clear hb2); (try clear hk); (try clear hi); (try clear ho0)) | ((with_reducible refine gate_callee (f := 17) rfl ?_); refine ga_ (some 240) Try.func17 #[.slice Ao91 t827.length co91, .slice Ao92 t828.length co92] ?_; (with_reducible refine (spec_DrownedSumps.calls kj67 _ _ t827 _ _ t828 t837 t838 _ ?side1 ?side2 ?side3 ?side4 A88.out).mono ?_); (case side1 => exact kc_ (Kd.R_reads' HO830.out).2.2); (case side2 => exact (Kd.R_reads' HO830.out).2.1); (case side3 => exact kc_ (Kd.R_reads' HO832.out).2.2); (case side4 => exact (Kd.R_reads' HO832.out).2.1); rintro e w94 ⟨v839, rfl, ho0, hb⟩; refine ⟨_, rfl, ?_⟩; replace HO830 := Aside0.mk (Kd.R_below (kr_ HO830.out) hb); replace HO832 := Aside0.mk (Kd.R_below (kr_ HO832.out) hb); have HO840 := Aside0.mk (Kd.R_lower (Kd.R_new' ho0 (Kd.R_lt (kr_ HO836.out))) (below_size (lb1_ HB.out GE772.out))); replace HO836 := Aside0.mk (Kd.R_elder' (kr_ HO836.out) (Kd.R_base ho0) hb); replace BK772 := Aside0.mk (bb_ (bk_ BK772.out) hb); replace HB := Aside0.mk (below_step (lb1_ HB.out GE772.out) hb); (try clear hb); (try clear hb2); (try clear hk); (try clear hi); (try clear ho0)))
                             (try simp only [Act.put, List.setIfInBounds_toArray, List.set_cons_zero, List.set_cons_succ])
                             go_cut [251] (fun v251 wc => ∃ (kq : Nat) (x251_88 : Bool), v251 = .bool x251_88 ∧ Aside0 (laws_FnSumps.j7 kq t827 t828 t833 t834 x251_88 = some r) ∧ Aside0 (kq ≤ kj67) ∧ Aside0 (Kd.R k54 54 wc w.heap.size (fun _ => True) (.slice Ao91 t827.length co91) t827) ∧ Aside0 (Kd.R k30 30 wc w.heap.size (fun k_ => k_ ≠ gb772) (.slice Ao92 t828.length co92) t828) ∧ Aside0 (Kd.R (Kd.int .i64) 3 wc w.heap.size (fun _ => True) v835 t833) ∧ Aside0 (wc.heap[gb772]? = some (.cells #[.int .i64 t768, .int .i64 t769, .int .i64 t770] 30 (0, 0))) ∧ Aside0 (Below w.heap.size w wc))
                             case first =>
                              as_aux_lemma =>
                               have H := HC89.out; clear HC89
                               by_cases c95 : (t834 != t838) = true
                               ·
                                rw [if_pos c95] at H
                                have c95b0 : (t834 != t838) = true := c95; (try (have c95b1 : decide (t834 = t838) = false := by simpa using c95)); (try (have c95b2 : (t834 == t838) = false := by simpa using c95)); (try (have c95b3 : ¬ (t834 = t838) := by simpa using c95)); clear c95
                                (first | rw [c95b0] | (simp only [i64_w, i32_w]; rw [c95b0]) | skip)
                                have H' := Aside0.mk H; clear H
                                go_wp2
                                go_meet
                                case rel => exact ⟨_, (true), (by first | rfl | (simp; done) | (simp [*]; done)), H', ⟨by have := HJ6.out; have := HJ18.out; have := HK3.out; have := HJ37.out; have := HJ44.out; have := HJ52.out; have := HJ67.out; first | omega | exact Nat.le_refl _⟩, ⟨kr_ HO830.out⟩, ⟨krm_ HO832.out (fun _ hk => hk.2)⟩, ⟨krm_ HO836.out (fun _ hk => trivial)⟩, ⟨bk_ BK772.out⟩, ⟨lb1_ HB.out GE772.out⟩⟩
                               ·
                                rw [if_neg c95] at H
                                have c95b0 : (t834 != t838) = false := by simpa using c95
                                (try (have c95b1 : decide (t834 = t838) = true := by simpa using c95)); (try (have c95b2 : (t834 == t838) = true := by simpa using c95)); clear c95
                                (first | rw [c95b0] | (simp only [i64_w, i32_w]; rw [c95b0]) | skip)
                                replace H := Option.bind_eq_some_iff.mp H; obtain ⟨t841, A960, H⟩ := H; replace H : (laws_FnSumps.j7 kj67 t827 t828 t833 t834 (!t841)) = some r := H; have A96 := Aside0.mk A960; clear A960; have H' := Aside0.mk H; clear H; obtain ⟨Ao97, co97, eo97⟩ := Kd.R_slice HO836.out; subst eo97; obtain ⟨Ao98, co98, eo98⟩ := Kd.R_slice HO840.out; subst eo98
                                go_wp2_with (first | (go_at_call 49; (with_reducible refine (laws_rInts.calls kj67 _ _ t833 _ _ t837 t841 _ ?side1 ?side2 ?side3 ?side4 A96.out).mono ?_); (case side1 => exact kc_ (Kd.R_reads' HO836.out).2.2); (case side2 => exact (Kd.R_reads' HO836.out).2.1); (case side3 => exact kc_ (Kd.R_reads' HO840.out).2.2); (case side4 => exact (Kd.R_reads' HO840.out).2.1); rintro e w' ⟨rfl, ⟨nd, rfl⟩⟩))
                                go_meet
                                case rel => exact ⟨_, (!t841), (by first | rfl | (simp; done) | (simp [*]; done)), H', ⟨by have := HJ6.out; have := HJ18.out; have := HK3.out; have := HJ37.out; have := HJ44.out; have := HJ52.out; have := HJ67.out; first | omega | exact Nat.le_refl _⟩, ⟨kr_ HO830.out⟩, ⟨krm_ HO832.out (fun _ hk => hk.2)⟩, ⟨krm_ HO836.out (fun _ hk => trivial)⟩, ⟨bk_ BK772.out⟩, ⟨lb1_ HB.out GE772.out⟩⟩
                             case rest =>
                              as_aux_lemma =>
                               clear HC89
                               try clear c1
                               try clear c2
                               try clear p2
                               try clear c3
                               try clear c4
                               try clear c5
                               try clear c6
                               try clear p6
                               try clear c7
                               try clear p7
                               try clear q7
                               try clear hx7
                               try clear qi7
                               try clear c8
                               try clear c9
                               try clear c11
                               try clear c14
                               try clear c15
                               try clear c15b0
                               try clear c15b1
                               try clear c15b2
                               try clear c16
                               try clear c17
                               try clear c19
                               try clear c24
                               try clear c24b0
                               try clear c24b1
                               try clear c24b2
                               try clear c26
                               try clear c28
                               try clear c29
                               try clear c29b0
                               try clear c30
                               try clear c32
                               try clear c32b0
                               try clear c33
                               try clear c33b0
                               try clear c33b1
                               try clear c34
                               try clear c34b0
                               try clear c35
                               try clear c35b0
                               try clear c35b1
                               try clear c36
                               try clear c37
                               try clear c40
                               try clear c41
                               try clear c42
                               try clear c43
                               try clear c44
                               try clear c45
                               try clear c47
                               try clear c48
                               try clear c51
                               try clear c51b0
                               try clear c51b1
                               try clear c52
                               try clear c54
                               try clear c57
                               try clear c58
                               try clear c59
                               try clear c59b0
                               try clear c59b1
                               try clear c60
                               try clear c60b0
                               try clear c60b1
                               try clear p64
                               try clear c74
                               try clear c74b0
                               try clear c74b1
                               try clear c74b2
                               try clear c76
                               try clear c78
                               try clear p78
                               try clear q78
                               try clear hx78
                               try clear qi78
                               try clear c85
                               try clear c95
                               try clear c95b0
                               try clear c95b1
                               try clear c95b2
                               try clear hcz10_0 hcz10_1 hcz10_2
                               try clear hcz13_0 hcz13_1 hcz13_2
                               try clear hcz20_0 hcz20_1 hcz20_2
                               try clear hcz22_0 hcz22_1 hcz22_2
                               try clear hfz10_0 hfz10_1 hfz10_2
                               try clear hfz13_0 hfz13_1 hfz13_2
                               try clear hfz20_0 hfz20_1 hfz20_2
                               try clear hfz22_0 hfz22_1 hfz22_2
                               try clear hx786_0
                               try clear hx787_0
                               try clear hx788_0
                               try clear hx789_0
                               try clear p2
                               try clear p6
                               try clear p64
                               try clear p7
                               try clear p78
                               try clear p786
                               try clear p787
                               try clear p788
                               try clear p789
                               try clear q7
                               try clear q78
                               try clear q786
                               try clear q787
                               try clear q788
                               try clear q789
                               obtain ⟨kq, x251_88, rfl, HA, HJ88, HO_34, HO_35, HO_36, BK772, HB⟩ := hcut
                               cases kq with
                               | zero => exact absurd HA.out (by simp [laws_FnSumps.j7])
                               | succ kj88 =>
                                have H := HA.out; clear HA; simp only [laws_FnSumps.j7] at H
                                by_cases c99 : x251_88 = true
                                ·
                                 subst c99
                                 have H1 : (none) = some r := by rw [if_pos rfl] at H; exact H
                                 clear H; have H := H1; clear H1; exact absurd H (by simp)
                                ·
                                 replace c99 := Bool.eq_false_iff.mpr c99; subst c99
                                 have H1 : (laws_FnSumps.l1 kj88 t827 t828 t833 t834 0) = some r := by rw [if_neg (show ¬ (false = true) by decide)] at H; exact H
                                 clear H; have H := H1; clear H1; have H' := Aside0.mk H; clear H
                                 go_wp2
                                 go_loopg [40] kj88 (fun kq v40 w' => ∃ (x40_9 : Int), v40 = .int .i64 x40_9 ∧ Aside0 (laws_FnSumps.l1 kq t827 t828 t833 t834 x40_9 = some r) ∧ Aside0 (kq ≤ kj88) ∧ Aside0 (Kd.R k54 54 w' w.heap.size (fun _ => True) (.slice Ao91 t827.length co91) t827) ∧ Aside0 (Kd.R k30 30 w' w.heap.size (fun k_ => k_ ≠ gb772) (.slice Ao92 t828.length co92) t828) ∧ Aside0 (Kd.R (Kd.int .i64) 3 w' w.heap.size (fun _ => True) v835 t833) ∧ Aside0 (w'.heap[gb772]? = some (.cells #[.int .i64 t768, .int .i64 t769, .int .i64 t770] 30 (0, 0))) ∧ Aside0 (Below w.heap.size w w'))
                                 case atStart => exact ⟨(0), (by first | rfl | (simp; done) | (simp [*]; done)), H', ⟨Nat.le_refl _⟩, ⟨kr_ HO_34.out⟩, ⟨kr_ HO_35.out⟩, ⟨kr_ HO_36.out⟩, ⟨bk_ BK772.out⟩, ⟨lb1_ HB.out GE772.out⟩⟩
                                 case round =>
                                  as_aux_lemma =>
                                   clear H'
                                   try clear c1
                                   try clear c2
                                   try clear p2
                                   try clear c3
                                   try clear c4
                                   try clear c5
                                   try clear c6
                                   try clear p6
                                   try clear c7
                                   try clear p7
                                   try clear q7
                                   try clear hx7
                                   try clear qi7
                                   try clear c8
                                   try clear c9
                                   try clear c11
                                   try clear c14
                                   try clear c15
                                   try clear c15b0
                                   try clear c15b1
                                   try clear c15b2
                                   try clear c16
                                   try clear c17
                                   try clear c19
                                   try clear c24
                                   try clear c24b0
                                   try clear c24b1
                                   try clear c24b2
                                   try clear c26
                                   try clear c28
                                   try clear c29
                                   try clear c29b0
                                   try clear c30
                                   try clear c32
                                   try clear c32b0
                                   try clear c33
                                   try clear c33b0
                                   try clear c33b1
                                   try clear c34
                                   try clear c34b0
                                   try clear c35
                                   try clear c35b0
                                   try clear c35b1
                                   try clear c36
                                   try clear c37
                                   try clear c40
                                   try clear c41
                                   try clear c42
                                   try clear c43
                                   try clear c44
                                   try clear c45
                                   try clear c47
                                   try clear c48
                                   try clear c51
                                   try clear c51b0
                                   try clear c51b1
                                   try clear c52
                                   try clear c54
                                   try clear c57
                                   try clear c58
                                   try clear c59
                                   try clear c59b0
                                   try clear c59b1
                                   try clear c60
                                   try clear c60b0
                                   try clear c60b1
                                   try clear p64
                                   try clear c74
                                   try clear c74b0
                                   try clear c74b1
                                   try clear c74b2
                                   try clear c76
                                   try clear c78
                                   try clear p78
                                   try clear q78
                                   try clear hx78
                                   try clear qi78
                                   try clear c85
                                   try clear c95
                                   try clear c95b0
                                   try clear c95b1
                                   try clear c95b2
                                   try clear c99
                                   try clear hcz10_0 hcz10_1 hcz10_2
                                   try clear hcz13_0 hcz13_1 hcz13_2
                                   try clear hcz20_0 hcz20_1 hcz20_2
                                   try clear hcz22_0 hcz22_1 hcz22_2
                                   try clear hfz10_0 hfz10_1 hfz10_2
                                   try clear hfz13_0 hfz13_1 hfz13_2
                                   try clear hfz20_0 hfz20_1 hfz20_2
                                   try clear hfz22_0 hfz22_1 hfz22_2
                                   try clear hx786_0
                                   try clear hx787_0
                                   try clear hx788_0
                                   try clear hx789_0
                                   try clear p2
                                   try clear p6
                                   try clear p64
                                   try clear p7
                                   try clear p78
                                   try clear p786
                                   try clear p787
                                   try clear p788
                                   try clear p789
                                   try clear q7
                                   try clear q78
                                   try clear q786
                                   try clear q787
                                   try clear q788
                                   try clear q789
                                   obtain ⟨x40_9, rfl, HA, HK9, HO_34, HO_35, HO_36, BK772, HB⟩ := hrel
                                   cases gk with
                                   | zero => exact absurd HA.out (by simp [laws_FnSumps.l1])
                                   | succ k9 =>
                                    have H := HA.out; clear HA; simp only [laws_FnSumps.l1] at H; have HC100 := Aside0.mk H; clear H
                                    go_upto_region 40 with (fail)
                                    go_cut [258] (fun v258 wc => ∃ (kq : Nat) (x258_99 : Bool), v258 = .bool x258_99 ∧ Aside0 (laws_FnSumps.j9 kq t827 t828 t833 t834 x40_9 x258_99 = some r) ∧ Aside0 (kq ≤ k9) ∧ Aside0 (Kd.R k54 54 wc w.heap.size (fun _ => True) (.slice Ao91 t827.length co91) t827) ∧ Aside0 (Kd.R k30 30 wc w.heap.size (fun k_ => k_ ≠ gb772) (.slice Ao92 t828.length co92) t828) ∧ Aside0 (Kd.R (Kd.int .i64) 3 wc w.heap.size (fun _ => True) v835 t833) ∧ Aside0 (wc.heap[gb772]? = some (.cells #[.int .i64 t768, .int .i64 t769, .int .i64 t770] 30 (0, 0))) ∧ Aside0 (Below w.heap.size w wc))
                                    case first =>
                                     as_aux_lemma =>
                                      have H := HC100.out; clear HC100
                                      by_cases c101 : x40_9 < (t827.length : Int)
                                      ·
                                       rw [if_pos c101] at H
                                       have c101b0 : decide (x40_9 < (t827.length : Int)) = true := decide_eq_true c101; clear c101
                                       (first | rw [c101b0] | (simp only [i64_w, i32_w]; rw [c101b0]) | skip)
                                       have H' := Aside0.mk H; clear H
                                       go_wp2
                                       go_meet
                                       case rel => exact ⟨_, (t834), (by first | rfl | (simp; done) | (simp [*]; done)), H', ⟨by have := HJ6.out; have := HJ18.out; have := HK3.out; have := HJ37.out; have := HJ44.out; have := HJ52.out; have := HJ67.out; have := HJ88.out; have := HK9.out; first | omega | exact Nat.le_refl _⟩, ⟨kr_ HO_34.out⟩, ⟨kr_ HO_35.out⟩, ⟨kr_ HO_36.out⟩, ⟨bk_ BK772.out⟩, ⟨lb1_ HB.out GE772.out⟩⟩
                                      ·
                                       rw [if_neg c101] at H
                                       have c101b0 : decide (x40_9 < (t827.length : Int)) = false := decide_eq_false c101; clear c101
                                       (first | rw [c101b0] | (simp only [i64_w, i32_w]; rw [c101b0]) | skip)
                                       have H' := Aside0.mk H; clear H
                                       go_wp2
                                       go_meet
                                       case rel => exact ⟨_, (false), (by first | rfl | (simp; done) | (simp [*]; done)), H', ⟨by have := HJ6.out; have := HJ18.out; have := HK3.out; have := HJ37.out; have := HJ44.out; have := HJ52.out; have := HJ67.out; have := HJ88.out; have := HK9.out; first | omega | exact Nat.le_refl _⟩, ⟨kr_ HO_34.out⟩, ⟨kr_ HO_35.out⟩, ⟨kr_ HO_36.out⟩, ⟨bk_ BK772.out⟩, ⟨lb1_ HB.out GE772.out⟩⟩
                                    case rest =>
                                     as_aux_lemma =>
                                      clear HC100
                                      try clear c1
                                      try clear c2
                                      try clear p2
                                      try clear c3
                                      try clear c4
                                      try clear c5
                                      try clear c6
                                      try clear p6
                                      try clear c7
                                      try clear p7
                                      try clear q7
                                      try clear hx7
                                      try clear qi7
                                      try clear c8
                                      try clear c9
                                      try clear c10
                                      try clear c11
                                      try clear c14
                                      try clear c15
                                      try clear c15b0
                                      try clear c15b1
                                      try clear c15b2
                                      try clear c16
                                      try clear c17
                                      try clear c19
                                      try clear c24
                                      try clear c24b0
                                      try clear c24b1
                                      try clear c24b2
                                      try clear c26
                                      try clear c28
                                      try clear c29
                                      try clear c29b0
                                      try clear c30
                                      try clear c32
                                      try clear c32b0
                                      try clear c33
                                      try clear c33b0
                                      try clear c33b1
                                      try clear c34
                                      try clear c34b0
                                      try clear c35
                                      try clear c35b0
                                      try clear c35b1
                                      try clear c36
                                      try clear c37
                                      try clear c40
                                      try clear c41
                                      try clear c42
                                      try clear c43
                                      try clear c44
                                      try clear c45
                                      try clear c47
                                      try clear c48
                                      try clear c51
                                      try clear c51b0
                                      try clear c51b1
                                      try clear c52
                                      try clear c54
                                      try clear c57
                                      try clear c58
                                      try clear c59
                                      try clear c59b0
                                      try clear c59b1
                                      try clear c60
                                      try clear c60b0
                                      try clear c60b1
                                      try clear p64
                                      try clear c74
                                      try clear c74b0
                                      try clear c74b1
                                      try clear c74b2
                                      try clear c76
                                      try clear c78
                                      try clear p78
                                      try clear q78
                                      try clear hx78
                                      try clear qi78
                                      try clear c85
                                      try clear c95
                                      try clear c95b0
                                      try clear c95b1
                                      try clear c95b2
                                      try clear c99
                                      try clear c101
                                      try clear c101b0
                                      try clear hcz10_0 hcz10_1 hcz10_2
                                      try clear hcz13_0 hcz13_1 hcz13_2
                                      try clear hcz20_0 hcz20_1 hcz20_2
                                      try clear hcz22_0 hcz22_1 hcz22_2
                                      try clear hfz10_0 hfz10_1 hfz10_2
                                      try clear hfz13_0 hfz13_1 hfz13_2
                                      try clear hfz20_0 hfz20_1 hfz20_2
                                      try clear hfz22_0 hfz22_1 hfz22_2
                                      try clear hx786_0
                                      try clear hx787_0
                                      try clear hx788_0
                                      try clear hx789_0
                                      try clear p2
                                      try clear p6
                                      try clear p64
                                      try clear p7
                                      try clear p78
                                      try clear p786
                                      try clear p787
                                      try clear p788
                                      try clear p789
                                      try clear q7
                                      try clear q78
                                      try clear q786
                                      try clear q787
                                      try clear q788
                                      try clear q789
                                      obtain ⟨kq, x258_99, rfl, HA, HJ99, HO_34, HO_35, HO_36, BK772, HB⟩ := hcut
                                      cases kq with
                                      | zero => exact absurd HA.out (by simp [laws_FnSumps.j9])
                                      | succ kj99 =>
                                       have H := HA.out; clear HA; simp only [laws_FnSumps.j9] at H
                                       by_cases c102 : x258_99 = true
                                       ·
                                        subst c102
                                        have H1 : (if 0 ≤ x40_9 then (if x40_9 < (t827.length : Int) then ((impl_ClosedSumps.f kj99 t827 t828 ((rd_T54 t827 x40_9).f0)).bind fun bt843 => (laws_FnSumps.l2 kj99 t827 t828 t833 t834 x40_9 bt843.1 bt843.2 0)) else (none)) else (none)) = some r := by rw [if_pos rfl] at H; exact H
                                        clear H; have H := H1; clear H1
                                        by_cases c103 : 0 ≤ x40_9
                                        ·
                                         rw [if_pos c103] at H
                                         have c103b0 : decide (0 ≤ x40_9) = true := decide_eq_true c103; clear c103
                                         by_cases c104 : x40_9 < (t827.length : Int)
                                         ·
                                          rw [if_pos c104] at H
                                          have c104b0 : decide (x40_9 < (t827.length : Int)) = true := decide_eq_true c104; clear c104; replace H := Option.bind_eq_some_iff.mp H; obtain ⟨⟨t843, t844⟩, A1050, H⟩ := H; replace H : (laws_FnSumps.l2 kj99 t827 t828 t833 t834 x40_9 t843 t844 0) = some r := H; have A105 := Aside0.mk A1050; clear A1050; have H' := Aside0.mk H; clear H; have p842 : 0 ≤ (x40_9 : Int) := dt_; have q842 : x40_9 < (t827.length : Int) := dt_; obtain ⟨ad842, e842, hx842_0, hx842_1⟩ := at_T54 (Kd.R_reads' HO_34.out).2.2 x40_9 p842 q842
                                          cases e842
                                          replace p842 := eq_true p842; replace q842 := eq_true q842
                                          go_wp2_with (first | ((with_reducible refine gate_callee (f := 44) rfl ?_); refine ga_ (some 269) Try.func44 #[.slice (some ad842) t827.length co91, .slice Ao92 t828.length co92, .int .i64 ((rd_T54 t827 x40_9).f0)] ?_; (with_reducible refine (impl_ClosedSumps.calls kj99 _ _ t827 _ _ t828 ((rd_T54 t827 x40_9).f0) t843 t844 _ ?side1 ?side2 ?side3 ?side4 A105.out).mono ?_); (case side1 => exact kc_ (Kd.R_reads' HO_34.out).2.2); (case side2 => exact (Kd.R_reads' HO_34.out).2.1); (case side3 => exact kc_ (Kd.R_reads' HO_35.out).2.2); (case side4 => exact (Kd.R_reads' HO_35.out).2.1); rintro e w106 ⟨v845, rfl, ho0, hb⟩; refine ⟨_, rfl, ?_⟩; replace HO_34 := Aside0.mk (Kd.R_below (kr_ HO_34.out) hb); replace HO_35 := Aside0.mk (Kd.R_below (kr_ HO_35.out) hb); have HO846 := Aside0.mk (Kd.R_lower (Kd.R_new' ho0 (Kd.R_lt (kr_ HO_36.out))) (below_size (lb1_ HB.out GE772.out))); replace HO_36 := Aside0.mk (Kd.R_elder' (kr_ HO_36.out) (Kd.R_base ho0) hb); replace BK772 := Aside0.mk (bb_ (bk_ BK772.out) hb); replace HB := Aside0.mk (below_step (lb1_ HB.out GE772.out) hb); (try clear hb); (try clear hb2); (try clear hk); (try clear hi); (try clear ho0)))
                                          go_loopg [43] kj99 (fun kq v43 w' => ∃ (x43_11 : Int), v43 = .int .i64 x43_11 ∧ Aside0 (laws_FnSumps.l2 kq t827 t828 t833 t834 x40_9 t843 t844 x43_11 = some r) ∧ Aside0 (kq ≤ kj99) ∧ Aside0 (Kd.R k54 54 w' w.heap.size (fun _ => True) (.slice (some ad842) t827.length co91) t827) ∧ Aside0 (Kd.R k30 30 w' w.heap.size (fun k_ => k_ ≠ gb772) (.slice Ao92 t828.length co92) t828) ∧ Aside0 (Kd.R (Kd.int .i64) 3 w' w.heap.size (fun k_ => some k_ ≠ (v845 : Value).ownBlock) v835 t833) ∧ Aside0 (Kd.R (Kd.int .i64) 3 w' w.heap.size (fun k_ => some k_ ≠ (v835 : Value).ownBlock) v845 t843) ∧ Aside0 (w'.heap[gb772]? = some (.cells #[.int .i64 t768, .int .i64 t769, .int .i64 t770] 30 (0, 0))) ∧ Aside0 (Below w.heap.size w w'))
                                          case atStart => exact ⟨(0), (by first | rfl | (simp; done) | (simp [*]; done)), H', ⟨Nat.le_refl _⟩, ⟨kr_ HO_34.out⟩, ⟨kr_ HO_35.out⟩, ⟨krm_ HO_36.out (fun _ hk => hk.2)⟩, ⟨krm_ HO846.out (fun _ hk => hk.2)⟩, ⟨bk_ BK772.out⟩, ⟨lb1_ HB.out GE772.out⟩⟩
                                          case round =>
                                           as_aux_lemma =>
                                            clear H'
                                            try clear c1
                                            try clear c2
                                            try clear p2
                                            try clear c3
                                            try clear c4
                                            try clear c5
                                            try clear c6
                                            try clear p6
                                            try clear c7
                                            try clear p7
                                            try clear q7
                                            try clear hx7
                                            try clear qi7
                                            try clear c8
                                            try clear p8
                                            try clear q8
                                            try clear hx8
                                            try clear c9
                                            try clear c10
                                            try clear c11
                                            try clear c14
                                            try clear c15
                                            try clear c15b0
                                            try clear c15b1
                                            try clear c15b2
                                            try clear c16
                                            try clear c17
                                            try clear c19
                                            try clear c24
                                            try clear c24b0
                                            try clear c24b1
                                            try clear c24b2
                                            try clear c26
                                            try clear c28
                                            try clear c29
                                            try clear c29b0
                                            try clear c30
                                            try clear c32
                                            try clear c32b0
                                            try clear c33
                                            try clear c33b0
                                            try clear c33b1
                                            try clear c34
                                            try clear c34b0
                                            try clear c35
                                            try clear c35b0
                                            try clear c35b1
                                            try clear c36
                                            try clear c37
                                            try clear c40
                                            try clear c41
                                            try clear c42
                                            try clear c43
                                            try clear c44
                                            try clear c45
                                            try clear c47
                                            try clear c48
                                            try clear c51
                                            try clear c51b0
                                            try clear c51b1
                                            try clear c52
                                            try clear c54
                                            try clear c57
                                            try clear c58
                                            try clear c59
                                            try clear c59b0
                                            try clear c59b1
                                            try clear c60
                                            try clear c60b0
                                            try clear c60b1
                                            try clear p64
                                            try clear c74
                                            try clear c74b0
                                            try clear c74b1
                                            try clear c74b2
                                            try clear c76
                                            try clear c78
                                            try clear p78
                                            try clear q78
                                            try clear hx78
                                            try clear qi78
                                            try clear p84
                                            try clear q84
                                            try clear hx84
                                            try clear c85
                                            try clear c95
                                            try clear c95b0
                                            try clear c95b1
                                            try clear c95b2
                                            try clear c99
                                            try clear c101
                                            try clear c101b0
                                            try clear c102
                                            try clear c103
                                            try clear c103b0
                                            try clear c104
                                            try clear c104b0
                                            try clear hcz10_0 hcz10_1 hcz10_2
                                            try clear hcz13_0 hcz13_1 hcz13_2
                                            try clear hcz20_0 hcz20_1 hcz20_2
                                            try clear hcz22_0 hcz22_1 hcz22_2
                                            try clear hfz10_0 hfz10_1 hfz10_2
                                            try clear hfz13_0 hfz13_1 hfz13_2
                                            try clear hfz20_0 hfz20_1 hfz20_2
                                            try clear hfz22_0 hfz22_1 hfz22_2
                                            try clear hx786_0
                                            try clear hx787_0
                                            try clear hx788_0
                                            try clear hx789_0
                                            try clear hx842_0
                                            try clear hx842_1
                                            try clear p2
                                            try clear p6
                                            try clear p64
                                            try clear p7
                                            try clear p78
                                            try clear p786
                                            try clear p787
                                            try clear p788
                                            try clear p789
                                            try clear p842
                                            try clear q7
                                            try clear q78
                                            try clear q786
                                            try clear q787
                                            try clear q788
                                            try clear q789
                                            try clear q842
                                            obtain ⟨x43_11, rfl, HA, HK11, HO_34, HO_35, HO_36, HO_41, BK772, HB⟩ := hrel
                                            cases gk with
                                            | zero => exact absurd HA.out (by simp [laws_FnSumps.l2])
                                            | succ k11 =>
                                             have H := HA.out; clear HA; simp only [laws_FnSumps.l2] at H
                                             by_cases c107 : x43_11 < (t828.length : Int)
                                             ·
                                              rw [if_pos c107] at H
                                              have c107b0 : decide (x43_11 < (t828.length : Int)) = true := decide_eq_true c107; clear c107
                                              by_cases c108 : t844 = true
                                              ·
                                               subst c108
                                               have H1 : (if 0 ≤ x40_9 then (if x40_9 < (t827.length : Int) then (if 0 ≤ x43_11 then (if ((rd_T54 t827 x40_9).f1) > ((rd_T30 t828 x43_11).f1) then ((laws_rHas.f k11 t843 ((rd_T30 t828 x43_11).f0)).bind fun t850 => (if t850 = true then ((laws_rHas.f k11 t833 ((rd_T30 t828 x43_11).f0)).bind fun t852 => (if t852 = true then (laws_FnSumps.l2 k11 t827 t828 t833 t834 x40_9 t843 true (wrap64 (x43_11 + 1))) else (none))) else (none))) else (laws_FnSumps.l2 k11 t827 t828 t833 t834 x40_9 t843 true (wrap64 (x43_11 + 1)))) else (none)) else (none)) else (none)) = some r := by rw [if_pos rfl] at H; exact H
                                               clear H; have H := H1; clear H1
                                               by_cases c109 : 0 ≤ x40_9
                                               ·
                                                rw [if_pos c109] at H
                                                have c109b0 : decide (0 ≤ x40_9) = true := decide_eq_true c109; clear c109
                                                by_cases c110 : x40_9 < (t827.length : Int)
                                                ·
                                                 rw [if_pos c110] at H
                                                 have c110b0 : decide (x40_9 < (t827.length : Int)) = true := decide_eq_true c110; clear c110
                                                 by_cases c111 : 0 ≤ x43_11
                                                 ·
                                                  rw [if_pos c111] at H
                                                  have c111b0 : decide (0 ≤ x43_11) = true := decide_eq_true c111; clear c111
                                                  by_cases c112 : ((rd_T54 t827 x40_9).f1) > ((rd_T30 t828 x43_11).f1)
                                                  ·
                                                   rw [if_pos c112] at H
                                                   have c112b0 : decide (((rd_T30 t828 x43_11).f1) < ((rd_T54 t827 x40_9).f1)) = true := decide_eq_true c112; clear c112; replace H := Option.bind_eq_some_iff.mp H; obtain ⟨t850, A1130, H⟩ := H; replace H : (if t850 = true then ((laws_rHas.f k11 t833 ((rd_T30 t828 x43_11).f0)).bind fun t852 => (if t852 = true then (laws_FnSumps.l2 k11 t827 t828 t833 t834 x40_9 t843 true (wrap64 (x43_11 + 1))) else (none))) else (none)) = some r := H; have A113 := Aside0.mk A1130; clear A1130
                                                   by_cases c114 : t850 = true
                                                   ·
                                                    subst c114
                                                    have H1 : ((laws_rHas.f k11 t833 ((rd_T30 t828 x43_11).f0)).bind fun t852 => (if t852 = true then (laws_FnSumps.l2 k11 t827 t828 t833 t834 x40_9 t843 true (wrap64 (x43_11 + 1))) else (none))) = some r := by rw [if_pos rfl] at H; exact H
                                                    clear H; have H := H1; clear H1; replace H := Option.bind_eq_some_iff.mp H; obtain ⟨t852, A1150, H⟩ := H; replace H : (if t852 = true then (laws_FnSumps.l2 k11 t827 t828 t833 t834 x40_9 t843 true (wrap64 (x43_11 + 1))) else (none)) = some r := H; have A115 := Aside0.mk A1150; clear A1150
                                                    by_cases c116 : t852 = true
                                                    ·
                                                     subst c116
                                                     have H1 : (laws_FnSumps.l2 k11 t827 t828 t833 t834 x40_9 t843 true (wrap64 (x43_11 + 1))) = some r := by rw [if_pos rfl] at H; exact H
                                                     clear H; have H := H1; clear H1; have H' := Aside0.mk H; clear H
                                                     try go_wp2
                                                     replace HO_34 := Aside0.mk (Kd.R_drew HO_34.out); replace HO_35 := Aside0.mk (Kd.R_drew HO_35.out); replace HO_36 := Aside0.mk (Kd.R_drew HO_36.out); replace HO_41 := Aside0.mk (Kd.R_drew HO_41.out); replace BK772 := Aside0.mk (blk_drew BK772.out); replace HB := Aside0.mk (below_drew1 HB.out); have p847 : 0 ≤ (x40_9 : Int) := dt_; have q847 : x40_9 < (t827.length : Int) := dt_; obtain ⟨ad847, e847, hx847_0, hx847_1⟩ := at_T54 (Kd.R_reads' HO_34.out).2.2 x40_9 p847 q847
                                                     obtain rfl : ad842 = ad847 := (by injection e847)
                                                     replace p847 := eq_true p847; replace q847 := eq_true q847; have p848 : 0 ≤ (x43_11 : Int) := dt_; have q848 : x43_11 < (t828.length : Int) := dt_; obtain ⟨ad848, e848, hx848_0, hx848_1, hx848_2⟩ := at_T30 (Kd.R_reads' HO_35.out).2.2 x43_11 p848 q848
                                                     cases e848
                                                     replace p848 := eq_true p848; replace q848 := eq_true q848; have p849 : 0 ≤ (x43_11 : Int) := dt_; have q849 : x43_11 < (t828.length : Int) := dt_; obtain ⟨ad849, e849, hx849_0, hx849_1, hx849_2⟩ := at_T30 (Kd.R_reads' HO_35.out).2.2 x43_11 p849 q849
                                                     obtain rfl : ad848 = ad849 := (by injection e849)
                                                     replace p849 := eq_true p849; replace q849 := eq_true q849; obtain ⟨Ao118, co118, eo118⟩ := Kd.R_slice HO_41.out
                                                     (first | subst eo118 | (injection eo118 with f1_ f2_ f3_; have f4_ := f1_.symm; have f5_ := f3_.symm; clear f1_ f2_ f3_; subst f4_; subst f5_))
                                                     have p851 : 0 ≤ (x43_11 : Int) := dt_; have q851 : x43_11 < (t828.length : Int) := dt_; obtain ⟨ad851, e851, hx851_0, hx851_1, hx851_2⟩ := at_T30 (Kd.R_reads' HO_35.out).2.2 x43_11 p851 q851
                                                     obtain rfl : ad848 = ad851 := (by injection e851)
                                                     replace p851 := eq_true p851; replace q851 := eq_true q851; refine start_ (n := 35) (S := fun w' => w'.cell? (ad842.add ((x40_9).toNat * 2)) = some (.int .i64 ((rd_T54 t827 x40_9).f0)) ∧ w'.cell? ⟨(ad842.add ((x40_9).toNat * 2)).block, (ad842.add ((x40_9).toNat * 2)).off + 1, none⟩ = some (.int .i64 ((rd_T54 t827 x40_9).f1)) ∧ w'.cell? (ad848.add ((x43_11).toNat * 3)) = some (.int .i64 ((rd_T30 t828 x43_11).f0)) ∧ w'.cell? ⟨(ad848.add ((x43_11).toNat * 3)).block, (ad848.add ((x43_11).toNat * 3)).off + 1, none⟩ = some (.int .i64 ((rd_T30 t828 x43_11).f1)) ∧ w'.cell? ⟨(ad848.add ((x43_11).toNat * 3)).block, (ad848.add ((x43_11).toNat * 3)).off + 2, none⟩ = some (.int .i64 ((rd_T30 t828 x43_11).f2)) ∧ w'.cell? (ad848.add ((x43_11).toNat * 3)) = some (.int .i64 ((rd_T30 t828 x43_11).f0)) ∧ w'.cell? ⟨(ad848.add ((x43_11).toNat * 3)).block, (ad848.add ((x43_11).toNat * 3)).off + 1, none⟩ = some (.int .i64 ((rd_T30 t828 x43_11).f1)) ∧ w'.cell? ⟨(ad848.add ((x43_11).toNat * 3)).block, (ad848.add ((x43_11).toNat * 3)).off + 2, none⟩ = some (.int .i64 ((rd_T30 t828 x43_11).f2)) ∧ w'.cell? (ad848.add ((x43_11).toNat * 3)) = some (.int .i64 ((rd_T30 t828 x43_11).f0)) ∧ w'.cell? ⟨(ad848.add ((x43_11).toNat * 3)).block, (ad848.add ((x43_11).toNat * 3)).off + 1, none⟩ = some (.int .i64 ((rd_T30 t828 x43_11).f1)) ∧ w'.cell? ⟨(ad848.add ((x43_11).toNat * 3)).block, (ad848.add ((x43_11).toNat * 3)).off + 2, none⟩ = some (.int .i64 ((rd_T30 t828 x43_11).f2))) (ds := []) #[fF,fF,fF,fF,fF,fF,fF,fF,fF,fF,fF,fF,fF,fF,fF,fF,fF,fF,fF,fF,fF,fF,fF,fF,fF,fF,fF,fF,fF,fF,fF,fF,fF,fF,fF] (by kernel_rfl) rfl rfl ⟨hx847_0, hx847_1, hx848_0, hx848_1, hx848_2, hx849_0, hx849_1, hx849_2, hx851_0, hx851_1, hx851_2⟩ (fun hHeld => ?_); refine with_tabW laws_FnSumps.tab46 laws_FnSumps.bits46 (fun HT_ HW_ => ?_); generalize wr.drew = w117 at HO_34 HO_35 HO_36 HO_41 BK772 HB hx847_0 hx847_1 hx848_0 hx848_1 hx848_2 hx849_0 hx849_1 hx849_2 hx851_0 hx851_1 hx851_2 hHeld ⊢; refine pz_ HT_ 0 (some 278) #[tT,fF,fF,fF,fF,fF,fF,fF,fF,fF,fF,fF,fF,fF,fF,fF,fF,fF,fF,fF,fF,fF,fF,fF,fF,fF,fF,fF,fF,fF,fF,fF,fF,fF,fF] ?_; refine pz_ HT_ 1 (some 279) #[tT,tT,fF,fF,fF,fF,fF,fF,fF,fF,fF,fF,fF,fF,fF,fF,fF,fF,fF,fF,fF,fF,fF,fF,fF,fF,fF,fF,fF,fF,fF,fF,fF,fF,fF] ?_; refine pz_ HT_ 2 (some 280) #[tT,tT,tT,fF,fF,fF,fF,fF,fF,fF,fF,fF,fF,fF,fF,fF,fF,fF,fF,fF,fF,fF,fF,fF,fF,fF,fF,fF,fF,fF,fF,fF,fF,fF,fF] ?_; refine pz_ HT_ 3 (some 281) #[tT,tT,tT,tT,fF,fF,fF,fF,fF,fF,fF,fF,fF,fF,fF,fF,fF,fF,fF,fF,fF,fF,fF,fF,fF,fF,fF,fF,fF,fF,fF,fF,fF,fF,fF] ?_; refine pz_ HT_ 4 (some 282) #[tT,tT,tT,tT,tT,fF,fF,fF,fF,fF,fF,fF,fF,fF,fF,fF,fF,fF,fF,fF,fF,fF,fF,fF,fF,fF,fF,fF,fF,fF,fF,fF,fF,fF,fF] ?_; refine pz_ HT_ 5 (some 283) #[tT,tT,tT,tT,tT,tT,fF,fF,fF,fF,fF,fF,fF,fF,fF,fF,fF,fF,fF,fF,fF,fF,fF,fF,fF,fF,fF,fF,fF,fF,fF,fF,fF,fF,fF] ?_; refine pz_ HT_ 6 (some 284) #[tT,tT,tT,tT,tT,tT,tT,fF,fF,fF,fF,fF,fF,fF,fF,fF,fF,fF,fF,fF,fF,fF,fF,fF,fF,fF,fF,fF,fF,fF,fF,fF,fF,fF,fF] ?_; refine pz_ HT_ 8 (some 286) #[tT,tT,tT,tT,tT,tT,tT,fF,tT,fF,fF,fF,fF,fF,fF,fF,fF,fF,fF,fF,fF,fF,fF,fF,fF,fF,fF,fF,fF,fF,fF,fF,fF,fF,fF] ?_; refine pz_ HT_ 9 (some 287) #[tT,tT,tT,tT,tT,tT,tT,fF,tT,tT,fF,fF,fF,fF,fF,fF,fF,fF,fF,fF,fF,fF,fF,fF,fF,fF,fF,fF,fF,fF,fF,fF,fF,fF,fF] ?_; refine pz_ HT_ 10 (some 288) #[tT,tT,tT,tT,tT,tT,tT,fF,tT,tT,tT,fF,fF,fF,fF,fF,fF,fF,fF,fF,fF,fF,fF,fF,fF,fF,fF,fF,fF,fF,fF,fF,fF,fF,fF] ?_; refine pz_ HT_ 11 (some 289) #[tT,tT,tT,tT,tT,tT,tT,fF,tT,tT,tT,tT,fF,fF,fF,fF,fF,fF,fF,fF,fF,fF,fF,fF,fF,fF,fF,fF,fF,fF,fF,fF,fF,fF,fF] ?_; refine tk_ HT_ HW_ hHeld 7 (some 285) #[tT,tT,tT,tT,tT,tT,tT,tT,tT,tT,tT,tT,fF,fF,fF,fF,fF,fF,fF,fF,fF,fF,fF,fF,fF,fF,fF,fF,fF,fF,fF,fF,fF,fF,fF] ?_; refine tk_ HT_ HW_ hHeld 12 (some 290) #[tT,tT,tT,tT,tT,tT,tT,tT,tT,tT,tT,tT,tT,fF,fF,fF,fF,fF,fF,fF,fF,fF,fF,fF,fF,fF,fF,fF,fF,fF,fF,fF,fF,fF,fF] ?_; refine pz_ HT_ 13 (some 291) #[tT,tT,tT,tT,tT,tT,tT,tT,tT,tT,tT,tT,tT,tT,fF,fF,fF,fF,fF,fF,fF,fF,fF,fF,fF,fF,fF,fF,fF,fF,fF,fF,fF,fF,fF] ?_; refine pz_ HT_ 14 (some 292) #[tT,tT,tT,tT,tT,tT,tT,tT,tT,tT,tT,tT,tT,tT,tT,fF,fF,fF,fF,fF,fF,fF,fF,fF,fF,fF,fF,fF,fF,fF,fF,fF,fF,fF,fF] ?_; refine pz_ HT_ 15 (some 293) #[tT,tT,tT,tT,tT,tT,tT,tT,tT,tT,tT,tT,tT,tT,tT,tT,fF,fF,fF,fF,fF,fF,fF,fF,fF,fF,fF,fF,fF,fF,fF,fF,fF,fF,fF] ?_; refine pz_ HT_ 16 (some 294) #[tT,tT,tT,tT,tT,tT,tT,tT,tT,tT,tT,tT,tT,tT,tT,tT,tT,fF,fF,fF,fF,fF,fF,fF,fF,fF,fF,fF,fF,fF,fF,fF,fF,fF,fF] ?_; refine pz_ HT_ 17 (some 295) #[tT,tT,tT,tT,tT,tT,tT,tT,tT,tT,tT,tT,tT,tT,tT,tT,tT,tT,fF,fF,fF,fF,fF,fF,fF,fF,fF,fF,fF,fF,fF,fF,fF,fF,fF] ?_; refine pz_ HT_ 18 (some 296) #[tT,tT,tT,tT,tT,tT,tT,tT,tT,tT,tT,tT,tT,tT,tT,tT,tT,tT,tT,fF,fF,fF,fF,fF,fF,fF,fF,fF,fF,fF,fF,fF,fF,fF,fF] ?_; refine pz_ HT_ 19 (some 297) #[tT,tT,tT,tT,tT,tT,tT,tT,tT,tT,tT,tT,tT,tT,tT,tT,tT,tT,tT,tT,fF,fF,fF,fF,fF,fF,fF,fF,fF,fF,fF,fF,fF,fF,fF] ?_; refine tk_ HT_ HW_ hHeld 20 (some 298) #[tT,tT,tT,tT,tT,tT,tT,tT,tT,tT,tT,tT,tT,tT,tT,tT,tT,tT,tT,tT,tT,fF,fF,fF,fF,fF,fF,fF,fF,fF,fF,fF,fF,fF,fF] ?_; refine one_ (i := 21) (N := some 299) #[tT,tT,tT,tT,tT,tT,tT,tT,tT,tT,tT,tT,tT,tT,tT,tT,tT,tT,tT,tT,tT,tT,fF,fF,fF,fF,fF,fF,fF,fF,fF,fF,fF,fF,fF] rfl rfl (one_of HT_.out (by kernel_rfl)) (by decide) (fun K hK => ?_); refine gs_ Try.func53 #[.slice Ao118 t843.length co118, .int .i64 ((rd_T30 t828 x43_11).f0)] ?_; (with_reducible refine (laws_rHas.calls k11 _ _ t843 ((rd_T30 t828 x43_11).f0) true _ ?side1 ?side2 A113.out).mono ?_); (case side1 => exact kc_ (Kd.R_reads' HO_41.out).2.2); (case side2 => exact (Kd.R_reads' HO_41.out).2.1); rintro e w' ⟨rfl, ⟨nd, rfl⟩⟩; refine ⟨_, rfl, ?_⟩; obtain ⟨Ao119, co119, eo119⟩ := Kd.R_slice HO_36.out
                                                     (first | subst eo119 | (injection eo119 with f1_ f2_ f3_; have f4_ := f1_.symm; have f5_ := f3_.symm; clear f1_ f2_ f3_; subst f4_; subst f5_))
                                                     refine hK.out _ _ ⟨hHeld.1, hHeld.2.1, hHeld.2.2.1, hHeld.2.2.2.1, hHeld.2.2.2.2.1, hHeld.2.2.2.2.2.1, hHeld.2.2.2.2.2.2.1, hHeld.2.2.2.2.2.2.2.1, hHeld.2.2.2.2.2.2.2.2.1, hHeld.2.2.2.2.2.2.2.2.2.1, hHeld.2.2.2.2.2.2.2.2.2.2⟩ (fun hHeld => ?_); clear hK K; refine na_ ?_; refine pz_ HT_ 22 (some 300) #[tT,tT,tT,tT,tT,tT,tT,tT,tT,tT,tT,tT,tT,tT,tT,tT,tT,tT,tT,tT,tT,tT,tT,fF,fF,fF,fF,fF,fF,fF,fF,fF,fF,fF,fF] ?_; refine pz_ HT_ 23 (some 301) #[tT,tT,tT,tT,tT,tT,tT,tT,tT,tT,tT,tT,tT,tT,tT,tT,tT,tT,tT,tT,tT,tT,tT,tT,fF,fF,fF,fF,fF,fF,fF,fF,fF,fF,fF] ?_; refine pz_ HT_ 24 (some 302) #[tT,tT,tT,tT,tT,tT,tT,tT,tT,tT,tT,tT,tT,tT,tT,tT,tT,tT,tT,tT,tT,tT,tT,tT,tT,fF,fF,fF,fF,fF,fF,fF,fF,fF,fF] ?_; refine pz_ HT_ 25 (some 303) #[tT,tT,tT,tT,tT,tT,tT,tT,tT,tT,tT,tT,tT,tT,tT,tT,tT,tT,tT,tT,tT,tT,tT,tT,tT,tT,fF,fF,fF,fF,fF,fF,fF,fF,fF] ?_; refine pz_ HT_ 26 (some 304) #[tT,tT,tT,tT,tT,tT,tT,tT,tT,tT,tT,tT,tT,tT,tT,tT,tT,tT,tT,tT,tT,tT,tT,tT,tT,tT,tT,fF,fF,fF,fF,fF,fF,fF,fF] ?_; refine pz_ HT_ 27 (some 305) #[tT,tT,tT,tT,tT,tT,tT,tT,tT,tT,tT,tT,tT,tT,tT,tT,tT,tT,tT,tT,tT,tT,tT,tT,tT,tT,tT,tT,fF,fF,fF,fF,fF,fF,fF] ?_; refine pz_ HT_ 28 (some 306) #[tT,tT,tT,tT,tT,tT,tT,tT,tT,tT,tT,tT,tT,tT,tT,tT,tT,tT,tT,tT,tT,tT,tT,tT,tT,tT,tT,tT,tT,fF,fF,fF,fF,fF,fF] ?_; refine tk_ HT_ HW_ hHeld 29 (some 307) #[tT,tT,tT,tT,tT,tT,tT,tT,tT,tT,tT,tT,tT,tT,tT,tT,tT,tT,tT,tT,tT,tT,tT,tT,tT,tT,tT,tT,tT,tT,fF,fF,fF,fF,fF] ?_; refine one_ (i := 30) (N := some 308) #[tT,tT,tT,tT,tT,tT,tT,tT,tT,tT,tT,tT,tT,tT,tT,tT,tT,tT,tT,tT,tT,tT,tT,tT,tT,tT,tT,tT,tT,tT,tT,fF,fF,fF,fF] rfl rfl (one_of HT_.out (by kernel_rfl)) (by decide) (fun K hK => ?_); refine gs_ Try.func53 #[.slice Ao119 t833.length co119, .int .i64 ((rd_T30 t828 x43_11).f0)] ?_; (with_reducible refine (laws_rHas.calls k11 _ _ t833 ((rd_T30 t828 x43_11).f0) true _ ?side1 ?side2 A115.out).mono ?_); (case side1 => exact kc_ (Kd.R_reads' HO_36.out).2.2); (case side2 => exact (Kd.R_reads' HO_36.out).2.1); rintro e w' ⟨rfl, ⟨nd, rfl⟩⟩; refine ⟨_, rfl, ?_⟩; refine hK.out _ _ ⟨hHeld.1, hHeld.2.1, hHeld.2.2.1, hHeld.2.2.2.1, hHeld.2.2.2.2.1, hHeld.2.2.2.2.2.1, hHeld.2.2.2.2.2.2.1, hHeld.2.2.2.2.2.2.2.1, hHeld.2.2.2.2.2.2.2.2.1, hHeld.2.2.2.2.2.2.2.2.2.1, hHeld.2.2.2.2.2.2.2.2.2.2⟩ (fun hHeld => ?_); clear hK K; refine na_ ?_; refine pz_ HT_ 31 (some 309) #[tT,tT,tT,tT,tT,tT,tT,tT,tT,tT,tT,tT,tT,tT,tT,tT,tT,tT,tT,tT,tT,tT,tT,tT,tT,tT,tT,tT,tT,tT,tT,tT,fF,fF,fF] ?_; refine pz_ HT_ 32 (some 310) #[tT,tT,tT,tT,tT,tT,tT,tT,tT,tT,tT,tT,tT,tT,tT,tT,tT,tT,tT,tT,tT,tT,tT,tT,tT,tT,tT,tT,tT,tT,tT,tT,tT,fF,fF] ?_; refine pz_ HT_ 33 (some 311) #[tT,tT,tT,tT,tT,tT,tT,tT,tT,tT,tT,tT,tT,tT,tT,tT,tT,tT,tT,tT,tT,tT,tT,tT,tT,tT,tT,tT,tT,tT,tT,tT,tT,tT,fF] ?_; refine pz_ HT_ 34 (some 312) #[tT,tT,tT,tT,tT,tT,tT,tT,tT,tT,tT,tT,tT,tT,tT,tT,tT,tT,tT,tT,tT,tT,tT,tT,tT,tT,tT,tT,tT,tT,tT,tT,tT,tT,tT] ?_; refine done_ (done_of HT_.out (by kernel_rfl)) ?_
                                                     try go_wp2
                                                     go_roundg k11
                                                     case measure => have := HJ6.out; have := HJ18.out; have := HK3.out; have := HJ37.out; have := HJ44.out; have := HJ52.out; have := HJ67.out; have := HJ88.out; have := HK9.out; have := HJ99.out; have := HK11.out; omega
                                                     case rel => exact ⟨(wrap64 (x43_11 + 1)), (by first | rfl | (simp; done) | (simp [*]; done)), H', ⟨by have := HJ6.out; have := HJ18.out; have := HK3.out; have := HJ37.out; have := HJ44.out; have := HJ52.out; have := HJ67.out; have := HJ88.out; have := HK9.out; have := HJ99.out; have := HK11.out; omega⟩, ⟨kr_ HO_34.out⟩, ⟨kr_ HO_35.out⟩, ⟨kr_ HO_36.out⟩, ⟨kr_ HO_41.out⟩, ⟨bk_ BK772.out⟩, ⟨lb1_ HB.out GE772.out⟩⟩
                                                    ·
                                                     replace c116 := Bool.eq_false_iff.mpr c116; subst c116
                                                     have H1 : (none) = some r := by rw [if_neg (show ¬ (false = true) by decide)] at H; exact H
                                                     clear H; have H := H1; clear H1; exact absurd H (by simp)
                                                   ·
                                                    replace c114 := Bool.eq_false_iff.mpr c114; subst c114
                                                    have H1 : (none) = some r := by rw [if_neg (show ¬ (false = true) by decide)] at H; exact H
                                                    clear H; have H := H1; clear H1; exact absurd H (by simp)
                                                  ·
                                                   rw [if_neg c112] at H
                                                   have c112b0 : decide (((rd_T30 t828 x43_11).f1) < ((rd_T54 t827 x40_9).f1)) = false := decide_eq_false c112; clear c112; have H' := Aside0.mk H; clear H
                                                   try go_wp2
                                                   replace HO_34 := Aside0.mk (Kd.R_drew HO_34.out); replace HO_35 := Aside0.mk (Kd.R_drew HO_35.out); replace HO_36 := Aside0.mk (Kd.R_drew HO_36.out); replace HO_41 := Aside0.mk (Kd.R_drew HO_41.out); replace BK772 := Aside0.mk (blk_drew BK772.out); replace HB := Aside0.mk (below_drew1 HB.out); have p847 : 0 ≤ (x40_9 : Int) := dt_; have q847 : x40_9 < (t827.length : Int) := dt_; obtain ⟨ad847, e847, hx847_0, hx847_1⟩ := at_T54 (Kd.R_reads' HO_34.out).2.2 x40_9 p847 q847
                                                   obtain rfl : ad842 = ad847 := (by injection e847)
                                                   replace p847 := eq_true p847; replace q847 := eq_true q847; have p848 : 0 ≤ (x43_11 : Int) := dt_; have q848 : x43_11 < (t828.length : Int) := dt_; obtain ⟨ad848, e848, hx848_0, hx848_1, hx848_2⟩ := at_T30 (Kd.R_reads' HO_35.out).2.2 x43_11 p848 q848
                                                   cases e848
                                                   replace p848 := eq_true p848; replace q848 := eq_true q848; refine start_ (n := 35) (S := fun w' => w'.cell? (ad842.add ((x40_9).toNat * 2)) = some (.int .i64 ((rd_T54 t827 x40_9).f0)) ∧ w'.cell? ⟨(ad842.add ((x40_9).toNat * 2)).block, (ad842.add ((x40_9).toNat * 2)).off + 1, none⟩ = some (.int .i64 ((rd_T54 t827 x40_9).f1)) ∧ w'.cell? (ad848.add ((x43_11).toNat * 3)) = some (.int .i64 ((rd_T30 t828 x43_11).f0)) ∧ w'.cell? ⟨(ad848.add ((x43_11).toNat * 3)).block, (ad848.add ((x43_11).toNat * 3)).off + 1, none⟩ = some (.int .i64 ((rd_T30 t828 x43_11).f1)) ∧ w'.cell? ⟨(ad848.add ((x43_11).toNat * 3)).block, (ad848.add ((x43_11).toNat * 3)).off + 2, none⟩ = some (.int .i64 ((rd_T30 t828 x43_11).f2))) (ds := []) #[fF,fF,fF,fF,fF,fF,fF,fF,fF,fF,fF,fF,fF,fF,fF,fF,fF,fF,fF,fF,fF,fF,fF,fF,fF,fF,fF,fF,fF,fF,fF,fF,fF,fF,fF] (by kernel_rfl) rfl rfl ⟨hx847_0, hx847_1, hx848_0, hx848_1, hx848_2⟩ (fun hHeld => ?_); refine with_tabW laws_FnSumps.tab46 laws_FnSumps.bits46 (fun HT_ HW_ => ?_); generalize wr.drew = w120 at HO_34 HO_35 HO_36 HO_41 BK772 HB hx847_0 hx847_1 hx848_0 hx848_1 hx848_2 hHeld ⊢; refine pz_ HT_ 0 (some 278) #[tT,fF,fF,fF,fF,fF,fF,fF,fF,fF,fF,fF,fF,fF,fF,fF,fF,fF,fF,fF,fF,fF,fF,fF,fF,fF,fF,fF,fF,fF,fF,fF,fF,fF,fF] ?_; refine pz_ HT_ 1 (some 279) #[tT,tT,fF,fF,fF,fF,fF,fF,fF,fF,fF,fF,fF,fF,fF,fF,fF,fF,fF,fF,fF,fF,fF,fF,fF,fF,fF,fF,fF,fF,fF,fF,fF,fF,fF] ?_; refine pz_ HT_ 2 (some 280) #[tT,tT,tT,fF,fF,fF,fF,fF,fF,fF,fF,fF,fF,fF,fF,fF,fF,fF,fF,fF,fF,fF,fF,fF,fF,fF,fF,fF,fF,fF,fF,fF,fF,fF,fF] ?_; refine pz_ HT_ 3 (some 281) #[tT,tT,tT,tT,fF,fF,fF,fF,fF,fF,fF,fF,fF,fF,fF,fF,fF,fF,fF,fF,fF,fF,fF,fF,fF,fF,fF,fF,fF,fF,fF,fF,fF,fF,fF] ?_; refine pz_ HT_ 4 (some 282) #[tT,tT,tT,tT,tT,fF,fF,fF,fF,fF,fF,fF,fF,fF,fF,fF,fF,fF,fF,fF,fF,fF,fF,fF,fF,fF,fF,fF,fF,fF,fF,fF,fF,fF,fF] ?_; refine pz_ HT_ 5 (some 283) #[tT,tT,tT,tT,tT,tT,fF,fF,fF,fF,fF,fF,fF,fF,fF,fF,fF,fF,fF,fF,fF,fF,fF,fF,fF,fF,fF,fF,fF,fF,fF,fF,fF,fF,fF] ?_; refine pz_ HT_ 6 (some 284) #[tT,tT,tT,tT,tT,tT,tT,fF,fF,fF,fF,fF,fF,fF,fF,fF,fF,fF,fF,fF,fF,fF,fF,fF,fF,fF,fF,fF,fF,fF,fF,fF,fF,fF,fF] ?_; refine pz_ HT_ 8 (some 286) #[tT,tT,tT,tT,tT,tT,tT,fF,tT,fF,fF,fF,fF,fF,fF,fF,fF,fF,fF,fF,fF,fF,fF,fF,fF,fF,fF,fF,fF,fF,fF,fF,fF,fF,fF] ?_; refine pz_ HT_ 9 (some 287) #[tT,tT,tT,tT,tT,tT,tT,fF,tT,tT,fF,fF,fF,fF,fF,fF,fF,fF,fF,fF,fF,fF,fF,fF,fF,fF,fF,fF,fF,fF,fF,fF,fF,fF,fF] ?_; refine pz_ HT_ 10 (some 288) #[tT,tT,tT,tT,tT,tT,tT,fF,tT,tT,tT,fF,fF,fF,fF,fF,fF,fF,fF,fF,fF,fF,fF,fF,fF,fF,fF,fF,fF,fF,fF,fF,fF,fF,fF] ?_; refine pz_ HT_ 11 (some 289) #[tT,tT,tT,tT,tT,tT,tT,fF,tT,tT,tT,tT,fF,fF,fF,fF,fF,fF,fF,fF,fF,fF,fF,fF,fF,fF,fF,fF,fF,fF,fF,fF,fF,fF,fF] ?_; refine tk_ HT_ HW_ hHeld 7 (some 285) #[tT,tT,tT,tT,tT,tT,tT,tT,tT,tT,tT,tT,fF,fF,fF,fF,fF,fF,fF,fF,fF,fF,fF,fF,fF,fF,fF,fF,fF,fF,fF,fF,fF,fF,fF] ?_; refine tk_ HT_ HW_ hHeld 12 (some 290) #[tT,tT,tT,tT,tT,tT,tT,tT,tT,tT,tT,tT,tT,fF,fF,fF,fF,fF,fF,fF,fF,fF,fF,fF,fF,fF,fF,fF,fF,fF,fF,fF,fF,fF,fF] ?_; refine pz_ HT_ 13 (some 291) #[tT,tT,tT,tT,tT,tT,tT,tT,tT,tT,tT,tT,tT,tT,fF,fF,fF,fF,fF,fF,fF,fF,fF,fF,fF,fF,fF,fF,fF,fF,fF,fF,fF,fF,fF] ?_; refine pz_ HT_ 14 (some 292) #[tT,tT,tT,tT,tT,tT,tT,tT,tT,tT,tT,tT,tT,tT,tT,fF,fF,fF,fF,fF,fF,fF,fF,fF,fF,fF,fF,fF,fF,fF,fF,fF,fF,fF,fF] ?_; refine pu_ HT_ 15 (some 293) #[tT,tT,tT,tT,tT,tT,tT,tT,tT,tT,tT,tT,tT,tT,tT,tT,fF,fF,fF,fF,fF,fF,fF,fF,fF,fF,fF,fF,fF,fF,fF,fF,fF,fF,fF] ?_; refine pu_ HT_ 16 (some 294) #[tT,tT,tT,tT,tT,tT,tT,tT,tT,tT,tT,tT,tT,tT,tT,tT,tT,fF,fF,fF,fF,fF,fF,fF,fF,fF,fF,fF,fF,fF,fF,fF,fF,fF,fF] ?_; refine pu_ HT_ 17 (some 295) #[tT,tT,tT,tT,tT,tT,tT,tT,tT,tT,tT,tT,tT,tT,tT,tT,tT,tT,fF,fF,fF,fF,fF,fF,fF,fF,fF,fF,fF,fF,fF,fF,fF,fF,fF] ?_; refine pu_ HT_ 18 (some 296) #[tT,tT,tT,tT,tT,tT,tT,tT,tT,tT,tT,tT,tT,tT,tT,tT,tT,tT,tT,fF,fF,fF,fF,fF,fF,fF,fF,fF,fF,fF,fF,fF,fF,fF,fF] ?_; refine pu_ HT_ 19 (some 297) #[tT,tT,tT,tT,tT,tT,tT,tT,tT,tT,tT,tT,tT,tT,tT,tT,tT,tT,tT,tT,fF,fF,fF,fF,fF,fF,fF,fF,fF,fF,fF,fF,fF,fF,fF] ?_; refine pu_ HT_ 20 (some 298) #[tT,tT,tT,tT,tT,tT,tT,tT,tT,tT,tT,tT,tT,tT,tT,tT,tT,tT,tT,tT,tT,fF,fF,fF,fF,fF,fF,fF,fF,fF,fF,fF,fF,fF,fF] ?_; refine pu_ HT_ 21 (some 299) #[tT,tT,tT,tT,tT,tT,tT,tT,tT,tT,tT,tT,tT,tT,tT,tT,tT,tT,tT,tT,tT,tT,fF,fF,fF,fF,fF,fF,fF,fF,fF,fF,fF,fF,fF] ?_; refine pu_ HT_ 22 (some 300) #[tT,tT,tT,tT,tT,tT,tT,tT,tT,tT,tT,tT,tT,tT,tT,tT,tT,tT,tT,tT,tT,tT,tT,fF,fF,fF,fF,fF,fF,fF,fF,fF,fF,fF,fF] ?_; refine pu_ HT_ 23 (some 301) #[tT,tT,tT,tT,tT,tT,tT,tT,tT,tT,tT,tT,tT,tT,tT,tT,tT,tT,tT,tT,tT,tT,tT,tT,fF,fF,fF,fF,fF,fF,fF,fF,fF,fF,fF] ?_; refine pu_ HT_ 24 (some 302) #[tT,tT,tT,tT,tT,tT,tT,tT,tT,tT,tT,tT,tT,tT,tT,tT,tT,tT,tT,tT,tT,tT,tT,tT,tT,fF,fF,fF,fF,fF,fF,fF,fF,fF,fF] ?_; refine pu_ HT_ 25 (some 303) #[tT,tT,tT,tT,tT,tT,tT,tT,tT,tT,tT,tT,tT,tT,tT,tT,tT,tT,tT,tT,tT,tT,tT,tT,tT,tT,fF,fF,fF,fF,fF,fF,fF,fF,fF] ?_; refine pu_ HT_ 26 (some 304) #[tT,tT,tT,tT,tT,tT,tT,tT,tT,tT,tT,tT,tT,tT,tT,tT,tT,tT,tT,tT,tT,tT,tT,tT,tT,tT,tT,fF,fF,fF,fF,fF,fF,fF,fF] ?_; refine pu_ HT_ 27 (some 305) #[tT,tT,tT,tT,tT,tT,tT,tT,tT,tT,tT,tT,tT,tT,tT,tT,tT,tT,tT,tT,tT,tT,tT,tT,tT,tT,tT,tT,fF,fF,fF,fF,fF,fF,fF] ?_; refine pu_ HT_ 28 (some 306) #[tT,tT,tT,tT,tT,tT,tT,tT,tT,tT,tT,tT,tT,tT,tT,tT,tT,tT,tT,tT,tT,tT,tT,tT,tT,tT,tT,tT,tT,fF,fF,fF,fF,fF,fF] ?_; refine pu_ HT_ 29 (some 307) #[tT,tT,tT,tT,tT,tT,tT,tT,tT,tT,tT,tT,tT,tT,tT,tT,tT,tT,tT,tT,tT,tT,tT,tT,tT,tT,tT,tT,tT,tT,fF,fF,fF,fF,fF] ?_; refine pu_ HT_ 30 (some 308) #[tT,tT,tT,tT,tT,tT,tT,tT,tT,tT,tT,tT,tT,tT,tT,tT,tT,tT,tT,tT,tT,tT,tT,tT,tT,tT,tT,tT,tT,tT,tT,fF,fF,fF,fF] ?_; refine pu_ HT_ 31 (some 309) #[tT,tT,tT,tT,tT,tT,tT,tT,tT,tT,tT,tT,tT,tT,tT,tT,tT,tT,tT,tT,tT,tT,tT,tT,tT,tT,tT,tT,tT,tT,tT,tT,fF,fF,fF] ?_; refine pu_ HT_ 32 (some 310) #[tT,tT,tT,tT,tT,tT,tT,tT,tT,tT,tT,tT,tT,tT,tT,tT,tT,tT,tT,tT,tT,tT,tT,tT,tT,tT,tT,tT,tT,tT,tT,tT,tT,fF,fF] ?_; refine pz_ HT_ 33 (some 311) #[tT,tT,tT,tT,tT,tT,tT,tT,tT,tT,tT,tT,tT,tT,tT,tT,tT,tT,tT,tT,tT,tT,tT,tT,tT,tT,tT,tT,tT,tT,tT,tT,tT,tT,fF] ?_; refine pz_ HT_ 34 (some 312) #[tT,tT,tT,tT,tT,tT,tT,tT,tT,tT,tT,tT,tT,tT,tT,tT,tT,tT,tT,tT,tT,tT,tT,tT,tT,tT,tT,tT,tT,tT,tT,tT,tT,tT,tT] ?_; refine done_ (done_of HT_.out (by kernel_rfl)) ?_
                                                   try go_wp2
                                                   go_roundg k11
                                                   case measure => have := HJ6.out; have := HJ18.out; have := HK3.out; have := HJ37.out; have := HJ44.out; have := HJ52.out; have := HJ67.out; have := HJ88.out; have := HK9.out; have := HJ99.out; have := HK11.out; omega
                                                   case rel => exact ⟨(wrap64 (x43_11 + 1)), (by first | rfl | (simp; done) | (simp [*]; done)), H', ⟨by have := HJ6.out; have := HJ18.out; have := HK3.out; have := HJ37.out; have := HJ44.out; have := HJ52.out; have := HJ67.out; have := HJ88.out; have := HK9.out; have := HJ99.out; have := HK11.out; omega⟩, ⟨kr_ HO_34.out⟩, ⟨kr_ HO_35.out⟩, ⟨kr_ HO_36.out⟩, ⟨kr_ HO_41.out⟩, ⟨bk_ BK772.out⟩, ⟨lb1_ HB.out GE772.out⟩⟩
                                                 ·
                                                  rw [if_neg c111] at H
                                                  exact absurd H (by simp)
                                                ·
                                                 rw [if_neg c110] at H
                                                 exact absurd H (by simp)
                                               ·
                                                rw [if_neg c109] at H
                                                exact absurd H (by simp)
                                              ·
                                               replace c108 := Bool.eq_false_iff.mpr c108; subst c108
                                               have H1 : (none) = some r := by rw [if_neg (show ¬ (false = true) by decide)] at H; exact H
                                               clear H; have H := H1; clear H1; exact absurd H (by simp)
                                             ·
                                              rw [if_neg c107] at H
                                              have c107b0 : decide (x43_11 < (t828.length : Int)) = false := decide_eq_false c107; clear c107; have H' := Aside0.mk H; clear H
                                              go_wp2
                                              go_roundg k11
                                              case measure => have := HJ6.out; have := HJ18.out; have := HK3.out; have := HJ37.out; have := HJ44.out; have := HJ52.out; have := HJ67.out; have := HJ88.out; have := HK9.out; have := HJ99.out; have := HK11.out; omega
                                              case rel => exact ⟨(wrap64 (x40_9 + 1)), (by first | rfl | (simp; done) | (simp [*]; done)), H', ⟨by have := HJ6.out; have := HJ18.out; have := HK3.out; have := HJ37.out; have := HJ44.out; have := HJ52.out; have := HJ67.out; have := HJ88.out; have := HK9.out; have := HJ99.out; have := HK11.out; omega⟩, ⟨kr_ HO_34.out⟩, ⟨kr_ HO_35.out⟩, ⟨krm_ HO_36.out (fun _ hk => trivial)⟩, ⟨bk_ BK772.out⟩, ⟨lb1_ HB.out GE772.out⟩⟩
                                         ·
                                          rw [if_neg c104] at H
                                          exact absurd H (by simp)
                                        ·
                                         rw [if_neg c103] at H
                                         exact absurd H (by simp)
                                       ·
                                        replace c102 := Bool.eq_false_iff.mpr c102; subst c102
                                        have H1 : (some true) = some r := by rw [if_neg (show ¬ (false = true) by decide)] at H; exact H
                                        clear H; have H := H1; clear H1; obtain rfl := Option.some.inj H
                                        go_wp2
                                        go_ret
                                        exact ⟨rr_, lb1_ HB.out GE772.out⟩
end Go.Proofs.Ytojaeidabmfajaa.Pr

namespace Go.Proofs.YtojaeidabmfajaaW.Opens
open Go.ChangeShapes Go.WideShapes Go.RowKit
open Go.Deep (open_slice choose_lt)
open Go.Proofs.YtojaeidabmfajaaW.PrintWords
set_option linter.unusedVariables false
set_option linter.unusedSimpArgs false
def Opn {α : Type} (P : Program) (t : TypeId) (d : Kd α) (wf : α → Prop) : Prop :=
 P.cellsOf t = d.sz ∧ ∀ (H : Type) (enc : TypeId × Value → H) (W : World) (fuel : Nat) (cs : List Value) (x : DataW H × List MemPlace),
  DataW.trod enc P W 0 (fun _ => true) true fuel t cs = some x → (∀ n ∈ x.1.weights P t, n ≤ reachBytes) → ∃ y, d.K W y cs ∧ wf y
theorem Opn.int {P : Program} {t : TypeId} {k : IntKind} (hc : P.cellsOf t = 1) (ht : P.underlying t = some (.int k)) : Opn P t (Kd.int k) (fun n => (Lit.int k n).wf = true) :=
 ⟨hc, fun H enc W fuel cs x h _ => by
  obtain ⟨m, rfl, rfl, hw⟩ := DataW.trod_int ht h
  exact ⟨m, rfl, hw⟩⟩
theorem Opn.bool {P : Program} {t : TypeId} (hc : P.cellsOf t = 1) (ht : P.underlying t = some .bool) : Opn P t Kd.bool (fun _ => True) :=
 ⟨hc, fun H enc W fuel cs x h _ => by
  obtain ⟨m, rfl, rfl⟩ := DataW.trod_bool ht h
  exact ⟨m, rfl, trivial⟩⟩
theorem weightsAll_mem {H : Type} {P : Program} {e : TypeId} : ∀ {l : List (DataW H)} {d : DataW H}, d ∈ l → ∀ n ∈ d.weights P e, n ∈ DataW.weightsAll P e l
 | _ :: r, d, h, n, hn => by
  simp only [DataW.weightsAll, List.mem_append]
  rcases List.mem_cons.1 h with rfl | h
  ·
   exact .inl hn
  ·
   exact .inr (weightsAll_mem h n hn)
theorem Opn.slice {α : Type} (z : α) {P : Program} {t e : TypeId} {d : Kd α} {wf : α → Prop} {B : Nat} (hc : P.cellsOf t = 1) (ht : P.underlying t = some (.slice e)) (hB : P.bytesOf e = B) (h : Opn P e d wf) :
  Opn P t (Kd.slice e d) (fun xs => xs.length ≤ maxLen ∧ xs.length * B ≤ 140737488351232 ∧ ∀ y ∈ xs, wf y) :=
 ⟨hc, fun H enc W fuel cs x hf hw => by
  haveI : Inhabited α := ⟨z⟩
  rcases open_slice ht hf with ⟨rfl, rfl⟩ | ⟨a, len, cap, m, n, D, Pl, rfl, _, hl, hm, hmm, rfl, each⟩
  ·
   exact ⟨[], ⟨none, 0, rfl, Nat.le_refl _, rfl, by simp, fun h => absurd h (Nat.lt_irrefl 0)⟩, by simp, by simp, by simp⟩
  ·
   rw [if_pos rfl] at hmm
   subst hmm
   have hw0 : ∀ n ∈ DataW.weights P t (DataW.slice (H := H) ((List.range len).map D) ((List.range (m - len)).map fun j => D (len + j))), n ≤ reachBytes := hw
   have hww : ∀ i, i < len → ∀ n ∈ (D i).weights P e, n ≤ reachBytes := by
    intro i hi n hn
    refine hw0 n ?_
    simp only [DataW.weights, ht, List.mem_cons, List.mem_append]
    exact .inr (.inl (weightsAll_mem (List.mem_map.2 ⟨i, List.mem_range.2 hi, rfl⟩) n hn))
   have hB2 : len * B ≤ 140737488351232 := by
    have := hw0 ((len + (m - len)) * B) (by simp [DataW.weights, ht, hB])
    refine Nat.le_trans (Nat.mul_le_mul_right _ (by omega)) this
   have hx : ∀ i, i < len → ∃ y, ∃ c : List Value, c.length = d.sz ∧ d.K W y c ∧ wf y ∧ ∀ j u, c[j]? = some u → W.cell? (a.add (i * d.sz + j)) = some u := by
    intro i hi
    obtain ⟨cs', h1, h2⟩ := each i (by omega)
    obtain ⟨y, hy, hwy⟩ := h.2 H enc W n cs' _ h2 (hww i hi)
    obtain ⟨_, hlen, hcell⟩ := World.cells?_some h1
    rw [h.1] at hlen hcell
    refine ⟨y, cs', hlen, hy, hwy, fun j u hu => ?_⟩
    have hj : j < d.sz := by
     have := (List.getElem?_eq_some_iff.1 hu).1
     omega
    have := hcell j hj
    rw [add_add] at this
    exact this.trans hu
   obtain ⟨f, hf'⟩ := choose_lt hx
   refine ⟨(List.range len).map f, ⟨some a, m, by simp, by simpa using hl, by simp, by simp only [maxLen] at hm; simp; omega, fun _ => ⟨a, rfl, fun j p hj => ?_⟩⟩, ?_, ?_, ?_⟩
   ·
    rw [List.getElem?_map] at hj
    have hj' : j < len := by
     by_cases hjl : j < len
     ·
      exact hjl
     ·
      rw [List.getElem?_eq_none (by simp; omega)] at hj
      cases hj
    rw [List.getElem?_range hj'] at hj
    obtain rfl := Option.some.inj hj
    obtain ⟨c, h1, h2, _, h3⟩ := hf' j hj'
    exact ⟨c, h1, h2, h3⟩
   ·
    simp; omega
   ·
    simpa using hB2
   ·
    intro y hy
    obtain ⟨i, hi, rfl⟩ := List.mem_map.1 hy
    obtain ⟨c, _, _, h2, _⟩ := hf' i (List.mem_range.1 hi)
    exact h2⟩
def FOpn {α : Type} (P : Program) (fs : List Field) (off : Nat) (d : Kd α) (wf : α → Prop) : Prop :=
 ∀ (H : Type) (enc : TypeId × Value → H) (W : World) (fuel : Nat) (cs : List Value) (xs : List (DataW H × List MemPlace)),
  xs.length = fs.length → (∀ (i : Nat) (f : Field), fs[i]? = some f → DataW.trod enc P W 0 (fun _ => true) true fuel f.type ((cs.drop f.offset).take (P.cellsOf f.type)) = xs[i]?) →
  (∀ n ∈ DataW.weightsEach P (fs.map (·.type)) (xs.map (·.1)), n ≤ reachBytes) → ∃ y, d.K W y ((cs.drop off).take d.sz) ∧ wf y
theorem FOpn.one {α : Type} {P : Program} {f : Field} {off : Nat} {d : Kd α} {wf : α → Prop} (ho : f.offset = off) (h : Opn P f.type d wf) : FOpn P [f] off d wf := by
 intro H enc W fuel cs xs hl hx hw
 match xs, hl with
 | [x], _ =>
  have h0 := hx 0 f rfl
  rw [ho, h.1] at h0
  exact h.2 H enc W fuel _ x h0 (fun n hn => hw n (by simp only [List.map, DataW.weightsEach, List.mem_append]; exact .inl hn))
theorem FOpn.cons {α β : Type} {P : Program} {f : Field} {fs : List Field} {off : Nat} {d : Kd α} {d' : Kd β} {wf : α → Prop} {wf' : β → Prop} (ho : f.offset = off) (h : Opn P f.type d wf) (h' : FOpn P fs (off + d.sz) d' wf') :
  FOpn P (f :: fs) off (Kd.pair d d') (fun x => wf x.1 ∧ wf' x.2) := by
 intro H enc W fuel cs xs hl hx hw
 match xs, hl with
 | x :: xs, hl =>
  have h0 := hx 0 f rfl
  rw [ho, h.1] at h0
  have hw' : ∀ n ∈ x.1.weights P f.type ++ DataW.weightsEach P (fs.map (·.type)) (xs.map (·.1)), n ≤ reachBytes := hw
  obtain ⟨y, hy, hwy⟩ := h.2 H enc W fuel _ x h0 (fun n hn => hw' n (List.mem_append_left _ hn))
  obtain ⟨y', hy', hwy'⟩ := h' H enc W fuel cs xs (by simpa using hl) (fun i f' hf' => hx (i + 1) f' (by simpa using hf')) (fun n hn => hw' n (List.mem_append_right _ hn))
  refine ⟨(y, y'), ⟨_, _, ?_, hy, hy'⟩, hwy, hwy'⟩
  show (cs.drop off).take (d.sz + d'.sz) = _
  rw [List.take_add, List.drop_drop]
theorem par_weights {H : Type} {P : Program} {ts : List TypeId} {ds : List (DataW H)} {j : Nat} {t : TypeId} {d : DataW H} (h : (DataW.weightsEach P ts ds).all (· ≤ reachBytes) = true) (ht : ts[j]? = some t) (hd : ds[j]? = some d) :
  ∀ n ∈ d.weights P t, n ≤ reachBytes := fun n hn => of_decide_eq_true (List.all_eq_true.1 h n (DataW.weights_mem_each ht hd n hn))
theorem par_slice {α : Type} {H : Type} {enc : TypeId × Value → H} {P : Program} {W : World} {r : Reach} {b0 : Nat} {t e : TypeId} {d : Kd α} {wf : List α → Prop} {v : Value} {D : DataW H} {ps : List MemPlace}
  (ht : P.underlying t = some (.slice e)) (ho : Opn P t (Kd.slice e d) wf) (hv : Value.okWide P W r b0 t v) (hd : DataW.Trod enc P W 0 (fun _ => true) true t v D ps) (hw : ∀ n ∈ D.weights P t, n ≤ reachBytes) :
  ∃ (A : Option Addr) (l : List α) (c : Nat), v = .slice A l.length c ∧ l.length ≤ c ∧ d.C W A l.length l ∧ wf l := by
 obtain ⟨A, len, cap, rfl⟩ := okWide_slice ht hv
 obtain ⟨fuel, hf⟩ := hd
 obtain ⟨l, ⟨A', c, he, hl, hC⟩, hwl⟩ := ho.2 H enc W fuel _ _ hf hw
 have he' : [Value.slice A len cap] = [.slice A' l.length c] := he
 simp only [List.cons.injEq, Value.slice.injEq, and_true] at he'
 obtain ⟨rfl, rfl, rfl⟩ := he'
 exact ⟨_, l, _, rfl, hl, hC, hwl⟩
end Go.Proofs.YtojaeidabmfajaaW.Opens

namespace Go.Proofs.Ytojaeidabmfajaa.Pr
open Go.RowKit Go.Proofs.YtojaeidabmfajaaW.PrintWords Go.Proofs.YtojaeidabmfajaaW.PrintLast Go.Proofs.YtojaeidabmfajaaW.Opens
set_option linter.unusedVariables false
def wfL5 (l : List Int) : Prop := l.length ≤ maxLen ∧ l.length * 1 ≤ 140737488351232 ∧ ∀ y ∈ l, (Lit.int .u8 y).wf = true
theorem opnL47 : Opn Try.prog 47 (Kd.slice 5 (Kd.int .u8)) wfL5 := Opn.slice (0 : Int) (by kernel_rfl) Try.underlying47 (by kernel_rfl) (Opn.int (by kernel_rfl) Try.underlying5)
def FnSumps.Pure : Prop := ∀ (x0 : (List Int)), wfL5 x0 → ∃ k, laws_FnSumps.f k x0 = some true
end Go.Proofs.Ytojaeidabmfajaa.Pr

namespace Go.Proofs.Ytojaeidabmfajaa.Pr.Pure
open Go.RowKit Go.Proofs.YtojaeidabmfajaaW.PrintWords Go.Proofs.YtojaeidabmfajaaW.PrintLast Go.Proofs.YtojaeidabmfajaaW.PrintMore
set_option linter.unusedVariables false
set_option linter.unusedSimpArgs false
theorem w64 {x : Int} (h1 : -9223372036854775808 ≤ x) (h2 : x ≤ 9223372036854775807) : wrap64 x = x := by
 unfold wrap64
 omega
theorem getD_some {α : Type} (l : List α) (z : α) (i : Nat) (h : i < l.length) : l[i]? = some (l.getD i z) := by
 rw [List.getD_eq_getElem?_getD, List.getElem?_eq_getElem h]
 rfl
theorem obs {α β : Type} (a : α) (f : α → Option β) : (some a).bind f = f a := id (Option.bind_some a f)
theorem l1In_eq (a b c : Int) : spec_l1In.f a b c = some (decide (b ≤ a ∧ a ≤ c)) := by
 unfold spec_l1In.f
 by_cases h : a ≥ b
 ·
  rw [if_pos h]; simp [show b ≤ a from h]
 ·
  rw [if_neg h]; simp [show ¬ b ≤ a from h]
theorem within_eq (a b c : Int) : impl_within.f a b c = some (decide (b ≤ a ∧ a ≤ c)) := by
 unfold impl_within.f
 by_cases h : a ≥ b
 ·
  rw [if_pos h]; simp [show b ≤ a from h]
 ·
  rw [if_neg h]; simp [show ¬ b ≤ a from h]
theorem level_eq (a : Int) : spec_l23Level.f a = some (decide (-500 ≤ a ∧ a ≤ 500)) := by
 unfold spec_l23Level.f; rw [l1In_eq]; rfl
theorem isLevel_eq (a : Int) : impl_isLevel.f a = some (decide (-500 ≤ a ∧ a ≤ 500)) := by
 unfold impl_isLevel.f; rw [within_eq]; rfl
def Vr (l : List S54) (i : Int) : Prop := (0 ≤ (rd_T54 l i).f0 ∧ (rd_T54 l i).f0 ≤ 999) ∧ (-500 ≤ (rd_T54 l i).f1 ∧ (rd_T54 l i).f1 ≤ 500) ∧ (0 < i → (rd_T54 l (i - 1)).f0 < (rd_T54 l i).f0)
theorem good_spec (l : List S54) (hl : l.length ≤ 4611686018427387904) (d : Nat) : ∀ (k : Nat) (i : Int), 0 ≤ i → i + d = l.length → d < k →
  ∃ b, spec_l23Good.l0 k l i = some b ∧ (b = true ↔ (∀ j : Int, i ≤ j → j < l.length → Vr l j) ∧ l.length ≤ 15) := by
 induction d with
 | zero =>
  intro k i h0 hd hk
  obtain ⟨k, rfl⟩ : ∃ m, k = m + 1 := ⟨k - 1, by omega⟩
  refine ⟨_, by simp only [spec_l23Good.l0]; rw [if_neg (by omega)], ?_⟩
  rw [decide_eq_true_eq]
  constructor
  ·
   intro h
   exact ⟨fun j h1 h2 => by omega, by omega⟩
  ·
   intro h
   omega
 | succ d ih =>
  intro k i h0 hd hk
  obtain ⟨k, rfl⟩ : ∃ m, k = m + 1 := ⟨k - 1, by omega⟩
  obtain ⟨b, hb, hiff⟩ := ih k (i + 1) (by omega) (by omega) (by omega)
  have hw : wrap64 (i + 1) = i + 1 := w64 (by omega) (by omega)
  have hw' : wrap64 (i - 1) = i - 1 := w64 (by omega) (by omega)
  simp only [spec_l23Good.l0, l1In_eq, level_eq, Option.bind_some, decide_eq_true_eq, hw, hw']
  rw [if_pos (show i < (l.length : Int) by omega), if_pos h0]
  have hno : ¬ Vr l i → (false = true ↔ (∀ j : Int, i ≤ j → j < l.length → Vr l j) ∧ l.length ≤ 15) := fun hn => ⟨fun h => (by cases h), fun h => absurd (h.1 i (by omega) (by omega)) hn⟩
  have hyes : Vr l i → (b = true ↔ (∀ j : Int, i ≤ j → j < l.length → Vr l j) ∧ l.length ≤ 15) := fun hy => by
   rw [hiff]
   refine ⟨fun h => ⟨fun j h1 h2 => ?_, h.2⟩, fun h => ⟨fun j h1 h2 => h.1 j (by omega) h2, h.2⟩⟩
   by_cases e : j = i
   ·
    rw [e]; exact hy
   ·
    exact h.1 j (by omega) h2
  by_cases h1 : 0 ≤ (rd_T54 l i).f0 ∧ (rd_T54 l i).f0 ≤ 999
  ·
   rw [if_pos h1]
   by_cases h2 : -500 ≤ (rd_T54 l i).f1 ∧ (rd_T54 l i).f1 ≤ 500
   ·
    rw [if_pos h2]
    by_cases h3 : i > 0
    ·
     rw [if_pos h3, if_pos (by omega), if_pos (by omega)]
     by_cases h4 : (rd_T54 l (i - 1)).f0 ≥ (rd_T54 l i).f0
     ·
      rw [if_pos h4]
      exact ⟨_, rfl, hno (fun h => by have := h.2.2 h3; omega)⟩
     ·
      rw [if_neg h4]
      exact ⟨_, hb, hyes ⟨h1, h2, fun _ => by omega⟩⟩
    ·
     rw [if_neg h3]
     exact ⟨_, hb, hyes ⟨h1, h2, fun h => absurd h h3⟩⟩
   ·
    rw [if_neg h2]
    exact ⟨_, rfl, hno (fun h => h2 h.2.1)⟩
  ·
   rw [if_neg h1]
   exact ⟨_, rfl, hno (fun h => h1 h.1)⟩
theorem good_impl (l : List S54) : ∀ (k : Nat) (i : Int), impl_AreReadings.l0 k l l (l.length : Int) i = spec_l23Good.l0 k l i
 | 0, i => by simp only [impl_AreReadings.l0, spec_l23Good.l0]
 | k + 1, i => by
  simp only [impl_AreReadings.l0, spec_l23Good.l0, l1In_eq, level_eq, within_eq, isLevel_eq, good_impl l k]
  by_cases h1 : i < (l.length : Int)
  ·
   simp only [if_pos h1]
  ·
   simp only [if_neg h1]
theorem gcd_impl : ∀ (k : Nat) (a b : Int), b.natAbs < k → -9223372036854775807 ≤ a → a ≤ 9223372036854775807 → -9223372036854775807 ≤ b → b ≤ 9223372036854775807 → impl_gcd.l0 k a b = some (Int.gcd a b : Int)
 | 0, _, _, h, _, _, _, _ => by omega
 | k + 1, a, b, h, ha, ha', hb, hb' => by
  simp only [impl_gcd.l0]
  by_cases e : b = 0
  ·
   rw [if_pos e]
   subst e
   simp only [impl_absolute.f, Option.bind_some]
   rw [w64 (by omega) (by omega), Int.gcd_zero_right]
   unfold mx
   split <;> (congr 1; omega)
  ·
   rw [if_neg e]
   have hm : (Int.tmod a b).natAbs = a.natAbs % b.natAbs := Int.natAbs_tmod a b
   have hlt : a.natAbs % b.natAbs < b.natAbs := Nat.mod_lt _ (by omega)
   rw [gcd_impl k b (Int.tmod a b) (by omega) hb hb' (by omega) (by omega)]
   congr 2
   rw [Int.gcd_comm a b]
   show Nat.gcd b.natAbs (Int.tmod a b).natAbs = Nat.gcd b.natAbs a.natAbs
   rw [hm, Nat.gcd_comm, ← Nat.gcd_rec]
theorem gcd_spec : ∀ (k : Nat) (a b : Int), b.toNat < k → 0 ≤ a → 0 ≤ b → spec_l23Common.l0 k a b = some (Int.gcd a b : Int)
 | 0, _, _, h, _, _ => by omega
 | k + 1, a, b, h, ha, hb => by
  simp only [spec_l23Common.l0]
  by_cases e : b > 0
  ·
   rw [if_pos e, if_neg (by omega)]
   have h1 : 0 ≤ Int.tmod a b := Int.tmod_nonneg b ha
   have h2 : Int.tmod a b < b := Int.tmod_lt_of_pos a e
   rw [gcd_spec k b (Int.tmod a b) (by omega) hb h1]
   congr 2
   rw [Int.gcd_comm a b]
   show Nat.gcd b.natAbs (Int.tmod a b).natAbs = Nat.gcd b.natAbs a.natAbs
   rw [Int.natAbs_tmod, Nat.gcd_comm, ← Nat.gcd_rec]
  ·
   rw [if_neg e]
   obtain rfl : b = 0 := by omega
   rw [Int.gcd_zero_right]
   congr 1
   omega
def red (a b : Int) : Int × Int := (Int.tdiv a (Int.gcd a b), Int.tdiv b (Int.gcd a b))
theorem tdiv_bd (a : Int) (g : Int) (hg : 1 ≤ g) {B : Int} (h1 : -B ≤ a) (h2 : a ≤ B) : -B ≤ Int.tdiv a g ∧ Int.tdiv a g ≤ B := by
 have h3 : (Int.tdiv a g).natAbs ≤ a.natAbs := by
  rw [Int.natAbs_tdiv]
  exact Nat.div_le_self _ _
 omega
theorem red_impl {k : Nat} {a b : Int} (hk : b.natAbs < k) (ha : -1000000000000 ≤ a) (ha' : a ≤ 1000000000000) (hb : 1 ≤ b) (hb' : b ≤ 1000000000000) : impl_reduced.f k a b = some (red a b) := by
 have hg : 1 ≤ (Int.gcd a b : Int) := by
  have : 0 < Int.gcd a b := Int.gcd_pos_of_ne_zero_right a (by omega)
  omega
 have h1 := tdiv_bd a _ hg ha ha'
 have h2 := tdiv_bd b _ hg (B := 1000000000000) (by omega) hb'
 unfold impl_reduced.f impl_gcd.f
 rw [gcd_impl k a b hk (by omega) (by omega) (by omega) (by omega)]
 simp only [Option.bind_some]
 rw [if_neg (by omega), w64 (by omega) (by omega), w64 (by omega) (by omega)]
 rfl
theorem red_spec {k : Nat} {a b : Int} (hk : b.natAbs < k) (ha : -1000000000000 ≤ a) (ha' : a ≤ 1000000000000) (hb : 1 ≤ b) (hb' : b ≤ 1000000000000) : spec_l23Reduce.f k a b = some (red a b) := by
 have hg : 1 ≤ (Int.gcd a b : Int) := by
  have : 0 < Int.gcd a b := Int.gcd_pos_of_ne_zero_right a (by omega)
  omega
 have h1 := tdiv_bd a _ hg ha ha'
 have h2 := tdiv_bd b _ hg (B := 1000000000000) (by omega) hb'
 have hm : spec_l1Most.f a (wrap64 (-a)) = some (a.natAbs : Int) := by
  unfold spec_l1Most.f
  rw [w64 (by omega) (by omega)]
  split <;> (congr 1; omega)
 unfold spec_l23Reduce.f spec_l23Common.f
 rw [hm]
 simp only [Option.bind_some]
 rw [gcd_spec k _ b (by omega) (by omega) (by omega)]
 have e : Int.gcd (a.natAbs : Int) b = Int.gcd a b := by
  show Nat.gcd (a.natAbs : Int).natAbs b.natAbs = Nat.gcd a.natAbs b.natAbs
  rw [Int.natAbs_natCast]
 rw [e]
 simp only [Option.bind_some]
 rw [if_neg (by omega), w64 (by omega) (by omega), w64 (by omega) (by omega)]
 rfl
def Good (l : List S54) : Prop := (∀ j : Int, 0 ≤ j → j < l.length → Vr l j) ∧ l.length ≤ 15
theorem Good.mono {l : List S54} (h : Good l) (d : Nat) : ∀ i j : Int, 0 ≤ i → i + d = j → j < l.length → (rd_T54 l i).f0 + d ≤ (rd_T54 l j).f0 := by
 induction d with
 | zero =>
  intro i j h0 hd hj
  obtain rfl : i = j := by omega
  omega
 | succ d ih =>
  intro i j h0 hd hj
  have h1 := ih i (j - 1) h0 (by omega) (by omega)
  have h2 := (h.1 j (by omega) hj).2.2 (by omega)
  omega
def levelAt (l : List S54) (hour : Int) (i : Int) : Int × Int :=
 if (rd_T54 l i).f0 = hour then ((rd_T54 l i).f1, 1)
 else red ((rd_T54 l (i - 1)).f1 * ((rd_T54 l i).f0 - hour) + (rd_T54 l i).f1 * (hour - (rd_T54 l (i - 1)).f0)) ((rd_T54 l i).f0 - (rd_T54 l (i - 1)).f0)
def First (l : List S54) (hour : Int) (i : Int) : Prop := 0 ≤ i ∧ i < l.length ∧ hour ≤ (rd_T54 l i).f0 ∧ (0 < i → (rd_T54 l (i - 1)).f0 < hour)
theorem prod_bd {a b : Int} (h1 : -500 ≤ a) (h2 : a ≤ 500) (h3 : 0 ≤ b) (h4 : b ≤ 999) : -499500 ≤ a * b ∧ a * b ≤ 499500 := by
 constructor
 ·
  have : (-500) * b ≤ a * b := Int.mul_le_mul_of_nonneg_right h1 h3
  omega
 ·
  have : a * b ≤ 500 * b := Int.mul_le_mul_of_nonneg_right h2 h3
  omega
theorem in_spec {l : List S54} (hg : Good l) {hour n : Int} (hn : First l hour n) (hf : (rd_T54 l 0).f0 ≤ hour) (d : Nat) : ∀ (k : Nat) (i : Int), 0 ≤ i → i + d = n → d + 1001 < k →
  spec_l23In.l0 k l hour i = some (levelAt l hour n) := by
 obtain ⟨n0, n1, n2, n3⟩ := hn
 induction d with
 | zero =>
  intro k i h0 hd hk
  obtain ⟨k, rfl⟩ : ∃ m, k = m + 1 := ⟨k - 1, by omega⟩
  obtain rfl : i = n := by omega
  have hl := hg.2
  simp only [spec_l23In.l0]
  rw [if_pos h0, if_pos n1, if_neg (by omega)]
  unfold levelAt
  by_cases e : (rd_T54 l i).f0 = hour
  ·
   rw [if_pos e, if_pos e]
  ·
   have hi : 0 < i := by
    rcases Int.lt_or_le 0 i with h | h
    ·
     exact h
    ·
     obtain rfl : i = 0 := by omega
     omega
   obtain ⟨⟨v1, v2⟩, ⟨v3, v4⟩, v5⟩ := hg.1 i h0 n1
   obtain ⟨⟨u1, u2⟩, ⟨u3, u4⟩, _⟩ := hg.1 (i - 1) (by omega) (by omega)
   have hp := n3 hi
   have b1 := prod_bd u3 u4 (b := (rd_T54 l i).f0 - hour) (by omega) (by omega)
   have b2 := prod_bd v3 v4 (b := hour - (rd_T54 l (i - 1)).f0) (by omega) (by omega)
   rw [if_neg e, if_neg e, w64 (x := i - 1) (by omega) (by omega), if_pos (by omega), if_pos (by omega)]
   rw [w64 (x := (rd_T54 l i).f0 - hour) (by omega) (by omega), w64 (x := hour - (rd_T54 l (i - 1)).f0) (by omega) (by omega), w64 (x := (rd_T54 l (i - 1)).f1 * _) (by omega) (by omega), w64 (x := (rd_T54 l i).f1 * _) (by omega) (by omega), w64 (by omega) (by omega), w64 (by omega) (by omega)]
   rw [red_spec (by omega) (by omega) (by omega) (by omega) (by omega)]
   rfl
 | succ d ih =>
  intro k i h0 hd hk
  obtain ⟨k, rfl⟩ : ∃ m, k = m + 1 := ⟨k - 1, by omega⟩
  have hl := hg.2
  have hm := Good.mono hg d i (n - 1) h0 (by omega) (by omega)
  have hp := n3 (by omega)
  simp only [spec_l23In.l0]
  rw [if_pos h0, if_pos (by omega), if_pos (by omega), w64 (x := i + 1) (by omega) (by omega)]
  exact ih k (i + 1) (by omega) (by omega) (by omega)
theorem in_impl {l : List S54} (hg : Good l) {hour n : Int} (hn : First l hour n) (hf : (rd_T54 l 0).f0 ≤ hour) (d : Nat) : ∀ (k : Nat) (i : Int), 0 ≤ i → (rd_T54 l i).f0 ≤ hour → i + d = n → d + 1001 < k →
  impl_levelIn.l0 k l hour i = some (levelAt l hour n) := by
 obtain ⟨n0, n1, n2, n3⟩ := hn
 have hl := hg.2
 induction d with
 | zero =>
  intro k i h0 hle hd hk
  obtain ⟨k, rfl⟩ : ∃ m, k = m + 1 := ⟨k - 1, by omega⟩
  obtain rfl : i = n := by omega
  have e : (rd_T54 l i).f0 = hour := by omega
  simp only [impl_levelIn.l0]
  rw [w64 (x := i + 1) (by omega) (by omega)]
  unfold levelAt
  by_cases h1 : i + 1 < (l.length : Int)
  ·
   have := (hg.1 (i + 1) (by omega) h1).2.2 (by omega)
   rw [show i + 1 - 1 = i by omega] at this
   rw [if_pos h1, if_pos (by omega), if_neg (by omega), if_pos h0, if_pos n1, if_pos e, if_pos e]
  ·
   rw [if_neg h1, if_pos h0, if_pos n1, if_pos e, if_pos e]
 | succ d ih =>
  intro k i h0 hle hd hk
  obtain ⟨k, rfl⟩ : ∃ m, k = m + 1 := ⟨k - 1, by omega⟩
  simp only [impl_levelIn.l0]
  rw [w64 (x := i + 1) (by omega) (by omega), if_pos (by omega), if_pos (by omega)]
  by_cases h1 : (rd_T54 l (i + 1)).f0 ≤ hour
  ·
   rw [if_pos h1]
   exact ih k (i + 1) (by omega) h1 (by omega) (by omega)
  ·
   have hd0 : d = 0 := by
    rcases Nat.eq_zero_or_pos d with h | h
    ·
     exact h
    ·
     have hm := Good.mono hg (d - 1) (i + 1) (n - 1) (by omega) (by omega) (by omega)
     have hp := n3 (by omega)
     omega
   subst hd0
   obtain rfl : n = i + 1 := by omega
   have hp := n3 (by omega)
   rw [show i + 1 - 1 = i by omega] at hp
   unfold levelAt
   rw [show i + 1 - 1 = i by omega]
   obtain ⟨⟨v1, v2⟩, ⟨v3, v4⟩, v5⟩ := hg.1 (i + 1) (by omega) n1
   obtain ⟨⟨u1, u2⟩, ⟨u3, u4⟩, _⟩ := hg.1 i (by omega) (by omega)
   have b1 := prod_bd u3 u4 (b := (rd_T54 l (i + 1)).f0 - hour) (by omega) (by omega)
   have b2 := prod_bd v3 v4 (b := hour - (rd_T54 l i).f0) (by omega) (by omega)
   rw [if_neg h1, if_pos h0, if_pos (by omega), if_neg (by omega), if_neg (by omega)]
   rw [w64 (x := (rd_T54 l (i + 1)).f0 - hour) (by omega) (by omega), w64 (x := hour - (rd_T54 l i).f0) (by omega) (by omega), w64 (x := (rd_T54 l i).f1 * _) (by omega) (by omega), w64 (x := (rd_T54 l (i + 1)).f1 * _) (by omega) (by omega), w64 (by omega) (by omega), w64 (by omega) (by omega)]
   rw [red_impl (by omega) (by omega) (by omega) (by omega) (by omega)]
   rfl
theorem first_ex {l : List S54} {hour : Int} (h2 : hour ≤ (rd_T54 l ((l.length : Int) - 1)).f0) (d : Nat) : ∀ i : Int, 0 ≤ i → i + d + 1 = l.length → (0 < i → (rd_T54 l (i - 1)).f0 < hour) → ∃ n, First l hour n := by
 induction d with
 | zero =>
  intro i h0 hd h3
  refine ⟨i, h0, by omega, ?_, h3⟩
  rw [show i = (l.length : Int) - 1 by omega]
  exact h2
 | succ d ih =>
  intro i h0 hd h3
  by_cases h4 : hour ≤ (rd_T54 l i).f0
  ·
   exact ⟨i, h0, by omega, h4, h3⟩
  ·
   exact ih (i + 1) (by omega) (by omega) (fun _ => by rw [show i + 1 - 1 = i by omega]; omega)
theorem sump_eq (a b c : Int) : impl_isSump.f a b c = spec_l23Sump.f a b c := by
 unfold impl_isSump.f spec_l23Sump.f impl_isStation.f spec_l4Station.f
 simp only [within_eq, l1In_eq, level_eq, isLevel_eq, Option.bind_some, decide_eq_true_eq]
 by_cases h1 : 0 ≤ a ∧ a ≤ 7
 ·
  rw [if_pos h1, if_pos h1]
  by_cases h2 : -500 ≤ b ∧ b ≤ 500
  ·
   rw [if_pos h2, if_pos h2]
   by_cases h3 : -500 ≤ c ∧ c ≤ 500
   ·
    rw [if_pos h3]
    congr 1
    simp [h3.1]
   ·
    rw [if_neg h3]
    congr 1
    symm
    rw [decide_eq_false_iff_not]
    omega
  ·
   rw [if_neg h2, if_neg h2]
 ·
  rw [if_neg h1, if_neg h1]
def SumpOk (a b c : Int) : Prop := (0 ≤ a ∧ a ≤ 7) ∧ (-500 ≤ b ∧ b ≤ 500) ∧ (-500 ≤ c ∧ c ≤ b)
theorem sump_spec (a b c : Int) : ∃ r, spec_l23Sump.f a b c = some r ∧ (r = true ↔ SumpOk a b c) := by
 unfold spec_l23Sump.f spec_l4Station.f SumpOk
 simp only [l1In_eq, level_eq, Option.bind_some, decide_eq_true_eq]
 by_cases h1 : 0 ≤ a ∧ a ≤ 7
 ·
  rw [if_pos h1]
  by_cases h2 : -500 ≤ b ∧ b ≤ 500
  ·
   rw [if_pos h2]
   exact ⟨_, rfl, by simp [h1, h2]⟩
  ·
   rw [if_neg h2]
   exact ⟨_, rfl, by simp; intro _ _ h3 h4; exact absurd ⟨h3, h4⟩ h2⟩
 ·
  rw [if_neg h1]
  exact ⟨_, rfl, by simp; intro h3 h4; exact absurd ⟨h3, h4⟩ h1⟩
theorem within_spec {l : List S54} (hl : l.length ≤ 4611686018427387904) {k : Nat} (hk : l.length < k) (hour : Int) :
  ∃ b, spec_l23Within.f k l hour = some b ∧ (b = true ↔ Good l ∧ 0 < l.length ∧ (rd_T54 l 0).f0 ≤ hour ∧ hour ≤ (rd_T54 l ((l.length : Int) - 1)).f0) := by
 obtain ⟨b, hb, hi⟩ := good_spec l hl l.length k 0 (by omega) (by omega) hk
 unfold spec_l23Within.f spec_l23Good.f
 rw [hb]
 simp only [Option.bind_some, l1In_eq]
 cases b with
 | false =>
  refine ⟨false, by rw [if_neg (by decide)], ?_⟩
  simp only [Bool.false_eq_true, false_iff]
  intro h
  exact absurd (hi.2 h.1) (by decide)
 | true =>
  have hg : Good l := hi.1 rfl
  rw [if_pos rfl]
  by_cases h : (l.length : Int) > 0
  ·
   rw [if_pos h, if_pos h, w64 (by omega) (by omega), if_pos (by omega), if_pos (by omega)]
   refine ⟨_, rfl, ?_⟩
   rw [decide_eq_true_eq]
   exact ⟨fun h' => ⟨hg, by omega, h'.1, h'.2⟩, fun h' => ⟨h'.2.2.1, h'.2.2.2⟩⟩
  ·
   rw [if_neg h]
   refine ⟨false, rfl, ?_⟩
   simp only [Bool.false_eq_true, false_iff]
   intro h'
   omega
theorem within_impl {l : List S54} (hl : l.length ≤ 4611686018427387904) {k : Nat} (hk : l.length < k) (hour : Int) : impl_hasHour.f k l hour = spec_l23Within.f k l hour := by
 obtain ⟨b, hb, hi⟩ := good_spec l hl l.length k 0 (by omega) (by omega) hk
 unfold spec_l23Within.f spec_l23Good.f impl_hasHour.f impl_AreReadings.f impl_hours.f
 rw [good_impl, hb]
 by_cases h : (l.length : Int) = 0
 ·
  rw [if_pos h]
  simp only [Option.bind_some, l1In_eq, within_eq]
  rw [if_neg (show ¬ (l.length : Int) > 0 by omega)]
  cases b
  ·
   rw [if_neg (by decide), if_neg (by decide)]
  ·
   rw [if_pos rfl, if_pos rfl]
   congr 1
   rw [decide_eq_false_iff_not]
   omega
 ·
  rw [if_neg h, if_pos (by omega), w64 (by omega) (by omega), if_pos (by omega), if_pos (by omega)]
  have c1 : (l.length : Int) > 0 := by omega
  have c2 : 0 ≤ (l.length : Int) - 1 := by omega
  have c3 : (l.length : Int) - 1 < (l.length : Int) := by omega
  simp only [Option.bind_some, l1In_eq, within_eq, if_pos c1, if_pos c2, if_pos c3]
theorem open_fn {l : List S54} (hg : Good l) {hour : Int} (h0 : 0 < l.length) (h1 : (rd_T54 l 0).f0 ≤ hour) (h2 : hour ≤ (rd_T54 l ((l.length : Int) - 1)).f0) :
  ∃ F : Int → Int → Int → Bool, ∀ (k : Nat), 1020 < k → ∀ a b c, spec_l23Open.f k l a b c hour = some (F a b c) ∧ impl_Sump_open.f k a b c l hour = some (F a b c) := by
 obtain ⟨n, hn⟩ := first_ex h2 (l.length - 1) 0 (by omega) (by omega) (fun h => by omega)
 have hl := hg.2
 have hn0 := hn.1
 have hn1 := hn.2.1
 refine ⟨fun a b c => decide ((levelAt l hour n).1 ≤ wrap64 (c * (levelAt l hour n).2)), fun k hk a b c => ?_⟩
 have e1 := in_spec hg hn h1 n.toNat k 0 (by omega) (by omega) (by omega)
 have e2 := in_impl hg hn h1 n.toNat k 0 (by omega) h1 (by omega) (by omega)
 unfold spec_l23Open.f impl_Sump_open.f spec_l23In.f impl_levelIn.f
 rw [e1, e2]
 exact ⟨rfl, rfl⟩
def Vs (l : List S30) (i : Int) : Prop := SumpOk (rd_T30 l i).f0 (rd_T30 l i).f1 (rd_T30 l i).f2 ∧ (0 < i → (rd_T30 l (i - 1)).f0 < (rd_T30 l i).f0)
theorem sumps_spec (l : List S30) (hl : l.length ≤ 4611686018427387904) (d : Nat) : ∀ (k : Nat) (i : Int), 0 ≤ i → i + d = l.length → d < k →
  ∃ b, spec_l23Sumps.l0 k l i = some b ∧ (b = true ↔ ∀ j : Int, i ≤ j → j < l.length → Vs l j) := by
 induction d with
 | zero =>
  intro k i h0 hd hk
  obtain ⟨k, rfl⟩ : ∃ m, k = m + 1 := ⟨k - 1, by omega⟩
  refine ⟨true, by simp only [spec_l23Sumps.l0]; rw [if_neg (by omega)], ?_⟩
  exact ⟨fun _ j h1 h2 => by omega, fun _ => rfl⟩
 | succ d ih =>
  intro k i h0 hd hk
  obtain ⟨k, rfl⟩ : ∃ m, k = m + 1 := ⟨k - 1, by omega⟩
  obtain ⟨b, hb, hiff⟩ := ih k (i + 1) (by omega) (by omega) (by omega)
  have hw : wrap64 (i + 1) = i + 1 := w64 (by omega) (by omega)
  have hw' : wrap64 (i - 1) = i - 1 := w64 (by omega) (by omega)
  obtain ⟨y, hy, hyi⟩ := sump_spec (rd_T30 l i).f0 (rd_T30 l i).f1 (rd_T30 l i).f2
  simp only [spec_l23Sumps.l0, hy, Option.bind_some, hw, hw']
  rw [if_pos (show i < (l.length : Int) by omega), if_pos h0]
  have hno : ¬ Vs l i → (false = true ↔ ∀ j : Int, i ≤ j → j < l.length → Vs l j) := fun hn => ⟨fun h => (by cases h), fun h => absurd (h i (by omega) (by omega)) hn⟩
  have hyes : Vs l i → (b = true ↔ ∀ j : Int, i ≤ j → j < l.length → Vs l j) := fun hy => by
   rw [hiff]
   refine ⟨fun h => fun j h1 h2 => ?_, fun h => fun j h1 h2 => h j (by omega) h2⟩
   by_cases e : j = i
   ·
    rw [e]; exact hy
   ·
    exact h j (by omega) h2
  cases y with
  | false =>
   rw [if_neg (by decide)]
   exact ⟨_, rfl, hno (fun h => by have := hyi.2 h.1; cases this)⟩
  | true =>
   rw [if_pos rfl]
   have h1 := hyi.1 rfl
   by_cases h3 : i > 0
   ·
    rw [if_pos h3, if_pos (by omega), if_pos (by omega)]
    by_cases h4 : (rd_T30 l (i - 1)).f0 ≥ (rd_T30 l i).f0
    ·
     rw [if_pos h4]
     exact ⟨_, rfl, hno (fun h => by have := h.2 h3; omega)⟩
    ·
     rw [if_neg h4]
     exact ⟨_, hb, hyes ⟨h1, fun _ => by omega⟩⟩
   ·
    rw [if_neg h3]
    exact ⟨_, hb, hyes ⟨h1, fun h => absurd h h3⟩⟩
theorem sumps_impl (l : List S30) : ∀ (k : Nat) (i : Int), impl_AreSumps.l0 k l l (l.length : Int) i = spec_l23Sumps.l0 k l i
 | 0, i => by simp only [impl_AreSumps.l0, spec_l23Sumps.l0]
 | k + 1, i => by
  simp only [impl_AreSumps.l0, spec_l23Sumps.l0, sump_eq, sumps_impl l k]
  by_cases h1 : i < (l.length : Int)
  ·
   simp only [if_pos h1]
  ·
   simp only [if_neg h1]
def Sumps (l : List S30) : Prop := ∀ j : Int, 0 ≤ j → j < l.length → Vs l j
theorem areSumps {l : List S30} (hl : l.length ≤ 4611686018427387904) {k : Nat} (hk : l.length < k) : ∃ b, spec_l23Sumps.f k l = some b ∧ impl_AreSumps.f k l = some b ∧ (b = true ↔ Sumps l) := by
 obtain ⟨b, hb, hi⟩ := sumps_spec l hl l.length k 0 (by omega) (by omega) hk
 exact ⟨b, hb, (sumps_impl l k 0).trans hb, hi⟩
def closedOf (F : Int → Int → Int → Bool) (s : List S30) : List Int := (s.filter fun x => !F x.f0 x.f1 x.f2).map (·.f0)
theorem closedOf_cons (F : Int → Int → Int → Bool) (x : S30) (s : List S30) : closedOf F (x :: s) = if F x.f0 x.f1 x.f2 = true then closedOf F s else x.f0 :: closedOf F s := by
 unfold closedOf
 cases h : F x.f0 x.f1 x.f2
 ·
  simp [List.filter_cons, h]
 ·
  simp [List.filter_cons, h]
theorem closedOf_len (F : Int → Int → Int → Bool) (s : List S30) : (closedOf F s).length ≤ s.length := by
 unfold closedOf
 rw [List.length_map]
 exact List.length_filter_le _ _
theorem drop_rd (s : List S30) (i : Nat) (h : i < s.length) : s.drop i = rd_T30 s (i : Int) :: s.drop (i + 1) := by
 rw [List.drop_eq_getElem_cons h]
 congr 1
 show _ = s.getD (i : Int).toNat _
 rw [Int.toNat_natCast, List.getD_eq_getElem?_getD, List.getElem?_eq_getElem h]
 rfl
theorem closed_l0 {l : List S54} {hour : Int} {F : Int → Int → Int → Bool} (hF : ∀ (k : Nat), 1020 < k → ∀ a b c, spec_l23Open.f k l a b c hour = some (F a b c) ∧ impl_Sump_open.f k a b c l hour = some (F a b c))
  (s : List S30) (hs : s.length ≤ 17592186044416) (d : Nat) : ∀ (k i : Nat) (acc : List Int), i + d = s.length → d + 1020 < k → acc.length ≤ i →
  spec_l23Closed.l0 k l s hour acc i = some (acc ++ closedOf F (s.drop i)) ∧ impl_ClosedSumps.l0 k l hour acc s (s.length : Int) i = some (acc ++ closedOf F (s.drop i), true) := by
 induction d with
 | zero =>
  intro k i acc hd hk ha
  obtain ⟨k, rfl⟩ : ∃ m, k = m + 1 := ⟨k - 1, by omega⟩
  simp only [spec_l23Closed.l0, impl_ClosedSumps.l0]
  rw [if_neg (by omega), if_neg (by omega), List.drop_eq_nil_of_le (by omega)]
  simp [closedOf]
 | succ d ih =>
  intro k i acc hd hk ha
  obtain ⟨k, rfl⟩ : ∃ m, k = m + 1 := ⟨k - 1, by omega⟩
  simp only [spec_l23Closed.l0, impl_ClosedSumps.l0]
  obtain ⟨e1, e2⟩ := hF k (by omega) (rd_T30 s (i : Int)).f0 (rd_T30 s (i : Int)).f1 (rd_T30 s (i : Int)).f2
  have c1 : (i : Int) < (s.length : Int) := by omega
  have c2 : (0 : Int) ≤ (i : Int) := by omega
  have c3 : acc.length < 17592186044416 := by omega
  rw [e1, e2, w64 (by omega) (by omega), drop_rd s i (by omega), closedOf_cons]
  simp only [Option.bind_some, if_pos c1, if_pos c2, if_pos c3]
  cases hq : F (rd_T30 s (i : Int)).f0 (rd_T30 s (i : Int)).f1 (rd_T30 s (i : Int)).f2 with
  | true =>
   simp only [if_true]
   exact ih k (i + 1) acc (by omega) (by omega) (by omega)
  | false =>
   simp only [Bool.false_eq_true, if_false]
   have := ih k (i + 1) (acc ++ [(rd_T30 s (i : Int)).f0]) (by omega) (by omega) (by simp; omega)
   simpa using this
theorem closed_both {l : List S54} (hl : l.length ≤ 4611686018427387904) {s : List S30} (hs : s.length ≤ 17592186044416) {k : Nat} (hk : l.length + s.length + 1030 < k) (hour : Int) :
  ∃ r b, spec_ClosedSumps.f k l s hour = some (r, b) ∧ impl_ClosedSumps.f k l s hour = some (r, b) ∧ r.length ≤ s.length := by
 unfold spec_ClosedSumps.f impl_ClosedSumps.f
 rw [within_impl hl (by omega)]
 obtain ⟨x, hx, hxi⟩ := within_spec hl (k := k) (by omega) hour
 obtain ⟨y, hy, hy', hyi⟩ := areSumps (l := s) (by omega) (k := k) (by omega)
 rw [hx, hy, hy']
 obtain ⟨k', rfl⟩ : ∃ m, k = m + 1 := ⟨k - 1, by omega⟩
 simp only [Option.bind_some]
 cases x with
 | false => exact ⟨[], false, rfl, by simp [impl_ClosedSumps.j0], by simp⟩
 | true =>
  cases y with
  | false => exact ⟨[], false, rfl, by simp [impl_ClosedSumps.j0], by simp⟩
  | true =>
   obtain ⟨hg, h0, h1, h2⟩ := hxi.1 rfl
   obtain ⟨F, hF⟩ := open_fn hg h0 h1 h2
   have e1 := (closed_l0 hF s hs s.length (k' + 1) 0 [] (by omega) (by omega) (by simp)).1
   have e2 := (closed_l0 hF s hs s.length k' 0 [] (by omega) (by omega) (by simp)).2
   refine ⟨closedOf F s, true, ?_, ?_, closedOf_len F s⟩
   ·
    unfold spec_l23Closed.f
    rw [if_pos rfl, if_pos rfl]
    rw [show ((0 : Nat) : Int) = 0 from rfl] at e1
    rw [e1]
    simp
   ·
    rw [if_pos rfl]
    simp only [impl_ClosedSumps.j0, Bool.not_true, Bool.false_eq_true, if_false]
    rw [show ((0 : Nat) : Int) = 0 from rfl] at e2
    rw [e2]
    simp
end Go.Proofs.Ytojaeidabmfajaa.Pr.Pure

namespace Go.Proofs.Ytojaeidabmfajaa.Pr.Pure
open Go.RowKit Go.Proofs.YtojaeidabmfajaaW.PrintWords Go.Proofs.YtojaeidabmfajaaW.PrintLast Go.Proofs.YtojaeidabmfajaaW.PrintMore
set_option linter.unusedVariables false
theorem first_at {l : List S54} (hg : Good l) {i : Int} (h0 : 0 ≤ i) (h1 : i < l.length) : First l (rd_T54 l i).f0 i :=
 ⟨h0, h1, Int.le_refl _, fun h => (hg.1 i h0 h1).2.2 h⟩
def runF (p : Int → Bool) (c : Int) : Nat → Int → Int → Option Int
 | 0, _, _ => none
 | n + 1, x, run => if p x = true then (if run + 1 = c then some (x - c + 1) else runF p c n (x + 1) (run + 1)) else runF p c n (x + 1) 0
theorem spansB_ext (p : Int → Bool) : ∀ (n : Nat) (x : Int) (Q : List (Int × Int)) (a b : Int) (T : List (Int × Int)), ∃ y U, b ≤ y ∧ spansB p n x (Q ++ (a, b) :: T) = Q ++ (a, y) :: U := by
 intro n
 induction n with
 | zero => intro x Q a b T; exact ⟨b, T, Int.le_refl _, rfl⟩
 | succ n ih =>
  intro x Q a b T
  unfold spansB
  by_cases h : p x = true
  ·
   rw [if_pos h]
   rcases List.eq_nil_or_concat T with rfl | ⟨T', s, rfl⟩
   ·
    by_cases e : b = x - 1
    ·
     subst e
     rw [stepS_ext]
     obtain ⟨y, U, h1, h2⟩ := ih (x + 1) Q a x []
     exact ⟨y, U, by omega, h2⟩
    ·
     rw [stepS_new _ _ (fun s hs => by rw [List.getLast?_concat] at hs; obtain rfl := Option.some.inj hs; exact e)]
     rw [List.append_assoc]
     exact ih (x + 1) Q a b [(x, x)]
   ·
    have e1 : Q ++ (a, b) :: T'.concat s = (Q ++ (a, b) :: T') ++ [s] := by simp
    rw [e1]
    by_cases e : s.2 = x - 1
    ·
     obtain ⟨s1, s2⟩ := s
     simp only at e
     subst e
     rw [stepS_ext, List.append_assoc, List.cons_append]
     exact ih (x + 1) Q a b _
    ·
     rw [stepS_new _ _ (fun s' hs => by rw [List.getLast?_concat] at hs; obtain rfl := Option.some.inj hs; exact e)]
     rw [List.append_assoc, List.append_assoc, List.cons_append]
     exact ih (x + 1) Q a b _
  ·
   rw [if_neg h]
   exact ih (x + 1) Q a b T
theorem find_ext (p : Int → Bool) (c : Int) (n : Nat) (x : Int) (Q : List (Int × Int)) (a b : Int) (hQ : ∀ s ∈ Q, s.2 - s.1 + 1 < c) (hb : c ≤ b - a + 1) : ((spansB p n x (Q ++ [(a, b)])).find? (fun s => decide (c ≤ s.2 - s.1 + 1))).map (·.1) = some a := by
 obtain ⟨y, U, h1, h2⟩ := spansB_ext p n x Q a b []
 rw [h2, List.find?_append]
 have : Q.find? (fun s => decide (c ≤ s.2 - s.1 + 1)) = none := by
  rw [List.find?_eq_none]
  intro s hs
  have := hQ s hs
  simp only [decide_eq_true_eq]
  omega
 rw [this]
 simp only [Option.none_or]
 rw [List.find?_cons_of_pos (by simp only [decide_eq_true_eq]; omega)]
 rfl
theorem find_run (p : Int → Bool) (c : Int) (hc : 1 ≤ c) : ∀ (n : Nat) (x run : Int) (acc : List (Int × Int)), (∀ s ∈ acc, s.2 - s.1 + 1 < c ∧ s.2 < x) → run < c → ((run = 0 ∧ ∀ s ∈ acc, s.2 ≠ x - 1) ∨ (0 < run ∧ ∃ Q, acc = Q ++ [(x - run, x - 1)])) →
  ((spansB p n x acc).find? (fun s => decide (c ≤ s.2 - s.1 + 1))).map (·.1) = runF p c n x run := by
 intro n
 induction n with
 | zero =>
  intro x run acc h hr hrel
  unfold spansB runF
  rw [List.find?_eq_none.2 (fun s hs => by have := (h s hs).1; simp only [decide_eq_true_eq]; omega)]
  rfl
 | succ n ih =>
  intro x run acc h hr hrel
  unfold spansB runF
  by_cases hp : p x = true
  ·
   rw [if_pos hp, if_pos hp]
   rcases hrel with ⟨rfl, hl⟩ | ⟨hr0, Q, rfl⟩
   ·
    rw [stepS_new _ _ (fun s hs => hl s (List.mem_of_getLast? hs))]
    by_cases e : (0 : Int) + 1 = c
    ·
     rw [if_pos e, find_ext p c n (x + 1) acc x x (fun s hs => (h s hs).1) (by omega)]
     congr 1
     omega
    ·
     rw [if_neg e]
     refine ih (x + 1) (0 + 1) _ (fun s hs => ?_) (by omega) (.inr ⟨by omega, acc, ?_⟩)
     ·
      rcases List.mem_append.1 hs with hs | hs
      ·
       have := h s hs
       exact ⟨this.1, by omega⟩
      ·
       obtain rfl := List.mem_singleton.1 hs
       constructor <;> simp only <;> omega
     ·
      rw [show x + 1 - (0 + 1) = x by omega, show x + 1 - 1 = x by omega]
   ·
    rw [stepS_ext]
    have hQ : ∀ s ∈ Q, s.2 - s.1 + 1 < c ∧ s.2 < x := fun s hs => h s (List.mem_append_left _ hs)
    by_cases e : run + 1 = c
    ·
     rw [if_pos e, find_ext p c n (x + 1) Q (x - run) x (fun s hs => (hQ s hs).1) (by omega)]
     congr 1
     omega
    ·
     rw [if_neg e]
     refine ih (x + 1) (run + 1) _ (fun s hs => ?_) (by omega) (.inr ⟨by omega, Q, ?_⟩)
     ·
      rcases List.mem_append.1 hs with hs | hs
      ·
       have := hQ s hs
       exact ⟨this.1, by omega⟩
      ·
       obtain rfl := List.mem_singleton.1 hs
       constructor <;> simp only <;> omega
     ·
      rw [show x + 1 - (run + 1) = x - run by omega, show x + 1 - 1 = x by omega]
  ·
   rw [if_neg hp, if_neg hp]
   refine ih (x + 1) 0 acc (fun s hs => ?_) (by omega) (.inl ⟨rfl, fun s hs => ?_⟩)
   ·
    have := h s hs
    exact ⟨this.1, by omega⟩
   ·
    have := (h s hs).2
    omega
theorem spansB_in (p : Int → Bool) (y : Int) : ∀ (n : Nat) (x : Int) (acc : List (Int × Int)), (∀ s ∈ acc, s.1 ≤ s.2 ∧ s.2 < x) → ((∃ s ∈ spansB p n x acc, s.1 ≤ y ∧ y ≤ s.2) ↔ ((∃ s ∈ acc, s.1 ≤ y ∧ y ≤ s.2) ∨ (x ≤ y ∧ y < x + n ∧ p y = true))) := by
 intro n
 induction n with
 | zero =>
  intro x acc h
  unfold spansB
  constructor
  ·
   exact fun h => .inl h
  ·
   rintro (h | h)
   ·
    exact h
   ·
    omega
 | succ n ih =>
  intro x acc h
  unfold spansB
  by_cases hp : p x = true
  ·
   rw [if_pos hp]
   have key : (∀ s ∈ stepS acc x, s.1 ≤ s.2 ∧ s.2 < x + 1) ∧ ((∃ s ∈ stepS acc x, s.1 ≤ y ∧ y ≤ s.2) ↔ ((∃ s ∈ acc, s.1 ≤ y ∧ y ≤ s.2) ∨ y = x)) := by
    rcases List.eq_nil_or_concat acc with rfl | ⟨Q, s, rfl⟩
    ·
     rw [stepS_new _ _ (fun s hs => by simp at hs)]
     simp only [List.nil_append, List.mem_singleton]
     refine ⟨fun s hs => by subst hs; simp only; omega, ⟨?_, ?_⟩⟩
     ·
      rintro ⟨s, rfl, h1, h2⟩
      exact .inr (by simp only at h1 h2; omega)
     ·
      rintro (⟨s, hs, _⟩ | rfl)
      ·
       cases hs
      ·
       exact ⟨_, rfl, by simp, by simp⟩
    ·
     rw [List.concat_eq_append] at h ⊢
     obtain ⟨a, b⟩ := s
     have hs := h (a, b) (by simp)
     simp only at hs
     have hQ : ∀ s ∈ Q, s.1 ≤ s.2 ∧ s.2 < x := fun s hs => h s (List.mem_append_left _ hs)
     by_cases e : b = x - 1
     ·
      subst e
      rw [stepS_ext]
      refine ⟨fun s hs' => ?_, ⟨?_, ?_⟩⟩
      ·
       rcases List.mem_append.1 hs' with hs' | hs'
       ·
        have := hQ s hs'
        omega
       ·
        obtain rfl := List.mem_singleton.1 hs'; simp only
        omega
      ·
       rintro ⟨s, hs', h1, h2⟩
       rcases List.mem_append.1 hs' with hs' | hs'
       ·
        exact .inl ⟨s, List.mem_append_left _ hs', h1, h2⟩
       ·
        obtain rfl := List.mem_singleton.1 hs'; simp only at h1 h2
        by_cases ey : y = x
        ·
         exact .inr ey
        ·
         exact .inl ⟨(a, x - 1), by simp, h1, by simp only; omega⟩
      ·
       rintro (⟨s, hs', h1, h2⟩ | rfl)
       ·
        rcases List.mem_append.1 hs' with hs' | hs'
        ·
         exact ⟨s, List.mem_append_left _ hs', h1, h2⟩
        ·
         obtain rfl := List.mem_singleton.1 hs'; simp only at h1 h2; exact ⟨(a, x), by simp, h1, by simp only; omega⟩
       ·
        exact ⟨(a, y), by simp, by simp only; omega, Int.le_refl _⟩
     ·
      rw [stepS_new _ _ (fun s hs => by rw [List.getLast?_concat] at hs; obtain rfl := Option.some.inj hs; exact e)]
      refine ⟨fun s hs' => ?_, ⟨?_, ?_⟩⟩
      ·
       rcases List.mem_append.1 hs' with hs' | hs'
       ·
        have := h s hs'
        omega
       ·
        obtain rfl := List.mem_singleton.1 hs'; simp only
        omega
      ·
       rintro ⟨s, hs', h1, h2⟩
       rcases List.mem_append.1 hs' with hs' | hs'
       ·
        exact .inl ⟨s, hs', h1, h2⟩
       ·
        obtain rfl := List.mem_singleton.1 hs'; simp only at h1 h2; exact .inr (by omega)
      ·
       rintro (⟨s, hs', h1, h2⟩ | rfl)
       ·
        exact ⟨s, List.mem_append_left _ hs', h1, h2⟩
       ·
        exact ⟨(y, y), by simp, Int.le_refl _, Int.le_refl _⟩
   rw [ih (x + 1) _ key.1, key.2]
   constructor
   ·
    rintro ((h | rfl) | ⟨h1, h2, h3⟩)
    ·
     exact .inl h
    ·
     exact .inr ⟨Int.le_refl _, by omega, hp⟩
    ·
     exact .inr ⟨by omega, by omega, h3⟩
   ·
    rintro (h | ⟨h1, h2, h3⟩)
    ·
     exact .inl (.inl h)
    ·
     by_cases e : y = x
     ·
      exact .inl (.inr e)
     ·
      exact .inr ⟨by omega, by omega, h3⟩
  ·
   rw [if_neg hp, ih (x + 1) acc (fun s hs => by have := h s hs; omega)]
   constructor
   ·
    rintro (h | ⟨h1, h2, h3⟩)
    ·
     exact .inl h
    ·
     exact .inr ⟨by omega, by omega, h3⟩
   ·
    rintro (h | ⟨h1, h2, h3⟩)
    ·
     exact .inl h
    ·
     by_cases e : y = x
     ·
      subst e
      exact absurd h3 hp
     ·
      exact .inr ⟨by omega, by omega, h3⟩
theorem spansB_skip (p : Int → Bool) : ∀ (n : Nat) (x : Int) (acc : List (Int × Int)), (∀ y, x ≤ y → y < x + n → p y = false) → spansB p n x acc = acc := by
 intro n
 induction n with
 | zero => intro x acc _; rfl
 | succ n ih =>
  intro x acc h
  unfold spansB
  rw [if_neg (by rw [h x (Int.le_refl _) (by omega)]; decide)]
  exact ih (x + 1) acc (fun y h1 h2 => h y (by omega) (by omega))
theorem spansB_add (p : Int → Bool) : ∀ (n m : Nat) (x : Int) (acc : List (Int × Int)), spansB p (n + m) x acc = spansB p m (x + n) (spansB p n x acc) := by
 intro n
 induction n with
 | zero => intro m x acc; simp [spansB]
 | succ n ih =>
  intro m x acc
  rw [show n + 1 + m = (n + m) + 1 by omega]
  simp only [spansB]
  rw [ih]
  congr 1
  omega
theorem spansB_congr (p q : Int → Bool) : ∀ (n : Nat) (x : Int) (acc : List (Int × Int)), (∀ y, x ≤ y → y < x + n → p y = q y) → spansB p n x acc = spansB q n x acc := by
 intro n
 induction n with
 | zero => intro x acc _; rfl
 | succ n ih =>
  intro x acc h
  simp only [spansB]
  rw [h x (Int.le_refl _) (by omega)]
  exact ih (x + 1) _ (fun y h1 h2 => h y (by omega) (by omega))
theorem spansB_len (p : Int → Bool) : ∀ (n : Nat) (x : Int) (acc : List (Int × Int)), (spansB p n x acc).length ≤ acc.length + n := by
 intro n
 induction n with
 | zero => intro x acc; exact Nat.le_refl _
 | succ n ih =>
  intro x acc
  have h := ih (x + 1) (if p x = true then stepS acc x else acc)
  have h2 : (if p x = true then stepS acc x else acc).length ≤ acc.length + 1 := by
   split
   ·
    unfold stepS
    split
    ·
     split
     ·
      rw [List.length_append, List.length_dropLast, List.length_singleton]; omega
     ·
      simp
    ·
     simp
   ·
    omega
  simp only [spansB]
  omega
def Wi (l : List S54) (x : Int) : Prop := 0 < l.length ∧ (rd_T54 l 0).f0 ≤ x ∧ x ≤ (rd_T54 l ((l.length : Int) - 1)).f0
instance (l : List S54) (x : Int) : Decidable (Wi l x) := by unfold Wi; infer_instance
def Op (l : List S54) (x a b c : Int) : Bool := (impl_Sump_open.f 2000 a b c l x).getD false
theorem op_both {l : List S54} (hg : Good l) {x : Int} (hw : Wi l x) {k : Nat} (hk : 1020 < k) (a b c : Int) : spec_l23Open.f k l a b c x = some (Op l x a b c) ∧ impl_Sump_open.f k a b c l x = some (Op l x a b c) := by
 obtain ⟨F, hF⟩ := open_fn hg hw.1 hw.2.1 hw.2.2
 have e := (hF 2000 (by decide) a b c).2
 have e2 := hF k hk a b c
 have : Op l x a b c = F a b c := by
  unfold Op
  rw [e]
  rfl
 rw [this]
 exact e2
theorem wi_spec {l : List S54} (hg : Good l) {k : Nat} (hk : 1000 < k) (x : Int) : spec_l23Within.f k l x = some (decide (Wi l x)) := by
 have hl := hg.2
 obtain ⟨b, hb, hi⟩ := within_spec (l := l) (by omega) (k := k) (by omega) x
 rw [hb]
 congr 1
 rw [Bool.eq_iff_iff, hi, decide_eq_true_eq]
 exact ⟨fun h => h.2, fun h => ⟨hg, h⟩⟩
theorem wi_bd {l : List S54} (hg : Good l) {x : Int} (hw : Wi l x) : 0 ≤ x ∧ x ≤ 999 := by
 obtain ⟨h0, h1, h2⟩ := hw
 have a := (hg.1 0 (Int.le_refl 0) (by omega)).1
 have b := (hg.1 ((l.length : Int) - 1) (by omega) (by omega)).1
 omega
theorem spansB_bd (p : Int → Bool) (A : Int) : ∀ (n : Nat) (x : Int) (acc : List (Int × Int)), A ≤ x → (∀ s ∈ acc, A ≤ s.1 ∧ s.1 ≤ s.2 ∧ s.2 < x) → ∀ s ∈ spansB p n x acc, A ≤ s.1 ∧ s.1 ≤ s.2 ∧ s.2 < x + n := by
 intro n
 induction n with
 | zero => intro x acc _ h s hs; have := h s hs; omega
 | succ n ih =>
  intro x acc hA h s hs
  simp only [spansB] at hs
  have h2 : ∀ s ∈ (if p x = true then stepS acc x else acc), A ≤ s.1 ∧ s.1 ≤ s.2 ∧ s.2 < x + 1 := by
   intro s hs
   by_cases hp : p x = true
   ·
    rw [if_pos hp] at hs
    rcases List.eq_nil_or_concat acc with rfl | ⟨Q, t, rfl⟩
    ·
     rw [stepS_new _ _ (fun s hs => by simp at hs)] at hs
     obtain rfl := List.mem_singleton.1 (by simpa using hs)
     simp only
     omega
    ·
     rw [List.concat_eq_append] at hs h
     obtain ⟨a, b⟩ := t
     have ht := h (a, b) (by simp)
     simp only at ht
     by_cases e : b = x - 1
     ·
      subst e
      rw [stepS_ext] at hs
      rcases List.mem_append.1 hs with hs | hs
      ·
       have := h s (List.mem_append_left _ hs)
       omega
      ·
       obtain rfl := List.mem_singleton.1 hs
       simp only
       omega
     ·
      rw [stepS_new _ _ (fun s hs => by rw [List.getLast?_concat] at hs; obtain rfl := Option.some.inj hs; exact e)] at hs
      rcases List.mem_append.1 hs with hs | hs
      ·
       have := h s hs
       omega
      ·
       obtain rfl := List.mem_singleton.1 hs
       simp only
       omega
   ·
    rw [if_neg hp] at hs
    have := h s hs
    omega
  have := ih (x + 1) _ (by omega) h2 s hs
  omega
theorem spansB_wi {l : List S54} (hg : Good l) (h0 : 0 < l.length) (p : Int → Bool) (hp : ∀ x, p x = true → Wi l x) :
  spansB p 1000 0 [] = spansB p ((rd_T54 l ((l.length : Int) - 1)).f0 - (rd_T54 l 0).f0 + 1).toNat (rd_T54 l 0).f0 [] := by
 have a := (hg.1 0 (Int.le_refl 0) (by omega)).1
 have b := (hg.1 ((l.length : Int) - 1) (by omega) (by omega)).1
 have m := Good.mono hg (l.length - 1) 0 ((l.length : Int) - 1) (Int.le_refl 0) (by omega) (by omega)
 have hn : ∀ y, ¬ Wi l y → p y = false := fun y hy => by
  cases h : p y with
  | false => rfl
  | true => exact absurd (hp y h) hy
 obtain ⟨f, hf⟩ : ∃ f, (rd_T54 l 0).f0 = f := ⟨_, rfl⟩
 obtain ⟨L, hL⟩ : ∃ L, (rd_T54 l ((l.length : Int) - 1)).f0 = L := ⟨_, rfl⟩
 rw [hf] at a m ⊢
 rw [hL] at b m ⊢
 obtain ⟨n1, e1⟩ : ∃ n1 : Nat, f = n1 := ⟨f.toNat, by omega⟩
 obtain ⟨n2, e2⟩ : ∃ n2 : Nat, L - f + 1 = n2 := ⟨(L - f + 1).toNat, by omega⟩
 rw [show (1000 : Nat) = n1 + (n2 + (1000 - n1 - n2)) by omega, spansB_add, spansB_skip p n1 0 [] (fun y h1 h2 => hn y (fun hw => by have := hw.2.1; omega)), spansB_add]
 rw [show (0 : Int) + (n1 : Int) = f by omega, show (L - f + 1).toNat = n2 by omega]
 exact spansB_skip p _ _ _ (fun y h1 h2 => hn y (fun hw => by have := hw.2.2; omega))
theorem find_same {α : Type} (p q : α → Bool) : ∀ (L : List α), (∀ s ∈ L, p s = q s) → L.find? p = L.find? q
 | [], _ => rfl
 | a :: L, h => by
  rw [List.find?_cons, List.find?_cons, h a List.mem_cons_self, find_same p q L (fun s hs => h s (List.mem_cons_of_mem _ hs))]
theorem runF_holds (p : Int → Bool) (c : Int) : ∀ (n : Nat) (x run a : Int), 0 ≤ run → (∀ y, x - run ≤ y → y < x → p y = true) → runF p c n x run = some a → ∀ y, a ≤ y → y < a + c → p y = true := by
 intro n
 induction n with
 | zero => intro x run a _ _ h; cases h
 | succ n ih =>
  intro x run a h0 h h1
  unfold runF at h1
  by_cases hp : p x = true
  ·
   rw [if_pos hp] at h1
   by_cases e : run + 1 = c
   ·
    rw [if_pos e] at h1
    injection h1 with h1
    intro y y1 y2
    by_cases ey : y = x
    ·
     rw [ey]; exact hp
    ·
     exact h y (by omega) (by omega)
   ·
    rw [if_neg e] at h1
    exact ih (x + 1) (run + 1) a (by omega) (fun y y1 y2 => by
     by_cases ey : y = x
     ·
      rw [ey]; exact hp
     ·
      exact h y (by omega) (by omega)) h1
  ·
   rw [if_neg hp] at h1
   exact ih (x + 1) 0 a (Int.le_refl 0) (fun y y1 y2 => by omega) h1
def AllOp (l : List S54) (s : List S30) (x : Int) : Bool := decide (Wi l x) && s.all (fun y => Op l x y.f0 y.f1 y.f2)
theorem closedOf_nil (F : Int → Int → Int → Bool) (s : List S30) : ((closedOf F s).length : Int) > 0 ↔ ¬ s.all (fun y => F y.f0 y.f1 y.f2) = true := by
 induction s with
 | nil => simp [closedOf]
 | cons y s ih =>
  rw [closedOf_cons, List.all_cons]
  cases h : F y.f0 y.f1 y.f2 with
  | true => rw [if_pos rfl, ih]; simp
  | false =>
   rw [if_neg (by decide), List.length_cons]
   simp only [Bool.false_and]
   exact ⟨fun _ h => (by cases h), fun _ => (by omega)⟩
theorem closedSpec {l : List S54} (hg : Good l) {x : Int} (hw : Wi l x) (s : List S30) (hs : s.length ≤ 17592186044416) {k : Nat} (hk : s.length + 1020 < k) : spec_l23Closed.f k l s x = some (closedOf (fun a b c => Op l x a b c) s) := by
 have h := (closed_l0 (F := fun a b c => Op l x a b c) (fun k hk a b c => op_both hg hw hk a b c) s hs s.length k 0 [] (by omega) (by omega) (by simp)).1
 unfold spec_l23Closed.f
 rw [show ((0 : Nat) : Int) = 0 from rfl] at h
 rw [h]
 simp
def resF (o : Option Int) : Int × Bool := match o with
 | some a => (a, true)
 | none => (0, false)
theorem openFor_l0 {l : List S54} (hg : Good l) (s : List S30) (hs : s.length ≤ 17592186044416) {c : Int} (hc : 1 ≤ c) (hc' : c ≤ 100) (n : Nat) : ∀ (K : Nat) (x run : Int), x + n = 1000 → 0 ≤ x → 0 ≤ run → run < c → 2 * n + s.length + 1100 < K →
  spec_OpenFor.l0 K l s c run x = some (resF (runF (AllOp l s) c n x run)) := by
 induction n with
 | zero =>
  intro K x run hx h0 r0 r1 hK
  obtain ⟨K, rfl⟩ : ∃ m, K = m + 1 := ⟨K - 1, by omega⟩
  simp only [spec_OpenFor.l0]
  rw [if_neg (by omega)]
  rfl
 | succ n ih =>
  intro K x run hx h0 r0 r1 hK
  obtain ⟨K, rfl⟩ : ∃ m, K = m + 2 := ⟨K - 2, by omega⟩
  have hw1 : wrap64 (run + 1) = run + 1 := w64 (by omega) (by omega)
  have hw2 : wrap64 (x + 1) = x + 1 := w64 (by omega) (by omega)
  have hw3 : wrap64 (wrap64 (x - c) + 1) = x - c + 1 := by rw [w64 (x := x - c) (by omega) (by omega), w64 (by omega) (by omega)]
  simp only [spec_OpenFor.l0]
  rw [if_pos (show x ≤ 999 by omega), wi_spec hg (by omega), obs]
  unfold runF
  have hno : AllOp l s x = false → spec_OpenFor.j2 (K + 1) l s c (run + 1) x true = some (resF (if AllOp l s x = true then if run + 1 = c then some (x - c + 1) else runF (AllOp l s) c n (x + 1) (run + 1) else runF (AllOp l s) c n (x + 1) 0)) := by
   intro h
   simp only [spec_OpenFor.j2, if_true]
   rw [if_neg (by omega), h, if_neg (by decide), hw2]
   exact ih K (x + 1) 0 (by omega) (by omega) (by omega) (by omega) (by omega)
  by_cases hw : Wi l x
  ·
   rw [decide_eq_true hw, if_pos rfl, closedSpec hg hw s hs (by omega), obs, hw1]
   by_cases ha : s.all (fun y => Op l x y.f0 y.f1 y.f2) = true
   ·
    rw [decide_eq_false (fun h => (closedOf_nil _ s).1 h ha)]
    have hA : AllOp l s x = true := by unfold AllOp; rw [decide_eq_true hw, ha]; rfl
    simp only [spec_OpenFor.j2, Bool.false_eq_true, if_false]
    rw [hA, if_pos rfl]
    by_cases e : run + 1 = c
    ·
     rw [if_pos e, if_pos e, hw3]
     rfl
    ·
     rw [if_neg e, if_neg e, hw2]
     exact ih K (x + 1) (run + 1) (by omega) (by omega) (by omega) (by omega) (by omega)
   ·
    rw [decide_eq_true ((closedOf_nil _ s).2 ha)]
    exact hno (by unfold AllOp; rw [Bool.eq_false_iff.mpr ha, Bool.and_false])
  ·
   rw [decide_eq_false hw, if_neg (by decide), hw1]
   exact hno (by unfold AllOp; rw [decide_eq_false hw]; rfl)
theorem opS_eq {l : List S54} (hg : Good l) (s : List S30) {x : Int} (hw : Wi l x) {k : Nat} (hk : 1020 < k) : opS_ k l s x = some (AllOp l s x) := by
 unfold opS_ AllOp
 have e : ∀ y : S30, impl_Sump_open.f k y.f0 y.f1 y.f2 l x = some (Op l x y.f0 y.f1 y.f2) := fun y => (op_both hg hw hk y.f0 y.f1 y.f2).2
 simp only [e, Option.isSome_some, Option.getD_some]
 rw [if_pos (by simp), decide_eq_true hw, Bool.true_and]
 congr 1
 rw [List.not_any_eq_all_not]
 simp
theorem hours_eq {l : List S54} (h0 : 0 < l.length) (hl : l.length ≤ 1000) : impl_hours.f l = some ((rd_T54 l 0).f0, (rd_T54 l ((l.length : Int) - 1)).f0) := by
 unfold impl_hours.f
 have hw : wrap64 ((l.length : Int) - 1) = (l.length : Int) - 1 := w64 (by omega) (by omega)
 rw [hw, if_neg (by omega), if_pos (by omega), if_pos (by omega), if_pos (by omega)]
theorem openFor_both {l : List S54} (hl : l.length ≤ 4611686018427387904) {s : List S30} (hs : s.length ≤ 17592186044416) {k : Nat} (hk : l.length + s.length + 4000 < k) (c : Int) :
  ∃ a b, spec_OpenFor.f k l s c = some (a, b) ∧ impl_OpenFor.f k l s c = some (a, b) ∧ (b = true → Good l ∧ Sumps s ∧ 1 ≤ c ∧ c ≤ 100 ∧ ∀ y, a ≤ y → y < a + c → AllOp l s y = true) := by
 obtain ⟨k, rfl⟩ : ∃ m, k = m + 1 := ⟨k - 1, by omega⟩
 obtain ⟨b1, h1, hi1⟩ := good_spec l hl l.length (k + 1) 0 (by omega) (by omega) (by omega)
 have h1' := (good_impl l (k + 1) 0).trans h1
 obtain ⟨b2, h2, h2', hi2⟩ := areSumps (l := s) (by omega) (k := k + 1) (by omega)
 unfold spec_OpenFor.f impl_OpenFor.f spec_l23Good.f impl_AreReadings.f
 rw [h1, h1', obs, obs]
 cases b1 with
 | false =>
  rw [if_neg (by decide), if_neg (by decide)]
  simp only [spec_OpenFor.j0, if_true]
  exact ⟨0, false, rfl, rfl, fun h => (by cases h)⟩
 | true =>
  rw [if_pos rfl, if_pos rfl, h2, h2', obs, obs]
  cases b2 with
  | false =>
   rw [if_neg (by decide), if_neg (by decide)]
   simp only [spec_OpenFor.j0, if_true]
   exact ⟨0, false, rfl, rfl, fun h => (by cases h)⟩
  | true =>
   have hg : Good l := hi1.1 rfl
   have hl := hg.2
   rw [if_pos rfl, if_pos rfl, l1In_eq, within_eq, obs, obs]
   by_cases hc : 1 ≤ c ∧ c ≤ 100
   ·
    rw [decide_eq_true hc, if_pos rfl]
    simp only [Bool.not_true, spec_OpenFor.j0, Bool.false_eq_true, if_false]
    rw [openFor_l0 hg s hs hc.1 hc.2 1000 k 0 0 (by decide) (by decide) (by decide) (by omega) (by omega)]
    have hfr := find_run (AllOp l s) c hc.1 1000 0 0 [] (fun s hs => by cases hs) (by omega) (.inl ⟨rfl, fun s hs => by cases hs⟩)
    refine ⟨(resF (runF (AllOp l s) c 1000 0 0)).1, (resF (runF (AllOp l s) c 1000 0 0)).2, rfl, ?_, fun hb => ⟨hg, hi2.1 rfl, hc.1, hc.2, ?_⟩⟩
    ·
     have hfs : ∀ L : List (Int × Int), (∀ q ∈ L, (0 : Int) ≤ q.1 ∧ q.1 ≤ q.2 ∧ q.2 < 1000) → firstS_ c L = resF ((L.find? (fun s => decide (c ≤ s.2 - s.1 + 1))).map (·.1)) := by
      intro L hL
      unfold firstS_
      rw [find_same _ (fun s => decide (c ≤ s.2 - s.1 + 1)) L (fun q hq => by
       have := hL q hq
       rw [w64 (x := q.2 - q.1) (by omega) (by omega), w64 (by omega) (by omega)])]
      cases L.find? (fun s => decide (c ≤ s.2 - s.1 + 1)) <;> rfl
     by_cases h0 : 0 < l.length
     ·
      have a := (hg.1 0 (Int.le_refl 0) (by omega)).1
      have b := (hg.1 ((l.length : Int) - 1) (by omega) (by omega)).1
      rw [hours_eq h0 (by omega), obs]
      simp only
      have hop : ∀ x, (rd_T54 l 0).f0 ≤ x → x ≤ (rd_T54 l ((l.length : Int) - 1)).f0 → opS_ (k + 1) l s x = some (AllOp l s x) := fun x x1 x2 => opS_eq hg s ⟨h0, x1, x2⟩ (by omega)
      rw [if_pos ⟨a.1, by omega, List.all_eq_true.2 (fun i hi => by
       have := List.mem_range.1 hi
       rw [hop _ (by omega) (by omega)]
       rfl)⟩]
      rw [spansB_congr (fun x => (opS_ (k + 1) l s x).getD false) (AllOp l s) _ _ _ (fun y y1 y2 => by rw [hop y y1 (by omega)]; rfl)]
      rw [← spansB_wi hg h0 (AllOp l s) (fun x hx => by
       unfold AllOp at hx
       rw [Bool.and_eq_true] at hx
       exact of_decide_eq_true hx.1)]
      rw [hfs _ (fun q hq => by
       have := spansB_bd (AllOp l s) 0 1000 0 [] (Int.le_refl 0) (fun s hs => by cases hs) q hq
       omega), hfr]
     ·
      have hz : l.length = 0 := by omega
      unfold impl_hours.f
      rw [if_pos (by omega), obs]
      simp only
      rw [if_pos ⟨by decide, by decide, by rfl⟩]
      rw [show spansB (fun x => (opS_ (k + 1) l s x).getD false) (-1 - 0 + 1 : Int).toNat 0 [] = [] from rfl]
      rw [← hfr, spansB_skip (AllOp l s) 1000 0 [] (fun y _ _ => by
       unfold AllOp
       rw [decide_eq_false (fun hw => by have := hw.1; omega)]
       rfl)]
      rfl
    ·
     cases hr : runF (AllOp l s) c 1000 0 0 with
     | none => rw [hr] at hb; cases hb
     | some a => exact runF_holds (AllOp l s) c 1000 0 0 a (Int.le_refl 0) (fun y y1 y2 => by omega) hr
   ·
    rw [decide_eq_false hc, if_neg (by decide)]
    simp only [Bool.not_false, spec_OpenFor.j0, if_true]
    exact ⟨0, false, rfl, rfl, fun h => (by cases h)⟩
end Go.Proofs.Ytojaeidabmfajaa.Pr.Pure

namespace Go.Proofs.Ytojaeidabmfajaa.Pr.Pure
open Go.RowKit Go.Proofs.YtojaeidabmfajaaW.PrintWords Go.Proofs.YtojaeidabmfajaaW.PrintLast Go.Proofs.YtojaeidabmfajaaW.PrintMore
set_option linter.unusedVariables false
set_option linter.unusedSimpArgs false
theorem drowned_l1 (l : List S54) (s : List S30) (hl : l.length ≤ 4611686018427387904) (acc : List Int) (j : Nat) (hj : j < s.length) (hacc : acc.length < 17592186044416) (d : Nat) : ∀ (k i : Nat), i + d = l.length → d < k →
  ∃ k', k ≤ k' + d + 1 ∧ k' < k ∧ spec_DrownedSumps.l1 k l s acc j i = (if (l.drop i).any (fun r => decide (r.f1 > (rd_T30 s (j : Int)).f1)) = true then spec_DrownedSumps.l0 k' l s (acc ++ [(rd_T30 s (j : Int)).f0]) (wrap64 (j + 1)) else spec_DrownedSumps.l0 k' l s acc (wrap64 (j + 1))) := by
 induction d with
 | zero =>
  intro k i hd hk
  obtain ⟨k, rfl⟩ : ∃ m, k = m + 1 := ⟨k - 1, by omega⟩
  refine ⟨k, by omega, by omega, ?_⟩
  simp only [spec_DrownedSumps.l1]
  rw [if_neg (by omega), List.drop_eq_nil_of_le (by omega)]
  simp
 | succ d ih =>
  intro k i hd hk
  obtain ⟨k, rfl⟩ : ∃ m, k = m + 1 := ⟨k - 1, by omega⟩
  have e : l.drop i = rd_T54 l (i : Int) :: l.drop (i + 1) := by
   rw [List.drop_eq_getElem_cons (by omega)]
   congr 1
   show _ = l.getD (i : Int).toNat _
   rw [Int.toNat_natCast, List.getD_eq_getElem?_getD, List.getElem?_eq_getElem (by omega)]
   rfl
  rw [e, List.any_cons]
  simp only [spec_DrownedSumps.l1]
  rw [if_pos (by omega), if_pos (by omega), if_pos (by omega), if_pos (by omega)]
  by_cases hq : (rd_T54 l (i : Int)).f1 > (rd_T30 s (j : Int)).f1
  ·
   refine ⟨k, by omega, by omega, ?_⟩
   rw [if_pos hq, if_pos hacc, decide_eq_true hq, Bool.true_or, if_pos rfl]
  ·
   obtain ⟨k', h1, h2, h3⟩ := ih k (i + 1) (by omega) (by omega)
   refine ⟨k', by omega, by omega, ?_⟩
   rw [if_neg hq, decide_eq_false hq, Bool.false_or, w64 (by omega) (by omega)]
   exact h3
theorem drowned_l0 (l : List S54) (s : List S30) (hl : l.length ≤ 4611686018427387904) (hs : s.length < 17592186044416) (d : Nat) : ∀ (k j : Nat) (acc : List Int), j + d = s.length → d * (l.length + 2) < k → acc.length ≤ j →
  spec_DrownedSumps.l0 k l s acc j = some (acc ++ drownedOf l (s.drop j), true) := by
 induction d with
 | zero =>
  intro k j acc hd hk ha
  obtain ⟨k, rfl⟩ : ∃ m, k = m + 1 := ⟨k - 1, by omega⟩
  simp only [spec_DrownedSumps.l0]
  rw [if_neg (by omega), List.drop_eq_nil_of_le (by omega)]
  simp [drownedOf]
 | succ d ih =>
  intro k j acc hd hk ha
  obtain ⟨k, rfl⟩ : ∃ m, k = m + 1 := ⟨k - 1, by omega⟩
  have hk2 : d * (l.length + 2) + (l.length + 2) < k + 1 := by rw [Nat.succ_mul] at hk; exact hk
  simp only [spec_DrownedSumps.l0]
  rw [if_pos (by omega)]
  obtain ⟨k', h1, h2, h3⟩ := drowned_l1 l s hl acc j (by omega) (by omega) l.length k 0 (by omega) (by omega)
  rw [show ((0 : Nat) : Int) = 0 from rfl] at h3
  rw [h3, List.drop_zero, w64 (by omega) (by omega), drop_rd s j (by omega)]
  have e : ∀ (x : S30) (t : List S30), drownedOf l (x :: t) = if (l.any fun r => decide (r.f1 > x.f1)) = true then x.f0 :: drownedOf l t else drownedOf l t := by
   intro x t
   unfold drownedOf
   rw [List.filter_cons]
   split <;> rfl
  rw [e]
  cases hq : l.any (fun r => decide (r.f1 > (rd_T30 s (j : Int)).f1)) with
  | true =>
   rw [if_pos rfl, if_pos rfl]
   have := ih k' (j + 1) (acc ++ [(rd_T30 s (j : Int)).f0]) (by omega) (by omega) (by simp; omega)
   rw [show ((j : Int) + 1) = ((j + 1 : Nat) : Int) by omega, this]
   simp
  | false =>
   rw [if_neg (by decide), if_neg (by decide)]
   have := ih k' (j + 1) acc (by omega) (by omega) (by omega)
   rw [show ((j : Int) + 1) = ((j + 1 : Nat) : Int) by omega, this]
theorem drowned_both {l : List S54} (hl : l.length ≤ 4611686018427387904) {s : List S30} (hs : s.length < 17592186044416) {k : Nat} (hk : s.length * (l.length + 2) + l.length + s.length + 5 < k) :
  ∃ r b, spec_DrownedSumps.f k l s = some (r, b) ∧ impl_DrownedSumps.f k l s = some (r, b) ∧ r.length ≤ s.length := by
 obtain ⟨x, hx, hxi⟩ := good_spec l hl l.length k 0 (by omega) (by omega) (by omega)
 obtain ⟨y, hy, hy', hyi⟩ := areSumps (l := s) (by omega) (k := k) (by omega)
 unfold spec_DrownedSumps.f impl_DrownedSumps.f spec_l23Good.f impl_AreReadings.f
 rw [good_impl, hx, hy, hy']
 obtain ⟨k', rfl⟩ : ∃ m, k = m + 1 := ⟨k - 1, by omega⟩
 simp only [Option.bind_some]
 cases x with
 | false => exact ⟨[], false, by simp [spec_DrownedSumps.j0], rfl, by simp⟩
 | true =>
  cases y with
  | false => exact ⟨[], false, by simp [spec_DrownedSumps.j0], rfl, by simp⟩
  | true =>
   refine ⟨drownedOf l s, true, ?_, ?_, drownedOf_len l s⟩
   ·
    rw [if_pos rfl]
    simp only [spec_DrownedSumps.j0, Bool.not_true, Bool.false_eq_true, if_false]
    have := drowned_l0 l s hl hs s.length k' 0 [] (by omega) (by omega) (by simp)
    rw [show ((0 : Nat) : Int) = 0 from rfl] at this
    rw [this]
    simp
   ·
    rw [if_pos rfl, if_pos rfl, if_pos hs]
theorem drowned_is {l : List S54} {s : List S30} (hl : l.length ≤ 4611686018427387904) (hs : s.length < 17592186044416) {k : Nat} (hk : s.length * (l.length + 2) + l.length + s.length + 5 < k) {r : List Int} (h : impl_DrownedSumps.f k l s = some (r, true)) : r = drownedOf l s ∧ Good l ∧ Sumps s := by
 obtain ⟨x, hx, hxi⟩ := good_spec l hl l.length k 0 (by omega) (by omega) (by omega)
 obtain ⟨y, hy, hy', hyi⟩ := areSumps (l := s) (by omega) (k := k) (by omega)
 unfold impl_DrownedSumps.f impl_AreReadings.f at h
 rw [good_impl, hx, hy'] at h
 cases x with
 | false => cases h
 | true =>
  cases y with
  | false => cases h
  | true =>
   simp only [Option.bind_some, if_true, if_pos hs, Option.some.injEq, Prod.mk.injEq] at h
   exact ⟨h.1.symm, hxi.1 rfl, hyi.1 rfl⟩
end Go.Proofs.Ytojaeidabmfajaa.Pr.Pure

namespace Go.Proofs.Ytojaeidabmfajaa.Pr.Pure
open Go.RowKit Go.Proofs.YtojaeidabmfajaaW.PrintWords Go.Proofs.YtojaeidabmfajaaW.PrintLast Go.Proofs.YtojaeidabmfajaaW.PrintMore
set_option linter.unusedVariables false
def rowsS (l : List (Int × Int)) : List (List Int) := l.map fun s => [s.1, s.2]
def OneOp (l : List S54) (a b c x : Int) : Bool := decide (Wi l x) && Op l x a b c
theorem rd_rows (Q : List (Int × Int)) (a b : Int) : rd_L9 (rowsS (Q ++ [(a, b)])) (Q.length : Int) = [a, b] := by
 unfold rowsS
 show (List.map _ (Q ++ [(a, b)])).getD (Q.length : Int).toNat [] = _
 rw [Int.toNat_natCast, List.getD_eq_getElem?_getD, List.getElem?_map, List.getElem?_append_right (Nat.le_refl _), Nat.sub_self]
 rfl
theorem rows_len (l : List (Int × Int)) : (rowsS l).length = l.length := List.length_map _
theorem set_rows (Q : List (Int × Int)) (a b x : Int) : (rowsS (Q ++ [(a, b)])).set Q.length [a, x] = rowsS (Q ++ [(a, x)]) := by
 unfold rowsS
 rw [List.map_append, List.map_append, show Q.length = (List.map (fun s : Int × Int => [s.1, s.2]) Q).length from (List.length_map _).symm, List.set_append_right _ _ (Nat.le_refl _), Nat.sub_self]
 rfl
theorem openS_l0 {l : List S54} (hg : Good l) (a b c : Int) (n : Nat) : ∀ (K : Nat) (x : Int) (acc : List (Int × Int)), x + n = 1000 → 0 ≤ x → acc.length + n ≤ 1000 → 2 * n + 1100 < K →
  spec_OpenSpans.l0 K l (rowsS acc) x a b c = some (rowsS (spansB (OneOp l a b c) n x acc), true) := by
 induction n with
 | zero =>
  intro K x acc hx h0 ha hK
  obtain ⟨K, rfl⟩ : ∃ m, K = m + 1 := ⟨K - 1, by omega⟩
  simp only [spec_OpenSpans.l0]
  rw [if_neg (by omega)]
  rfl
 | succ n ih =>
  intro K x acc hx h0 ha hK
  obtain ⟨K, rfl⟩ : ∃ m, K = m + 2 := ⟨K - 2, by omega⟩
  have hw1 : wrap64 (x + 1) = x + 1 := w64 (by omega) (by omega)
  have hw2 : wrap64 (x - 1) = x - 1 := w64 (by omega) (by omega)
  simp only [spec_OpenSpans.l0]
  rw [if_pos (show x ≤ 999 by omega), wi_spec hg (by omega), obs]
  unfold spansB
  have hno : OneOp l a b c x = false → spec_OpenSpans.j2 (K + 1) l (rowsS acc) x true a b c = some (rowsS (spansB (OneOp l a b c) n (x + 1) (if OneOp l a b c x = true then stepS acc x else acc)), true) := by
   intro h
   simp only [spec_OpenSpans.j2, if_true]
   rw [hw1, h, if_neg (by decide)]
   exact ih K (x + 1) acc (by omega) (by omega) (by omega) (by omega)
  by_cases hw : Wi l x
  ·
   rw [decide_eq_true hw, if_pos rfl, (op_both hg hw (by omega) a b c).1, obs]
   cases ho : Op l x a b c with
   | false => exact hno (by unfold OneOp; rw [ho, Bool.and_false])
   | true =>
    have h1 : OneOp l a b c x = true := by unfold OneOp; rw [decide_eq_true hw, ho]; rfl
    rw [h1, if_pos rfl]
    simp only [Bool.not_true, spec_OpenSpans.j2, Bool.false_eq_true, if_false, rows_len]
    rcases List.eq_nil_or_concat acc with rfl | ⟨Q, s, rfl⟩
    ·
     rw [stepS_new _ _ (fun s hs => by simp at hs)]
     rw [if_neg (by simp), if_pos (by simp), hw1]
     exact ih K (x + 1) [(x, x)] (by omega) (by omega) (by simp; omega) (by omega)
    ·
     rw [List.concat_eq_append] at ha ⊢
     obtain ⟨u, v⟩ := s
     have hQ : Q.length + 1 + (n + 1) ≤ 1000 := by rw [List.length_append, List.length_singleton] at ha; exact ha
     have hl : ((Q ++ [(u, v)]).length : Int) = (Q.length : Int) + 1 := by rw [List.length_append, List.length_singleton]; omega
     have hw3 : wrap64 ((Q.length : Int) + 1 - 1) = (Q.length : Int) := by rw [w64 (by omega) (by omega)]; omega
     rw [hl, hw3, rd_rows]
     rw [if_pos (by omega), if_pos (by omega), if_pos (by omega), if_pos (show (1 : Int) < (([u, v] : List Int).length : Int) from (by simp)), hw2]
     by_cases e : v = x - 1
     ·
      subst e
      rw [if_pos (show rd [u, x - 1] 1 = x - 1 from rfl), if_pos (show (0 : Int) < (([u, x - 1] : List Int).length : Int) from (by simp)), Int.toNat_natCast, show rd [u, x - 1] 0 = u from rfl, set_rows, hw1, stepS_ext]
      exact ih K (x + 1) (Q ++ [(u, x)]) (by omega) (by omega) (by rw [List.length_append, List.length_singleton]; omega) (by omega)
     ·
      rw [if_neg (show ¬ rd [u, v] 1 = x - 1 from e), if_pos (by rw [List.length_append, List.length_singleton]; omega), hw1, stepS_new _ _ (fun s hs => by rw [List.getLast?_concat] at hs; obtain rfl := Option.some.inj hs; exact e)]
      have := ih K (x + 1) ((Q ++ [(u, v)]) ++ [(x, x)]) (by omega) (by omega) (by rw [List.length_append, List.length_append, List.length_singleton, List.length_singleton]; omega) (by omega)
      rw [← this, show rowsS ((Q ++ [(u, v)]) ++ [(x, x)]) = rowsS (Q ++ [(u, v)]) ++ [[x, x]] from (by unfold rowsS; rw [List.map_append]; rfl)]
  ·
   rw [decide_eq_false hw, if_neg (by decide)]
   exact hno (by unfold OneOp; rw [decide_eq_false hw]; rfl)
theorem openSpans_both {l : List S54} (hl : l.length ≤ 4611686018427387904) {k : Nat} (hk : l.length + 4000 < k) (a b c : Int) :
  ∃ sp t, spec_OpenSpans.f k l a b c = some (rowsS sp, t) ∧ impl_OpenSpans.f k l a b c = some (rowsS sp, t) ∧ sp.length ≤ 1000 ∧ (Good l → SumpOk a b c → t = true ∧ sp = spansB (OneOp l a b c) 1000 0 []) := by
 obtain ⟨k, rfl⟩ : ∃ m, k = m + 1 := ⟨k - 1, by omega⟩
 obtain ⟨b1, h1, hi1⟩ := good_spec l hl l.length (k + 1) 0 (by omega) (by omega) (by omega)
 have h1' := (good_impl l (k + 1) 0).trans h1
 obtain ⟨b2, h2, hi2⟩ := sump_spec a b c
 unfold spec_OpenSpans.f impl_OpenSpans.f spec_l23Good.f impl_AreReadings.f
 rw [obs, h1, h1', obs, obs]
 cases b1 with
 | false =>
  rw [if_neg (by decide), if_neg (by decide)]
  simp only [spec_OpenSpans.j0, if_true]
  exact ⟨[], false, rfl, rfl, by simp, fun h => (by have := hi1.2 h; cases this)⟩
 | true =>
  have hg : Good l := hi1.1 rfl
  have hl := hg.2
  rw [if_pos rfl, if_pos rfl, sump_eq, h2, obs, obs]
  cases b2 with
  | false =>
   rw [if_neg (by decide)]
   simp only [Bool.not_false, spec_OpenSpans.j0, if_true]
   exact ⟨[], false, rfl, rfl, by simp, fun _ h => (by have := hi2.2 h; cases this)⟩
  | true =>
   rw [if_pos rfl]
   simp only [Bool.not_true, spec_OpenSpans.j0, Bool.false_eq_true, if_false]
   have e0 := openS_l0 hg a b c 1000 k 0 [] (by decide) (by decide) (by decide) (by omega)
   have hlen := spansB_len (OneOp l a b c) 1000 0 []
   refine ⟨spansB (OneOp l a b c) 1000 0 [], true, e0, ?_, by simpa using hlen, fun _ _ => ⟨rfl, rfl⟩⟩
   by_cases h0 : 0 < l.length
   ·
    have u := (hg.1 0 (Int.le_refl 0) (by omega)).1
    have v := (hg.1 ((l.length : Int) - 1) (by omega) (by omega)).1
    rw [hours_eq h0 (by omega), obs]
    simp only
    have hop : ∀ x, (rd_T54 l 0).f0 ≤ x → x ≤ (rd_T54 l ((l.length : Int) - 1)).f0 → impl_Sump_open.f (k + 1) a b c l x = some (OneOp l a b c x) := fun x x1 x2 => by
     have hw : Wi l x := ⟨h0, x1, x2⟩
     rw [(op_both hg hw (by omega) a b c).2]
     unfold OneOp
     rw [decide_eq_true hw, Bool.true_and]
    rw [if_pos ⟨u.1, by omega, List.all_eq_true.2 (fun i hi => by
     have := List.mem_range.1 hi
     rw [hop _ (by omega) (by omega)]
     rfl)⟩]
    rw [spansB_congr (fun x => (impl_Sump_open.f (k + 1) a b c l x).getD false) (OneOp l a b c) _ _ _ (fun y y1 y2 => by rw [hop y y1 (by omega)]; rfl)]
    rw [← spansB_wi hg h0 (OneOp l a b c) (fun x hx => by
     unfold OneOp at hx
     rw [Bool.and_eq_true] at hx
     exact of_decide_eq_true hx.1)]
    rfl
   ·
    have hz : l.length = 0 := by omega
    unfold impl_hours.f
    rw [if_pos (by omega), obs]
    simp only
    rw [if_pos ⟨by decide, by decide, by rfl⟩]
    rw [show spansB (fun x => (impl_Sump_open.f (k + 1) a b c l x).getD false) (-1 - 0 + 1 : Int).toNat 0 [] = [] from rfl]
    rw [spansB_skip (OneOp l a b c) 1000 0 [] (fun y _ _ => by
     unfold OneOp
     rw [decide_eq_false (fun hw => by have := hw.1; omega)]
     rfl)]
    rfl
theorem isOpen_f {l : List S54} (hl : l.length ≤ 1000) {k : Nat} (hk : 3000 < k) (a b c x : Int) : ∃ r t, spec_IsOpen.f k l a b c x = some (r, t) ∧ impl_IsOpen.f k l a b c x = some (r, t) ∧ (t = true → Good l ∧ SumpOk a b c ∧ Wi l x ∧ r = Op l x a b c) := by
 obtain ⟨b1, h1, hi1⟩ := within_spec (l := l) (by omega) (k := k) (by omega) x
 obtain ⟨b2, h2, hi2⟩ := sump_spec a b c
 unfold spec_IsOpen.f impl_IsOpen.f
 rw [within_impl (by omega) (by omega), h1, sump_eq, h2, obs, obs]
 cases b1 with
 | false => exact ⟨_, _, rfl, rfl, fun h => (by cases h)⟩
 | true =>
  obtain ⟨hg, hw⟩ := hi1.1 rfl
  cases b2 with
  | false => exact ⟨_, _, rfl, rfl, fun h => (by cases h)⟩
  | true =>
   obtain ⟨o1, o2⟩ := op_both hg hw (k := k) (by omega) a b c
   simp only [if_true, Option.bind_some, o1, o2]
   exact ⟨_, _, rfl, rfl, fun _ => ⟨hg, hi2.1 rfl, hw, rfl⟩⟩
theorem closed_val {l : List S54} (hg : Good l) {s : List S30} (hS : Sumps s) (hs : s.length ≤ 1000) {x : Int} (hw : Wi l x) {k : Nat} (hk : s.length + 3000 < k) : impl_ClosedSumps.f k l s x = some (closedOf (fun a b c => Op l x a b c) s, true) := by
 have hl := hg.2
 obtain ⟨r, b, e1, e2, _⟩ := closed_both (l := l) (by omega) (s := s) (by omega) (k := k) (by omega) x
 rw [e2, ← e1]
 unfold spec_ClosedSumps.f
 obtain ⟨y, hy, hy', hyi⟩ := areSumps (l := s) (by omega) (k := k) (by omega)
 rw [wi_spec hg (by omega), decide_eq_true hw, hy, obs, if_pos rfl, obs, hyi.2 hS, if_pos rfl, closedSpec hg hw s (by omega) (by omega)]
 rfl
theorem closed_none {l : List S54} {s : List S30} {x : Int} (h : AllOp l s x = true) : Wi l x ∧ closedOf (fun a b c => Op l x a b c) s = [] := by
 unfold AllOp at h
 rw [Bool.and_eq_true] at h
 refine ⟨of_decide_eq_true h.1, ?_⟩
 have hn : ¬ ((closedOf (fun a b c => Op l x a b c) s).length : Int) > 0 := fun hh => (closedOf_nil _ s).1 hh h.2
 exact List.eq_nil_of_length_eq_zero (by omega)
theorem shut_at {l : List S54} (hg : Good l) {s : List S30} (hS : Sumps s) {i : Int} (h0 : 0 ≤ i) (h1 : i < l.length) {j : Int} (j0 : 0 ≤ j) (j1 : j < s.length) (hu : (rd_T54 l i).f1 > (rd_T30 s j).f1) :
  (rd_T30 s j).f0 ∈ closedOf (fun a b c => Op l (rd_T54 l i).f0 a b c) s ∧ (rd_T30 s j).f0 ∈ drownedOf l s := by
 have hm : rd_T30 s j ∈ s := by
  show s.getD j.toNat _ ∈ s
  rw [List.getD_eq_getElem?_getD, List.getElem?_eq_getElem (by omega)]
  exact List.getElem_mem _
 have hmr : rd_T54 l i ∈ l := by
  show l.getD i.toNat _ ∈ l
  rw [List.getD_eq_getElem?_getD, List.getElem?_eq_getElem (by omega)]
  exact List.getElem_mem _
 have hl := hg.2
 have m1 := Good.mono hg i.toNat 0 i (Int.le_refl 0) (by omega) h1
 have m2 := Good.mono hg ((l.length : Int) - 1 - i).toNat i ((l.length : Int) - 1) h0 (by omega) (by omega)
 have hw : Wi l (rd_T54 l i).f0 := ⟨by omega, by omega, by omega⟩
 have hok := (hS j j0 j1).1
 have ho : Op l (rd_T54 l i).f0 (rd_T30 s j).f0 (rd_T30 s j).f1 (rd_T30 s j).f2 = false := by
  have hf := first_at hg h0 h1
  have e2 := in_impl hg hf (by omega) i.toNat 2000 0 (by omega) (by omega) (by omega) (by omega)
  unfold Op impl_Sump_open.f impl_levelIn.f
  rw [e2, obs]
  unfold levelAt
  rw [if_pos rfl]
  show decide (_ ≤ wrap64 (_ * 1)) = false
  have hv := (hg.1 i h0 h1).2.1
  have h3 := hok.2.2
  have h4 := hok.2.1
  rw [Int.mul_one, w64 (by omega) (by omega)]
  exact decide_eq_false (by omega)
 constructor
 ·
  unfold closedOf
  exact List.mem_map.2 ⟨_, List.mem_filter.2 ⟨hm, by simp only [ho, Bool.not_false]⟩, rfl⟩
 ·
  unfold drownedOf
  exact List.mem_map.2 ⟨_, List.mem_filter.2 ⟨hm, List.any_eq_true.2 ⟨_, hmr, decide_eq_true hu⟩⟩, rfl⟩
theorem rInts_l0 (l : List Int) (hl : l.length ≤ 100000) (d : Nat) : ∀ (k i : Nat), i + d = l.length → d < k → laws_rInts.l0 k l l i = some true := by
 induction d with
 | zero =>
  intro k i hd hk
  obtain ⟨k, rfl⟩ : ∃ m, k = m + 1 := ⟨k - 1, by omega⟩
  simp only [laws_rInts.l0]
  rw [if_neg (by omega)]
 | succ d ih =>
  intro k i hd hk
  obtain ⟨k, rfl⟩ : ∃ m, k = m + 1 := ⟨k - 1, by omega⟩
  simp only [laws_rInts.l0]
  rw [if_pos (by omega), if_pos (by omega), if_pos (by omega), if_pos trivial, w64 (by omega) (by omega)]
  exact ih k (i + 1) (by omega) (by omega)
theorem rInts_eq {l : List Int} (hl : l.length ≤ 100000) {k : Nat} (hk : l.length < k) : laws_rInts.f k l l = some true := by
 unfold laws_rInts.f
 rw [if_pos rfl]
 exact rInts_l0 l hl l.length k 0 (by omega) hk
theorem rTable_l0 (sp : List (Int × Int)) (hl : sp.length ≤ 1000) (d : Nat) : ∀ (k i : Nat), i + d = sp.length → d + 10 < k → laws_rTable.l0 k (rowsS sp) (rowsS sp) i = some true := by
 induction d with
 | zero =>
  intro k i hd hk
  obtain ⟨k, rfl⟩ : ∃ m, k = m + 1 := ⟨k - 1, by omega⟩
  simp only [laws_rTable.l0, rows_len]
  rw [if_neg (by omega)]
 | succ d ih =>
  intro k i hd hk
  obtain ⟨k, rfl⟩ : ∃ m, k = m + 1 := ⟨k - 1, by omega⟩
  have hr : rd_L9 (rowsS sp) (i : Int) = [(sp.getD i (0, 0)).1, (sp.getD i (0, 0)).2] := by
   unfold rowsS
   show (List.map _ sp).getD (i : Int).toNat [] = _
   rw [Int.toNat_natCast, List.getD_eq_getElem?_getD, List.getElem?_map, List.getD_eq_getElem?_getD, List.getElem?_eq_getElem (by omega)]
   rfl
  simp only [laws_rTable.l0, rows_len]
  rw [if_pos (by omega), if_pos (by omega), if_pos (by omega), hr, rInts_eq (by simp) (by simp; omega), obs, if_pos rfl, w64 (by omega) (by omega)]
  exact ih k (i + 1) (by omega) (by omega)
theorem rTable_eq {sp : List (Int × Int)} (hl : sp.length ≤ 1000) {k : Nat} (hk : sp.length + 10 < k) : laws_rTable.f k (rowsS sp) (rowsS sp) = some true := by
 unfold laws_rTable.f
 rw [if_pos rfl]
 exact rTable_l0 sp hl sp.length k 0 (by omega) hk
theorem rHas_l0 (l : List Int) (v : Int) (hl : l.length ≤ 100000) (d : Nat) : ∀ (k i : Nat), i + d = l.length → d < k → v ∈ l.drop i → laws_rHas.l0 k l v i = some true := by
 induction d with
 | zero =>
  intro k i hd hk hv
  rw [List.drop_of_length_le (by omega)] at hv
  cases hv
 | succ d ih =>
  intro k i hd hk hv
  obtain ⟨k, rfl⟩ : ∃ m, k = m + 1 := ⟨k - 1, by omega⟩
  have hr : rd l (i : Int) = l[i]'(by omega) := by
   show l.getD (i : Int).toNat 0 = _
   rw [Int.toNat_natCast, List.getD_eq_getElem?_getD, List.getElem?_eq_getElem (by omega)]
   rfl
  simp only [laws_rHas.l0]
  rw [if_pos (by omega), if_pos (by omega)]
  by_cases c : rd l (i : Int) = v
  ·
   rw [if_pos c]
  ·
   rw [if_neg c, w64 (by omega) (by omega)]
   refine ih k (i + 1) (by omega) (by omega) ?_
   rw [List.drop_eq_getElem_cons (by omega)] at hv
   rcases List.mem_cons.1 hv with h | h
   ·
    exact absurd (hr.trans h.symm) c
   ·
    exact h
theorem rHas_eq {l : List Int} {v : Int} (hl : l.length ≤ 100000) (h : v ∈ l) {k : Nat} (hk : l.length < k) : laws_rHas.f k l v = some true := rHas_l0 l v hl l.length k 0 (by omega) hk (by rw [List.drop_zero]; exact h)
end Go.Proofs.Ytojaeidabmfajaa.Pr.Pure

namespace Go.Proofs.Ytojaeidabmfajaa.Pr.Pure
open Go.RowKit Go.Proofs.YtojaeidabmfajaaW.PrintWords Go.Proofs.YtojaeidabmfajaaW.PrintLast Go.Proofs.YtojaeidabmfajaaW.PrintMore Go.Lib
set_option linter.unusedVariables false
theorem bits255 (x : Int) : 0 ≤ Go.bits .and .u64 x 255 ∧ Go.bits .and .u64 x 255 ≤ 255 := by
 have h : (BitVec.ofInt IntKind.u64.bits x &&& BitVec.ofInt IntKind.u64.bits 255).toNat ≤ 255 := by
  rw [BitVec.toNat_and]
  exact Nat.le_trans Nat.and_le_right (by decide)
 have e : Go.bits .and .u64 x 255 = IntKind.u64.wrap (((BitVec.ofInt IntKind.u64.bits x &&& BitVec.ofInt IntKind.u64.bits 255).toNat : Nat) : Int) := rfl
 rw [e]
 generalize (BitVec.ofInt IntKind.u64.bits x &&& BitVec.ofInt IntKind.u64.bits 255).toNat = n at h
 have e2 : IntKind.u64.wrap (n : Int) = (n : Int) := by
  have : IntKind.u64.wrap (n : Int) = (n : Int) % 18446744073709551616 := rfl
  omega
 rw [e2]
 omega
theorem rdI_mem (l : List Int) {i : Int} (h0 : 0 ≤ i) (h1 : i < l.length) : rd l i ∈ l := by
 unfold rd
 rw [List.getD_eq_getElem?_getD, List.getElem?_eq_getElem (by omega)]
 exact List.getElem_mem _
theorem next_ok {c : List Int} (hc : ∀ x, x ∈ c → 0 ≤ x ∧ x ≤ 255) {p : Int} (h0 : 0 ≤ p) (h1 : p ≤ 1000000000) (s : Int) :
  ∃ r q, spec_l1Cur_next.f c p s = some (r, p + 1, q) ∧ 0 ≤ r ∧ r ≤ 255 := by
 have hw : wrap64 (p + 1) = p + 1 := w64 (by omega) (by omega)
 unfold spec_l1Cur_next.f
 rw [hw]
 by_cases a : p < (c.length : Int)
 ·
  have hb := hc _ (rdI_mem c h0 a)
  have hv : wrap64 (rd c p) = rd c p := w64 (by omega) (by omega)
  rw [if_pos a, if_pos h0]
  by_cases b : p + 1 ≤ (c.length : Int)
  ·
   rw [if_pos b, hv]
   exact ⟨_, _, rfl, hb.1, hb.2⟩
  ·
   rw [if_neg b]
   refine ⟨_, _, rfl, ?_⟩
   rw [w64 (by have := bits255; exact Int.le_trans (by decide) (this _).1) (Int.le_trans (bits255 _).2 (by decide))]
   exact bits255 _
 ·
  rw [if_neg a]
  by_cases b : p + 1 ≤ (c.length : Int)
  ·
   rw [if_pos b]
   exact ⟨_, _, rfl, by decide, by decide⟩
  ·
   rw [if_neg b]
   refine ⟨_, _, rfl, ?_⟩
   rw [w64 (by have := bits255; exact Int.le_trans (by decide) (this _).1) (Int.le_trans (bits255 _).2 (by decide))]
   exact bits255 _
theorem tmod_lt {a n : Int} (h : 0 ≤ a) (hn : 0 < n) : 0 ≤ Int.tmod a n ∧ Int.tmod a n < n :=
 ⟨Int.tmod_nonneg _ h, Int.tmod_lt_of_pos _ hn⟩
theorem pick_ok {c : List Int} (hc : ∀ x, x ∈ c → 0 ≤ x ∧ x ≤ 255) {p : Int} (h0 : 0 ≤ p) (h1 : p ≤ 900000000) (s : Int) {n : Int} (hn : 0 < n) :
  ∃ r p1 q, spec_l1Cur_pick.f c p s n = some (r, p1, q) ∧ (0 ≤ r ∧ r < n) ∧ p ≤ p1 ∧ p1 ≤ p + 2 := by
 unfold spec_l1Cur_pick.f
 by_cases a : n ≤ 1
 ·
  rw [if_pos a]
  exact ⟨0, p, s, rfl, ⟨by decide, hn⟩, by omega, by omega⟩
 ·
  obtain ⟨r, q, e, b1, b2⟩ := next_ok hc h0 (by omega) s
  have n0 : ¬ n = 0 := by omega
  rw [if_neg a, e, obs]
  by_cases d : n > 200
  ·
   obtain ⟨r2, q2, e2, d1, d2⟩ := next_ok hc (p := p + 1) (by omega) (by omega) q
   rw [if_pos d, e2, obs, if_neg n0]
   have hw : wrap64 (wrap64 (r * 256) + r2) = r * 256 + r2 := by
    rw [w64 (x := r * 256) (by omega) (by omega), w64 (by omega) (by omega)]
   refine ⟨_, p + 1 + 1, q2, rfl, ?_, by omega, by omega⟩
   simp only
   rw [hw]
   exact tmod_lt (by omega) hn
  ·
   rw [if_neg d, if_neg n0]
   exact ⟨_, p + 1, q, rfl, tmod_lt b1 hn, by omega, by omega⟩
theorem one_ok {c : List Int} (hc : ∀ x, x ∈ c → 0 ≤ x ∧ x ≤ 255) {p : Int} (h0 : 0 ≤ p) (h1 : p ≤ 900000000) (s : Int) {n : Int} (hn : 0 < n) :
  ∃ b p1 q, spec_l1Cur_one.f c p s n = some (b, p1, q) ∧ p ≤ p1 ∧ p1 ≤ p + 2 := by
 obtain ⟨r, p1, q, e, _, a1, a2⟩ := pick_ok hc h0 h1 s hn
 unfold spec_l1Cur_one.f
 rw [e, obs]
 exact ⟨_, p1, q, rfl, a1, a2⟩
theorem among_ok {c : List Int} (hc : ∀ x, x ∈ c → 0 ≤ x ∧ x ≤ 255) {p : Int} (h0 : 0 ≤ p) (h1 : p ≤ 900000000) (s : Int) {l : List Int} (hl : 0 < l.length) :
  ∃ r p1 q, spec_l1Cur_among.f c p s l = some (r, p1, q) ∧ r ∈ l ∧ p ≤ p1 ∧ p1 ≤ p + 2 := by
 obtain ⟨r, p1, q, e, b, a1, a2⟩ := pick_ok hc h0 h1 s (n := (l.length : Int)) (by omega)
 unfold spec_l1Cur_among.f
 rw [e, obs, if_pos b.1, if_pos b.2]
 exact ⟨_, p1, q, rfl, rdI_mem l b.1 b.2, a1, a2⟩
theorem readings_l1 {c : List Int} (hc : ∀ x, x ∈ c → 0 ≤ x ∧ x ≤ 255) (x6 a b : Int) (h6 : 0 ≤ x6) (d : Nat) : ∀ (k : Nat) (l : List S54) (p s : Int), 16 - l.length ≤ d → l.length ≤ 16 → x6 < l.length → d < k → 0 ≤ p → p + 2 * d ≤ 800000000 →
  ∃ r p1 q, spec_l1Cur_readings.l1 k l x6 c p s a b = some (r, p1, q) ∧ r.length ≤ 16 ∧ p ≤ p1 ∧ p1 ≤ p + 2 * d + 2 := by
 induction d with
 | zero =>
  intro k l p s h1 h2 h3 hk h0 hp
  obtain ⟨k, rfl⟩ : ∃ m, k = m + 1 := ⟨k - 1, by omega⟩
  obtain ⟨r, p1, q, e, hr, a1, a2⟩ := pick_ok hc h0 (by omega) s (n := 2) (by decide)
  simp only [spec_l1Cur_readings.l1]
  rw [e, obs]
  simp only
  rw [w64 (by omega) (by omega), if_neg (by omega), if_pos h6, if_pos h3]
  exact ⟨_, p1, q, rfl, by rw [List.length_set]; exact h2, by omega, by omega⟩
 | succ d ih =>
  intro k l p s h1 h2 h3 hk h0 hp
  obtain ⟨k, rfl⟩ : ∃ m, k = m + 1 := ⟨k - 1, by omega⟩
  obtain ⟨r, p1, q, e, hr, a1, a2⟩ := pick_ok hc h0 (by omega) s (n := 2) (by decide)
  simp only [spec_l1Cur_readings.l1]
  rw [e, obs]
  simp only
  rw [w64 (by omega) (by omega)]
  by_cases h : (l.length : Int) < 15 + r
  ·
   rw [if_pos h, if_pos (by omega)]
   obtain ⟨r2, p2, q2, e2, b1, b2, b3⟩ := ih k (l ++ [(⟨wrap64 (980 + (l.length : Int)), 2⟩ : S54)]) p1 q (by rw [List.length_append, List.length_singleton]; omega) (by rw [List.length_append, List.length_singleton]; omega) (by rw [List.length_append, List.length_singleton]; omega) (by omega) (by omega) (by omega)
   exact ⟨r2, p2, q2, e2, b1, by omega, by omega⟩
  ·
   rw [if_neg h, if_pos h6, if_pos h3]
   exact ⟨_, p1, q, rfl, by rw [List.length_set]; exact h2, by omega, by omega⟩
theorem readings_l0 {c : List Int} (hc : ∀ x, x ∈ c → 0 ≤ x ∧ x ≤ 255) (d : Nat) : ∀ (k : Nat) (l : List S54) (x4 x5 p s : Int), x5 = d → l.length + d ≤ 6 → d + 30 < k → 0 ≤ p → p + 4 * d ≤ 700000000 →
  ∃ r p1 q, spec_l1Cur_readings.l0 k l x4 x5 c p s = some (r, p1, q) ∧ r.length ≤ 16 ∧ p ≤ p1 ∧ p1 ≤ p + 4 * d + 60 := by
 induction d with
 | zero =>
  intro k l x4 x5 p s hx hl hk h0 hp
  obtain ⟨k, rfl⟩ : ∃ m, k = m + 1 := ⟨k - 1, by omega⟩
  simp only [spec_l1Cur_readings.l0]
  rw [if_neg (by omega)]
  by_cases hz : (l.length : Int) = 0
  ·
   rw [if_pos hz]
   exact ⟨_, p, s, rfl, by omega, by omega, by omega⟩
  ·
   rw [if_neg hz]
   obtain ⟨r, p1, q, e, hr, a1, a2⟩ := pick_ok hc h0 (by omega) s (n := (l.length : Int)) (by omega)
   rw [e, obs]
   simp only
   rw [if_pos hr.1, if_pos hr.2]
   obtain ⟨r2, p2, q2, e2, hr2, b1, b2⟩ := pick_ok hc (p := p1) (by omega) (by omega) q (n := 50) (by decide)
   rw [e2, obs]
   simp only
   by_cases c0 : r2 = 0
   ·
    rw [if_pos c0, if_pos (by omega)]
    obtain ⟨r3, p3, q3, e3, _, d1, d2⟩ := among_ok hc (p := p2) (by omega) (by omega) q2 (l := [(-1), 1000, (rd_T54 l 0).f0]) (by simp)
    rw [e3, obs]
    exact ⟨_, p3, q3, rfl, by rw [List.length_set]; omega, by omega, by omega⟩
   ·
    rw [if_neg c0]
    by_cases c1 : r2 = 1
    ·
     rw [if_pos c1]
     obtain ⟨r3, p3, q3, e3, _, d1, d2⟩ := among_ok hc (p := p2) (by omega) (by omega) q2 (l := [(-501), 501]) (by decide)
     rw [e3, obs]
     exact ⟨_, p3, q3, rfl, by rw [List.length_set]; omega, by omega, by omega⟩
    ·
     rw [if_neg c1]
     by_cases c2 : r2 = 2
     ·
      rw [if_pos c2]
      obtain ⟨r3, p3, q3, e3, b3, d1, d2⟩ := readings_l1 hc r (rd_T54 l r).f0 (rd_T54 l r).f1 hr.1 16 k l p2 q2 (by omega) (by omega) hr.2 (by omega) (by omega) (by omega)
      exact ⟨r3, p3, q3, e3, b3, by omega, by omega⟩
     ·
      rw [if_neg c2]
      exact ⟨_, p2, q2, rfl, by rw [List.length_set]; omega, by omega, by omega⟩
 | succ d ih =>
  intro k l x4 x5 p s hx hl hk h0 hp
  obtain ⟨k, rfl⟩ : ∃ m, k = m + 1 := ⟨k - 1, by omega⟩
  simp only [spec_l1Cur_readings.l0]
  rw [if_pos (by omega)]
  obtain ⟨r, p1, q, e, _, a1, a2⟩ := among_ok hc h0 (by omega) s (l := [(-500), (-20), 0, 5, 10, 10, 40, 500]) (by decide)
  rw [e, obs]
  simp only
  rw [if_pos (by omega)]
  obtain ⟨r2, p2, q2, e2, _, b1, b2⟩ := among_ok hc (p := p1) (by omega) (by omega) q (l := [1, 2, 3, 7, 20]) (by decide)
  rw [e2, obs]
  simp only
  rw [w64 (x := x5 - 1) (by omega) (by omega)]
  obtain ⟨r3, p3, q3, e3, b3, d1, d2⟩ := ih k (l ++ [(⟨x4, r⟩ : S54)]) (wrap64 (x4 + r2)) (x5 - 1) p2 q2 (by omega) (by rw [List.length_append, List.length_singleton]; omega) (by omega) (by omega) (by omega)
  exact ⟨r3, p3, q3, e3, b3, by omega, by omega⟩
theorem readings_ok {c : List Int} (hc : ∀ x, x ∈ c → 0 ≤ x ∧ x ≤ 255) {p : Int} (h0 : 0 ≤ p) (h1 : p ≤ 600000000) (s : Int) {k : Nat} (hk : 40 < k) :
  ∃ r p1 q, spec_l1Cur_readings.f k c p s = some (r, p1, q) ∧ r.length ≤ 16 ∧ p ≤ p1 ∧ p1 ≤ p + 90 := by
 unfold spec_l1Cur_readings.f
 obtain ⟨r, p1, q, e, _, a1, a2⟩ := among_ok hc h0 (by omega) s (l := [0, 5, 900]) (by decide)
 rw [e, obs]
 simp only
 obtain ⟨r2, p2, q2, e2, hr, b1, b2⟩ := pick_ok hc (p := p1) (by omega) (by omega) q (n := 7) (by decide)
 rw [e2, obs]
 simp only
 obtain ⟨r3, p3, q3, e3, b3, d1, d2⟩ := readings_l0 hc r2.toNat k [] r r2 p2 q2 (by omega) (by simp; omega) (by omega) (by omega) (by omega)
 exact ⟨r3, p3, q3, e3, b3, by omega, by omega⟩
theorem hour_ok {c : List Int} (hc : ∀ x, x ∈ c → 0 ≤ x ∧ x ≤ 255) {p : Int} (h0 : 0 ≤ p) (h1 : p ≤ 600000000) (s : Int) (l : List S54) {k : Nat} (hk : 0 < k) :
  ∃ r p1 q, spec_l1Cur_hour23.f k c p s l = some (r, p1, q) := by
 obtain ⟨k, rfl⟩ : ∃ m, k = m + 1 := ⟨k - 1, by omega⟩
 have key : ∀ (b : Bool) (p s : Int), 0 ≤ p → p ≤ 700000000 → (b = true → 0 < l.length) → ∃ r p1 q, spec_l1Cur_hour23.j0 (k + 1) l b c p s = some (r, p1, q) := by
  intro b p s h0 h1 hb
  simp only [spec_l1Cur_hour23.j0]
  cases b with
  | true =>
   rw [if_pos rfl]
   have hl := hb rfl
   obtain ⟨r, p1, q, e, hr, a1, a2⟩ := pick_ok hc h0 (by omega) s (n := (l.length : Int)) (by omega)
   rw [e, obs]
   simp only
   rw [if_pos hr.1, if_pos hr.2]
   obtain ⟨r2, p2, q2, e2, _, b1, b2⟩ := among_ok hc (p := p1) (by omega) (by omega) q (l := [0, 1, 2, (-1)]) (by decide)
   rw [e2, obs]
   exact ⟨_, _, _, rfl⟩
  | false =>
   rw [if_neg (by decide)]
   obtain ⟨r2, p2, q2, e2, _, b1, b2⟩ := among_ok hc (p := p) (by omega) (by omega) s (l := [0, 6, 905, 999, (-1), 1000]) (by decide)
   rw [e2, obs]
   exact ⟨_, _, _, rfl⟩
 unfold spec_l1Cur_hour23.f
 by_cases h : (l.length : Int) > 0
 ·
  rw [if_pos h]
  obtain ⟨b, p1, q, e, a1, a2⟩ := one_ok hc h0 (by omega) s (n := 4) (by decide)
  rw [e, obs]
  exact key _ p1 q (by omega) (by omega) (fun _ => by omega)
 ·
  rw [if_neg h]
  exact key _ p s h0 (by omega) (fun hb => by cases hb)
theorem sump_j1 {c : List Int} (hc : ∀ x, x ∈ c → 0 ≤ x ∧ x ≤ 255) {p : Int} (h0 : 0 ≤ p) (h1 : p ≤ 600000000) (s u v w : Int) {k : Nat} (hk : 0 < k) :
  ∃ u1 v1 w1 p1 q, spec_l1Cur_sump.j1 k c p s u v w = some (u1, v1, w1, p1, q) ∧ p ≤ p1 ∧ p1 ≤ p + 20 := by
 obtain ⟨k, rfl⟩ : ∃ m, k = m + 1 := ⟨k - 1, by omega⟩
 simp only [spec_l1Cur_sump.j1]
 obtain ⟨r, p1, q, e, hr, a1, a2⟩ := pick_ok hc h0 (by omega) s (n := 60) (by decide)
 rw [e, obs]
 simp only
 by_cases c0 : r = 0
 ·
  rw [if_pos c0]
  obtain ⟨r2, p2, q2, e2, _, b1, b2⟩ := among_ok hc (p := p1) (by omega) (by omega) q (l := [(-1), 8]) (by decide)
  rw [e2, obs]
  exact ⟨_, _, _, p2, q2, rfl, by omega, by omega⟩
 ·
  rw [if_neg c0]
  by_cases c1 : r = 1
  ·
   rw [if_pos c1]
   obtain ⟨r2, p2, q2, e2, _, b1, b2⟩ := among_ok hc (p := p1) (by omega) (by omega) q (l := [(-501), 501]) (by decide)
   rw [e2, obs]
   exact ⟨_, _, _, p2, q2, rfl, by omega, by omega⟩
  ·
   rw [if_neg c1]
   by_cases c2 : r = 2
   ·
    rw [if_pos c2]
    obtain ⟨r2, p2, q2, e2, _, b1, b2⟩ := among_ok hc (p := p1) (by omega) (by omega) q (l := [(-501), wrap64 (v + 1)]) (by simp)
    rw [e2, obs]
    exact ⟨_, _, _, p2, q2, rfl, by omega, by omega⟩
   ·
    rw [if_neg c2]
    exact ⟨_, _, _, p1, q, rfl, by omega, by omega⟩
theorem sump_ok {c : List Int} (hc : ∀ x, x ∈ c → 0 ≤ x ∧ x ≤ 255) {p : Int} (h0 : 0 ≤ p) (h1 : p ≤ 500000000) (s i : Int) {k : Nat} (hk : 1 < k) :
  ∃ u v w p1 q, spec_l1Cur_sump.f k c p s i = some (u, v, w, p1, q) ∧ p ≤ p1 ∧ p1 ≤ p + 50 := by
 obtain ⟨k, rfl⟩ : ∃ m, k = m + 2 := ⟨k - 2, by omega⟩
 unfold spec_l1Cur_sump.f
 obtain ⟨r1, p1, q1, e1, _, a1, a2⟩ := among_ok hc h0 (by omega) s (l := [(-10), 10, 12, 50, 500]) (by decide)
 rw [e1, obs]
 simp only
 obtain ⟨r2, p2, q2, e2, _, b1, b2⟩ := among_ok hc (p := p1) (by omega) (by omega) q1 (l := [(-500), (-10), 0, 7, 10]) (by decide)
 rw [e2, obs]
 simp only
 have key : ∀ (b : Bool) (p3 q3 : Int), p2 ≤ p3 → p3 ≤ p2 + 10 → ∃ u v w p1 q, spec_l1Cur_sump.j0 (k + 1 + 1) b c p3 q3 i r1 r2 = some (u, v, w, p1, q) ∧ p ≤ p1 ∧ p1 ≤ p + 50 := by
  intro b p3 q3 h3 h4
  simp only [spec_l1Cur_sump.j0]
  cases b with
  | true =>
   rw [if_pos rfl]
   obtain ⟨u, v, w, p4, q4, e4, d1, d2⟩ := sump_j1 hc (p := p3) (by omega) (by omega) q3 i r1 r1 (k := k + 1) (by omega)
   exact ⟨u, v, w, p4, q4, e4, by omega, by omega⟩
  | false =>
   rw [if_neg (by decide)]
   obtain ⟨u, v, w, p4, q4, e4, d1, d2⟩ := sump_j1 hc (p := p3) (by omega) (by omega) q3 i r1 r2 (k := k + 1) (by omega)
   exact ⟨u, v, w, p4, q4, e4, by omega, by omega⟩
 by_cases cc : r2 > r1
 ·
  rw [if_pos cc]
  obtain ⟨b, p3, q3, e3, d1, d2⟩ := one_ok hc (p := p2) (by omega) (by omega) q2 (n := 20) (by decide)
  rw [e3, obs]
  exact key _ p3 q3 (by omega) (by omega)
 ·
  rw [if_neg cc]
  exact key _ p2 q2 (by omega) (by omega)
theorem sumps_l0 {c : List Int} (hc : ∀ x, x ∈ c → 0 ≤ x ∧ x ≤ 255) (d : Nat) : ∀ (k : Nat) (l : List S30) (i p s : Int), i + d = 8 → 0 ≤ i → (l.length : Int) ≤ i → d + 10 < k → 0 ≤ p → p + 70 * d ≤ 400000000 →
  ∃ r p1 q, spec_l1Cur_sumps.l0 k l i c p s = some (r, p1, q) ∧ r.length ≤ 9 ∧ p ≤ p1 ∧ p1 ≤ p + 70 * d + 20 := by
 induction d with
 | zero =>
  intro k l i p s hi h0 hl hk hp hp2
  obtain ⟨k, rfl⟩ : ∃ m, k = m + 1 := ⟨k - 1, by omega⟩
  simp only [spec_l1Cur_sumps.l0]
  rw [if_neg (by omega)]
  by_cases hz : (l.length : Int) > 0
  ·
   rw [if_pos hz]
   obtain ⟨b, p1, q, e, a1, a2⟩ := one_ok hc hp (by omega) s (n := 24) (by decide)
   rw [e, obs]
   simp only
   cases b with
   | true =>
    rw [if_pos rfl, if_pos hz, if_pos (by omega)]
    exact ⟨_, p1, q, rfl, by rw [List.length_append, List.length_singleton]; omega, by omega, by omega⟩
   | false =>
    rw [if_neg (by decide)]
    exact ⟨_, p1, q, rfl, by omega, by omega, by omega⟩
  ·
   rw [if_neg hz]
   exact ⟨_, p, s, rfl, by omega, by omega, by omega⟩
 | succ d ih =>
  intro k l i p s hi h0 hl hk hp hp2
  obtain ⟨k, rfl⟩ : ∃ m, k = m + 1 := ⟨k - 1, by omega⟩
  simp only [spec_l1Cur_sumps.l0]
  rw [if_pos (by omega), w64 (by omega) (by omega)]
  obtain ⟨b, p1, q, e, a1, a2⟩ := one_ok hc hp (by omega) s (n := 4) (by decide)
  rw [e, obs]
  simp only
  cases b with
  | true =>
   rw [if_pos rfl]
   obtain ⟨u, v, w, p2, q2, e2, b1, b2⟩ := sump_ok hc (p := p1) (by omega) (by omega) q i (k := k) (by omega)
   rw [e2, obs]
   simp only
   rw [if_pos (by omega)]
   obtain ⟨r, p3, q3, e3, c1, c2, c3⟩ := ih k (l ++ [(⟨u, v, w⟩ : S30)]) (i + 1) p2 q2 (by omega) (by omega) (by rw [List.length_append, List.length_singleton]; omega) (by omega) (by omega) (by omega)
   exact ⟨r, p3, q3, e3, c1, by omega, by omega⟩
  | false =>
   rw [if_neg (by decide)]
   obtain ⟨r, p3, q3, e3, c1, c2, c3⟩ := ih k l (i + 1) p1 q (by omega) (by omega) (by omega) (by omega) (by omega) (by omega)
   exact ⟨r, p3, q3, e3, c1, by omega, by omega⟩
theorem sumps_ok {c : List Int} (hc : ∀ x, x ∈ c → 0 ≤ x ∧ x ≤ 255) {p : Int} (h0 : 0 ≤ p) (h1 : p ≤ 300000000) (s : Int) {k : Nat} (hk : 20 < k) :
  ∃ r p1 q, spec_l1Cur_sumps.f k c p s = some (r, p1, q) ∧ r.length ≤ 9 ∧ p ≤ p1 ∧ p1 ≤ p + 600 := by
 unfold spec_l1Cur_sumps.f
 obtain ⟨r, p1, q, e, a, b, d⟩ := sumps_l0 hc 8 k [] 0 p s (by decide) (by decide) (by decide) (by omega) h0 (by omega)
 exact ⟨r, p1, q, e, a, by omega, by omega⟩
theorem drawIsOpen_ok {c : List Int} (hc : ∀ x, x ∈ c → 0 ≤ x ∧ x ≤ 255) {k : Nat} (hk : 40 < k) : ∃ l u v w h, spec_DrawIsOpen.f k c = some (l, u, v, w, h) ∧ l.length ≤ 16 := by
 unfold spec_DrawIsOpen.f
 rw [show spec_newCur.f c = some (c, 0, 0) from rfl, obs]
 obtain ⟨l, p1, q1, e1, hl, a1, a2⟩ := readings_ok hc (p := 0) (by decide) (by decide) 0 hk
 rw [e1, obs]
 obtain ⟨u, v, w, p2, q2, e2, b1, b2⟩ := sump_ok hc (p := p1) (by omega) (by omega) q1 3 (k := k) (by omega)
 rw [e2, obs]
 obtain ⟨h, p3, q3, e3⟩ := hour_ok hc (p := p2) (by omega) (by omega) q2 l (k := k) (by omega)
 rw [e3, obs]
 exact ⟨l, u, v, w, h, rfl, hl⟩
theorem drawOpenFor_ok {c : List Int} (hc : ∀ x, x ∈ c → 0 ≤ x ∧ x ≤ 255) {k : Nat} (hk : 40 < k) : ∃ l s n, spec_DrawOpenFor.f k c = some (l, s, n) ∧ l.length ≤ 16 ∧ s.length ≤ 9 := by
 unfold spec_DrawOpenFor.f
 rw [show spec_newCur.f c = some (c, 0, 0) from rfl, obs]
 obtain ⟨l, p1, q1, e1, hl, a1, a2⟩ := readings_ok hc (p := 0) (by decide) (by decide) 0 hk
 rw [e1, obs]
 obtain ⟨s, p2, q2, e2, hs, b1, b2⟩ := sumps_ok hc (p := p1) (by omega) (by omega) q1 (k := k) (by omega)
 rw [e2, obs]
 obtain ⟨r, p3, q3, e3, hr, d1, d2⟩ := pick_ok hc (p := p2) (by omega) (by omega) q2 (n := 24) (by decide)
 rw [e3, obs]
 simp only
 rw [if_pos hr]
 have hne : 0 < (drawOpen_.take (5 + r / 11).toNat).length := by
  rw [List.length_take]
  have : drawOpen_.length = 7 := by decide
  omega
 obtain ⟨n, p4, q4, e4, _⟩ := among_ok hc (p := p3) (by omega) (by omega) q3 (l := drawOpen_.take (5 + r / 11).toNat) hne
 rw [e4, obs]
 exact ⟨l, s, n, rfl, hl, hs⟩
theorem drawClosed_ok {c : List Int} (hc : ∀ x, x ∈ c → 0 ≤ x ∧ x ≤ 255) {k : Nat} (hk : 40 < k) : ∃ l s n, spec_DrawClosedSumps.f k c = some (l, s, n) ∧ l.length ≤ 16 ∧ s.length ≤ 9 := by
 unfold spec_DrawClosedSumps.f
 rw [show spec_newCur.f c = some (c, 0, 0) from rfl, obs]
 obtain ⟨l, p1, q1, e1, hl, a1, a2⟩ := readings_ok hc (p := 0) (by decide) (by decide) 0 hk
 rw [e1, obs]
 obtain ⟨s, p2, q2, e2, hs, b1, b2⟩ := sumps_ok hc (p := p1) (by omega) (by omega) q1 (k := k) (by omega)
 rw [e2, obs]
 obtain ⟨h, p3, q3, e3⟩ := hour_ok hc (p := p2) (by omega) (by omega) q2 l (k := k) (by omega)
 rw [e3, obs]
 exact ⟨l, s, h, rfl, hl, hs⟩
theorem drawDrowned_ok {c : List Int} (hc : ∀ x, x ∈ c → 0 ≤ x ∧ x ≤ 255) {k : Nat} (hk : 40 < k) : ∃ l s, spec_DrawDrownedSumps.f k c = some (l, s) ∧ l.length ≤ 16 ∧ s.length ≤ 9 := by
 unfold spec_DrawDrownedSumps.f
 rw [show spec_newCur.f c = some (c, 0, 0) from rfl, obs]
 obtain ⟨l, p1, q1, e1, hl, a1, a2⟩ := readings_ok hc (p := 0) (by decide) (by decide) 0 hk
 rw [e1, obs]
 obtain ⟨s, p2, q2, e2, hs, b1, b2⟩ := sumps_ok hc (p := p1) (by omega) (by omega) q1 (k := k) (by omega)
 rw [e2, obs]
 exact ⟨l, s, rfl, hl, hs⟩
end Go.Proofs.Ytojaeidabmfajaa.Pr.Pure

namespace Go.Proofs.Ytojaeidabmfajaa.Pr.Pure
open Go.RowKit Go.Proofs.YtojaeidabmfajaaW.PrintWords Go.Proofs.YtojaeidabmfajaaW.PrintLast Go.Proofs.YtojaeidabmfajaaW.PrintMore Go.Proofs.YtojaeidabmfajaaW.Opens
set_option linter.unusedVariables false
theorem lawS_l1 {l : List S54} {s : List S30} (hl : l.length ≤ 16) (hs : s.length ≤ 9) {r : List Int} {t : Bool} (h : t = true → r = drownedOf l s ∧ Good l ∧ Sumps s) (d : Nat) : ∀ (K : Nat) (i : Int), 0 ≤ i → i + d = l.length → 20 * d + 3200 < K →
  laws_FnSumps.l1 K l s r t i = some true := by
 induction d with
 | zero =>
  intro K i h0 hd hK
  obtain ⟨K, rfl⟩ : ∃ m, K = m + 2 := ⟨K - 2, by omega⟩
  simp only [laws_FnSumps.l1]
  rw [if_neg (by omega)]
  simp only [laws_FnSumps.j9, Bool.false_eq_true, if_false]
 | succ d ih =>
  intro K i h0 hd hK
  obtain ⟨K, rfl⟩ : ∃ m, K = m + 2 := ⟨K - 2, by omega⟩
  have hi : i < (l.length : Int) := by omega
  simp only [laws_FnSumps.l1]
  rw [if_pos hi]
  cases t with
  | false => simp only [laws_FnSumps.j9, Bool.false_eq_true, if_false]
  | true =>
   obtain ⟨rfl, hg, hS⟩ := h rfl
   simp only [laws_FnSumps.j9, if_true]
   rw [if_pos h0, if_pos hi]
   have m1 := Good.mono hg i.toNat 0 i (Int.le_refl 0) (by omega) hi
   have m2 := Good.mono hg ((l.length : Int) - 1 - i).toNat i ((l.length : Int) - 1) h0 (by omega) (by omega)
   have hw : Wi l (rd_T54 l i).f0 := ⟨by omega, by omega, by omega⟩
   rw [closed_val hg hS (by omega) hw (by omega), obs]
   have step : ∀ K', 20 * d + 3200 < K' → laws_FnSumps.l1 K' l s (drownedOf l s) true (wrap64 (i + 1)) = some true := fun K' hK' => by
    rw [w64 (by omega) (by omega)]
    exact ih K' (i + 1) (by omega) (by omega) hK'
   have gen : ∀ (e : Nat) (K' : Nat) (j : Int), 0 ≤ j → j + e = s.length → e + 20 * d + 3201 < K' → laws_FnSumps.l2 K' l s (drownedOf l s) true i (closedOf (fun a b c => Op l (rd_T54 l i).f0 a b c) s) true j = some true := by
    intro e
    induction e with
    | zero =>
     intro K' j j0 hd' hK'
     obtain ⟨K', rfl⟩ : ∃ m, K' = m + 1 := ⟨K' - 1, by omega⟩
     simp only [laws_FnSumps.l2]
     rw [if_neg (by omega)]
     exact step K' (by omega)
    | succ e ihe =>
     intro K' j j0 hd' hK'
     obtain ⟨K', rfl⟩ : ∃ m, K' = m + 1 := ⟨K' - 1, by omega⟩
     have hj : j < (s.length : Int) := by omega
     simp only [laws_FnSumps.l2]
     rw [if_pos hj]
     simp only [if_true]
     rw [if_pos h0, if_pos hi, if_pos j0, w64 (x := j + 1) (by omega) (by omega)]
     by_cases c : (rd_T54 l i).f1 > (rd_T30 s j).f1
     ·
      obtain ⟨m1, m2⟩ := shut_at hg hS h0 hi j0 hj c
      have hl1 : (closedOf (fun a b c => Op l (rd_T54 l i).f0 a b c) s).length ≤ s.length := closedOf_len _ s
      have hl2 : (drownedOf l s).length ≤ s.length := drownedOf_len l s
      rw [if_pos c, rHas_eq (by omega) m1 (by omega), obs]
      simp only [if_true]
      rw [rHas_eq (by omega) m2 (by omega), obs]
      simp only [if_true]
      exact ihe K' (j + 1) (by omega) (by omega) (by omega)
     ·
      rw [if_neg c]
      exact ihe K' (j + 1) (by omega) (by omega) (by omega)
   exact gen s.length K 0 (Int.le_refl 0) (by omega) (by omega)
theorem lawS_j6 {c : List Int} (hc : ∀ x, x ∈ c → 0 ≤ x ∧ x ≤ 255) {K : Nat} (hK : 3700 < K) : laws_FnSumps.j6 K c false = some true := by
 obtain ⟨K, rfl⟩ : ∃ m, K = m + 2 := ⟨K - 2, by omega⟩
 obtain ⟨l, s, e, hl, hs⟩ := drawDrowned_ok hc (k := K + 1) (by omega)
 have hm : s.length * (l.length + 2) ≤ 9 * 18 := Nat.mul_le_mul hs (by omega)
 obtain ⟨r, b, e1, e2, hr⟩ := drowned_both (l := l) (by omega) (s := s) (by omega) (k := K + 1) (by omega)
 simp only [laws_FnSumps.j6, Bool.false_eq_true, if_false]
 rw [e, obs]
 simp only
 rw [e2, obs, e1, obs]
 simp only [bne_self_eq_false, Bool.false_eq_true, if_false]
 rw [rInts_eq (by omega) (by omega), obs]
 simp only [Bool.not_true, laws_FnSumps.j7, Bool.false_eq_true, if_false]
 exact lawS_l1 hl hs (fun hb => by
  subst hb
  exact drowned_is (by omega) (by omega) (by omega) e2) l.length K 0 (Int.le_refl 0) (by omega) (by omega)
theorem lawS_j5 {c : List Int} (hc : ∀ x, x ∈ c → 0 ≤ x ∧ x ≤ 255) {K : Nat} (hK : 3710 < K) : laws_FnSumps.j5 K c = some true := by
 obtain ⟨K, rfl⟩ : ∃ m, K = m + 1 := ⟨K - 1, by omega⟩
 obtain ⟨l, s, h, e, hl, hs⟩ := drawClosed_ok hc (k := K) (by omega)
 obtain ⟨r, b, e1, e2, hr⟩ := closed_both (l := l) (by omega) (s := s) (by omega) (k := K) (by omega) h
 obtain ⟨b2, h1, h2, _⟩ := areSumps (l := s) (by omega) (k := K) (by omega)
 simp only [laws_FnSumps.j5]
 rw [e, obs]
 simp only
 rw [e2, obs, e1, obs]
 simp only [bne_self_eq_false, Bool.false_eq_true, if_false]
 rw [rInts_eq (by omega) (by omega), obs]
 simp only [if_true]
 rw [h2, obs, show spec_AreSumps.f K s = some b2 from (by unfold spec_AreSumps.f; rw [h1]; rfl), obs]
 simp only [bne_self_eq_false]
 exact lawS_j6 hc (by omega)
theorem lawS_j3 {c : List Int} (hc : ∀ x, x ∈ c → 0 ≤ x ∧ x ≤ 255) {K : Nat} (hK : 4100 < K) : laws_FnSumps.j3 K c false = some true := by
 obtain ⟨K, rfl⟩ : ∃ m, K = m + 2 := ⟨K - 2, by omega⟩
 obtain ⟨l, s, n, e, hl, hs⟩ := drawOpenFor_ok hc (k := K + 1) (by omega)
 obtain ⟨a, b, e1, e2, hb⟩ := openFor_both (l := l) (by omega) (s := s) (by omega) (k := K + 1) (by omega) n
 simp only [laws_FnSumps.j3, Bool.false_eq_true, if_false]
 rw [e, obs]
 simp only
 rw [e2, obs, e1, obs]
 simp only [if_true, bne_self_eq_false]
 simp only [laws_FnSumps.j4, Bool.false_eq_true, if_false]
 cases b with
 | false => exact lawS_j5 hc (by omega)
 | true =>
  obtain ⟨hg, hS, n1, n2, ha⟩ := hb rfl
  obtain ⟨w1, c1⟩ := closed_none (ha a (Int.le_refl a) (by omega))
  obtain ⟨w2, c2⟩ := closed_none (ha (a + n - 1) (by omega) (by omega))
  have b1 := wi_bd hg w1
  simp only [if_true]
  rw [w64 (x := a + n) (by omega) (by omega), w64 (x := a + n - 1) (by omega) (by omega)]
  rw [closed_val hg hS (by omega) w1 (by omega), obs, closed_val hg hS (by omega) w2 (by omega), obs]
  simp only [if_true, c1, c2]
  exact lawS_j5 hc (by omega)
theorem lawS_l0 {c : List Int} (hc : ∀ x, x ∈ c → 0 ≤ x ∧ x ≤ 255) (sp : List (Int × Int)) (hsp : sp.length ≤ 1000) {h : Int} {op t : Bool} (ht : t = true → (op = true ↔ ∃ s ∈ sp, s.1 ≤ h ∧ h ≤ s.2)) (d : Nat) : ∀ (K : Nat) (i : Nat) (x : Bool), i + d = sp.length → d + 4110 < K → (x = true ↔ ∃ s ∈ sp.take i, s.1 ≤ h ∧ h ≤ s.2) →
  laws_FnSumps.l0 K c h op t (rowsS sp) x i = some true := by
 induction d with
 | zero =>
  intro K i x hd hK hx
  obtain ⟨K, rfl⟩ : ∃ m, K = m + 1 := ⟨K - 1, by omega⟩
  simp only [laws_FnSumps.l0, rows_len]
  rw [if_neg (by omega)]
  cases t with
  | false => exact lawS_j3 hc (by omega)
  | true =>
   rw [List.take_of_length_le (by omega)] at hx
   have : x = op := by
    have := hx.trans (ht rfl).symm
    cases x <;> cases op <;> simp_all
   subst this
   simp only [if_true, bne_self_eq_false]
   exact lawS_j3 hc (by omega)
 | succ d ih =>
  intro K i x hd hK hx
  obtain ⟨K, rfl⟩ : ∃ m, K = m + 1 := ⟨K - 1, by omega⟩
  have hr : rd_L9 (rowsS sp) (i : Int) = [(sp.getD i (0, 0)).1, (sp.getD i (0, 0)).2] := by
   unfold rowsS
   show (List.map _ sp).getD (i : Int).toNat [] = _
   rw [Int.toNat_natCast, List.getD_eq_getElem?_getD, List.getElem?_map, List.getD_eq_getElem?_getD, List.getElem?_eq_getElem (by omega)]
   rfl
  have ht1 : (∃ s ∈ sp.take (i + 1), s.1 ≤ h ∧ h ≤ s.2) ↔ ((∃ s ∈ sp.take i, s.1 ≤ h ∧ h ≤ s.2) ∨ ((sp.getD i (0, 0)).1 ≤ h ∧ h ≤ (sp.getD i (0, 0)).2)) := by
   have : sp.take (i + 1) = sp.take i ++ [sp.getD i (0, 0)] := by
    rw [List.take_add_one, List.getD_eq_getElem?_getD, List.getElem?_eq_getElem (by omega)]
    rfl
   rw [this]
   constructor
   ·
    rintro ⟨s, hs, h1⟩
    rcases List.mem_append.1 hs with hs | hs
    ·
     exact .inl ⟨s, hs, h1⟩
    ·
     obtain rfl := List.mem_singleton.1 hs
     exact .inr h1
   ·
    rintro (⟨s, hs, h1⟩ | h1)
    ·
     exact ⟨s, List.mem_append_left _ hs, h1⟩
    ·
     exact ⟨_, List.mem_append_right _ (List.mem_singleton.2 rfl), h1⟩
  simp only [laws_FnSumps.l0, rows_len]
  rw [if_pos (by omega), w64 (x := (i : Int) + 1) (by omega) (by omega)]
  cases x with
  | true =>
   rw [if_pos rfl]
   exact ih K (i + 1) true (by omega) (by omega) (by rw [ht1, ← hx]; simp)
  | false =>
   rw [if_neg (by decide), if_pos (by omega), hr, if_pos (by simp)]
   have hx' : ¬ ∃ s ∈ sp.take i, s.1 ≤ h ∧ h ≤ s.2 := fun hh => by have := hx.2 hh; cases this
   show (if h ≥ (sp.getD i (0, 0)).1 then _ else _) = _
   by_cases cc : h ≥ (sp.getD i (0, 0)).1
   ·
    rw [if_pos cc, if_pos (by simp)]
    show laws_FnSumps.l0 K c h op t (rowsS sp) (decide (h ≤ (sp.getD i (0, 0)).2)) _ = _
    refine ih K (i + 1) _ (by omega) (by omega) ?_
    rw [ht1, decide_eq_true_eq]
    exact ⟨fun hh => .inr ⟨cc, hh⟩, fun hh => by
     rcases hh with hh | hh
     ·
      exact absurd hh hx'
     ·
      exact hh.2⟩
   ·
    rw [if_neg cc]
    refine ih K (i + 1) false (by omega) (by omega) ?_
    rw [ht1]
    exact ⟨fun hh => (by cases hh), fun hh => (hh.elim (fun h1 => absurd h1 hx') (fun h1 => absurd h1.1 cc))⟩
theorem FnSumps : FnSumps.Pure := by
 intro l0 hw
 have hc' : ∀ x, x ∈ l0 → 0 ≤ x ∧ x ≤ 255 := fun x hx => by
  have h := hw.2.2 x hx
  simp [Lit.wf, IntKind.min, IntKind.max, IntKind.signed, IntKind.bits] at h
  omega
 refine ⟨6000, ?_⟩
 unfold laws_FnSumps.f laws_rBig.f
 rw [obs]
 by_cases big : decide ((l0.length : Int) > 65536) = true
 ·
  rw [if_pos big]
 ·
  rw [if_neg big]
  obtain ⟨l, u, v, w, h, e, hl⟩ := drawIsOpen_ok hc' (k := 6000) (by decide)
  obtain ⟨r, t, e1, e2, e3⟩ := isOpen_f (l := l) (by omega) (k := 6000) (by decide) u v w h
  obtain ⟨sp, t2, f1, f2, f3, f4⟩ := openSpans_both (l := l) (by omega) (k := 5999) (by omega) u v w
  rw [e, obs]
  simp only
  rw [e2, obs, e1, obs]
  simp only [bne_self_eq_false, Bool.false_eq_true, if_false]
  show laws_FnSumps.j0 (5999 + 1) l0 l h r t false u v w = some true
  simp only [laws_FnSumps.j0, Bool.false_eq_true, if_false]
  rw [f2, obs, f1, obs]
  simp only [bne_self_eq_false, Bool.false_eq_true, if_false]
  rw [rTable_eq f3 (by omega), obs]
  show laws_FnSumps.j1 (5998 + 1) l0 h r t (rowsS sp) (!true) = some true
  simp only [Bool.not_true, laws_FnSumps.j1, Bool.false_eq_true, if_false]
  refine lawS_l0 hc' sp f3 (fun ht => ?_) sp.length 5998 0 false (by omega) (by omega) (by simp)
  obtain ⟨hg, hS, hwi, hr⟩ := e3 ht
  have hspe := (f4 hg hS).2
  have hb := wi_bd hg hwi
  rw [hspe, spansB_in (OneOp l u v w) h 1000 0 [] (fun s hs => by cases hs)]
  rw [hr]
  unfold OneOp
  rw [decide_eq_true hwi, Bool.true_and]
  constructor
  ·
   intro ho
   exact .inr ⟨by omega, by omega, ho⟩
  ·
   rintro (⟨s, hs, _⟩ | ⟨_, _, ho⟩)
   ·
    cases hs
   ·
    exact ho
end Go.Proofs.Ytojaeidabmfajaa.Pr.Pure

