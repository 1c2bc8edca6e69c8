/-
What is proved: parts of the law FnLabels: what the functions that it reaches compute, and the plain law.
Conditions: those of each theorem.
-/
import Derived.ChangeArms
import Derived.ChangeSlices
import Derived.Deep.Slices
import Derived.RowKit
import Derived.SizedLaws
import Derived.WideShapes
import Derived.Test.YtjkcfpmonpkhhaaDoorCFnLabels2
namespace Go.Proofs.YtjkcfpmonpkhhaaDoor.Pr
open Go.RowKit Go.Proofs.YtjkcfpmonpkhhaaDoorW.PrintWords Go.Proofs.YtjkcfpmonpkhhaaDoorW.PrintLast Go.Proofs.YtjkcfpmonpkhhaaDoorW.PrintMore
attribute [local go_sem] max2_int min2_int max_two min_two max_three min_three max_four min_four   -- for this text's walks alone
set_option linter.unusedVariables false
set_option linter.unusedSimpArgs false
def spec_l1Cur_label.f (s0_0 : List Int) (s0_1 : Int) (s0_2 : Int) : Option (ByteArray × Int × Int × Int × Int) := (spec_l1Cur_of.f s0_0 s0_1 s0_2 (([(⟨#[97]⟩ : ByteArray), (⟨#[115, 117, 109, 112]⟩ : ByteArray), (⟨#[98, 105, 103]⟩ : ByteArray), (⟨#[104, 97, 108, 108]⟩ : ByteArray), (⟨#[108, 111, 110, 103, 110, 97, 109, 101]⟩ : ByteArray), (⟨#[97, 98, 99, 100, 101, 102, 103, 104, 105, 106]⟩ : ByteArray)] : List ByteArray))).bind fun bt614 => ((spec_l1Cur_among.f s0_0 bt614.2.1 bt614.2.2 (([0, 5, 9, 12, 13, 99] : List Int))).bind fun bt620 => ((spec_l1Cur_among.f s0_0 bt620.2.1 bt620.2.2 (([0, 1, 8, 10, 11, 99] : List Int))).bind fun bt626 => ((spec_l1Cur_pick.f s0_0 bt626.2.1 bt626.2.2 60).bind fun bt630 => (if bt630.1 = 0 then ((spec_l1Cur_of.f s0_0 bt630.2.1 bt630.2.2 (([(⟨#[]⟩ : ByteArray), (⟨#[65]⟩ : ByteArray), (⟨#[97, 98, 99, 100, 101, 102, 103, 104, 105, 106, 107]⟩ : ByteArray)] : List ByteArray))).bind fun bt636 => (some (bt636.1, bt620.1, bt626.1, bt636.2.1, bt636.2.2))) else (if bt630.1 = 1 then ((spec_l1Cur_among.f s0_0 bt630.2.1 bt630.2.2 (([(-1), 100] : List Int))).bind fun bt642 => (some (bt614.1, bt642.1, bt626.1, bt642.2.1, bt642.2.2))) else (if bt630.1 = 2 then ((spec_l1Cur_among.f s0_0 bt630.2.1 bt630.2.2 (([(-1), 100] : List Int))).bind fun bt648 => (some (bt614.1, bt620.1, bt648.1, bt648.2.1, bt648.2.2))) else (some (bt614.1, bt620.1, bt626.1, bt630.2.1, bt630.2.2))))))))
set_option maxHeartbeats 8000000 in
set_option maxRecDepth 100000 in
theorem spec_l1Cur_label.calls (g : Nat) (s0_0 : List Int) (s0_1 : Int) (s0_2 : Int) (r1 : ByteArray) (r2 : Int) (r3 : Int) (r4 : Int) (r5 : Int) (w0 w : World) (hI : IsS99 w0 w g s0_0 s0_1 s0_2) (hB : Below w0.heap.size w0 w) (h : spec_l1Cur_label.f s0_0 s0_1 s0_2 = some (r1, r2, r3, r4, r5)) :
  Calls Tryd.prog 89 #[.pointer (some ⟨g, 0, none⟩)] w fun e w' => e = .returned (.agg #[.string r1, .int .i64 r2, .int .i64 r3]) ∧ IsS99 w0 w' g s0_0 r4 r5 ∧ Below w0.heap.size w0 w' ∧ KeepBut w w' g none := by
 have hu29 := Tryd.underlying29
 have HI0 := Aside0.mk hI
 have HK := Aside0.mk (KeepBut.refl w g none)
 have HL := Aside0.mk hB.size
 clear hI
 have HW0 := Aside0.mk hB.size
 have HB := Aside0.mk hB
 clear hB
 have H : ((spec_l1Cur_of.f s0_0 s0_1 s0_2 (([(⟨#[97]⟩ : ByteArray), (⟨#[115, 117, 109, 112]⟩ : ByteArray), (⟨#[98, 105, 103]⟩ : ByteArray), (⟨#[104, 97, 108, 108]⟩ : ByteArray), (⟨#[108, 111, 110, 103, 110, 97, 109, 101]⟩ : ByteArray), (⟨#[97, 98, 99, 100, 101, 102, 103, 104, 105, 106]⟩ : ByteArray)] : List ByteArray))).bind fun bt614 => ((spec_l1Cur_among.f s0_0 bt614.2.1 bt614.2.2 (([0, 5, 9, 12, 13, 99] : List Int))).bind fun bt620 => ((spec_l1Cur_among.f s0_0 bt620.2.1 bt620.2.2 (([0, 1, 8, 10, 11, 99] : List Int))).bind fun bt626 => ((spec_l1Cur_pick.f s0_0 bt626.2.1 bt626.2.2 60).bind fun bt630 => (if bt630.1 = 0 then ((spec_l1Cur_of.f s0_0 bt630.2.1 bt630.2.2 (([(⟨#[]⟩ : ByteArray), (⟨#[65]⟩ : ByteArray), (⟨#[97, 98, 99, 100, 101, 102, 103, 104, 105, 106, 107]⟩ : ByteArray)] : List ByteArray))).bind fun bt636 => (some (bt636.1, bt620.1, bt626.1, bt636.2.1, bt636.2.2))) else (if bt630.1 = 1 then ((spec_l1Cur_among.f s0_0 bt630.2.1 bt630.2.2 (([(-1), 100] : List Int))).bind fun bt642 => (some (bt614.1, bt642.1, bt626.1, bt642.2.1, bt642.2.2))) else (if bt630.1 = 2 then ((spec_l1Cur_among.f s0_0 bt630.2.1 bt630.2.2 (([(-1), 100] : List Int))).bind fun bt648 => (some (bt614.1, bt620.1, bt648.1, bt648.2.1, bt648.2.2))) else (some (bt614.1, bt620.1, bt626.1, bt630.2.1, bt630.2.2))))))))) = some (r1, r2, r3, r4, r5) := h
 clear h
 obtain ⟨y611, hy611⟩ : ∃ y_ : List ByteArray, y_ = (([(⟨#[97]⟩ : ByteArray), (⟨#[115, 117, 109, 112]⟩ : ByteArray), (⟨#[98, 105, 103]⟩ : ByteArray), (⟨#[104, 97, 108, 108]⟩ : ByteArray), (⟨#[108, 111, 110, 103, 110, 97, 109, 101]⟩ : ByteArray), (⟨#[97, 98, 99, 100, 101, 102, 103, 104, 105, 106]⟩ : ByteArray)] : List ByteArray)) := ⟨_, rfl⟩
 replace H : ((spec_l1Cur_of.f s0_0 s0_1 s0_2 y611).bind fun bt614 => ((spec_l1Cur_among.f s0_0 bt614.2.1 bt614.2.2 (([0, 5, 9, 12, 13, 99] : List Int))).bind fun bt620 => ((spec_l1Cur_among.f s0_0 bt620.2.1 bt620.2.2 (([0, 1, 8, 10, 11, 99] : List Int))).bind fun bt626 => ((spec_l1Cur_pick.f s0_0 bt626.2.1 bt626.2.2 60).bind fun bt630 => (if bt630.1 = 0 then ((spec_l1Cur_of.f s0_0 bt630.2.1 bt630.2.2 (([(⟨#[]⟩ : ByteArray), (⟨#[65]⟩ : ByteArray), (⟨#[97, 98, 99, 100, 101, 102, 103, 104, 105, 106, 107]⟩ : ByteArray)] : List ByteArray))).bind fun bt636 => (some (bt636.1, bt620.1, bt626.1, bt636.2.1, bt636.2.2))) else (if bt630.1 = 1 then ((spec_l1Cur_among.f s0_0 bt630.2.1 bt630.2.2 (([(-1), 100] : List Int))).bind fun bt642 => (some (bt614.1, bt642.1, bt626.1, bt642.2.1, bt642.2.2))) else (if bt630.1 = 2 then ((spec_l1Cur_among.f s0_0 bt630.2.1 bt630.2.2 (([(-1), 100] : List Int))).bind fun bt648 => (some (bt614.1, bt620.1, bt648.1, bt648.2.1, bt648.2.2))) else (some (bt614.1, bt620.1, bt626.1, bt630.2.1, bt630.2.2))))))))) = some (r1, r2, r3, r4, r5) := by first | (rw [hy611]; with_reducible exact H) | (have H2_ := (Option.bind_some _ _).symm.trans H; rw [hy611]; with_reducible exact H2_) | (have H2_ := (Option.bind_some _ _).symm.trans H; with_reducible exact H2_) | with_reducible exact H | (rw [hy611]; exact H) | exact H
 have Ny611 := Aside0.mk hy611
 clear hy611
 replace H := Option.bind_eq_some_iff.mp H
 obtain ⟨⟨t614, t615, t616⟩, A20, H⟩ := H
 replace H : ((spec_l1Cur_among.f s0_0 t615 t616 (([0, 5, 9, 12, 13, 99] : List Int))).bind fun bt620 => ((spec_l1Cur_among.f s0_0 bt620.2.1 bt620.2.2 (([0, 1, 8, 10, 11, 99] : List Int))).bind fun bt626 => ((spec_l1Cur_pick.f s0_0 bt626.2.1 bt626.2.2 60).bind fun bt630 => (if bt630.1 = 0 then ((spec_l1Cur_of.f s0_0 bt630.2.1 bt630.2.2 (([(⟨#[]⟩ : ByteArray), (⟨#[65]⟩ : ByteArray), (⟨#[97, 98, 99, 100, 101, 102, 103, 104, 105, 106, 107]⟩ : ByteArray)] : List ByteArray))).bind fun bt636 => (some (bt636.1, bt620.1, bt626.1, bt636.2.1, bt636.2.2))) else (if bt630.1 = 1 then ((spec_l1Cur_among.f s0_0 bt630.2.1 bt630.2.2 (([(-1), 100] : List Int))).bind fun bt642 => (some (t614, bt642.1, bt626.1, bt642.2.1, bt642.2.2))) else (if bt630.1 = 2 then ((spec_l1Cur_among.f s0_0 bt630.2.1 bt630.2.2 (([(-1), 100] : List Int))).bind fun bt648 => (some (t614, bt620.1, bt648.1, bt648.2.1, bt648.2.2))) else (some (t614, bt620.1, bt626.1, bt630.2.1, bt630.2.2)))))))) = some (r1, r2, r3, r4, r5) := H
 have A2 := Aside0.mk A20
 clear A20
 obtain ⟨y617, hy617⟩ : ∃ y_ : List Int, y_ = (([0, 5, 9, 12, 13, 99] : List Int)) := ⟨_, rfl⟩
 replace H : ((spec_l1Cur_among.f s0_0 t615 t616 y617).bind fun bt620 => ((spec_l1Cur_among.f s0_0 bt620.2.1 bt620.2.2 (([0, 1, 8, 10, 11, 99] : List Int))).bind fun bt626 => ((spec_l1Cur_pick.f s0_0 bt626.2.1 bt626.2.2 60).bind fun bt630 => (if bt630.1 = 0 then ((spec_l1Cur_of.f s0_0 bt630.2.1 bt630.2.2 (([(⟨#[]⟩ : ByteArray), (⟨#[65]⟩ : ByteArray), (⟨#[97, 98, 99, 100, 101, 102, 103, 104, 105, 106, 107]⟩ : ByteArray)] : List ByteArray))).bind fun bt636 => (some (bt636.1, bt620.1, bt626.1, bt636.2.1, bt636.2.2))) else (if bt630.1 = 1 then ((spec_l1Cur_among.f s0_0 bt630.2.1 bt630.2.2 (([(-1), 100] : List Int))).bind fun bt642 => (some (t614, bt642.1, bt626.1, bt642.2.1, bt642.2.2))) else (if bt630.1 = 2 then ((spec_l1Cur_among.f s0_0 bt630.2.1 bt630.2.2 (([(-1), 100] : List Int))).bind fun bt648 => (some (t614, bt620.1, bt648.1, bt648.2.1, bt648.2.2))) else (some (t614, bt620.1, bt626.1, bt630.2.1, bt630.2.2)))))))) = some (r1, r2, r3, r4, r5) := by first | (rw [hy617]; with_reducible exact H) | (have H2_ := (Option.bind_some _ _).symm.trans H; rw [hy617]; with_reducible exact H2_) | (have H2_ := (Option.bind_some _ _).symm.trans H; with_reducible exact H2_) | with_reducible exact H | (rw [hy617]; exact H) | exact H
 have Ny617 := Aside0.mk hy617
 clear hy617
 replace H := Option.bind_eq_some_iff.mp H
 obtain ⟨⟨t620, t621, t622⟩, A30, H⟩ := H
 replace H : ((spec_l1Cur_among.f s0_0 t621 t622 (([0, 1, 8, 10, 11, 99] : List Int))).bind fun bt626 => ((spec_l1Cur_pick.f s0_0 bt626.2.1 bt626.2.2 60).bind fun bt630 => (if bt630.1 = 0 then ((spec_l1Cur_of.f s0_0 bt630.2.1 bt630.2.2 (([(⟨#[]⟩ : ByteArray), (⟨#[65]⟩ : ByteArray), (⟨#[97, 98, 99, 100, 101, 102, 103, 104, 105, 106, 107]⟩ : ByteArray)] : List ByteArray))).bind fun bt636 => (some (bt636.1, t620, bt626.1, bt636.2.1, bt636.2.2))) else (if bt630.1 = 1 then ((spec_l1Cur_among.f s0_0 bt630.2.1 bt630.2.2 (([(-1), 100] : List Int))).bind fun bt642 => (some (t614, bt642.1, bt626.1, bt642.2.1, bt642.2.2))) else (if bt630.1 = 2 then ((spec_l1Cur_among.f s0_0 bt630.2.1 bt630.2.2 (([(-1), 100] : List Int))).bind fun bt648 => (some (t614, t620, bt648.1, bt648.2.1, bt648.2.2))) else (some (t614, t620, bt626.1, bt630.2.1, bt630.2.2))))))) = some (r1, r2, r3, r4, r5) := H
 have A3 := Aside0.mk A30
 clear A30
 obtain ⟨y623, hy623⟩ : ∃ y_ : List Int, y_ = (([0, 1, 8, 10, 11, 99] : List Int)) := ⟨_, rfl⟩
 replace H : ((spec_l1Cur_among.f s0_0 t621 t622 y623).bind fun bt626 => ((spec_l1Cur_pick.f s0_0 bt626.2.1 bt626.2.2 60).bind fun bt630 => (if bt630.1 = 0 then ((spec_l1Cur_of.f s0_0 bt630.2.1 bt630.2.2 (([(⟨#[]⟩ : ByteArray), (⟨#[65]⟩ : ByteArray), (⟨#[97, 98, 99, 100, 101, 102, 103, 104, 105, 106, 107]⟩ : ByteArray)] : List ByteArray))).bind fun bt636 => (some (bt636.1, t620, bt626.1, bt636.2.1, bt636.2.2))) else (if bt630.1 = 1 then ((spec_l1Cur_among.f s0_0 bt630.2.1 bt630.2.2 (([(-1), 100] : List Int))).bind fun bt642 => (some (t614, bt642.1, bt626.1, bt642.2.1, bt642.2.2))) else (if bt630.1 = 2 then ((spec_l1Cur_among.f s0_0 bt630.2.1 bt630.2.2 (([(-1), 100] : List Int))).bind fun bt648 => (some (t614, t620, bt648.1, bt648.2.1, bt648.2.2))) else (some (t614, t620, bt626.1, bt630.2.1, bt630.2.2))))))) = some (r1, r2, r3, r4, r5) := by first | (rw [hy623]; with_reducible exact H) | (have H2_ := (Option.bind_some _ _).symm.trans H; rw [hy623]; with_reducible exact H2_) | (have H2_ := (Option.bind_some _ _).symm.trans H; with_reducible exact H2_) | with_reducible exact H | (rw [hy623]; exact H) | exact H
 have Ny623 := Aside0.mk hy623
 clear hy623
 replace H := Option.bind_eq_some_iff.mp H
 obtain ⟨⟨t626, t627, t628⟩, A40, H⟩ := H
 replace H : ((spec_l1Cur_pick.f s0_0 t627 t628 60).bind fun bt630 => (if bt630.1 = 0 then ((spec_l1Cur_of.f s0_0 bt630.2.1 bt630.2.2 (([(⟨#[]⟩ : ByteArray), (⟨#[65]⟩ : ByteArray), (⟨#[97, 98, 99, 100, 101, 102, 103, 104, 105, 106, 107]⟩ : ByteArray)] : List ByteArray))).bind fun bt636 => (some (bt636.1, t620, t626, bt636.2.1, bt636.2.2))) else (if bt630.1 = 1 then ((spec_l1Cur_among.f s0_0 bt630.2.1 bt630.2.2 (([(-1), 100] : List Int))).bind fun bt642 => (some (t614, bt642.1, t626, bt642.2.1, bt642.2.2))) else (if bt630.1 = 2 then ((spec_l1Cur_among.f s0_0 bt630.2.1 bt630.2.2 (([(-1), 100] : List Int))).bind fun bt648 => (some (t614, t620, bt648.1, bt648.2.1, bt648.2.2))) else (some (t614, t620, t626, bt630.2.1, bt630.2.2)))))) = some (r1, r2, r3, r4, r5) := H
 have A4 := Aside0.mk A40
 clear A40
 replace H := Option.bind_eq_some_iff.mp H
 obtain ⟨⟨t630, t631, t632⟩, A50, H⟩ := H
 replace H : (if t630 = 0 then ((spec_l1Cur_of.f s0_0 t631 t632 (([(⟨#[]⟩ : ByteArray), (⟨#[65]⟩ : ByteArray), (⟨#[97, 98, 99, 100, 101, 102, 103, 104, 105, 106, 107]⟩ : ByteArray)] : List ByteArray))).bind fun bt636 => (some (bt636.1, t620, t626, bt636.2.1, bt636.2.2))) else (if t630 = 1 then ((spec_l1Cur_among.f s0_0 t631 t632 (([(-1), 100] : List Int))).bind fun bt642 => (some (t614, bt642.1, t626, bt642.2.1, bt642.2.2))) else (if t630 = 2 then ((spec_l1Cur_among.f s0_0 t631 t632 (([(-1), 100] : List Int))).bind fun bt648 => (some (t614, t620, bt648.1, bt648.2.1, bt648.2.2))) else (some (t614, t620, t626, t631, t632))))) = some (r1, r2, r3, r4, r5) := H
 have A5 := Aside0.mk A50
 clear A50
 by_cases c6 : t630 = 0
 ·
  rw [if_pos c6] at H
  have c6b0 : (t630 == 0) = true := beq_iff_eq.mpr c6
  have c6b1 : (t630 != 0) = false := bne_eq_false_iff_eq.mpr c6
  clear c6
  obtain ⟨y633, hy633⟩ : ∃ y_ : List ByteArray, y_ = (([(⟨#[]⟩ : ByteArray), (⟨#[65]⟩ : ByteArray), (⟨#[97, 98, 99, 100, 101, 102, 103, 104, 105, 106, 107]⟩ : ByteArray)] : List ByteArray)) := ⟨_, rfl⟩
  replace H : ((spec_l1Cur_of.f s0_0 t631 t632 y633).bind fun bt636 => (some (bt636.1, t620, t626, bt636.2.1, bt636.2.2))) = some (r1, r2, r3, r4, r5) := by first | (rw [hy633]; with_reducible exact H) | (have H2_ := (Option.bind_some _ _).symm.trans H; rw [hy633]; with_reducible exact H2_) | (have H2_ := (Option.bind_some _ _).symm.trans H; with_reducible exact H2_) | with_reducible exact H | (rw [hy633]; exact H) | exact H
  have Ny633 := Aside0.mk hy633
  clear hy633
  replace H := Option.bind_eq_some_iff.mp H
  obtain ⟨⟨t636, t637, t638⟩, A70, H⟩ := H
  replace H : (some (t636, t620, t626, t637, t638)) = some (r1, r2, r3, r4, r5) := H
  have A7 := Aside0.mk A70
  clear A70
  simp only [Option.some.injEq, Prod.mk.injEq] at H
  obtain ⟨rfl, rfl, rfl, rfl, rfl⟩ := H
  go_enter Tryd.func89, Tryd.ntmps89
  go_wp2_with (first | ((with_reducible refine gate_dst (N := 2) rfl ?_); refine box_event ?hg (N := 2) ?hd (cs := #[.string (⟨#[]⟩ : ByteArray), .int .i64 0, .int .i64 0]) (t := 29) ?hr ?_; (case hd => rfl); (case hg => rfl); (case hr => first | (go_simp; done) | (go_simp; rfl)); intro gb610 hg w8 hbox hb; replace HB := Aside0.mk (below_step (lb1_ HB.out (IsS99.ge HI0.out)) hb); have BK610 := Aside0.mk (hbox); have GW610 := Aside0.mk ((by rw [hg]; exact (keep_size (w := w) (g := g) (row := none) (kb0_ HK.out)) : w.heap.size ≤ gb610)); have GE610 := Aside0.mk ((Nat.le_trans HW0.out (by rw [hg]; exact (keep_size (w := w) (g := g) (row := none) (kb0_ HK.out)) : w.heap.size ≤ gb610) : w0.heap.size ≤ gb610)); replace HK := Aside0.mk (KeepBut.trans (kb0_ HK.out) (KeepBut.of_below hb g none) (.inl rfl)); have NB0_610 := Aside0.mk ((by rw [hg]; exact Nat.ne_of_lt (IsS99.lt (show IsS99 w0 _ g s0_0 s0_1 s0_2 from is99_0 HI0.out)) : g ≠ gb610)); have NB610_0 := Aside0.mk ((by rw [hg]; exact Nat.ne_of_gt (IsS99.lt (show IsS99 w0 _ g s0_0 s0_1 s0_2 from is99_0 HI0.out)) : gb610 ≠ g)); replace HI0 := Aside0.mk (IsS99.below (is99_0 HI0.out) hb); clear hb hbox hg) | ((with_reducible refine gate_dst (N := 5) rfl ?_); refine Kd.R_lit Kd.string _ 9 ?hg (N := 5) ?hd (xs := ([(⟨#[97]⟩ : ByteArray), (⟨#[115, 117, 109, 112]⟩ : ByteArray), (⟨#[98, 105, 103]⟩ : ByteArray), (⟨#[104, 97, 108, 108]⟩ : ByteArray), (⟨#[108, 111, 110, 103, 110, 97, 109, 101]⟩ : ByteArray), (⟨#[97, 98, 99, 100, 101, 102, 103, 104, 105, 106]⟩ : ByteArray)] : List ByteArray)) (inner := [.string (⟨#[97]⟩ : ByteArray), .string (⟨#[115, 117, 109, 112]⟩ : ByteArray), .string (⟨#[98, 105, 103]⟩ : ByteArray), .string (⟨#[104, 97, 108, 108]⟩ : ByteArray), .string (⟨#[108, 111, 110, 103, 110, 97, 109, 101]⟩ : ByteArray), .string (⟨#[97, 98, 99, 100, 101, 102, 103, 104, 105, 106]⟩ : ByteArray)]) (ok := fun _ => True) (okp := fun _ => True) ?hr ?hp (fun _ hk => hk) trivial (Below.refl _ _) (Nat.le_refl _) (by simp) ?_; (case hd => rfl); (case hg => rfl); (case hr => first | (go_simp; done) | (go_simp; rfl)); (case hp => exact (Reps.one (show Kd.M Kd.string _ _ _ (⟨#[97]⟩ : ByteArray) [.string (⟨#[97]⟩ : ByteArray)] from rfl) (Reps.one (show Kd.M Kd.string _ _ _ (⟨#[115, 117, 109, 112]⟩ : ByteArray) [.string (⟨#[115, 117, 109, 112]⟩ : ByteArray)] from rfl) (Reps.one (show Kd.M Kd.string _ _ _ (⟨#[98, 105, 103]⟩ : ByteArray) [.string (⟨#[98, 105, 103]⟩ : ByteArray)] from rfl) (Reps.one (show Kd.M Kd.string _ _ _ (⟨#[104, 97, 108, 108]⟩ : ByteArray) [.string (⟨#[104, 97, 108, 108]⟩ : ByteArray)] from rfl) (Reps.one (show Kd.M Kd.string _ _ _ (⟨#[108, 111, 110, 103, 110, 97, 109, 101]⟩ : ByteArray) [.string (⟨#[108, 111, 110, 103, 110, 97, 109, 101]⟩ : ByteArray)] from rfl) (Reps.one (show Kd.M Kd.string _ _ _ (⟨#[97, 98, 99, 100, 101, 102, 103, 104, 105, 106]⟩ : ByteArray) [.string (⟨#[97, 98, 99, 100, 101, 102, 103, 104, 105, 106]⟩ : ByteArray)] from rfl) (Reps.none _ _)))))))); intro v612 w9 ho10 hb hg_ hnew_; clear hg_ hnew_; replace ho10 := ry_ Ny611.out ho10; have HO613 := Aside0.mk (Kd.R_lower ho10 (keep_size (w := w) (g := g) (row := none) (kb1_ HK.out GW610.out))); replace BK610 := Aside0.mk (bb_ (bk_ BK610.out) hb); replace HK := Aside0.mk (KeepBut.trans (kb1_ HK.out GW610.out) (KeepBut.of_below hb g none) (.inl rfl)); replace HB := Aside0.mk (below_step (lb2_ HB.out (IsS99.ge HI0.out) GE610.out) hb); replace HI0 := Aside0.mk (IsS99.below (is99_1 HI0.out NB0_610.out) hb); clear hb ho10; obtain ⟨Ao11, co11, eo11⟩ := Kd.R_slice HO613.out; subst eo11) | ((with_reducible refine gate_callee (f := 108) rfl ?_); refine ga_ (some 6) Tryd.func108 #[.pointer (some ⟨g, 0, none⟩), .slice Ao11 y611.length co11] ?_; (with_reducible refine (spec_l1Cur_of.calls g s0_0 s0_1 s0_2 _ _ y611 t614 t615 t616 w0 _ ?side1 ?side2 ?side3 ?side4 ?side5 A2.out).mono ?_); (case side1 => exact is99_1 HI0.out NB0_610.out); (case side2 => exact lb2_ HB.out (IsS99.ge HI0.out) GE610.out); (case side3 => exact kc_ (Kd.R_reads' HO613.out).2.2); (case side4 => exact (Kd.R_reads' HO613.out).2.1); (case side5 => exact far_slice (IsS99.own_ne HI0.out HO613.out (by decide))); rintro e w12 ⟨rfl, hi, hb, hk⟩; refine ⟨_, rfl, ?_⟩; replace BK610 := Aside0.mk (KeepBut.blk hk (g' := gb610) (o := .cells #[.string (⟨#[]⟩ : ByteArray), .int .i64 0, .int .i64 0] 29 (0, 0)) (bk_ BK610.out) NB610_0.out (by simp)); replace HO613 := Aside0.mk (Kd.R_mono (Kd.R_keep (IsS99.apart (show IsS99 w0 _ g s0_0 s0_1 s0_2 from is99_1 HI0.out NB0_610.out) (kr_ HO613.out) (by decide)) hk (fun _ h => h.2)) (fun _ h => h.1)); replace HK := Aside0.mk (KeepBut.trans (kb1_ HK.out GW610.out) hk (.inl rfl)); replace HB := Aside0.mk (hb); replace HI0 := Aside0.mk (hi); (try clear hb); (try clear hb2); (try clear hk); (try clear hi)) | ((with_reducible refine gate_dst (N := 8) rfl ?_); refine Kd.R_lit (Kd.int .i64) _ 3 ?hg (N := 8) ?hd (xs := ([0, 5, 9, 12, 13, 99] : List Int)) (inner := [.int .i64 0, .int .i64 5, .int .i64 9, .int .i64 12, .int .i64 13, .int .i64 99]) (ok := fun _ => True) (okp := fun _ => True) ?hr ?hp (fun _ hk => hk) trivial (Below.refl _ _) (Nat.le_refl _) (by simp) ?_; (case hd => rfl); (case hg => rfl); (case hr => first | (go_simp; done) | (go_simp; rfl)); (case hp => exact (Reps.one (show Kd.M (Kd.int .i64) _ _ _ 0 [.int .i64 0] from rfl) (Reps.one (show Kd.M (Kd.int .i64) _ _ _ 5 [.int .i64 5] from rfl) (Reps.one (show Kd.M (Kd.int .i64) _ _ _ 9 [.int .i64 9] from rfl) (Reps.one (show Kd.M (Kd.int .i64) _ _ _ 12 [.int .i64 12] from rfl) (Reps.one (show Kd.M (Kd.int .i64) _ _ _ 13 [.int .i64 13] from rfl) (Reps.one (show Kd.M (Kd.int .i64) _ _ _ 99 [.int .i64 99] from rfl) (Reps.none _ _)))))))); intro v618 w13 ho14 hb hg_ hnew_; clear hg_ hnew_; replace ho14 := ry_ Ny617.out ho14; replace HO613 := Aside0.mk (Kd.R_below (kr_ HO613.out) hb); have HO619 := Aside0.mk (Kd.R_lower ho14 (keep_size (w := w) (g := g) (row := none) (kb1_ HK.out GW610.out))); replace BK610 := Aside0.mk (bb_ (bk_ BK610.out) hb); replace HK := Aside0.mk (KeepBut.trans (kb1_ HK.out GW610.out) (KeepBut.of_below hb g none) (.inl rfl)); replace HB := Aside0.mk (below_step (lb2_ HB.out (IsS99.ge HI0.out) GE610.out) hb); replace HI0 := Aside0.mk (IsS99.below (is99_1 HI0.out NB0_610.out) hb); clear hb ho14; obtain ⟨Ao15, co15, eo15⟩ := Kd.R_slice HO619.out; subst eo15) | ((with_reducible refine gate_callee (f := 88) rfl ?_); refine ga_ (some 9) Tryd.func88 #[.pointer (some ⟨g, 0, none⟩), .slice Ao15 y617.length co15] ?_; (with_reducible refine (spec_l1Cur_among.calls g s0_0 t615 t616 _ _ y617 t620 t621 t622 w0 _ ?side1 ?side2 ?side3 ?side4 ?side5 A3.out).mono ?_); (case side1 => exact is99_1 HI0.out NB0_610.out); (case side2 => exact lb2_ HB.out (IsS99.ge HI0.out) GE610.out); (case side3 => exact kc_ (Kd.R_reads' HO619.out).2.2); (case side4 => exact (Kd.R_reads' HO619.out).2.1); (case side5 => exact far_slice (IsS99.own_ne HI0.out HO619.out (by decide))); rintro e w16 ⟨rfl, hi, hb, hk⟩; refine ⟨_, rfl, ?_⟩; replace BK610 := Aside0.mk (KeepBut.blk hk (g' := gb610) (o := .cells #[.string (⟨#[]⟩ : ByteArray), .int .i64 0, .int .i64 0] 29 (0, 0)) (bk_ BK610.out) NB610_0.out (by simp)); replace HO613 := Aside0.mk (Kd.R_mono (Kd.R_keep (IsS99.apart (show IsS99 w0 _ g s0_0 t615 t616 from is99_1 HI0.out NB0_610.out) (kr_ HO613.out) (by decide)) hk (fun _ h => h.2)) (fun _ h => h.1)); replace HO619 := Aside0.mk (Kd.R_mono (Kd.R_keep (IsS99.apart (show IsS99 w0 _ g s0_0 t615 t616 from is99_1 HI0.out NB0_610.out) (kr_ HO619.out) (by decide)) hk (fun _ h => h.2)) (fun _ h => h.1)); replace HK := Aside0.mk (KeepBut.trans (kb1_ HK.out GW610.out) hk (.inl rfl)); replace HB := Aside0.mk (hb); replace HI0 := Aside0.mk (hi); (try clear hb); (try clear hb2); (try clear hk); (try clear hi)) | ((with_reducible refine gate_dst (N := 11) rfl ?_); refine Kd.R_lit (Kd.int .i64) _ 3 ?hg (N := 11) ?hd (xs := ([0, 1, 8, 10, 11, 99] : List Int)) (inner := [.int .i64 0, .int .i64 1, .int .i64 8, .int .i64 10, .int .i64 11, .int .i64 99]) (ok := fun _ => True) (okp := fun _ => True) ?hr ?hp (fun _ hk => hk) trivial (Below.refl _ _) (Nat.le_refl _) (by simp) ?_; (case hd => rfl); (case hg => rfl); (case hr => first | (go_simp; done) | (go_simp; rfl)); (case hp => exact (Reps.one (show Kd.M (Kd.int .i64) _ _ _ 0 [.int .i64 0] from rfl) (Reps.one (show Kd.M (Kd.int .i64) _ _ _ 1 [.int .i64 1] from rfl) (Reps.one (show Kd.M (Kd.int .i64) _ _ _ 8 [.int .i64 8] from rfl) (Reps.one (show Kd.M (Kd.int .i64) _ _ _ 10 [.int .i64 10] from rfl) (Reps.one (show Kd.M (Kd.int .i64) _ _ _ 11 [.int .i64 11] from rfl) (Reps.one (show Kd.M (Kd.int .i64) _ _ _ 99 [.int .i64 99] from rfl) (Reps.none _ _)))))))); intro v624 w17 ho18 hb hg_ hnew_; clear hg_ hnew_; replace ho18 := ry_ Ny623.out ho18; replace HO613 := Aside0.mk (Kd.R_below (kr_ HO613.out) hb); have HO625 := Aside0.mk (Kd.R_lower (Kd.R_new' ho18 (Kd.R_lt (kr_ HO619.out))) (keep_size (w := w) (g := g) (row := none) (kb1_ HK.out GW610.out))); replace HO619 := Aside0.mk (Kd.R_elder' (kr_ HO619.out) (Kd.R_base ho18) hb); replace BK610 := Aside0.mk (bb_ (bk_ BK610.out) hb); replace HK := Aside0.mk (KeepBut.trans (kb1_ HK.out GW610.out) (KeepBut.of_below hb g none) (.inl rfl)); replace HB := Aside0.mk (below_step (lb2_ HB.out (IsS99.ge HI0.out) GE610.out) hb); replace HI0 := Aside0.mk (IsS99.below (is99_1 HI0.out NB0_610.out) hb); clear hb ho18; obtain ⟨Ao19, co19, eo19⟩ := Kd.R_slice HO625.out; subst eo19) | ((with_reducible refine gate_callee (f := 88) rfl ?_); refine ga_ (some 12) Tryd.func88 #[.pointer (some ⟨g, 0, none⟩), .slice Ao19 y623.length co19] ?_; (with_reducible refine (spec_l1Cur_among.calls g s0_0 t621 t622 _ _ y623 t626 t627 t628 w0 _ ?side1 ?side2 ?side3 ?side4 ?side5 A4.out).mono ?_); (case side1 => exact is99_1 HI0.out NB0_610.out); (case side2 => exact lb2_ HB.out (IsS99.ge HI0.out) GE610.out); (case side3 => exact kc_ (Kd.R_reads' HO625.out).2.2); (case side4 => exact (Kd.R_reads' HO625.out).2.1); (case side5 => exact far_slice (IsS99.own_ne HI0.out HO625.out (by decide))); rintro e w20 ⟨rfl, hi, hb, hk⟩; refine ⟨_, rfl, ?_⟩; replace BK610 := Aside0.mk (KeepBut.blk hk (g' := gb610) (o := .cells #[.string (⟨#[]⟩ : ByteArray), .int .i64 0, .int .i64 0] 29 (0, 0)) (bk_ BK610.out) NB610_0.out (by simp)); replace HO613 := Aside0.mk (Kd.R_mono (Kd.R_keep (IsS99.apart (show IsS99 w0 _ g s0_0 t621 t622 from is99_1 HI0.out NB0_610.out) (kr_ HO613.out) (by decide)) hk (fun _ h => h.2)) (fun _ h => h.1)); replace HO619 := Aside0.mk (Kd.R_mono (Kd.R_keep (IsS99.apart (show IsS99 w0 _ g s0_0 t621 t622 from is99_1 HI0.out NB0_610.out) (kr_ HO619.out) (by decide)) hk (fun _ h => h.2)) (fun _ h => h.1)); replace HO625 := Aside0.mk (Kd.R_mono (Kd.R_keep (IsS99.apart (show IsS99 w0 _ g s0_0 t621 t622 from is99_1 HI0.out NB0_610.out) (kr_ HO625.out) (by decide)) hk (fun _ h => h.2)) (fun _ h => h.1)); replace HK := Aside0.mk (KeepBut.trans (kb1_ HK.out GW610.out) hk (.inl rfl)); replace HB := Aside0.mk (hb); replace HI0 := Aside0.mk (hi); (try clear hb); (try clear hb2); (try clear hk); (try clear hi)) | ((with_reducible refine gate_dst (N := 3) rfl ?_); refine box_event ?hg (N := 3) ?hd (cs := #[.string (⟨#[]⟩ : ByteArray), .int .i64 0, .int .i64 0]) (t := 29) ?hr ?_; (case hd => rfl); (case hg => rfl); (case hr => first | (go_simp; done) | (go_simp; rfl)); intro gb629 hg w21 hbox hb; replace HO613 := Aside0.mk (Kd.R_below (kr_ HO613.out) hb); replace HO619 := Aside0.mk (Kd.R_below (kr_ HO619.out) hb); replace HO625 := Aside0.mk (Kd.R_below (kr_ HO625.out) hb); replace HB := Aside0.mk (below_step (lb2_ HB.out (IsS99.ge HI0.out) GE610.out) hb); have BK629 := Aside0.mk (hbox); have GW629 := Aside0.mk ((by rw [hg]; exact (keep_size (w := w) (g := g) (row := none) (kb1_ HK.out GW610.out)) : w.heap.size ≤ gb629)); have GE629 := Aside0.mk ((Nat.le_trans HW0.out (by rw [hg]; exact (keep_size (w := w) (g := g) (row := none) (kb1_ HK.out GW610.out)) : w.heap.size ≤ gb629) : w0.heap.size ≤ gb629)); replace HK := Aside0.mk (KeepBut.trans (kb1_ HK.out GW610.out) (KeepBut.of_below hb g none) (.inl rfl)); have NB610_629 := Aside0.mk (nl_ hg BK610.out); have NB629_610 := Aside0.mk (ng_ hg BK610.out); replace BK610 := Aside0.mk (bb_ (bk_ BK610.out) hb); have NB0_629 := Aside0.mk ((by rw [hg]; exact Nat.ne_of_lt (IsS99.lt (show IsS99 w0 _ g s0_0 t627 t628 from is99_1 HI0.out NB0_610.out)) : g ≠ gb629)); have NB629_0 := Aside0.mk ((by rw [hg]; exact Nat.ne_of_gt (IsS99.lt (show IsS99 w0 _ g s0_0 t627 t628 from is99_1 HI0.out NB0_610.out)) : gb629 ≠ g)); replace HI0 := Aside0.mk (IsS99.below (is99_1 HI0.out NB0_610.out) hb); clear hb hbox hg; have hnb22 := NB629_610.out; have hnc22 := NB610_629.out; have hnb23 := NB629_0.out; have hnc23 := NB0_629.out; obtain ⟨hcz24_0, hcz24_1, hcz24_2⟩ := cz3_ BK629.out; obtain ⟨hfz24_0, hfz24_1, hfz24_2⟩ := fz3_ BK629.out) | ((with_reducible refine gate_callee (f := 86) rfl ?_); refine ga_ (some 15) Tryd.func86 #[.pointer (some ⟨g, 0, none⟩), .int .i64 60] ?_; (with_reducible refine (spec_l1Cur_pick.calls g s0_0 t627 t628 60 t630 t631 t632 w0 _ ?side1 ?side2 A5.out).mono ?_); (case side1 => exact is99_2 HI0.out NB0_610.out NB0_629.out); (case side2 => exact lb3_ HB.out (IsS99.ge HI0.out) GE610.out GE629.out); rintro e w25 ⟨rfl, hi, hb, hk⟩; refine ⟨_, rfl, ?_⟩; replace BK610 := Aside0.mk (KeepBut.blk hk (g' := gb610) (o := .cells #[.string (⟨#[]⟩ : ByteArray), .int .i64 0, .int .i64 0] 29 (0, 0)) (by (with_reducible repeat (first | refine blk_drewN ?_ _ | refine blk_drew ?_ | refine blk_alloc ?_ _)); exact (f3_ BK610.out NB610_629.out _ _ _)) NB610_0.out (by simp)); replace HO613 := Aside0.mk (Kd.R_mono (Kd.R_keep (IsS99.apart (show IsS99 w0 _ g s0_0 t627 t628 from is99_2 HI0.out NB0_610.out NB0_629.out) (kg_ HO613.out BK629.out) (by decide)) hk (fun _ h => h.2)) (fun _ h => h.1)); replace HO619 := Aside0.mk (Kd.R_mono (Kd.R_keep (IsS99.apart (show IsS99 w0 _ g s0_0 t627 t628 from is99_2 HI0.out NB0_610.out NB0_629.out) (kg_ HO619.out BK629.out) (by decide)) hk (fun _ h => h.2)) (fun _ h => h.1)); replace HO625 := Aside0.mk (Kd.R_mono (Kd.R_keep (IsS99.apart (show IsS99 w0 _ g s0_0 t627 t628 from is99_2 HI0.out NB0_610.out NB0_629.out) (kg_ HO625.out BK629.out) (by decide)) hk (fun _ h => h.2)) (fun _ h => h.1)); replace BK629 := Aside0.mk (KeepBut.blk hk (g' := gb629) (o := .cells #[.string t614, .int .i64 t620, .int .i64 t626] 29 (0, 0)) (by (with_reducible repeat (first | refine blk_drewN ?_ _ | refine blk_drew ?_ | refine blk_alloc ?_ _)); exact (p3_ BK629.out _ _ _)) NB629_0.out (by simp)); replace HK := Aside0.mk (KeepBut.trans (kb2_ HK.out GW610.out GW629.out) hk (.inl rfl)); replace HB := Aside0.mk (hb); replace HI0 := Aside0.mk (hi); (try clear hb); (try clear hb2); (try clear hk); (try clear hi)) | ((with_reducible refine gate_dst (N := 19) rfl ?_); refine Kd.R_lit Kd.string _ 9 ?hg (N := 19) ?hd (xs := ([(⟨#[]⟩ : ByteArray), (⟨#[65]⟩ : ByteArray), (⟨#[97, 98, 99, 100, 101, 102, 103, 104, 105, 106, 107]⟩ : ByteArray)] : List ByteArray)) (inner := [.string (⟨#[]⟩ : ByteArray), .string (⟨#[65]⟩ : ByteArray), .string (⟨#[97, 98, 99, 100, 101, 102, 103, 104, 105, 106, 107]⟩ : ByteArray)]) (ok := fun _ => True) (okp := fun _ => True) ?hr ?hp (fun _ hk => hk) trivial (Below.refl _ _) (Nat.le_refl _) (by simp) ?_; (case hd => rfl); (case hg => rfl); (case hr => first | (go_simp; done) | (go_simp; rfl)); (case hp => exact (Reps.one (show Kd.M Kd.string _ _ _ (⟨#[]⟩ : ByteArray) [.string (⟨#[]⟩ : ByteArray)] from rfl) (Reps.one (show Kd.M Kd.string _ _ _ (⟨#[65]⟩ : ByteArray) [.string (⟨#[65]⟩ : ByteArray)] from rfl) (Reps.one (show Kd.M Kd.string _ _ _ (⟨#[97, 98, 99, 100, 101, 102, 103, 104, 105, 106, 107]⟩ : ByteArray) [.string (⟨#[97, 98, 99, 100, 101, 102, 103, 104, 105, 106, 107]⟩ : ByteArray)] from rfl) (Reps.none _ _))))); intro v634 w26 ho27 hb hg_ hnew_; clear hg_ hnew_; replace ho27 := ry_ Ny633.out ho27; replace HO619 := Aside0.mk (Kd.R_below (kr_ HO619.out) hb); replace HO625 := Aside0.mk (Kd.R_below (kr_ HO625.out) hb); have HO635 := Aside0.mk (Kd.R_lower (Kd.R_new' ho27 (Kd.R_lt (kr_ HO613.out))) (keep_size (w := w) (g := g) (row := none) (kb2_ HK.out GW610.out GW629.out))); replace HO613 := Aside0.mk (Kd.R_elder' (kr_ HO613.out) (Kd.R_base ho27) hb); replace BK610 := Aside0.mk (bb_ (bk_ BK610.out) hb); replace BK629 := Aside0.mk (bb_ (bk_ BK629.out) hb); replace HK := Aside0.mk (KeepBut.trans (kb2_ HK.out GW610.out GW629.out) (KeepBut.of_below hb g none) (.inl rfl)); replace HB := Aside0.mk (below_step (lb3_ HB.out (IsS99.ge HI0.out) GE610.out GE629.out) hb); replace HI0 := Aside0.mk (IsS99.below (is99_2 HI0.out NB0_610.out NB0_629.out) hb); clear hb ho27; obtain ⟨Ao28, co28, eo28⟩ := Kd.R_slice HO635.out; subst eo28) | ((with_reducible refine gate_callee (f := 108) rfl ?_); refine ga_ (some 20) Tryd.func108 #[.pointer (some ⟨g, 0, none⟩), .slice Ao28 y633.length co28] ?_; (with_reducible refine (spec_l1Cur_of.calls g s0_0 t631 t632 _ _ y633 t636 t637 t638 w0 _ ?side1 ?side2 ?side3 ?side4 ?side5 A7.out).mono ?_); (case side1 => exact is99_2 HI0.out NB0_610.out NB0_629.out); (case side2 => exact lb3_ HB.out (IsS99.ge HI0.out) GE610.out GE629.out); (case side3 => exact kc_ (Kd.R_reads' HO635.out).2.2); (case side4 => exact (Kd.R_reads' HO635.out).2.1); (case side5 => exact far_slice (IsS99.own_ne HI0.out HO635.out (by decide))); rintro e w29 ⟨rfl, hi, hb, hk⟩; refine ⟨_, rfl, ?_⟩; replace BK610 := Aside0.mk (KeepBut.blk hk (g' := gb610) (o := .cells #[.string (⟨#[]⟩ : ByteArray), .int .i64 0, .int .i64 0] 29 (0, 0)) (bk_ BK610.out) NB610_0.out (by simp)); replace HO613 := Aside0.mk (Kd.R_mono (Kd.R_keep (IsS99.apart (show IsS99 w0 _ g s0_0 t631 t632 from is99_2 HI0.out NB0_610.out NB0_629.out) (kr_ HO613.out) (by decide)) hk (fun _ h => h.2)) (fun _ h => h.1)); replace HO619 := Aside0.mk (Kd.R_mono (Kd.R_keep (IsS99.apart (show IsS99 w0 _ g s0_0 t631 t632 from is99_2 HI0.out NB0_610.out NB0_629.out) (kr_ HO619.out) (by decide)) hk (fun _ h => h.2)) (fun _ h => h.1)); replace HO625 := Aside0.mk (Kd.R_mono (Kd.R_keep (IsS99.apart (show IsS99 w0 _ g s0_0 t631 t632 from is99_2 HI0.out NB0_610.out NB0_629.out) (kr_ HO625.out) (by decide)) hk (fun _ h => h.2)) (fun _ h => h.1)); replace BK629 := Aside0.mk (KeepBut.blk hk (g' := gb629) (o := .cells #[.string t614, .int .i64 t620, .int .i64 t626] 29 (0, 0)) (bk_ BK629.out) NB629_0.out (by simp)); replace HO635 := Aside0.mk (Kd.R_mono (Kd.R_keep (IsS99.apart (show IsS99 w0 _ g s0_0 t631 t632 from is99_2 HI0.out NB0_610.out NB0_629.out) (kr_ HO635.out) (by decide)) hk (fun _ h => h.2)) (fun _ h => h.1)); replace HK := Aside0.mk (KeepBut.trans (kb2_ HK.out GW610.out GW629.out) hk (.inl rfl)); replace HB := Aside0.mk (hb); replace HI0 := Aside0.mk (hi); (try clear hb); (try clear hb2); (try clear hk); (try clear hi); obtain ⟨hcz30_0, hcz30_1, hcz30_2⟩ := cz3_ BK629.out; obtain ⟨hfz30_0, hfz30_1, hfz30_2⟩ := fz3_ BK629.out; have hnb31 := NB610_0.out; have hnc31 := NB0_610.out; obtain ⟨hcz32_0, hcz32_1, hcz32_2⟩ := cz3_ BK610.out; obtain ⟨hfz32_0, hfz32_1, hfz32_2⟩ := fz3_ BK610.out))
  refine bodyPost_ret (results_cell_row rfl _ _ gb610 29 #[.string t636, .int .i64 t620, .int .i64 t626] (0, 0) _ rfl (by (with_reducible repeat (first | refine blk_drewN ?_ _ | refine blk_drew ?_ | refine blk_alloc ?_ _)); refine blk_put (cs := #[.string t636, .int .i64 t620, .int .i64 0]) ?_ 2 _ rfl; (with_reducible repeat (first | refine blk_drewN ?_ _ | refine blk_drew ?_ | refine blk_alloc ?_ _)); refine blk_put (cs := #[.string t636, .int .i64 0, .int .i64 0]) ?_ 1 _ rfl; (with_reducible repeat (first | refine blk_drewN ?_ _ | refine blk_drew ?_ | refine blk_alloc ?_ _)); refine blk_put (cs := #[.string (⟨#[]⟩ : ByteArray), .int .i64 0, .int .i64 0]) ?_ 0 _ rfl; (with_reducible repeat (first | refine blk_drewN ?_ _ | refine blk_drew ?_ | refine blk_alloc ?_ _)); refine blk_far ?_ NB610_629.out _; (with_reducible repeat (first | refine blk_drewN ?_ _ | refine blk_drew ?_ | refine blk_alloc ?_ _)); exact BK610.out) Tryd.underlying29 rfl (by kernel_rfl)) rfl ?_
  exact ⟨rr_, is99_2 HI0.out NB0_610.out NB0_629.out, lb3_ HB.out (IsS99.ge HI0.out) GE610.out GE629.out, kb2_ HK.out GW610.out GW629.out⟩
 ·
  rw [if_neg c6] at H
  have c6b0 : (t630 == 0) = false := beq_eq_false_iff_ne.mpr c6
  have c6b1 : (t630 != 0) = true := bne_iff_ne.mpr c6
  by_cases c33 : t630 = 1
  ·
   rw [if_pos c33] at H
   have c33b0 : (t630 == 1) = true := beq_iff_eq.mpr c33
   have c33b1 : (t630 != 1) = false := bne_eq_false_iff_eq.mpr c33
   clear c33
   obtain ⟨y639, hy639⟩ : ∃ y_ : List Int, y_ = (([(-1), 100] : List Int)) := ⟨_, rfl⟩
   replace H : ((spec_l1Cur_among.f s0_0 t631 t632 y639).bind fun bt642 => (some (t614, bt642.1, t626, bt642.2.1, bt642.2.2))) = some (r1, r2, r3, r4, r5) := by first | (rw [hy639]; with_reducible exact H) | (have H2_ := (Option.bind_some _ _).symm.trans H; rw [hy639]; with_reducible exact H2_) | (have H2_ := (Option.bind_some _ _).symm.trans H; with_reducible exact H2_) | with_reducible exact H | (rw [hy639]; exact H) | exact H
   have Ny639 := Aside0.mk hy639
   clear hy639
   replace H := Option.bind_eq_some_iff.mp H
   obtain ⟨⟨t642, t643, t644⟩, A340, H⟩ := H
   replace H : (some (t614, t642, t626, t643, t644)) = some (r1, r2, r3, r4, r5) := H
   have A34 := Aside0.mk A340
   clear A340
   simp only [Option.some.injEq, Prod.mk.injEq] at H
   obtain ⟨rfl, rfl, rfl, rfl, rfl⟩ := H
   go_enter Tryd.func89, Tryd.ntmps89
   go_wp2_with (first | ((with_reducible refine gate_dst (N := 2) rfl ?_); refine box_event ?hg (N := 2) ?hd (cs := #[.string (⟨#[]⟩ : ByteArray), .int .i64 0, .int .i64 0]) (t := 29) ?hr ?_; (case hd => rfl); (case hg => rfl); (case hr => first | (go_simp; done) | (go_simp; rfl)); intro gb610 hg w35 hbox hb; replace HB := Aside0.mk (below_step (lb1_ HB.out (IsS99.ge HI0.out)) hb); have BK610 := Aside0.mk (hbox); have GW610 := Aside0.mk ((by rw [hg]; exact (keep_size (w := w) (g := g) (row := none) (kb0_ HK.out)) : w.heap.size ≤ gb610)); have GE610 := Aside0.mk ((Nat.le_trans HW0.out (by rw [hg]; exact (keep_size (w := w) (g := g) (row := none) (kb0_ HK.out)) : w.heap.size ≤ gb610) : w0.heap.size ≤ gb610)); replace HK := Aside0.mk (KeepBut.trans (kb0_ HK.out) (KeepBut.of_below hb g none) (.inl rfl)); have NB0_610 := Aside0.mk ((by rw [hg]; exact Nat.ne_of_lt (IsS99.lt (show IsS99 w0 _ g s0_0 s0_1 s0_2 from is99_0 HI0.out)) : g ≠ gb610)); have NB610_0 := Aside0.mk ((by rw [hg]; exact Nat.ne_of_gt (IsS99.lt (show IsS99 w0 _ g s0_0 s0_1 s0_2 from is99_0 HI0.out)) : gb610 ≠ g)); replace HI0 := Aside0.mk (IsS99.below (is99_0 HI0.out) hb); clear hb hbox hg) | ((with_reducible refine gate_dst (N := 5) rfl ?_); refine Kd.R_lit Kd.string _ 9 ?hg (N := 5) ?hd (xs := ([(⟨#[97]⟩ : ByteArray), (⟨#[115, 117, 109, 112]⟩ : ByteArray), (⟨#[98, 105, 103]⟩ : ByteArray), (⟨#[104, 97, 108, 108]⟩ : ByteArray), (⟨#[108, 111, 110, 103, 110, 97, 109, 101]⟩ : ByteArray), (⟨#[97, 98, 99, 100, 101, 102, 103, 104, 105, 106]⟩ : ByteArray)] : List ByteArray)) (inner := [.string (⟨#[97]⟩ : ByteArray), .string (⟨#[115, 117, 109, 112]⟩ : ByteArray), .string (⟨#[98, 105, 103]⟩ : ByteArray), .string (⟨#[104, 97, 108, 108]⟩ : ByteArray), .string (⟨#[108, 111, 110, 103, 110, 97, 109, 101]⟩ : ByteArray), .string (⟨#[97, 98, 99, 100, 101, 102, 103, 104, 105, 106]⟩ : ByteArray)]) (ok := fun _ => True) (okp := fun _ => True) ?hr ?hp (fun _ hk => hk) trivial (Below.refl _ _) (Nat.le_refl _) (by simp) ?_; (case hd => rfl); (case hg => rfl); (case hr => first | (go_simp; done) | (go_simp; rfl)); (case hp => exact (Reps.one (show Kd.M Kd.string _ _ _ (⟨#[97]⟩ : ByteArray) [.string (⟨#[97]⟩ : ByteArray)] from rfl) (Reps.one (show Kd.M Kd.string _ _ _ (⟨#[115, 117, 109, 112]⟩ : ByteArray) [.string (⟨#[115, 117, 109, 112]⟩ : ByteArray)] from rfl) (Reps.one (show Kd.M Kd.string _ _ _ (⟨#[98, 105, 103]⟩ : ByteArray) [.string (⟨#[98, 105, 103]⟩ : ByteArray)] from rfl) (Reps.one (show Kd.M Kd.string _ _ _ (⟨#[104, 97, 108, 108]⟩ : ByteArray) [.string (⟨#[104, 97, 108, 108]⟩ : ByteArray)] from rfl) (Reps.one (show Kd.M Kd.string _ _ _ (⟨#[108, 111, 110, 103, 110, 97, 109, 101]⟩ : ByteArray) [.string (⟨#[108, 111, 110, 103, 110, 97, 109, 101]⟩ : ByteArray)] from rfl) (Reps.one (show Kd.M Kd.string _ _ _ (⟨#[97, 98, 99, 100, 101, 102, 103, 104, 105, 106]⟩ : ByteArray) [.string (⟨#[97, 98, 99, 100, 101, 102, 103, 104, 105, 106]⟩ : ByteArray)] from rfl) (Reps.none _ _)))))))); intro v612 w36 ho37 hb hg_ hnew_; clear hg_ hnew_; replace ho37 := ry_ Ny611.out ho37; have HO613 := Aside0.mk (Kd.R_lower ho37 (keep_size (w := w) (g := g) (row := none) (kb1_ HK.out GW610.out))); replace BK610 := Aside0.mk (bb_ (bk_ BK610.out) hb); replace HK := Aside0.mk (KeepBut.trans (kb1_ HK.out GW610.out) (KeepBut.of_below hb g none) (.inl rfl)); replace HB := Aside0.mk (below_step (lb2_ HB.out (IsS99.ge HI0.out) GE610.out) hb); replace HI0 := Aside0.mk (IsS99.below (is99_1 HI0.out NB0_610.out) hb); clear hb ho37; obtain ⟨Ao38, co38, eo38⟩ := Kd.R_slice HO613.out; subst eo38) | ((with_reducible refine gate_callee (f := 108) rfl ?_); refine ga_ (some 6) Tryd.func108 #[.pointer (some ⟨g, 0, none⟩), .slice Ao38 y611.length co38] ?_; (with_reducible refine (spec_l1Cur_of.calls g s0_0 s0_1 s0_2 _ _ y611 t614 t615 t616 w0 _ ?side1 ?side2 ?side3 ?side4 ?side5 A2.out).mono ?_); (case side1 => exact is99_1 HI0.out NB0_610.out); (case side2 => exact lb2_ HB.out (IsS99.ge HI0.out) GE610.out); (case side3 => exact kc_ (Kd.R_reads' HO613.out).2.2); (case side4 => exact (Kd.R_reads' HO613.out).2.1); (case side5 => exact far_slice (IsS99.own_ne HI0.out HO613.out (by decide))); rintro e w39 ⟨rfl, hi, hb, hk⟩; refine ⟨_, rfl, ?_⟩; replace BK610 := Aside0.mk (KeepBut.blk hk (g' := gb610) (o := .cells #[.string (⟨#[]⟩ : ByteArray), .int .i64 0, .int .i64 0] 29 (0, 0)) (bk_ BK610.out) NB610_0.out (by simp)); replace HO613 := Aside0.mk (Kd.R_mono (Kd.R_keep (IsS99.apart (show IsS99 w0 _ g s0_0 s0_1 s0_2 from is99_1 HI0.out NB0_610.out) (kr_ HO613.out) (by decide)) hk (fun _ h => h.2)) (fun _ h => h.1)); replace HK := Aside0.mk (KeepBut.trans (kb1_ HK.out GW610.out) hk (.inl rfl)); replace HB := Aside0.mk (hb); replace HI0 := Aside0.mk (hi); (try clear hb); (try clear hb2); (try clear hk); (try clear hi)) | ((with_reducible refine gate_dst (N := 8) rfl ?_); refine Kd.R_lit (Kd.int .i64) _ 3 ?hg (N := 8) ?hd (xs := ([0, 5, 9, 12, 13, 99] : List Int)) (inner := [.int .i64 0, .int .i64 5, .int .i64 9, .int .i64 12, .int .i64 13, .int .i64 99]) (ok := fun _ => True) (okp := fun _ => True) ?hr ?hp (fun _ hk => hk) trivial (Below.refl _ _) (Nat.le_refl _) (by simp) ?_; (case hd => rfl); (case hg => rfl); (case hr => first | (go_simp; done) | (go_simp; rfl)); (case hp => exact (Reps.one (show Kd.M (Kd.int .i64) _ _ _ 0 [.int .i64 0] from rfl) (Reps.one (show Kd.M (Kd.int .i64) _ _ _ 5 [.int .i64 5] from rfl) (Reps.one (show Kd.M (Kd.int .i64) _ _ _ 9 [.int .i64 9] from rfl) (Reps.one (show Kd.M (Kd.int .i64) _ _ _ 12 [.int .i64 12] from rfl) (Reps.one (show Kd.M (Kd.int .i64) _ _ _ 13 [.int .i64 13] from rfl) (Reps.one (show Kd.M (Kd.int .i64) _ _ _ 99 [.int .i64 99] from rfl) (Reps.none _ _)))))))); intro v618 w40 ho41 hb hg_ hnew_; clear hg_ hnew_; replace ho41 := ry_ Ny617.out ho41; replace HO613 := Aside0.mk (Kd.R_below (kr_ HO613.out) hb); have HO619 := Aside0.mk (Kd.R_lower ho41 (keep_size (w := w) (g := g) (row := none) (kb1_ HK.out GW610.out))); replace BK610 := Aside0.mk (bb_ (bk_ BK610.out) hb); replace HK := Aside0.mk (KeepBut.trans (kb1_ HK.out GW610.out) (KeepBut.of_below hb g none) (.inl rfl)); replace HB := Aside0.mk (below_step (lb2_ HB.out (IsS99.ge HI0.out) GE610.out) hb); replace HI0 := Aside0.mk (IsS99.below (is99_1 HI0.out NB0_610.out) hb); clear hb ho41; obtain ⟨Ao42, co42, eo42⟩ := Kd.R_slice HO619.out; subst eo42) | ((with_reducible refine gate_callee (f := 88) rfl ?_); refine ga_ (some 9) Tryd.func88 #[.pointer (some ⟨g, 0, none⟩), .slice Ao42 y617.length co42] ?_; (with_reducible refine (spec_l1Cur_among.calls g s0_0 t615 t616 _ _ y617 t620 t621 t622 w0 _ ?side1 ?side2 ?side3 ?side4 ?side5 A3.out).mono ?_); (case side1 => exact is99_1 HI0.out NB0_610.out); (case side2 => exact lb2_ HB.out (IsS99.ge HI0.out) GE610.out); (case side3 => exact kc_ (Kd.R_reads' HO619.out).2.2); (case side4 => exact (Kd.R_reads' HO619.out).2.1); (case side5 => exact far_slice (IsS99.own_ne HI0.out HO619.out (by decide))); rintro e w43 ⟨rfl, hi, hb, hk⟩; refine ⟨_, rfl, ?_⟩; replace BK610 := Aside0.mk (KeepBut.blk hk (g' := gb610) (o := .cells #[.string (⟨#[]⟩ : ByteArray), .int .i64 0, .int .i64 0] 29 (0, 0)) (bk_ BK610.out) NB610_0.out (by simp)); replace HO613 := Aside0.mk (Kd.R_mono (Kd.R_keep (IsS99.apart (show IsS99 w0 _ g s0_0 t615 t616 from is99_1 HI0.out NB0_610.out) (kr_ HO613.out) (by decide)) hk (fun _ h => h.2)) (fun _ h => h.1)); replace HO619 := Aside0.mk (Kd.R_mono (Kd.R_keep (IsS99.apart (show IsS99 w0 _ g s0_0 t615 t616 from is99_1 HI0.out NB0_610.out) (kr_ HO619.out) (by decide)) hk (fun _ h => h.2)) (fun _ h => h.1)); replace HK := Aside0.mk (KeepBut.trans (kb1_ HK.out GW610.out) hk (.inl rfl)); replace HB := Aside0.mk (hb); replace HI0 := Aside0.mk (hi); (try clear hb); (try clear hb2); (try clear hk); (try clear hi)) | ((with_reducible refine gate_dst (N := 11) rfl ?_); refine Kd.R_lit (Kd.int .i64) _ 3 ?hg (N := 11) ?hd (xs := ([0, 1, 8, 10, 11, 99] : List Int)) (inner := [.int .i64 0, .int .i64 1, .int .i64 8, .int .i64 10, .int .i64 11, .int .i64 99]) (ok := fun _ => True) (okp := fun _ => True) ?hr ?hp (fun _ hk => hk) trivial (Below.refl _ _) (Nat.le_refl _) (by simp) ?_; (case hd => rfl); (case hg => rfl); (case hr => first | (go_simp; done) | (go_simp; rfl)); (case hp => exact (Reps.one (show Kd.M (Kd.int .i64) _ _ _ 0 [.int .i64 0] from rfl) (Reps.one (show Kd.M (Kd.int .i64) _ _ _ 1 [.int .i64 1] from rfl) (Reps.one (show Kd.M (Kd.int .i64) _ _ _ 8 [.int .i64 8] from rfl) (Reps.one (show Kd.M (Kd.int .i64) _ _ _ 10 [.int .i64 10] from rfl) (Reps.one (show Kd.M (Kd.int .i64) _ _ _ 11 [.int .i64 11] from rfl) (Reps.one (show Kd.M (Kd.int .i64) _ _ _ 99 [.int .i64 99] from rfl) (Reps.none _ _)))))))); intro v624 w44 ho45 hb hg_ hnew_; clear hg_ hnew_; replace ho45 := ry_ Ny623.out ho45; replace HO613 := Aside0.mk (Kd.R_below (kr_ HO613.out) hb); have HO625 := Aside0.mk (Kd.R_lower (Kd.R_new' ho45 (Kd.R_lt (kr_ HO619.out))) (keep_size (w := w) (g := g) (row := none) (kb1_ HK.out GW610.out))); replace HO619 := Aside0.mk (Kd.R_elder' (kr_ HO619.out) (Kd.R_base ho45) hb); replace BK610 := Aside0.mk (bb_ (bk_ BK610.out) hb); replace HK := Aside0.mk (KeepBut.trans (kb1_ HK.out GW610.out) (KeepBut.of_below hb g none) (.inl rfl)); replace HB := Aside0.mk (below_step (lb2_ HB.out (IsS99.ge HI0.out) GE610.out) hb); replace HI0 := Aside0.mk (IsS99.below (is99_1 HI0.out NB0_610.out) hb); clear hb ho45; obtain ⟨Ao46, co46, eo46⟩ := Kd.R_slice HO625.out; subst eo46) | ((with_reducible refine gate_callee (f := 88) rfl ?_); refine ga_ (some 12) Tryd.func88 #[.pointer (some ⟨g, 0, none⟩), .slice Ao46 y623.length co46] ?_; (with_reducible refine (spec_l1Cur_among.calls g s0_0 t621 t622 _ _ y623 t626 t627 t628 w0 _ ?side1 ?side2 ?side3 ?side4 ?side5 A4.out).mono ?_); (case side1 => exact is99_1 HI0.out NB0_610.out); (case side2 => exact lb2_ HB.out (IsS99.ge HI0.out) GE610.out); (case side3 => exact kc_ (Kd.R_reads' HO625.out).2.2); (case side4 => exact (Kd.R_reads' HO625.out).2.1); (case side5 => exact far_slice (IsS99.own_ne HI0.out HO625.out (by decide))); rintro e w47 ⟨rfl, hi, hb, hk⟩; refine ⟨_, rfl, ?_⟩; replace BK610 := Aside0.mk (KeepBut.blk hk (g' := gb610) (o := .cells #[.string (⟨#[]⟩ : ByteArray), .int .i64 0, .int .i64 0] 29 (0, 0)) (bk_ BK610.out) NB610_0.out (by simp)); replace HO613 := Aside0.mk (Kd.R_mono (Kd.R_keep (IsS99.apart (show IsS99 w0 _ g s0_0 t621 t622 from is99_1 HI0.out NB0_610.out) (kr_ HO613.out) (by decide)) hk (fun _ h => h.2)) (fun _ h => h.1)); replace HO619 := Aside0.mk (Kd.R_mono (Kd.R_keep (IsS99.apart (show IsS99 w0 _ g s0_0 t621 t622 from is99_1 HI0.out NB0_610.out) (kr_ HO619.out) (by decide)) hk (fun _ h => h.2)) (fun _ h => h.1)); replace HO625 := Aside0.mk (Kd.R_mono (Kd.R_keep (IsS99.apart (show IsS99 w0 _ g s0_0 t621 t622 from is99_1 HI0.out NB0_610.out) (kr_ HO625.out) (by decide)) hk (fun _ h => h.2)) (fun _ h => h.1)); replace HK := Aside0.mk (KeepBut.trans (kb1_ HK.out GW610.out) hk (.inl rfl)); replace HB := Aside0.mk (hb); replace HI0 := Aside0.mk (hi); (try clear hb); (try clear hb2); (try clear hk); (try clear hi)) | ((with_reducible refine gate_dst (N := 3) rfl ?_); refine box_event ?hg (N := 3) ?hd (cs := #[.string (⟨#[]⟩ : ByteArray), .int .i64 0, .int .i64 0]) (t := 29) ?hr ?_; (case hd => rfl); (case hg => rfl); (case hr => first | (go_simp; done) | (go_simp; rfl)); intro gb629 hg w48 hbox hb; replace HO613 := Aside0.mk (Kd.R_below (kr_ HO613.out) hb); replace HO619 := Aside0.mk (Kd.R_below (kr_ HO619.out) hb); replace HO625 := Aside0.mk (Kd.R_below (kr_ HO625.out) hb); replace HB := Aside0.mk (below_step (lb2_ HB.out (IsS99.ge HI0.out) GE610.out) hb); have BK629 := Aside0.mk (hbox); have GW629 := Aside0.mk ((by rw [hg]; exact (keep_size (w := w) (g := g) (row := none) (kb1_ HK.out GW610.out)) : w.heap.size ≤ gb629)); have GE629 := Aside0.mk ((Nat.le_trans HW0.out (by rw [hg]; exact (keep_size (w := w) (g := g) (row := none) (kb1_ HK.out GW610.out)) : w.heap.size ≤ gb629) : w0.heap.size ≤ gb629)); replace HK := Aside0.mk (KeepBut.trans (kb1_ HK.out GW610.out) (KeepBut.of_below hb g none) (.inl rfl)); have NB610_629 := Aside0.mk (nl_ hg BK610.out); have NB629_610 := Aside0.mk (ng_ hg BK610.out); replace BK610 := Aside0.mk (bb_ (bk_ BK610.out) hb); have NB0_629 := Aside0.mk ((by rw [hg]; exact Nat.ne_of_lt (IsS99.lt (show IsS99 w0 _ g s0_0 t627 t628 from is99_1 HI0.out NB0_610.out)) : g ≠ gb629)); have NB629_0 := Aside0.mk ((by rw [hg]; exact Nat.ne_of_gt (IsS99.lt (show IsS99 w0 _ g s0_0 t627 t628 from is99_1 HI0.out NB0_610.out)) : gb629 ≠ g)); replace HI0 := Aside0.mk (IsS99.below (is99_1 HI0.out NB0_610.out) hb); clear hb hbox hg; have hnb49 := NB629_610.out; have hnc49 := NB610_629.out; have hnb50 := NB629_0.out; have hnc50 := NB0_629.out; obtain ⟨hcz51_0, hcz51_1, hcz51_2⟩ := cz3_ BK629.out; obtain ⟨hfz51_0, hfz51_1, hfz51_2⟩ := fz3_ BK629.out) | ((with_reducible refine gate_callee (f := 86) rfl ?_); refine ga_ (some 15) Tryd.func86 #[.pointer (some ⟨g, 0, none⟩), .int .i64 60] ?_; (with_reducible refine (spec_l1Cur_pick.calls g s0_0 t627 t628 60 t630 t631 t632 w0 _ ?side1 ?side2 A5.out).mono ?_); (case side1 => exact is99_2 HI0.out NB0_610.out NB0_629.out); (case side2 => exact lb3_ HB.out (IsS99.ge HI0.out) GE610.out GE629.out); rintro e w52 ⟨rfl, hi, hb, hk⟩; refine ⟨_, rfl, ?_⟩; replace BK610 := Aside0.mk (KeepBut.blk hk (g' := gb610) (o := .cells #[.string (⟨#[]⟩ : ByteArray), .int .i64 0, .int .i64 0] 29 (0, 0)) (by (with_reducible repeat (first | refine blk_drewN ?_ _ | refine blk_drew ?_ | refine blk_alloc ?_ _)); exact (f3_ BK610.out NB610_629.out _ _ _)) NB610_0.out (by simp)); replace HO613 := Aside0.mk (Kd.R_mono (Kd.R_keep (IsS99.apart (show IsS99 w0 _ g s0_0 t627 t628 from is99_2 HI0.out NB0_610.out NB0_629.out) (kg_ HO613.out BK629.out) (by decide)) hk (fun _ h => h.2)) (fun _ h => h.1)); replace HO619 := Aside0.mk (Kd.R_mono (Kd.R_keep (IsS99.apart (show IsS99 w0 _ g s0_0 t627 t628 from is99_2 HI0.out NB0_610.out NB0_629.out) (kg_ HO619.out BK629.out) (by decide)) hk (fun _ h => h.2)) (fun _ h => h.1)); replace HO625 := Aside0.mk (Kd.R_mono (Kd.R_keep (IsS99.apart (show IsS99 w0 _ g s0_0 t627 t628 from is99_2 HI0.out NB0_610.out NB0_629.out) (kg_ HO625.out BK629.out) (by decide)) hk (fun _ h => h.2)) (fun _ h => h.1)); replace BK629 := Aside0.mk (KeepBut.blk hk (g' := gb629) (o := .cells #[.string t614, .int .i64 t620, .int .i64 t626] 29 (0, 0)) (by (with_reducible repeat (first | refine blk_drewN ?_ _ | refine blk_drew ?_ | refine blk_alloc ?_ _)); exact (p3_ BK629.out _ _ _)) NB629_0.out (by simp)); replace HK := Aside0.mk (KeepBut.trans (kb2_ HK.out GW610.out GW629.out) hk (.inl rfl)); replace HB := Aside0.mk (hb); replace HI0 := Aside0.mk (hi); (try clear hb); (try clear hb2); (try clear hk); (try clear hi)) | ((with_reducible refine gate_dst (N := 25) rfl ?_); refine Kd.R_lit (Kd.int .i64) _ 3 ?hg (N := 25) ?hd (xs := ([(-1), 100] : List Int)) (inner := [.int .i64 (-1), .int .i64 100]) (ok := fun _ => True) (okp := fun _ => True) ?hr ?hp (fun _ hk => hk) trivial (Below.refl _ _) (Nat.le_refl _) (by simp) ?_; (case hd => rfl); (case hg => rfl); (case hr => first | (go_simp; done) | (go_simp; rfl)); (case hp => exact (Reps.one (show Kd.M (Kd.int .i64) _ _ _ (-1) [.int .i64 (-1)] from rfl) (Reps.one (show Kd.M (Kd.int .i64) _ _ _ 100 [.int .i64 100] from rfl) (Reps.none _ _)))); intro v640 w53 ho54 hb hg_ hnew_; clear hg_ hnew_; replace ho54 := ry_ Ny639.out ho54; replace HO613 := Aside0.mk (Kd.R_below (kr_ HO613.out) hb); have HO641 := Aside0.mk (Kd.R_lower (Kd.R_new' (Kd.R_new' ho54 (Kd.R_lt (kr_ HO619.out))) (Kd.R_lt (kr_ HO625.out))) (keep_size (w := w) (g := g) (row := none) (kb2_ HK.out GW610.out GW629.out))); replace HO619 := Aside0.mk (Kd.R_elder' (kr_ HO619.out) (Kd.R_base ho54) hb); replace HO625 := Aside0.mk (Kd.R_elder' (kr_ HO625.out) (Kd.R_base ho54) hb); replace BK610 := Aside0.mk (bb_ (bk_ BK610.out) hb); replace BK629 := Aside0.mk (bb_ (bk_ BK629.out) hb); replace HK := Aside0.mk (KeepBut.trans (kb2_ HK.out GW610.out GW629.out) (KeepBut.of_below hb g none) (.inl rfl)); replace HB := Aside0.mk (below_step (lb3_ HB.out (IsS99.ge HI0.out) GE610.out GE629.out) hb); replace HI0 := Aside0.mk (IsS99.below (is99_2 HI0.out NB0_610.out NB0_629.out) hb); clear hb ho54; obtain ⟨Ao55, co55, eo55⟩ := Kd.R_slice HO641.out; subst eo55) | ((with_reducible refine gate_callee (f := 88) rfl ?_); refine ga_ (some 26) Tryd.func88 #[.pointer (some ⟨g, 0, none⟩), .slice Ao55 y639.length co55] ?_; (with_reducible refine (spec_l1Cur_among.calls g s0_0 t631 t632 _ _ y639 t642 t643 t644 w0 _ ?side1 ?side2 ?side3 ?side4 ?side5 A34.out).mono ?_); (case side1 => exact is99_2 HI0.out NB0_610.out NB0_629.out); (case side2 => exact lb3_ HB.out (IsS99.ge HI0.out) GE610.out GE629.out); (case side3 => exact kc_ (Kd.R_reads' HO641.out).2.2); (case side4 => exact (Kd.R_reads' HO641.out).2.1); (case side5 => exact far_slice (IsS99.own_ne HI0.out HO641.out (by decide))); rintro e w56 ⟨rfl, hi, hb, hk⟩; refine ⟨_, rfl, ?_⟩; replace BK610 := Aside0.mk (KeepBut.blk hk (g' := gb610) (o := .cells #[.string (⟨#[]⟩ : ByteArray), .int .i64 0, .int .i64 0] 29 (0, 0)) (bk_ BK610.out) NB610_0.out (by simp)); replace HO613 := Aside0.mk (Kd.R_mono (Kd.R_keep (IsS99.apart (show IsS99 w0 _ g s0_0 t631 t632 from is99_2 HI0.out NB0_610.out NB0_629.out) (kr_ HO613.out) (by decide)) hk (fun _ h => h.2)) (fun _ h => h.1)); replace HO619 := Aside0.mk (Kd.R_mono (Kd.R_keep (IsS99.apart (show IsS99 w0 _ g s0_0 t631 t632 from is99_2 HI0.out NB0_610.out NB0_629.out) (kr_ HO619.out) (by decide)) hk (fun _ h => h.2)) (fun _ h => h.1)); replace HO625 := Aside0.mk (Kd.R_mono (Kd.R_keep (IsS99.apart (show IsS99 w0 _ g s0_0 t631 t632 from is99_2 HI0.out NB0_610.out NB0_629.out) (kr_ HO625.out) (by decide)) hk (fun _ h => h.2)) (fun _ h => h.1)); replace BK629 := Aside0.mk (KeepBut.blk hk (g' := gb629) (o := .cells #[.string t614, .int .i64 t620, .int .i64 t626] 29 (0, 0)) (bk_ BK629.out) NB629_0.out (by simp)); replace HO641 := Aside0.mk (Kd.R_mono (Kd.R_keep (IsS99.apart (show IsS99 w0 _ g s0_0 t631 t632 from is99_2 HI0.out NB0_610.out NB0_629.out) (kr_ HO641.out) (by decide)) hk (fun _ h => h.2)) (fun _ h => h.1)); replace HK := Aside0.mk (KeepBut.trans (kb2_ HK.out GW610.out GW629.out) hk (.inl rfl)); replace HB := Aside0.mk (hb); replace HI0 := Aside0.mk (hi); (try clear hb); (try clear hb2); (try clear hk); (try clear hi); obtain ⟨hcz57_0, hcz57_1, hcz57_2⟩ := cz3_ BK629.out; obtain ⟨hfz57_0, hfz57_1, hfz57_2⟩ := fz3_ BK629.out; have hnb58 := NB610_0.out; have hnc58 := NB0_610.out; obtain ⟨hcz59_0, hcz59_1, hcz59_2⟩ := cz3_ BK610.out; obtain ⟨hfz59_0, hfz59_1, hfz59_2⟩ := fz3_ BK610.out))
   refine bodyPost_ret (results_cell_row rfl _ _ gb610 29 #[.string t614, .int .i64 t642, .int .i64 t626] (0, 0) _ rfl (by (with_reducible repeat (first | refine blk_drewN ?_ _ | refine blk_drew ?_ | refine blk_alloc ?_ _)); refine blk_put (cs := #[.string t614, .int .i64 t642, .int .i64 0]) ?_ 2 _ rfl; (with_reducible repeat (first | refine blk_drewN ?_ _ | refine blk_drew ?_ | refine blk_alloc ?_ _)); refine blk_put (cs := #[.string t614, .int .i64 0, .int .i64 0]) ?_ 1 _ rfl; (with_reducible repeat (first | refine blk_drewN ?_ _ | refine blk_drew ?_ | refine blk_alloc ?_ _)); refine blk_put (cs := #[.string (⟨#[]⟩ : ByteArray), .int .i64 0, .int .i64 0]) ?_ 0 _ rfl; (with_reducible repeat (first | refine blk_drewN ?_ _ | refine blk_drew ?_ | refine blk_alloc ?_ _)); refine blk_far ?_ NB610_629.out _; (with_reducible repeat (first | refine blk_drewN ?_ _ | refine blk_drew ?_ | refine blk_alloc ?_ _)); exact BK610.out) Tryd.underlying29 rfl (by kernel_rfl)) rfl ?_
   exact ⟨rr_, is99_2 HI0.out NB0_610.out NB0_629.out, lb3_ HB.out (IsS99.ge HI0.out) GE610.out GE629.out, kb2_ HK.out GW610.out GW629.out⟩
  ·
   rw [if_neg c33] at H
   have c33b0 : (t630 == 1) = false := beq_eq_false_iff_ne.mpr c33
   have c33b1 : (t630 != 1) = true := bne_iff_ne.mpr c33
   by_cases c60 : t630 = 2
   ·
    rw [if_pos c60] at H
    have c60b0 : (t630 == 2) = true := beq_iff_eq.mpr c60
    have c60b1 : (t630 != 2) = false := bne_eq_false_iff_eq.mpr c60
    clear c60
    obtain ⟨y645, hy645⟩ : ∃ y_ : List Int, y_ = (([(-1), 100] : List Int)) := ⟨_, rfl⟩
    replace H : ((spec_l1Cur_among.f s0_0 t631 t632 y645).bind fun bt648 => (some (t614, t620, bt648.1, bt648.2.1, bt648.2.2))) = some (r1, r2, r3, r4, r5) := by first | (rw [hy645]; with_reducible exact H) | (have H2_ := (Option.bind_some _ _).symm.trans H; rw [hy645]; with_reducible exact H2_) | (have H2_ := (Option.bind_some _ _).symm.trans H; with_reducible exact H2_) | with_reducible exact H | (rw [hy645]; exact H) | exact H
    have Ny645 := Aside0.mk hy645
    clear hy645
    replace H := Option.bind_eq_some_iff.mp H
    obtain ⟨⟨t648, t649, t650⟩, A610, H⟩ := H
    replace H : (some (t614, t620, t648, t649, t650)) = some (r1, r2, r3, r4, r5) := H
    have A61 := Aside0.mk A610
    clear A610
    simp only [Option.some.injEq, Prod.mk.injEq] at H
    obtain ⟨rfl, rfl, rfl, rfl, rfl⟩ := H
    go_enter Tryd.func89, Tryd.ntmps89
    go_wp2_with (first | ((with_reducible refine gate_dst (N := 2) rfl ?_); refine box_event ?hg (N := 2) ?hd (cs := #[.string (⟨#[]⟩ : ByteArray), .int .i64 0, .int .i64 0]) (t := 29) ?hr ?_; (case hd => rfl); (case hg => rfl); (case hr => first | (go_simp; done) | (go_simp; rfl)); intro gb610 hg w62 hbox hb; replace HB := Aside0.mk (below_step (lb1_ HB.out (IsS99.ge HI0.out)) hb); have BK610 := Aside0.mk (hbox); have GW610 := Aside0.mk ((by rw [hg]; exact (keep_size (w := w) (g := g) (row := none) (kb0_ HK.out)) : w.heap.size ≤ gb610)); have GE610 := Aside0.mk ((Nat.le_trans HW0.out (by rw [hg]; exact (keep_size (w := w) (g := g) (row := none) (kb0_ HK.out)) : w.heap.size ≤ gb610) : w0.heap.size ≤ gb610)); replace HK := Aside0.mk (KeepBut.trans (kb0_ HK.out) (KeepBut.of_below hb g none) (.inl rfl)); have NB0_610 := Aside0.mk ((by rw [hg]; exact Nat.ne_of_lt (IsS99.lt (show IsS99 w0 _ g s0_0 s0_1 s0_2 from is99_0 HI0.out)) : g ≠ gb610)); have NB610_0 := Aside0.mk ((by rw [hg]; exact Nat.ne_of_gt (IsS99.lt (show IsS99 w0 _ g s0_0 s0_1 s0_2 from is99_0 HI0.out)) : gb610 ≠ g)); replace HI0 := Aside0.mk (IsS99.below (is99_0 HI0.out) hb); clear hb hbox hg) | ((with_reducible refine gate_dst (N := 5) rfl ?_); refine Kd.R_lit Kd.string _ 9 ?hg (N := 5) ?hd (xs := ([(⟨#[97]⟩ : ByteArray), (⟨#[115, 117, 109, 112]⟩ : ByteArray), (⟨#[98, 105, 103]⟩ : ByteArray), (⟨#[104, 97, 108, 108]⟩ : ByteArray), (⟨#[108, 111, 110, 103, 110, 97, 109, 101]⟩ : ByteArray), (⟨#[97, 98, 99, 100, 101, 102, 103, 104, 105, 106]⟩ : ByteArray)] : List ByteArray)) (inner := [.string (⟨#[97]⟩ : ByteArray), .string (⟨#[115, 117, 109, 112]⟩ : ByteArray), .string (⟨#[98, 105, 103]⟩ : ByteArray), .string (⟨#[104, 97, 108, 108]⟩ : ByteArray), .string (⟨#[108, 111, 110, 103, 110, 97, 109, 101]⟩ : ByteArray), .string (⟨#[97, 98, 99, 100, 101, 102, 103, 104, 105, 106]⟩ : ByteArray)]) (ok := fun _ => True) (okp := fun _ => True) ?hr ?hp (fun _ hk => hk) trivial (Below.refl _ _) (Nat.le_refl _) (by simp) ?_; (case hd => rfl); (case hg => rfl); (case hr => first | (go_simp; done) | (go_simp; rfl)); (case hp => exact (Reps.one (show Kd.M Kd.string _ _ _ (⟨#[97]⟩ : ByteArray) [.string (⟨#[97]⟩ : ByteArray)] from rfl) (Reps.one (show Kd.M Kd.string _ _ _ (⟨#[115, 117, 109, 112]⟩ : ByteArray) [.string (⟨#[115, 117, 109, 112]⟩ : ByteArray)] from rfl) (Reps.one (show Kd.M Kd.string _ _ _ (⟨#[98, 105, 103]⟩ : ByteArray) [.string (⟨#[98, 105, 103]⟩ : ByteArray)] from rfl) (Reps.one (show Kd.M Kd.string _ _ _ (⟨#[104, 97, 108, 108]⟩ : ByteArray) [.string (⟨#[104, 97, 108, 108]⟩ : ByteArray)] from rfl) (Reps.one (show Kd.M Kd.string _ _ _ (⟨#[108, 111, 110, 103, 110, 97, 109, 101]⟩ : ByteArray) [.string (⟨#[108, 111, 110, 103, 110, 97, 109, 101]⟩ : ByteArray)] from rfl) (Reps.one (show Kd.M Kd.string _ _ _ (⟨#[97, 98, 99, 100, 101, 102, 103, 104, 105, 106]⟩ : ByteArray) [.string (⟨#[97, 98, 99, 100, 101, 102, 103, 104, 105, 106]⟩ : ByteArray)] from rfl) (Reps.none _ _)))))))); intro v612 w63 ho64 hb hg_ hnew_; clear hg_ hnew_; replace ho64 := ry_ Ny611.out ho64; have HO613 := Aside0.mk (Kd.R_lower ho64 (keep_size (w := w) (g := g) (row := none) (kb1_ HK.out GW610.out))); replace BK610 := Aside0.mk (bb_ (bk_ BK610.out) hb); replace HK := Aside0.mk (KeepBut.trans (kb1_ HK.out GW610.out) (KeepBut.of_below hb g none) (.inl rfl)); replace HB := Aside0.mk (below_step (lb2_ HB.out (IsS99.ge HI0.out) GE610.out) hb); replace HI0 := Aside0.mk (IsS99.below (is99_1 HI0.out NB0_610.out) hb); clear hb ho64; obtain ⟨Ao65, co65, eo65⟩ := Kd.R_slice HO613.out; subst eo65) | ((with_reducible refine gate_callee (f := 108) rfl ?_); refine ga_ (some 6) Tryd.func108 #[.pointer (some ⟨g, 0, none⟩), .slice Ao65 y611.length co65] ?_; (with_reducible refine (spec_l1Cur_of.calls g s0_0 s0_1 s0_2 _ _ y611 t614 t615 t616 w0 _ ?side1 ?side2 ?side3 ?side4 ?side5 A2.out).mono ?_); (case side1 => exact is99_1 HI0.out NB0_610.out); (case side2 => exact lb2_ HB.out (IsS99.ge HI0.out) GE610.out); (case side3 => exact kc_ (Kd.R_reads' HO613.out).2.2); (case side4 => exact (Kd.R_reads' HO613.out).2.1); (case side5 => exact far_slice (IsS99.own_ne HI0.out HO613.out (by decide))); rintro e w66 ⟨rfl, hi, hb, hk⟩; refine ⟨_, rfl, ?_⟩; replace BK610 := Aside0.mk (KeepBut.blk hk (g' := gb610) (o := .cells #[.string (⟨#[]⟩ : ByteArray), .int .i64 0, .int .i64 0] 29 (0, 0)) (bk_ BK610.out) NB610_0.out (by simp)); replace HO613 := Aside0.mk (Kd.R_mono (Kd.R_keep (IsS99.apart (show IsS99 w0 _ g s0_0 s0_1 s0_2 from is99_1 HI0.out NB0_610.out) (kr_ HO613.out) (by decide)) hk (fun _ h => h.2)) (fun _ h => h.1)); replace HK := Aside0.mk (KeepBut.trans (kb1_ HK.out GW610.out) hk (.inl rfl)); replace HB := Aside0.mk (hb); replace HI0 := Aside0.mk (hi); (try clear hb); (try clear hb2); (try clear hk); (try clear hi)) | ((with_reducible refine gate_dst (N := 8) rfl ?_); refine Kd.R_lit (Kd.int .i64) _ 3 ?hg (N := 8) ?hd (xs := ([0, 5, 9, 12, 13, 99] : List Int)) (inner := [.int .i64 0, .int .i64 5, .int .i64 9, .int .i64 12, .int .i64 13, .int .i64 99]) (ok := fun _ => True) (okp := fun _ => True) ?hr ?hp (fun _ hk => hk) trivial (Below.refl _ _) (Nat.le_refl _) (by simp) ?_; (case hd => rfl); (case hg => rfl); (case hr => first | (go_simp; done) | (go_simp; rfl)); (case hp => exact (Reps.one (show Kd.M (Kd.int .i64) _ _ _ 0 [.int .i64 0] from rfl) (Reps.one (show Kd.M (Kd.int .i64) _ _ _ 5 [.int .i64 5] from rfl) (Reps.one (show Kd.M (Kd.int .i64) _ _ _ 9 [.int .i64 9] from rfl) (Reps.one (show Kd.M (Kd.int .i64) _ _ _ 12 [.int .i64 12] from rfl) (Reps.one (show Kd.M (Kd.int .i64) _ _ _ 13 [.int .i64 13] from rfl) (Reps.one (show Kd.M (Kd.int .i64) _ _ _ 99 [.int .i64 99] from rfl) (Reps.none _ _)))))))); intro v618 w67 ho68 hb hg_ hnew_; clear hg_ hnew_; replace ho68 := ry_ Ny617.out ho68; replace HO613 := Aside0.mk (Kd.R_below (kr_ HO613.out) hb); have HO619 := Aside0.mk (Kd.R_lower ho68 (keep_size (w := w) (g := g) (row := none) (kb1_ HK.out GW610.out))); replace BK610 := Aside0.mk (bb_ (bk_ BK610.out) hb); replace HK := Aside0.mk (KeepBut.trans (kb1_ HK.out GW610.out) (KeepBut.of_below hb g none) (.inl rfl)); replace HB := Aside0.mk (below_step (lb2_ HB.out (IsS99.ge HI0.out) GE610.out) hb); replace HI0 := Aside0.mk (IsS99.below (is99_1 HI0.out NB0_610.out) hb); clear hb ho68; obtain ⟨Ao69, co69, eo69⟩ := Kd.R_slice HO619.out; subst eo69) | ((with_reducible refine gate_callee (f := 88) rfl ?_); refine ga_ (some 9) Tryd.func88 #[.pointer (some ⟨g, 0, none⟩), .slice Ao69 y617.length co69] ?_; (with_reducible refine (spec_l1Cur_among.calls g s0_0 t615 t616 _ _ y617 t620 t621 t622 w0 _ ?side1 ?side2 ?side3 ?side4 ?side5 A3.out).mono ?_); (case side1 => exact is99_1 HI0.out NB0_610.out); (case side2 => exact lb2_ HB.out (IsS99.ge HI0.out) GE610.out); (case side3 => exact kc_ (Kd.R_reads' HO619.out).2.2); (case side4 => exact (Kd.R_reads' HO619.out).2.1); (case side5 => exact far_slice (IsS99.own_ne HI0.out HO619.out (by decide))); rintro e w70 ⟨rfl, hi, hb, hk⟩; refine ⟨_, rfl, ?_⟩; replace BK610 := Aside0.mk (KeepBut.blk hk (g' := gb610) (o := .cells #[.string (⟨#[]⟩ : ByteArray), .int .i64 0, .int .i64 0] 29 (0, 0)) (bk_ BK610.out) NB610_0.out (by simp)); replace HO613 := Aside0.mk (Kd.R_mono (Kd.R_keep (IsS99.apart (show IsS99 w0 _ g s0_0 t615 t616 from is99_1 HI0.out NB0_610.out) (kr_ HO613.out) (by decide)) hk (fun _ h => h.2)) (fun _ h => h.1)); replace HO619 := Aside0.mk (Kd.R_mono (Kd.R_keep (IsS99.apart (show IsS99 w0 _ g s0_0 t615 t616 from is99_1 HI0.out NB0_610.out) (kr_ HO619.out) (by decide)) hk (fun _ h => h.2)) (fun _ h => h.1)); replace HK := Aside0.mk (KeepBut.trans (kb1_ HK.out GW610.out) hk (.inl rfl)); replace HB := Aside0.mk (hb); replace HI0 := Aside0.mk (hi); (try clear hb); (try clear hb2); (try clear hk); (try clear hi)) | ((with_reducible refine gate_dst (N := 11) rfl ?_); refine Kd.R_lit (Kd.int .i64) _ 3 ?hg (N := 11) ?hd (xs := ([0, 1, 8, 10, 11, 99] : List Int)) (inner := [.int .i64 0, .int .i64 1, .int .i64 8, .int .i64 10, .int .i64 11, .int .i64 99]) (ok := fun _ => True) (okp := fun _ => True) ?hr ?hp (fun _ hk => hk) trivial (Below.refl _ _) (Nat.le_refl _) (by simp) ?_; (case hd => rfl); (case hg => rfl); (case hr => first | (go_simp; done) | (go_simp; rfl)); (case hp => exact (Reps.one (show Kd.M (Kd.int .i64) _ _ _ 0 [.int .i64 0] from rfl) (Reps.one (show Kd.M (Kd.int .i64) _ _ _ 1 [.int .i64 1] from rfl) (Reps.one (show Kd.M (Kd.int .i64) _ _ _ 8 [.int .i64 8] from rfl) (Reps.one (show Kd.M (Kd.int .i64) _ _ _ 10 [.int .i64 10] from rfl) (Reps.one (show Kd.M (Kd.int .i64) _ _ _ 11 [.int .i64 11] from rfl) (Reps.one (show Kd.M (Kd.int .i64) _ _ _ 99 [.int .i64 99] from rfl) (Reps.none _ _)))))))); intro v624 w71 ho72 hb hg_ hnew_; clear hg_ hnew_; replace ho72 := ry_ Ny623.out ho72; replace HO613 := Aside0.mk (Kd.R_below (kr_ HO613.out) hb); have HO625 := Aside0.mk (Kd.R_lower (Kd.R_new' ho72 (Kd.R_lt (kr_ HO619.out))) (keep_size (w := w) (g := g) (row := none) (kb1_ HK.out GW610.out))); replace HO619 := Aside0.mk (Kd.R_elder' (kr_ HO619.out) (Kd.R_base ho72) hb); replace BK610 := Aside0.mk (bb_ (bk_ BK610.out) hb); replace HK := Aside0.mk (KeepBut.trans (kb1_ HK.out GW610.out) (KeepBut.of_below hb g none) (.inl rfl)); replace HB := Aside0.mk (below_step (lb2_ HB.out (IsS99.ge HI0.out) GE610.out) hb); replace HI0 := Aside0.mk (IsS99.below (is99_1 HI0.out NB0_610.out) hb); clear hb ho72; obtain ⟨Ao73, co73, eo73⟩ := Kd.R_slice HO625.out; subst eo73) | ((with_reducible refine gate_callee (f := 88) rfl ?_); refine ga_ (some 12) Tryd.func88 #[.pointer (some ⟨g, 0, none⟩), .slice Ao73 y623.length co73] ?_; (with_reducible refine (spec_l1Cur_among.calls g s0_0 t621 t622 _ _ y623 t626 t627 t628 w0 _ ?side1 ?side2 ?side3 ?side4 ?side5 A4.out).mono ?_); (case side1 => exact is99_1 HI0.out NB0_610.out); (case side2 => exact lb2_ HB.out (IsS99.ge HI0.out) GE610.out); (case side3 => exact kc_ (Kd.R_reads' HO625.out).2.2); (case side4 => exact (Kd.R_reads' HO625.out).2.1); (case side5 => exact far_slice (IsS99.own_ne HI0.out HO625.out (by decide))); rintro e w74 ⟨rfl, hi, hb, hk⟩; refine ⟨_, rfl, ?_⟩; replace BK610 := Aside0.mk (KeepBut.blk hk (g' := gb610) (o := .cells #[.string (⟨#[]⟩ : ByteArray), .int .i64 0, .int .i64 0] 29 (0, 0)) (bk_ BK610.out) NB610_0.out (by simp)); replace HO613 := Aside0.mk (Kd.R_mono (Kd.R_keep (IsS99.apart (show IsS99 w0 _ g s0_0 t621 t622 from is99_1 HI0.out NB0_610.out) (kr_ HO613.out) (by decide)) hk (fun _ h => h.2)) (fun _ h => h.1)); replace HO619 := Aside0.mk (Kd.R_mono (Kd.R_keep (IsS99.apart (show IsS99 w0 _ g s0_0 t621 t622 from is99_1 HI0.out NB0_610.out) (kr_ HO619.out) (by decide)) hk (fun _ h => h.2)) (fun _ h => h.1)); replace HO625 := Aside0.mk (Kd.R_mono (Kd.R_keep (IsS99.apart (show IsS99 w0 _ g s0_0 t621 t622 from is99_1 HI0.out NB0_610.out) (kr_ HO625.out) (by decide)) hk (fun _ h => h.2)) (fun _ h => h.1)); replace HK := Aside0.mk (KeepBut.trans (kb1_ HK.out GW610.out) hk (.inl rfl)); replace HB := Aside0.mk (hb); replace HI0 := Aside0.mk (hi); (try clear hb); (try clear hb2); (try clear hk); (try clear hi)) | ((with_reducible refine gate_dst (N := 3) rfl ?_); refine box_event ?hg (N := 3) ?hd (cs := #[.string (⟨#[]⟩ : ByteArray), .int .i64 0, .int .i64 0]) (t := 29) ?hr ?_; (case hd => rfl); (case hg => rfl); (case hr => first | (go_simp; done) | (go_simp; rfl)); intro gb629 hg w75 hbox hb; replace HO613 := Aside0.mk (Kd.R_below (kr_ HO613.out) hb); replace HO619 := Aside0.mk (Kd.R_below (kr_ HO619.out) hb); replace HO625 := Aside0.mk (Kd.R_below (kr_ HO625.out) hb); replace HB := Aside0.mk (below_step (lb2_ HB.out (IsS99.ge HI0.out) GE610.out) hb); have BK629 := Aside0.mk (hbox); have GW629 := Aside0.mk ((by rw [hg]; exact (keep_size (w := w) (g := g) (row := none) (kb1_ HK.out GW610.out)) : w.heap.size ≤ gb629)); have GE629 := Aside0.mk ((Nat.le_trans HW0.out (by rw [hg]; exact (keep_size (w := w) (g := g) (row := none) (kb1_ HK.out GW610.out)) : w.heap.size ≤ gb629) : w0.heap.size ≤ gb629)); replace HK := Aside0.mk (KeepBut.trans (kb1_ HK.out GW610.out) (KeepBut.of_below hb g none) (.inl rfl)); have NB610_629 := Aside0.mk (nl_ hg BK610.out); have NB629_610 := Aside0.mk (ng_ hg BK610.out); replace BK610 := Aside0.mk (bb_ (bk_ BK610.out) hb); have NB0_629 := Aside0.mk ((by rw [hg]; exact Nat.ne_of_lt (IsS99.lt (show IsS99 w0 _ g s0_0 t627 t628 from is99_1 HI0.out NB0_610.out)) : g ≠ gb629)); have NB629_0 := Aside0.mk ((by rw [hg]; exact Nat.ne_of_gt (IsS99.lt (show IsS99 w0 _ g s0_0 t627 t628 from is99_1 HI0.out NB0_610.out)) : gb629 ≠ g)); replace HI0 := Aside0.mk (IsS99.below (is99_1 HI0.out NB0_610.out) hb); clear hb hbox hg; have hnb76 := NB629_610.out; have hnc76 := NB610_629.out; have hnb77 := NB629_0.out; have hnc77 := NB0_629.out; obtain ⟨hcz78_0, hcz78_1, hcz78_2⟩ := cz3_ BK629.out; obtain ⟨hfz78_0, hfz78_1, hfz78_2⟩ := fz3_ BK629.out) | ((with_reducible refine gate_callee (f := 86) rfl ?_); refine ga_ (some 15) Tryd.func86 #[.pointer (some ⟨g, 0, none⟩), .int .i64 60] ?_; (with_reducible refine (spec_l1Cur_pick.calls g s0_0 t627 t628 60 t630 t631 t632 w0 _ ?side1 ?side2 A5.out).mono ?_); (case side1 => exact is99_2 HI0.out NB0_610.out NB0_629.out); (case side2 => exact lb3_ HB.out (IsS99.ge HI0.out) GE610.out GE629.out); rintro e w79 ⟨rfl, hi, hb, hk⟩; refine ⟨_, rfl, ?_⟩; replace BK610 := Aside0.mk (KeepBut.blk hk (g' := gb610) (o := .cells #[.string (⟨#[]⟩ : ByteArray), .int .i64 0, .int .i64 0] 29 (0, 0)) (by (with_reducible repeat (first | refine blk_drewN ?_ _ | refine blk_drew ?_ | refine blk_alloc ?_ _)); exact (f3_ BK610.out NB610_629.out _ _ _)) NB610_0.out (by simp)); replace HO613 := Aside0.mk (Kd.R_mono (Kd.R_keep (IsS99.apart (show IsS99 w0 _ g s0_0 t627 t628 from is99_2 HI0.out NB0_610.out NB0_629.out) (kg_ HO613.out BK629.out) (by decide)) hk (fun _ h => h.2)) (fun _ h => h.1)); replace HO619 := Aside0.mk (Kd.R_mono (Kd.R_keep (IsS99.apart (show IsS99 w0 _ g s0_0 t627 t628 from is99_2 HI0.out NB0_610.out NB0_629.out) (kg_ HO619.out BK629.out) (by decide)) hk (fun _ h => h.2)) (fun _ h => h.1)); replace HO625 := Aside0.mk (Kd.R_mono (Kd.R_keep (IsS99.apart (show IsS99 w0 _ g s0_0 t627 t628 from is99_2 HI0.out NB0_610.out NB0_629.out) (kg_ HO625.out BK629.out) (by decide)) hk (fun _ h => h.2)) (fun _ h => h.1)); replace BK629 := Aside0.mk (KeepBut.blk hk (g' := gb629) (o := .cells #[.string t614, .int .i64 t620, .int .i64 t626] 29 (0, 0)) (by (with_reducible repeat (first | refine blk_drewN ?_ _ | refine blk_drew ?_ | refine blk_alloc ?_ _)); exact (p3_ BK629.out _ _ _)) NB629_0.out (by simp)); replace HK := Aside0.mk (KeepBut.trans (kb2_ HK.out GW610.out GW629.out) hk (.inl rfl)); replace HB := Aside0.mk (hb); replace HI0 := Aside0.mk (hi); (try clear hb); (try clear hb2); (try clear hk); (try clear hi)) | ((with_reducible refine gate_dst (N := 31) rfl ?_); refine Kd.R_lit (Kd.int .i64) _ 3 ?hg (N := 31) ?hd (xs := ([(-1), 100] : List Int)) (inner := [.int .i64 (-1), .int .i64 100]) (ok := fun _ => True) (okp := fun _ => True) ?hr ?hp (fun _ hk => hk) trivial (Below.refl _ _) (Nat.le_refl _) (by simp) ?_; (case hd => rfl); (case hg => rfl); (case hr => first | (go_simp; done) | (go_simp; rfl)); (case hp => exact (Reps.one (show Kd.M (Kd.int .i64) _ _ _ (-1) [.int .i64 (-1)] from rfl) (Reps.one (show Kd.M (Kd.int .i64) _ _ _ 100 [.int .i64 100] from rfl) (Reps.none _ _)))); intro v646 w80 ho81 hb hg_ hnew_; clear hg_ hnew_; replace ho81 := ry_ Ny645.out ho81; replace HO613 := Aside0.mk (Kd.R_below (kr_ HO613.out) hb); have HO647 := Aside0.mk (Kd.R_lower (Kd.R_new' (Kd.R_new' ho81 (Kd.R_lt (kr_ HO619.out))) (Kd.R_lt (kr_ HO625.out))) (keep_size (w := w) (g := g) (row := none) (kb2_ HK.out GW610.out GW629.out))); replace HO619 := Aside0.mk (Kd.R_elder' (kr_ HO619.out) (Kd.R_base ho81) hb); replace HO625 := Aside0.mk (Kd.R_elder' (kr_ HO625.out) (Kd.R_base ho81) hb); replace BK610 := Aside0.mk (bb_ (bk_ BK610.out) hb); replace BK629 := Aside0.mk (bb_ (bk_ BK629.out) hb); replace HK := Aside0.mk (KeepBut.trans (kb2_ HK.out GW610.out GW629.out) (KeepBut.of_below hb g none) (.inl rfl)); replace HB := Aside0.mk (below_step (lb3_ HB.out (IsS99.ge HI0.out) GE610.out GE629.out) hb); replace HI0 := Aside0.mk (IsS99.below (is99_2 HI0.out NB0_610.out NB0_629.out) hb); clear hb ho81; obtain ⟨Ao82, co82, eo82⟩ := Kd.R_slice HO647.out; subst eo82) | ((with_reducible refine gate_callee (f := 88) rfl ?_); refine ga_ (some 32) Tryd.func88 #[.pointer (some ⟨g, 0, none⟩), .slice Ao82 y645.length co82] ?_; (with_reducible refine (spec_l1Cur_among.calls g s0_0 t631 t632 _ _ y645 t648 t649 t650 w0 _ ?side1 ?side2 ?side3 ?side4 ?side5 A61.out).mono ?_); (case side1 => exact is99_2 HI0.out NB0_610.out NB0_629.out); (case side2 => exact lb3_ HB.out (IsS99.ge HI0.out) GE610.out GE629.out); (case side3 => exact kc_ (Kd.R_reads' HO647.out).2.2); (case side4 => exact (Kd.R_reads' HO647.out).2.1); (case side5 => exact far_slice (IsS99.own_ne HI0.out HO647.out (by decide))); rintro e w83 ⟨rfl, hi, hb, hk⟩; refine ⟨_, rfl, ?_⟩; replace BK610 := Aside0.mk (KeepBut.blk hk (g' := gb610) (o := .cells #[.string (⟨#[]⟩ : ByteArray), .int .i64 0, .int .i64 0] 29 (0, 0)) (bk_ BK610.out) NB610_0.out (by simp)); replace HO613 := Aside0.mk (Kd.R_mono (Kd.R_keep (IsS99.apart (show IsS99 w0 _ g s0_0 t631 t632 from is99_2 HI0.out NB0_610.out NB0_629.out) (kr_ HO613.out) (by decide)) hk (fun _ h => h.2)) (fun _ h => h.1)); replace HO619 := Aside0.mk (Kd.R_mono (Kd.R_keep (IsS99.apart (show IsS99 w0 _ g s0_0 t631 t632 from is99_2 HI0.out NB0_610.out NB0_629.out) (kr_ HO619.out) (by decide)) hk (fun _ h => h.2)) (fun _ h => h.1)); replace HO625 := Aside0.mk (Kd.R_mono (Kd.R_keep (IsS99.apart (show IsS99 w0 _ g s0_0 t631 t632 from is99_2 HI0.out NB0_610.out NB0_629.out) (kr_ HO625.out) (by decide)) hk (fun _ h => h.2)) (fun _ h => h.1)); replace BK629 := Aside0.mk (KeepBut.blk hk (g' := gb629) (o := .cells #[.string t614, .int .i64 t620, .int .i64 t626] 29 (0, 0)) (bk_ BK629.out) NB629_0.out (by simp)); replace HO647 := Aside0.mk (Kd.R_mono (Kd.R_keep (IsS99.apart (show IsS99 w0 _ g s0_0 t631 t632 from is99_2 HI0.out NB0_610.out NB0_629.out) (kr_ HO647.out) (by decide)) hk (fun _ h => h.2)) (fun _ h => h.1)); replace HK := Aside0.mk (KeepBut.trans (kb2_ HK.out GW610.out GW629.out) hk (.inl rfl)); replace HB := Aside0.mk (hb); replace HI0 := Aside0.mk (hi); (try clear hb); (try clear hb2); (try clear hk); (try clear hi); obtain ⟨hcz84_0, hcz84_1, hcz84_2⟩ := cz3_ BK629.out; obtain ⟨hfz84_0, hfz84_1, hfz84_2⟩ := fz3_ BK629.out; have hnb85 := NB610_0.out; have hnc85 := NB0_610.out; obtain ⟨hcz86_0, hcz86_1, hcz86_2⟩ := cz3_ BK610.out; obtain ⟨hfz86_0, hfz86_1, hfz86_2⟩ := fz3_ BK610.out))
    refine bodyPost_ret (results_cell_row rfl _ _ gb610 29 #[.string t614, .int .i64 t620, .int .i64 t648] (0, 0) _ rfl (by (with_reducible repeat (first | refine blk_drewN ?_ _ | refine blk_drew ?_ | refine blk_alloc ?_ _)); refine blk_put (cs := #[.string t614, .int .i64 t620, .int .i64 0]) ?_ 2 _ rfl; (with_reducible repeat (first | refine blk_drewN ?_ _ | refine blk_drew ?_ | refine blk_alloc ?_ _)); refine blk_put (cs := #[.string t614, .int .i64 0, .int .i64 0]) ?_ 1 _ rfl; (with_reducible repeat (first | refine blk_drewN ?_ _ | refine blk_drew ?_ | refine blk_alloc ?_ _)); refine blk_put (cs := #[.string (⟨#[]⟩ : ByteArray), .int .i64 0, .int .i64 0]) ?_ 0 _ rfl; (with_reducible repeat (first | refine blk_drewN ?_ _ | refine blk_drew ?_ | refine blk_alloc ?_ _)); refine blk_far ?_ NB610_629.out _; (with_reducible repeat (first | refine blk_drewN ?_ _ | refine blk_drew ?_ | refine blk_alloc ?_ _)); exact BK610.out) Tryd.underlying29 rfl (by kernel_rfl)) rfl ?_
    exact ⟨rr_, is99_2 HI0.out NB0_610.out NB0_629.out, lb3_ HB.out (IsS99.ge HI0.out) GE610.out GE629.out, kb2_ HK.out GW610.out GW629.out⟩
   ·
    rw [if_neg c60] at H
    have c60b0 : (t630 == 2) = false := beq_eq_false_iff_ne.mpr c60
    have c60b1 : (t630 != 2) = true := bne_iff_ne.mpr c60
    simp only [Option.some.injEq, Prod.mk.injEq] at H
    obtain ⟨rfl, rfl, rfl, rfl, rfl⟩ := H
    go_enter Tryd.func89, Tryd.ntmps89
    go_wp2_with (first | ((with_reducible refine gate_dst (N := 2) rfl ?_); refine box_event ?hg (N := 2) ?hd (cs := #[.string (⟨#[]⟩ : ByteArray), .int .i64 0, .int .i64 0]) (t := 29) ?hr ?_; (case hd => rfl); (case hg => rfl); (case hr => first | (go_simp; done) | (go_simp; rfl)); intro gb610 hg w87 hbox hb; replace HB := Aside0.mk (below_step (lb1_ HB.out (IsS99.ge HI0.out)) hb); have BK610 := Aside0.mk (hbox); have GW610 := Aside0.mk ((by rw [hg]; exact (keep_size (w := w) (g := g) (row := none) (kb0_ HK.out)) : w.heap.size ≤ gb610)); have GE610 := Aside0.mk ((Nat.le_trans HW0.out (by rw [hg]; exact (keep_size (w := w) (g := g) (row := none) (kb0_ HK.out)) : w.heap.size ≤ gb610) : w0.heap.size ≤ gb610)); replace HK := Aside0.mk (KeepBut.trans (kb0_ HK.out) (KeepBut.of_below hb g none) (.inl rfl)); have NB0_610 := Aside0.mk ((by rw [hg]; exact Nat.ne_of_lt (IsS99.lt (show IsS99 w0 _ g s0_0 s0_1 s0_2 from is99_0 HI0.out)) : g ≠ gb610)); have NB610_0 := Aside0.mk ((by rw [hg]; exact Nat.ne_of_gt (IsS99.lt (show IsS99 w0 _ g s0_0 s0_1 s0_2 from is99_0 HI0.out)) : gb610 ≠ g)); replace HI0 := Aside0.mk (IsS99.below (is99_0 HI0.out) hb); clear hb hbox hg) | ((with_reducible refine gate_dst (N := 5) rfl ?_); refine Kd.R_lit Kd.string _ 9 ?hg (N := 5) ?hd (xs := ([(⟨#[97]⟩ : ByteArray), (⟨#[115, 117, 109, 112]⟩ : ByteArray), (⟨#[98, 105, 103]⟩ : ByteArray), (⟨#[104, 97, 108, 108]⟩ : ByteArray), (⟨#[108, 111, 110, 103, 110, 97, 109, 101]⟩ : ByteArray), (⟨#[97, 98, 99, 100, 101, 102, 103, 104, 105, 106]⟩ : ByteArray)] : List ByteArray)) (inner := [.string (⟨#[97]⟩ : ByteArray), .string (⟨#[115, 117, 109, 112]⟩ : ByteArray), .string (⟨#[98, 105, 103]⟩ : ByteArray), .string (⟨#[104, 97, 108, 108]⟩ : ByteArray), .string (⟨#[108, 111, 110, 103, 110, 97, 109, 101]⟩ : ByteArray), .string (⟨#[97, 98, 99, 100, 101, 102, 103, 104, 105, 106]⟩ : ByteArray)]) (ok := fun _ => True) (okp := fun _ => True) ?hr ?hp (fun _ hk => hk) trivial (Below.refl _ _) (Nat.le_refl _) (by simp) ?_; (case hd => rfl); (case hg => rfl); (case hr => first | (go_simp; done) | (go_simp; rfl)); (case hp => exact (Reps.one (show Kd.M Kd.string _ _ _ (⟨#[97]⟩ : ByteArray) [.string (⟨#[97]⟩ : ByteArray)] from rfl) (Reps.one (show Kd.M Kd.string _ _ _ (⟨#[115, 117, 109, 112]⟩ : ByteArray) [.string (⟨#[115, 117, 109, 112]⟩ : ByteArray)] from rfl) (Reps.one (show Kd.M Kd.string _ _ _ (⟨#[98, 105, 103]⟩ : ByteArray) [.string (⟨#[98, 105, 103]⟩ : ByteArray)] from rfl) (Reps.one (show Kd.M Kd.string _ _ _ (⟨#[104, 97, 108, 108]⟩ : ByteArray) [.string (⟨#[104, 97, 108, 108]⟩ : ByteArray)] from rfl) (Reps.one (show Kd.M Kd.string _ _ _ (⟨#[108, 111, 110, 103, 110, 97, 109, 101]⟩ : ByteArray) [.string (⟨#[108, 111, 110, 103, 110, 97, 109, 101]⟩ : ByteArray)] from rfl) (Reps.one (show Kd.M Kd.string _ _ _ (⟨#[97, 98, 99, 100, 101, 102, 103, 104, 105, 106]⟩ : ByteArray) [.string (⟨#[97, 98, 99, 100, 101, 102, 103, 104, 105, 106]⟩ : ByteArray)] from rfl) (Reps.none _ _)))))))); intro v612 w88 ho89 hb hg_ hnew_; clear hg_ hnew_; replace ho89 := ry_ Ny611.out ho89; have HO613 := Aside0.mk (Kd.R_lower ho89 (keep_size (w := w) (g := g) (row := none) (kb1_ HK.out GW610.out))); replace BK610 := Aside0.mk (bb_ (bk_ BK610.out) hb); replace HK := Aside0.mk (KeepBut.trans (kb1_ HK.out GW610.out) (KeepBut.of_below hb g none) (.inl rfl)); replace HB := Aside0.mk (below_step (lb2_ HB.out (IsS99.ge HI0.out) GE610.out) hb); replace HI0 := Aside0.mk (IsS99.below (is99_1 HI0.out NB0_610.out) hb); clear hb ho89; obtain ⟨Ao90, co90, eo90⟩ := Kd.R_slice HO613.out; subst eo90) | ((with_reducible refine gate_callee (f := 108) rfl ?_); refine ga_ (some 6) Tryd.func108 #[.pointer (some ⟨g, 0, none⟩), .slice Ao90 y611.length co90] ?_; (with_reducible refine (spec_l1Cur_of.calls g s0_0 s0_1 s0_2 _ _ y611 t614 t615 t616 w0 _ ?side1 ?side2 ?side3 ?side4 ?side5 A2.out).mono ?_); (case side1 => exact is99_1 HI0.out NB0_610.out); (case side2 => exact lb2_ HB.out (IsS99.ge HI0.out) GE610.out); (case side3 => exact kc_ (Kd.R_reads' HO613.out).2.2); (case side4 => exact (Kd.R_reads' HO613.out).2.1); (case side5 => exact far_slice (IsS99.own_ne HI0.out HO613.out (by decide))); rintro e w91 ⟨rfl, hi, hb, hk⟩; refine ⟨_, rfl, ?_⟩; replace BK610 := Aside0.mk (KeepBut.blk hk (g' := gb610) (o := .cells #[.string (⟨#[]⟩ : ByteArray), .int .i64 0, .int .i64 0] 29 (0, 0)) (bk_ BK610.out) NB610_0.out (by simp)); replace HO613 := Aside0.mk (Kd.R_mono (Kd.R_keep (IsS99.apart (show IsS99 w0 _ g s0_0 s0_1 s0_2 from is99_1 HI0.out NB0_610.out) (kr_ HO613.out) (by decide)) hk (fun _ h => h.2)) (fun _ h => h.1)); replace HK := Aside0.mk (KeepBut.trans (kb1_ HK.out GW610.out) hk (.inl rfl)); replace HB := Aside0.mk (hb); replace HI0 := Aside0.mk (hi); (try clear hb); (try clear hb2); (try clear hk); (try clear hi)) | ((with_reducible refine gate_dst (N := 8) rfl ?_); refine Kd.R_lit (Kd.int .i64) _ 3 ?hg (N := 8) ?hd (xs := ([0, 5, 9, 12, 13, 99] : List Int)) (inner := [.int .i64 0, .int .i64 5, .int .i64 9, .int .i64 12, .int .i64 13, .int .i64 99]) (ok := fun _ => True) (okp := fun _ => True) ?hr ?hp (fun _ hk => hk) trivial (Below.refl _ _) (Nat.le_refl _) (by simp) ?_; (case hd => rfl); (case hg => rfl); (case hr => first | (go_simp; done) | (go_simp; rfl)); (case hp => exact (Reps.one (show Kd.M (Kd.int .i64) _ _ _ 0 [.int .i64 0] from rfl) (Reps.one (show Kd.M (Kd.int .i64) _ _ _ 5 [.int .i64 5] from rfl) (Reps.one (show Kd.M (Kd.int .i64) _ _ _ 9 [.int .i64 9] from rfl) (Reps.one (show Kd.M (Kd.int .i64) _ _ _ 12 [.int .i64 12] from rfl) (Reps.one (show Kd.M (Kd.int .i64) _ _ _ 13 [.int .i64 13] from rfl) (Reps.one (show Kd.M (Kd.int .i64) _ _ _ 99 [.int .i64 99] from rfl) (Reps.none _ _)))))))); intro v618 w92 ho93 hb hg_ hnew_; clear hg_ hnew_; replace ho93 := ry_ Ny617.out ho93; replace HO613 := Aside0.mk (Kd.R_below (kr_ HO613.out) hb); have HO619 := Aside0.mk (Kd.R_lower ho93 (keep_size (w := w) (g := g) (row := none) (kb1_ HK.out GW610.out))); replace BK610 := Aside0.mk (bb_ (bk_ BK610.out) hb); replace HK := Aside0.mk (KeepBut.trans (kb1_ HK.out GW610.out) (KeepBut.of_below hb g none) (.inl rfl)); replace HB := Aside0.mk (below_step (lb2_ HB.out (IsS99.ge HI0.out) GE610.out) hb); replace HI0 := Aside0.mk (IsS99.below (is99_1 HI0.out NB0_610.out) hb); clear hb ho93; obtain ⟨Ao94, co94, eo94⟩ := Kd.R_slice HO619.out; subst eo94) | ((with_reducible refine gate_callee (f := 88) rfl ?_); refine ga_ (some 9) Tryd.func88 #[.pointer (some ⟨g, 0, none⟩), .slice Ao94 y617.length co94] ?_; (with_reducible refine (spec_l1Cur_among.calls g s0_0 t615 t616 _ _ y617 t620 t621 t622 w0 _ ?side1 ?side2 ?side3 ?side4 ?side5 A3.out).mono ?_); (case side1 => exact is99_1 HI0.out NB0_610.out); (case side2 => exact lb2_ HB.out (IsS99.ge HI0.out) GE610.out); (case side3 => exact kc_ (Kd.R_reads' HO619.out).2.2); (case side4 => exact (Kd.R_reads' HO619.out).2.1); (case side5 => exact far_slice (IsS99.own_ne HI0.out HO619.out (by decide))); rintro e w95 ⟨rfl, hi, hb, hk⟩; refine ⟨_, rfl, ?_⟩; replace BK610 := Aside0.mk (KeepBut.blk hk (g' := gb610) (o := .cells #[.string (⟨#[]⟩ : ByteArray), .int .i64 0, .int .i64 0] 29 (0, 0)) (bk_ BK610.out) NB610_0.out (by simp)); replace HO613 := Aside0.mk (Kd.R_mono (Kd.R_keep (IsS99.apart (show IsS99 w0 _ g s0_0 t615 t616 from is99_1 HI0.out NB0_610.out) (kr_ HO613.out) (by decide)) hk (fun _ h => h.2)) (fun _ h => h.1)); replace HO619 := Aside0.mk (Kd.R_mono (Kd.R_keep (IsS99.apart (show IsS99 w0 _ g s0_0 t615 t616 from is99_1 HI0.out NB0_610.out) (kr_ HO619.out) (by decide)) hk (fun _ h => h.2)) (fun _ h => h.1)); replace HK := Aside0.mk (KeepBut.trans (kb1_ HK.out GW610.out) hk (.inl rfl)); replace HB := Aside0.mk (hb); replace HI0 := Aside0.mk (hi); (try clear hb); (try clear hb2); (try clear hk); (try clear hi)) | ((with_reducible refine gate_dst (N := 11) rfl ?_); refine Kd.R_lit (Kd.int .i64) _ 3 ?hg (N := 11) ?hd (xs := ([0, 1, 8, 10, 11, 99] : List Int)) (inner := [.int .i64 0, .int .i64 1, .int .i64 8, .int .i64 10, .int .i64 11, .int .i64 99]) (ok := fun _ => True) (okp := fun _ => True) ?hr ?hp (fun _ hk => hk) trivial (Below.refl _ _) (Nat.le_refl _) (by simp) ?_; (case hd => rfl); (case hg => rfl); (case hr => first | (go_simp; done) | (go_simp; rfl)); (case hp => exact (Reps.one (show Kd.M (Kd.int .i64) _ _ _ 0 [.int .i64 0] from rfl) (Reps.one (show Kd.M (Kd.int .i64) _ _ _ 1 [.int .i64 1] from rfl) (Reps.one (show Kd.M (Kd.int .i64) _ _ _ 8 [.int .i64 8] from rfl) (Reps.one (show Kd.M (Kd.int .i64) _ _ _ 10 [.int .i64 10] from rfl) (Reps.one (show Kd.M (Kd.int .i64) _ _ _ 11 [.int .i64 11] from rfl) (Reps.one (show Kd.M (Kd.int .i64) _ _ _ 99 [.int .i64 99] from rfl) (Reps.none _ _)))))))); intro v624 w96 ho97 hb hg_ hnew_; clear hg_ hnew_; replace ho97 := ry_ Ny623.out ho97; replace HO613 := Aside0.mk (Kd.R_below (kr_ HO613.out) hb); have HO625 := Aside0.mk (Kd.R_lower (Kd.R_new' ho97 (Kd.R_lt (kr_ HO619.out))) (keep_size (w := w) (g := g) (row := none) (kb1_ HK.out GW610.out))); replace HO619 := Aside0.mk (Kd.R_elder' (kr_ HO619.out) (Kd.R_base ho97) hb); replace BK610 := Aside0.mk (bb_ (bk_ BK610.out) hb); replace HK := Aside0.mk (KeepBut.trans (kb1_ HK.out GW610.out) (KeepBut.of_below hb g none) (.inl rfl)); replace HB := Aside0.mk (below_step (lb2_ HB.out (IsS99.ge HI0.out) GE610.out) hb); replace HI0 := Aside0.mk (IsS99.below (is99_1 HI0.out NB0_610.out) hb); clear hb ho97; obtain ⟨Ao98, co98, eo98⟩ := Kd.R_slice HO625.out; subst eo98) | ((with_reducible refine gate_callee (f := 88) rfl ?_); refine ga_ (some 12) Tryd.func88 #[.pointer (some ⟨g, 0, none⟩), .slice Ao98 y623.length co98] ?_; (with_reducible refine (spec_l1Cur_among.calls g s0_0 t621 t622 _ _ y623 t626 t627 t628 w0 _ ?side1 ?side2 ?side3 ?side4 ?side5 A4.out).mono ?_); (case side1 => exact is99_1 HI0.out NB0_610.out); (case side2 => exact lb2_ HB.out (IsS99.ge HI0.out) GE610.out); (case side3 => exact kc_ (Kd.R_reads' HO625.out).2.2); (case side4 => exact (Kd.R_reads' HO625.out).2.1); (case side5 => exact far_slice (IsS99.own_ne HI0.out HO625.out (by decide))); rintro e w99 ⟨rfl, hi, hb, hk⟩; refine ⟨_, rfl, ?_⟩; replace BK610 := Aside0.mk (KeepBut.blk hk (g' := gb610) (o := .cells #[.string (⟨#[]⟩ : ByteArray), .int .i64 0, .int .i64 0] 29 (0, 0)) (bk_ BK610.out) NB610_0.out (by simp)); replace HO613 := Aside0.mk (Kd.R_mono (Kd.R_keep (IsS99.apart (show IsS99 w0 _ g s0_0 t621 t622 from is99_1 HI0.out NB0_610.out) (kr_ HO613.out) (by decide)) hk (fun _ h => h.2)) (fun _ h => h.1)); replace HO619 := Aside0.mk (Kd.R_mono (Kd.R_keep (IsS99.apart (show IsS99 w0 _ g s0_0 t621 t622 from is99_1 HI0.out NB0_610.out) (kr_ HO619.out) (by decide)) hk (fun _ h => h.2)) (fun _ h => h.1)); replace HO625 := Aside0.mk (Kd.R_mono (Kd.R_keep (IsS99.apart (show IsS99 w0 _ g s0_0 t621 t622 from is99_1 HI0.out NB0_610.out) (kr_ HO625.out) (by decide)) hk (fun _ h => h.2)) (fun _ h => h.1)); replace HK := Aside0.mk (KeepBut.trans (kb1_ HK.out GW610.out) hk (.inl rfl)); replace HB := Aside0.mk (hb); replace HI0 := Aside0.mk (hi); (try clear hb); (try clear hb2); (try clear hk); (try clear hi)) | ((with_reducible refine gate_dst (N := 3) rfl ?_); refine box_event ?hg (N := 3) ?hd (cs := #[.string (⟨#[]⟩ : ByteArray), .int .i64 0, .int .i64 0]) (t := 29) ?hr ?_; (case hd => rfl); (case hg => rfl); (case hr => first | (go_simp; done) | (go_simp; rfl)); intro gb629 hg w100 hbox hb; replace HO613 := Aside0.mk (Kd.R_below (kr_ HO613.out) hb); replace HO619 := Aside0.mk (Kd.R_below (kr_ HO619.out) hb); replace HO625 := Aside0.mk (Kd.R_below (kr_ HO625.out) hb); replace HB := Aside0.mk (below_step (lb2_ HB.out (IsS99.ge HI0.out) GE610.out) hb); have BK629 := Aside0.mk (hbox); have GW629 := Aside0.mk ((by rw [hg]; exact (keep_size (w := w) (g := g) (row := none) (kb1_ HK.out GW610.out)) : w.heap.size ≤ gb629)); have GE629 := Aside0.mk ((Nat.le_trans HW0.out (by rw [hg]; exact (keep_size (w := w) (g := g) (row := none) (kb1_ HK.out GW610.out)) : w.heap.size ≤ gb629) : w0.heap.size ≤ gb629)); replace HK := Aside0.mk (KeepBut.trans (kb1_ HK.out GW610.out) (KeepBut.of_below hb g none) (.inl rfl)); have NB610_629 := Aside0.mk (nl_ hg BK610.out); have NB629_610 := Aside0.mk (ng_ hg BK610.out); replace BK610 := Aside0.mk (bb_ (bk_ BK610.out) hb); have NB0_629 := Aside0.mk ((by rw [hg]; exact Nat.ne_of_lt (IsS99.lt (show IsS99 w0 _ g s0_0 t627 t628 from is99_1 HI0.out NB0_610.out)) : g ≠ gb629)); have NB629_0 := Aside0.mk ((by rw [hg]; exact Nat.ne_of_gt (IsS99.lt (show IsS99 w0 _ g s0_0 t627 t628 from is99_1 HI0.out NB0_610.out)) : gb629 ≠ g)); replace HI0 := Aside0.mk (IsS99.below (is99_1 HI0.out NB0_610.out) hb); clear hb hbox hg; have hnb101 := NB629_610.out; have hnc101 := NB610_629.out; have hnb102 := NB629_0.out; have hnc102 := NB0_629.out; obtain ⟨hcz103_0, hcz103_1, hcz103_2⟩ := cz3_ BK629.out; obtain ⟨hfz103_0, hfz103_1, hfz103_2⟩ := fz3_ BK629.out) | ((with_reducible refine gate_callee (f := 86) rfl ?_); refine ga_ (some 15) Tryd.func86 #[.pointer (some ⟨g, 0, none⟩), .int .i64 60] ?_; (with_reducible refine (spec_l1Cur_pick.calls g s0_0 t627 t628 60 t630 t631 t632 w0 _ ?side1 ?side2 A5.out).mono ?_); (case side1 => exact is99_2 HI0.out NB0_610.out NB0_629.out); (case side2 => exact lb3_ HB.out (IsS99.ge HI0.out) GE610.out GE629.out); rintro e w104 ⟨rfl, hi, hb, hk⟩; refine ⟨_, rfl, ?_⟩; replace BK610 := Aside0.mk (KeepBut.blk hk (g' := gb610) (o := .cells #[.string (⟨#[]⟩ : ByteArray), .int .i64 0, .int .i64 0] 29 (0, 0)) (by (with_reducible repeat (first | refine blk_drewN ?_ _ | refine blk_drew ?_ | refine blk_alloc ?_ _)); exact (f3_ BK610.out NB610_629.out _ _ _)) NB610_0.out (by simp)); replace HO613 := Aside0.mk (Kd.R_mono (Kd.R_keep (IsS99.apart (show IsS99 w0 _ g s0_0 t627 t628 from is99_2 HI0.out NB0_610.out NB0_629.out) (kg_ HO613.out BK629.out) (by decide)) hk (fun _ h => h.2)) (fun _ h => h.1)); replace HO619 := Aside0.mk (Kd.R_mono (Kd.R_keep (IsS99.apart (show IsS99 w0 _ g s0_0 t627 t628 from is99_2 HI0.out NB0_610.out NB0_629.out) (kg_ HO619.out BK629.out) (by decide)) hk (fun _ h => h.2)) (fun _ h => h.1)); replace HO625 := Aside0.mk (Kd.R_mono (Kd.R_keep (IsS99.apart (show IsS99 w0 _ g s0_0 t627 t628 from is99_2 HI0.out NB0_610.out NB0_629.out) (kg_ HO625.out BK629.out) (by decide)) hk (fun _ h => h.2)) (fun _ h => h.1)); replace BK629 := Aside0.mk (KeepBut.blk hk (g' := gb629) (o := .cells #[.string t614, .int .i64 t620, .int .i64 t626] 29 (0, 0)) (by (with_reducible repeat (first | refine blk_drewN ?_ _ | refine blk_drew ?_ | refine blk_alloc ?_ _)); exact (p3_ BK629.out _ _ _)) NB629_0.out (by simp)); replace HK := Aside0.mk (KeepBut.trans (kb2_ HK.out GW610.out GW629.out) hk (.inl rfl)); replace HB := Aside0.mk (hb); replace HI0 := Aside0.mk (hi); (try clear hb); (try clear hb2); (try clear hk); (try clear hi); obtain ⟨hcz105_0, hcz105_1, hcz105_2⟩ := cz3_ BK629.out; obtain ⟨hfz105_0, hfz105_1, hfz105_2⟩ := fz3_ BK629.out; have hnb106 := NB610_0.out; have hnc106 := NB0_610.out; obtain ⟨hcz107_0, hcz107_1, hcz107_2⟩ := cz3_ BK610.out; obtain ⟨hfz107_0, hfz107_1, hfz107_2⟩ := fz3_ BK610.out))
    refine bodyPost_ret (results_cell_row rfl _ _ gb610 29 #[.string t614, .int .i64 t620, .int .i64 t626] (0, 0) _ rfl (by (with_reducible repeat (first | refine blk_drewN ?_ _ | refine blk_drew ?_ | refine blk_alloc ?_ _)); refine blk_put (cs := #[.string t614, .int .i64 t620, .int .i64 0]) ?_ 2 _ rfl; (with_reducible repeat (first | refine blk_drewN ?_ _ | refine blk_drew ?_ | refine blk_alloc ?_ _)); refine blk_put (cs := #[.string t614, .int .i64 0, .int .i64 0]) ?_ 1 _ rfl; (with_reducible repeat (first | refine blk_drewN ?_ _ | refine blk_drew ?_ | refine blk_alloc ?_ _)); refine blk_put (cs := #[.string (⟨#[]⟩ : ByteArray), .int .i64 0, .int .i64 0]) ?_ 0 _ rfl; (with_reducible repeat (first | refine blk_drewN ?_ _ | refine blk_drew ?_ | refine blk_alloc ?_ _)); exact BK610.out) Tryd.underlying29 rfl (by kernel_rfl)) rfl ?_
    exact ⟨rr_, is99_2 HI0.out NB0_610.out NB0_629.out, lb3_ HB.out (IsS99.ge HI0.out) GE610.out GE629.out, kb2_ HK.out GW610.out GW629.out⟩
mutual
def spec_l1Cur_labels24.l0 : Nat → List (S29) → Int → List Int → Int → Int → Option ((List (S29)) × Int × Int)
 | 0, _, _, _, _, _ => none
 | k + 1, x3, x4, x1000, x1001, x1002 => if x4 > 0 then ((spec_l1Cur_label.f x1000 x1001 x1002).bind fun bt657 => (if x3.length < 4398046511104 then (spec_l1Cur_labels24.l0 k (x3 ++ [(⟨bt657.1, bt657.2.1, bt657.2.2.1⟩ : S29)]) (wrap64 (x4 - 1)) x1000 bt657.2.2.2.1 bt657.2.2.2.2) else (none))) else ((spec_l1Cur_one.f x1000 x1001 x1002 24).bind fun bt665 => (if bt665.1 = true then (spec_l1Cur_labels24.l1 k x3 x1000 bt665.2.1 bt665.2.2) else (some (x3, bt665.2.1, bt665.2.2))))
def spec_l1Cur_labels24.l1 : Nat → List (S29) → List Int → Int → Int → Option ((List (S29)) × Int × Int)
 | 0, _, _, _, _ => none
 | k + 1, x3, x1000, x1001, x1002 => (spec_l1Cur_pick.f x1000 x1001 x1002 2).bind fun bt668 => (if (x3.length : Int) < (wrap64 (6 + bt668.1)) then (if x3.length < 4398046511104 then (spec_l1Cur_labels24.l1 k (x3 ++ [(⟨(⟨#[98]⟩ : ByteArray), wrap64 (10 * (x3.length : Int)), 50⟩ : S29)]) x1000 bt668.2.1 bt668.2.2) else (none)) else (some (x3, bt668.2.1, bt668.2.2)))
end
def spec_l1Cur_labels24.f (k : Nat) (s0_0 : List Int) (s0_1 : Int) (s0_2 : Int) : Option ((List (S29)) × Int × Int) := (spec_l1Cur_pick.f s0_0 s0_1 s0_2 5).bind fun bt654 => (spec_l1Cur_labels24.l0 k (([] : List (S29))) bt654.1 s0_0 bt654.2.1 bt654.2.2)
set_option maxHeartbeats 8000000 in
set_option maxRecDepth 100000 in
theorem spec_l1Cur_labels24.calls (k : Nat) (g : Nat) (s0_0 : List Int) (s0_1 : Int) (s0_2 : Int) (r1 : List (S29)) (r2 : Int) (r3 : Int) (w0 w : World) (hI : IsS99 w0 w g s0_0 s0_1 s0_2) (hB : Below w0.heap.size w0 w) (h : spec_l1Cur_labels24.f k s0_0 s0_1 s0_2 = some (r1, r2, r3)) :
  Calls Tryd.prog 85 #[.pointer (some ⟨g, 0, none⟩)] w fun e w' => ∃ v0_ : Value, e = .returned (v0_) ∧ Kd.R k29 29 w' w.heap.size (fun _ => True) v0_ r1 ∧ IsS99 w0 w' g s0_0 r2 r3 ∧ Below w0.heap.size w0 w' ∧ KeepBut w w' g none := by
 have hu29 := Tryd.underlying29
 have HI0 := Aside0.mk hI
 have HK := Aside0.mk (KeepBut.refl w g none)
 have HL := Aside0.mk hB.size
 clear hI
 have HW0 := Aside0.mk hB.size
 have HB := Aside0.mk hB
 clear hB
 have H : ((spec_l1Cur_pick.f s0_0 s0_1 s0_2 5).bind fun bt654 => (spec_l1Cur_labels24.l0 k (([] : List (S29))) bt654.1 s0_0 bt654.2.1 bt654.2.2)) = some (r1, r2, r3) := h
 clear h
 obtain ⟨y651, hy651⟩ : ∃ y_ : List (S29), y_ = (([] : List (S29))) := ⟨_, rfl⟩
 replace H : ((spec_l1Cur_pick.f s0_0 s0_1 s0_2 5).bind fun bt654 => (spec_l1Cur_labels24.l0 k y651 bt654.1 s0_0 bt654.2.1 bt654.2.2)) = some (r1, r2, r3) := by first | (rw [hy651]; with_reducible exact H) | (have H2_ := (Option.bind_some _ _).symm.trans H; rw [hy651]; with_reducible exact H2_) | (have H2_ := (Option.bind_some _ _).symm.trans H; with_reducible exact H2_) | with_reducible exact H | (rw [hy651]; exact H) | exact H
 have Ny651 := Aside0.mk hy651
 clear hy651
 replace H := Option.bind_eq_some_iff.mp H
 obtain ⟨⟨t654, t655, t656⟩, A20, H⟩ := H
 replace H : (spec_l1Cur_labels24.l0 k y651 t654 s0_0 t655 t656) = some (r1, r2, r3) := H
 have A2 := Aside0.mk A20
 clear A20
 have H' := Aside0.mk H
 clear H
 go_enter Tryd.func85, Tryd.ntmps85
 go_wp2_with (first | ((with_reducible refine gate_dst (N := 5) rfl ?_); refine Kd.R_lit k29 _ 29 ?hg (N := 5) ?hd (xs := ([] : List (S29))) (inner := []) (ok := fun _ => True) (okp := fun _ => True) ?hr ?hp (fun _ hk => hk) trivial (Below.refl _ _) (Nat.le_refl _) (by simp) ?_; (case hd => rfl); (case hg => rfl); (case hr => first | (go_simp; done) | (go_simp; rfl)); (case hp => exact (Reps.none _ _)); intro v652 w3 ho4 hb hg_ hnew_; clear hg_ hnew_; replace ho4 := ry_ Ny651.out ho4; have HO653 := Aside0.mk (Kd.R_lower ho4 (keep_size (w := w) (g := g) (row := none) (kb0_ HK.out))); replace HK := Aside0.mk (KeepBut.trans (kb0_ HK.out) (KeepBut.of_below hb g none) (.inl rfl)); replace HB := Aside0.mk (below_step (lb1_ HB.out (IsS99.ge HI0.out)) hb); replace HI0 := Aside0.mk (IsS99.below (is99_0 HI0.out) hb); clear hb ho4) | ((with_reducible refine gate_callee (f := 86) rfl ?_); refine ga_ (some 7) Tryd.func86 #[.pointer (some ⟨g, 0, none⟩), .int .i64 5] ?_; (with_reducible refine (spec_l1Cur_pick.calls g s0_0 s0_1 s0_2 5 t654 t655 t656 w0 _ ?side1 ?side2 A2.out).mono ?_); (case side1 => exact is99_0 HI0.out); (case side2 => exact lb1_ HB.out (IsS99.ge HI0.out)); rintro e w5 ⟨rfl, hi, hb, hk⟩; refine ⟨_, rfl, ?_⟩; replace HO653 := Aside0.mk (Kd.R_mono (Kd.R_keep (IsS99.apart (show IsS99 w0 _ g s0_0 s0_1 s0_2 from is99_0 HI0.out) (kr_ HO653.out) (by decide)) hk (fun _ h => h.2)) (fun _ h => h.1)); replace HK := Aside0.mk (KeepBut.trans (kb0_ HK.out) hk (.inl rfl)); replace HB := Aside0.mk (hb); replace HI0 := Aside0.mk (hi); (try clear hb); (try clear hb2); (try clear hk); (try clear hi)))
 go_loopg [3, 4] k (fun kq v3 v4 w' => ∃ (x3_1 : List (S29)) (x4_1 : Int) (x1001_1 : Int) (x1002_1 : Int), v4 = .int .i64 x4_1 ∧ Aside0 (spec_l1Cur_labels24.l0 kq x3_1 x4_1 s0_0 x1001_1 x1002_1 = some (r1, r2, r3)) ∧ Aside0 (kq ≤ k) ∧ Aside0 (Kd.R k29 29 w' w.heap.size (fun _ => True) v3 x3_1) ∧ Aside0 (IsS99 w0 w' g s0_0 x1001_1 x1002_1) ∧ Aside0 (KeepBut w w' g none) ∧ Aside0 (Below w0.heap.size w0 w'))
 case atStart => exact ⟨(y651), (t654), (t655), (t656), (by first | rfl | (simp; done) | (simp [*]; done)), H', ⟨Nat.le_refl _⟩, ⟨kr_ HO653.out⟩, ⟨is99_0 HI0.out⟩, ⟨kb0_ HK.out⟩, ⟨lb1_ HB.out (IsS99.ge HI0.out)⟩⟩
 case round =>
  clear H'
  try clear p2
  obtain ⟨x3_1, x4_1, x1001_1, x1002_1, rfl, HA, HK1, HO_3, HI0, HK, HB⟩ := hrel
  cases gk with
  | zero => exact absurd HA.out (by simp [spec_l1Cur_labels24.l0])
  | succ k1 =>
   have H := HA.out
   clear HA
   simp only [spec_l1Cur_labels24.l0] at H
   by_cases c6 : x4_1 > 0
   ·
    rw [if_pos c6] at H
    have c6b0 : decide (0 < x4_1) = true := decide_eq_true c6
    clear c6
    replace H := Option.bind_eq_some_iff.mp H
    obtain ⟨⟨t657, t658, t659, t660, t661⟩, A70, H⟩ := H
    replace H : (if x3_1.length < 4398046511104 then (spec_l1Cur_labels24.l0 k1 (x3_1 ++ [(⟨t657, t658, t659⟩ : S29)]) (wrap64 (x4_1 - 1)) s0_0 t660 t661) else (none)) = some (r1, r2, r3) := H
    have A7 := Aside0.mk A70
    clear A70
    by_cases c8 : x3_1.length < 4398046511104
    ·
     rw [if_pos c8] at H
     have LMc8 := Aside0.mk c8
     clear c8
     obtain ⟨y662, hy662⟩ : ∃ y_ : List (S29), y_ = (x3_1 ++ [(⟨t657, t658, t659⟩ : S29)]) := ⟨_, rfl⟩
     replace H : (spec_l1Cur_labels24.l0 k1 y662 (wrap64 (x4_1 - 1)) s0_0 t660 t661) = some (r1, r2, r3) := by first | (rw [hy662]; with_reducible exact H) | (have H2_ := (Option.bind_some _ _).symm.trans H; rw [hy662]; with_reducible exact H2_) | (have H2_ := (Option.bind_some _ _).symm.trans H; with_reducible exact H2_) | with_reducible exact H | (rw [hy662]; exact H) | exact H
     have Ny662 := Aside0.mk hy662
     clear hy662
     have H' := Aside0.mk H
     clear H
     go_wp2_with (first | ((with_reducible refine gate_callee (f := 89) rfl ?_); refine ga_ (some 14) Tryd.func89 #[.pointer (some ⟨g, 0, none⟩)] ?_; (with_reducible refine (spec_l1Cur_label.calls g s0_0 x1001_1 x1002_1 t657 t658 t659 t660 t661 w0 _ ?side1 ?side2 A7.out).mono ?_); (case side1 => exact is99_0 HI0.out); (case side2 => exact lb1_ HB.out (IsS99.ge HI0.out)); rintro e w9 ⟨rfl, hi, hb, hk⟩; refine ⟨_, rfl, ?_⟩; replace HO_3 := Aside0.mk (Kd.R_mono (Kd.R_keep (IsS99.apart (show IsS99 w0 _ g s0_0 x1001_1 x1002_1 from is99_0 HI0.out) (kr_ HO_3.out) (by decide)) hk (fun _ h => h.2)) (fun _ h => h.1)); replace HK := Aside0.mk (KeepBut.trans (kb0_ HK.out) hk (.inl rfl)); replace HB := Aside0.mk (hb); replace HI0 := Aside0.mk (hi); (try clear hb); (try clear hb2); (try clear hk); (try clear hi)) | ((with_reducible refine gate_builtin (b := .append) (xs := #[.tmp 12, .tmp 15]) rfl ?_); at_builtin; refine Kd.R_append k29 w.heap.size rfl (.tmp 12) (.tmp 15) 36 29 (.agg #[(.string ⟨#[]⟩), (.int .i64 0), (.int .i64 0)]) 32 rfl Tryd.underlying36 info29 rfl (by decide) (by omega) u3 x3_1 (⟨t657, t658, t659⟩ : S29) [.string t657, .int .i64 t658, .int .i64 t659] (fun _ => True) (fun _ => False) rfl rfl ?aP (fun _ hk => hk.elim) ?aF ?aO (Below.refl _ _) ?aS ?aL ?_; (case aP => exact k29_mkM _ _ _ (⟨t657, t658, t659⟩ : S29)); (case aF => exact (fun _ _ => trivial)); (case aO => exact (kr_ HO_3.out)); (case aS => exact (keep_size (w := w) (g := g) (row := none) (kb0_ HK.out))); (case aL => have := LMc8.out; omega); intro v663 w10 ho hb hg hat; rw [← Ny662.out] at ho; replace HB := Aside0.mk (below_weaken (lb1_ HB.out (IsS99.ge HI0.out)) HL.out hb); replace HI0 := Aside0.mk (IsS99.grown (is99_0 HI0.out) hg (IsS99.own_ne HI0.out HO_3.out (by decide))); replace HK := Aside0.mk (KeepBut.trans (kb0_ HK.out) (KeepBut.of_grown hg g) (Kd.R_base2 HO_3.out)); have HO664 := Aside0.mk (ho); clear HO_3; clear ho hb hg hat))
     go_roundg k1
     case measure => have := HK1.out; omega
     case rel => exact ⟨(y662), (wrap64 (x4_1 - 1)), (t660), (t661), (by first | rfl | (simp; done) | (simp [*]; done)), H', ⟨by have := HK1.out; omega⟩, ⟨kr_ HO664.out⟩, ⟨is99_0 HI0.out⟩, ⟨kb0_ HK.out⟩, ⟨lb1_ HB.out (IsS99.ge HI0.out)⟩⟩
    ·
     rw [if_neg c8] at H
     exact absurd H (by simp)
   ·
    rw [if_neg c6] at H
    have c6b0 : decide (0 < x4_1) = false := decide_eq_false c6
    clear c6
    replace H := Option.bind_eq_some_iff.mp H
    obtain ⟨⟨t665, t666, t667⟩, A110, H⟩ := H
    replace H : (if t665 = true then (spec_l1Cur_labels24.l1 k1 x3_1 s0_0 t666 t667) else (some (x3_1, t666, t667))) = some (r1, r2, r3) := H
    have A11 := Aside0.mk A110
    clear A110
    by_cases c12 : t665 = true
    ·
     subst c12
     have H1 : (spec_l1Cur_labels24.l1 k1 x3_1 s0_0 t666 t667) = some (r1, r2, r3) := by rw [if_pos rfl] at H; exact H
     clear H
     have H := H1
     clear H1
     have H' := Aside0.mk H
     clear H
     go_wp2_with (first | ((with_reducible refine gate_callee (f := 87) rfl ?_); refine ga_ (some 18) Tryd.func87 #[.pointer (some ⟨g, 0, none⟩), .int .i64 24] ?_; (with_reducible refine (spec_l1Cur_one.calls g s0_0 x1001_1 x1002_1 24 true t666 t667 w0 _ ?side1 ?side2 A11.out).mono ?_); (case side1 => exact is99_0 HI0.out); (case side2 => exact lb1_ HB.out (IsS99.ge HI0.out)); rintro e w13 ⟨rfl, hi, hb, hk⟩; refine ⟨_, rfl, ?_⟩; replace HO_3 := Aside0.mk (Kd.R_mono (Kd.R_keep (IsS99.apart (show IsS99 w0 _ g s0_0 x1001_1 x1002_1 from is99_0 HI0.out) (kr_ HO_3.out) (by decide)) hk (fun _ h => h.2)) (fun _ h => h.1)); replace HK := Aside0.mk (KeepBut.trans (kb0_ HK.out) hk (.inl rfl)); replace HB := Aside0.mk (hb); replace HI0 := Aside0.mk (hi); (try clear hb); (try clear hb2); (try clear hk); (try clear hi)))
     (try simp only [Act.put, List.setIfInBounds_toArray, List.set_cons_zero, List.set_cons_succ])
     go_loopg [3] k1 (fun kq v3 w' => ∃ (x3_2 : List (S29)) (x1001_2 : Int) (x1002_2 : Int), Aside0 (spec_l1Cur_labels24.l1 kq x3_2 s0_0 x1001_2 x1002_2 = some (r1, r2, r3)) ∧ Aside0 (kq ≤ k1) ∧ Aside0 (Kd.R k29 29 w' w.heap.size (fun _ => True) v3 x3_2) ∧ Aside0 (IsS99 w0 w' g s0_0 x1001_2 x1002_2) ∧ Aside0 (KeepBut w w' g none) ∧ Aside0 (Below w0.heap.size w0 w'))
     case atStart => exact ⟨(x3_1), (t666), (t667), H', ⟨Nat.le_refl _⟩, ⟨kr_ HO_3.out⟩, ⟨is99_0 HI0.out⟩, ⟨kb0_ HK.out⟩, ⟨lb1_ HB.out (IsS99.ge HI0.out)⟩⟩
     case round =>
      clear H'
      try clear c1
      try clear p2
      try clear c6
      try clear c6b0
      try clear p6
      try clear c8
      try clear c12
      try clear p2
      obtain ⟨x3_2, x1001_2, x1002_2, HA, HK2, HO_3, HI0, HK, HB⟩ := hrel
      cases gk with
      | zero => exact absurd HA.out (by simp [spec_l1Cur_labels24.l1])
      | succ k2 =>
       have H := HA.out
       clear HA
       simp only [spec_l1Cur_labels24.l1] at H
       replace H := Option.bind_eq_some_iff.mp H
       obtain ⟨⟨t668, t669, t670⟩, A140, H⟩ := H
       replace H : (if (x3_2.length : Int) < (wrap64 (6 + t668)) then (if x3_2.length < 4398046511104 then (spec_l1Cur_labels24.l1 k2 (x3_2 ++ [(⟨(⟨#[98]⟩ : ByteArray), wrap64 (10 * (x3_2.length : Int)), 50⟩ : S29)]) s0_0 t669 t670) else (none)) else (some (x3_2, t669, t670))) = some (r1, r2, r3) := H
       have A14 := Aside0.mk A140
       clear A140
       by_cases c15 : (x3_2.length : Int) < (wrap64 (6 + t668))
       ·
        rw [if_pos c15] at H
        have c15b0 : decide ((x3_2.length : Int) < (wrap64 (6 + t668))) = true := decide_eq_true c15; clear c15
        by_cases c16 : x3_2.length < 4398046511104
        ·
         rw [if_pos c16] at H
         have LMc16 := Aside0.mk c16; clear c16
         obtain ⟨y671, hy671⟩ : ∃ y_ : List (S29), y_ = (x3_2 ++ [(⟨(⟨#[98]⟩ : ByteArray), wrap64 (10 * (x3_2.length : Int)), 50⟩ : S29)]) := ⟨_, rfl⟩
         replace H : (spec_l1Cur_labels24.l1 k2 y671 s0_0 t669 t670) = some (r1, r2, r3) := by first | (rw [hy671]; with_reducible exact H) | (have H2_ := (Option.bind_some _ _).symm.trans H; rw [hy671]; with_reducible exact H2_) | (have H2_ := (Option.bind_some _ _).symm.trans H; with_reducible exact H2_) | with_reducible exact H | (rw [hy671]; exact H) | exact H
         have Ny671 := Aside0.mk hy671; clear hy671; have H' := Aside0.mk H; clear H; obtain ⟨Ao17, co17, eo17⟩ := Kd.R_slice HO_3.out; subst eo17
         go_wp2_with (first | ((with_reducible refine gate_callee (f := 86) rfl ?_); refine ga_ (some 22) Tryd.func86 #[.pointer (some ⟨g, 0, none⟩), .int .i64 2] ?_; (with_reducible refine (spec_l1Cur_pick.calls g s0_0 x1001_2 x1002_2 2 t668 t669 t670 w0 _ ?side1 ?side2 A14.out).mono ?_); (case side1 => exact is99_0 HI0.out); (case side2 => exact lb1_ HB.out (IsS99.ge HI0.out)); rintro e w18 ⟨rfl, hi, hb, hk⟩; refine ⟨_, rfl, ?_⟩; replace HO_3 := Aside0.mk (Kd.R_mono (Kd.R_keep (IsS99.apart (show IsS99 w0 _ g s0_0 x1001_2 x1002_2 from is99_0 HI0.out) (kr_ HO_3.out) (by decide)) hk (fun _ h => h.2)) (fun _ h => h.1)); replace HK := Aside0.mk (KeepBut.trans (kb0_ HK.out) hk (.inl rfl)); replace HB := Aside0.mk (hb); replace HI0 := Aside0.mk (hi); (try clear hb); (try clear hb2); (try clear hk); (try clear hi)) | ((with_reducible refine gate_builtin (b := .append) (xs := #[.tmp 25, .tmp 30]) rfl ?_); at_builtin; refine Kd.R_append k29 w.heap.size rfl (.tmp 25) (.tmp 30) 36 29 (.agg #[(.string ⟨#[]⟩), (.int .i64 0), (.int .i64 0)]) 32 rfl Tryd.underlying36 info29 rfl (by decide) (by omega) (.slice Ao17 x3_2.length co17) x3_2 (⟨(⟨#[98]⟩ : ByteArray), wrap64 (10 * (x3_2.length : Int)), 50⟩ : S29) [.string (⟨#[98]⟩ : ByteArray), .int .i64 (wrap64 (10 * (x3_2.length : Int))), .int .i64 50] (fun _ => True) (fun _ => False) rfl rfl ?aP (fun _ hk => hk.elim) ?aF ?aO (Below.refl _ _) ?aS ?aL ?_; (case aP => exact k29_mkM _ _ _ (⟨(⟨#[98]⟩ : ByteArray), wrap64 (10 * (x3_2.length : Int)), 50⟩ : S29)); (case aF => exact (fun _ _ => trivial)); (case aO => exact (kr_ HO_3.out)); (case aS => exact (keep_size (w := w) (g := g) (row := none) (kb0_ HK.out))); (case aL => have := LMc16.out; omega); intro v672 w19 ho hb hg hat; rw [← Ny671.out] at ho; replace HB := Aside0.mk (below_weaken (lb1_ HB.out (IsS99.ge HI0.out)) HL.out hb); replace HI0 := Aside0.mk (IsS99.grown (is99_0 HI0.out) hg (IsS99.own_ne HI0.out HO_3.out (by decide))); replace HK := Aside0.mk (KeepBut.trans (kb0_ HK.out) (KeepBut.of_grown hg g) (Kd.R_base2 HO_3.out)); have HO673 := Aside0.mk (ho); clear HO_3; clear ho hb hg hat))
         go_roundg k2
         case measure => have := HK1.out; have := HK2.out; omega
         case rel => exact ⟨(y671), (t669), (t670), H', ⟨by have := HK1.out; have := HK2.out; omega⟩, ⟨kr_ HO673.out⟩, ⟨is99_0 HI0.out⟩, ⟨kb0_ HK.out⟩, ⟨lb1_ HB.out (IsS99.ge HI0.out)⟩⟩
        ·
         rw [if_neg c16] at H
         exact absurd H (by simp)
       ·
        rw [if_neg c15] at H
        have c15b0 : decide ((x3_2.length : Int) < (wrap64 (6 + t668))) = false := decide_eq_false c15; clear c15; simp only [Option.some.injEq, Prod.mk.injEq] at H; obtain ⟨rfl, rfl, rfl⟩ := H; obtain ⟨Ao20, co20, eo20⟩ := Kd.R_slice HO_3.out; subst eo20
        go_wp2_with (first | ((with_reducible refine gate_callee (f := 86) rfl ?_); refine ga_ (some 22) Tryd.func86 #[.pointer (some ⟨g, 0, none⟩), .int .i64 2] ?_; (with_reducible refine (spec_l1Cur_pick.calls g s0_0 x1001_2 x1002_2 2 t668 t669 t670 w0 _ ?side1 ?side2 A14.out).mono ?_); (case side1 => exact is99_0 HI0.out); (case side2 => exact lb1_ HB.out (IsS99.ge HI0.out)); rintro e w21 ⟨rfl, hi, hb, hk⟩; refine ⟨_, rfl, ?_⟩; replace HO_3 := Aside0.mk (Kd.R_mono (Kd.R_keep (IsS99.apart (show IsS99 w0 _ g s0_0 x1001_2 x1002_2 from is99_0 HI0.out) (kr_ HO_3.out) (by decide)) hk (fun _ h => h.2)) (fun _ h => h.1)); replace HK := Aside0.mk (KeepBut.trans (kb0_ HK.out) hk (.inl rfl)); replace HB := Aside0.mk (hb); replace HI0 := Aside0.mk (hi); (try clear hb); (try clear hb2); (try clear hk); (try clear hi)))
        go_ret
        exact ⟨_, rr_, kr_ HO_3.out, is99_0 HI0.out, lb1_ HB.out (IsS99.ge HI0.out), kb0_ HK.out⟩
    ·
     replace c12 := Bool.eq_false_iff.mpr c12
     subst c12
     have H1 : (some (x3_1, t666, t667)) = some (r1, r2, r3) := by rw [if_neg (show ¬ (false = true) by decide)] at H; exact H
     clear H
     have H := H1
     clear H1
     simp only [Option.some.injEq, Prod.mk.injEq] at H
     obtain ⟨rfl, rfl, rfl⟩ := H
     go_wp2_with (first | ((with_reducible refine gate_callee (f := 87) rfl ?_); refine ga_ (some 18) Tryd.func87 #[.pointer (some ⟨g, 0, none⟩), .int .i64 24] ?_; (with_reducible refine (spec_l1Cur_one.calls g s0_0 x1001_1 x1002_1 24 false t666 t667 w0 _ ?side1 ?side2 A11.out).mono ?_); (case side1 => exact is99_0 HI0.out); (case side2 => exact lb1_ HB.out (IsS99.ge HI0.out)); rintro e w22 ⟨rfl, hi, hb, hk⟩; refine ⟨_, rfl, ?_⟩; replace HO_3 := Aside0.mk (Kd.R_mono (Kd.R_keep (IsS99.apart (show IsS99 w0 _ g s0_0 x1001_1 x1002_1 from is99_0 HI0.out) (kr_ HO_3.out) (by decide)) hk (fun _ h => h.2)) (fun _ h => h.1)); replace HK := Aside0.mk (KeepBut.trans (kb0_ HK.out) hk (.inl rfl)); replace HB := Aside0.mk (hb); replace HI0 := Aside0.mk (hi); (try clear hb); (try clear hb2); (try clear hk); (try clear hi)))
     go_ret
     exact ⟨_, rr_, kr_ HO_3.out, is99_0 HI0.out, lb1_ HB.out (IsS99.ge HI0.out), kb0_ HK.out⟩
mutual
def spec_DrawIsPlacing.l0 : Nat → List (S29) → List Int → Int → List Int → Int → Int → Option ((List (S29)) × List Int)
 | 0, _, _, _, _, _, _ => none
 | k + 1, x5, x6, x7, x678000, x678001, x678002 => if x7 < (x5.length : Int) then ((spec_l1Cur_pick.f x678000 x678001 x678002 4).bind fun bt686 => (if x6.length < 17592186044416 then (spec_DrawIsPlacing.l0 k x5 (x6 ++ [bt686.1]) (wrap64 (x7 + 1)) x678000 bt686.2.1 bt686.2.2) else (none))) else ((spec_FirstPlacing.f k x5).bind fun bt692 => (if bt692.2 = true then ((spec_l1Cur_one.f x678000 x678001 x678002 3).bind fun bt696 => (spec_DrawIsPlacing.j1 k x5 x6 bt692.1 bt696.1 x678000 bt696.2.1 bt696.2.2)) else (spec_DrawIsPlacing.j1 k x5 x6 bt692.1 false x678000 x678001 x678002)))
def spec_DrawIsPlacing.j1 : Nat → List (S29) → List Int → List Int → Bool → List Int → Int → Int → Option ((List (S29)) × List Int)
 | 0, _, _, _, _, _, _, _ => none
 | k + 1, x5, x6, x8, x36, x678000, x678001, x678002 => if x36 = true then (spec_DrawIsPlacing.j2 k x5 x8 x678000 x678001 x678002) else (spec_DrawIsPlacing.j2 k x5 x6 x678000 x678001 x678002)
def spec_DrawIsPlacing.j2 : Nat → List (S29) → List Int → List Int → Int → Int → Option ((List (S29)) × List Int)
 | 0, _, _, _, _, _ => none
 | k + 1, x5, x6, x678000, x678001, x678002 => (spec_l1Cur_pick.f x678000 x678001 x678002 24).bind fun bt699 => (if bt699.1 = 0 then (if x6.length < 17592186044416 then (some (x5, (x6 ++ [0]))) else (none)) else (if bt699.1 = 1 then (if (x6.length : Int) > 0 then ((spec_l1Cur_among.f x678000 bt699.2.1 bt699.2.2 (([(-1), 4] : List Int))).bind fun bt708 => (if 0 < (x6.length : Int) then (some (x5, (x6.set (0 : Int).toNat bt708.1))) else (none))) else (some (x5, x6))) else (some (x5, x6))))
end
def spec_DrawIsPlacing.f (k : Nat) (l0 : List Int) : Option ((List (S29)) × List Int) := (spec_newCur.f l0).bind fun bt674 => ((spec_l1Cur_labels24.f k bt674.1 bt674.2.1 bt674.2.2).bind fun bt678 => (spec_DrawIsPlacing.l0 k bt678.1 (([] : List Int)) 0 bt674.1 bt678.2.1 bt678.2.2))
set_option maxHeartbeats 8000000 in
set_option maxRecDepth 100000 in
theorem spec_DrawIsPlacing.calls (k : Nat) (A0 : Option Addr) (c0 : Nat) (l0 : List Int) (r1 : List (S29)) (r2 : List Int) (w : World) (hr0 : Kd.C (Kd.int .u8) w A0 l0.length l0) (hc0 : l0.length ≤ c0) (h : spec_DrawIsPlacing.f k l0 = some (r1, r2)) :
  Calls Tryd.prog 44 #[.slice A0 l0.length c0] w fun e w' => ∃ v0_ v1_ : Value, e = .returned (.tuple #[v0_, v1_]) ∧ Kd.R k29 29 w' w.heap.size (fun _ => True) v0_ r1 ∧ Kd.R (Kd.int .i64) 3 w' w.heap.size (fun _ => True) v1_ r2 ∧ Below w.heap.size w w' := by
 have hu99 := Tryd.underlying99
 have HR0 := Aside0.mk hr0
 have HC0 := Aside0.mk hc0
 clear hr0 hc0
 have HB := Aside0.mk (Below.refl w.heap.size w)
 have H : ((spec_newCur.f l0).bind fun bt674 => ((spec_l1Cur_labels24.f k bt674.1 bt674.2.1 bt674.2.2).bind fun bt678 => (spec_DrawIsPlacing.l0 k bt678.1 (([] : List Int)) 0 bt674.1 bt678.2.1 bt678.2.2))) = some (r1, r2) := h
 clear h
 replace H := Option.bind_eq_some_iff.mp H
 obtain ⟨⟨t674, t675, t676⟩, A20, H⟩ := H
 replace H : ((spec_l1Cur_labels24.f k t674 t675 t676).bind fun bt678 => (spec_DrawIsPlacing.l0 k bt678.1 (([] : List Int)) 0 t674 bt678.2.1 bt678.2.2)) = some (r1, r2) := H
 have A2 := Aside0.mk A20
 clear A20
 replace H := Option.bind_eq_some_iff.mp H
 obtain ⟨⟨t678, t681, t682⟩, A30, H⟩ := H
 replace H : (spec_DrawIsPlacing.l0 k t678 (([] : List Int)) 0 t674 t681 t682) = some (r1, r2) := H
 have A3 := Aside0.mk A30
 clear A30
 obtain ⟨y683, hy683⟩ : ∃ y_ : List Int, y_ = (([] : List Int)) := ⟨_, rfl⟩
 replace H : (spec_DrawIsPlacing.l0 k t678 y683 0 t674 t681 t682) = some (r1, r2) := by first | (rw [hy683]; with_reducible exact H) | (have H2_ := (Option.bind_some _ _).symm.trans H; rw [hy683]; with_reducible exact H2_) | (have H2_ := (Option.bind_some _ _).symm.trans H; with_reducible exact H2_) | with_reducible exact H | (rw [hy683]; exact H) | exact H
 have Ny683 := Aside0.mk hy683
 clear hy683
 have H' := Aside0.mk H
 clear H
 go_enter Tryd.func44, Tryd.ntmps44
 go_wp2_with (first | ((with_reducible refine gate_dst (N := 12) rfl ?_); refine box_event ?hg (N := 12) ?hd (cs := #[.slice A0 l0.length c0, .int .i64 0, .int .u64 0]) (t := 99) ?hr ?_; (case hd => rfl); (case hg => rfl); (case hr => first | (go_simp; done) | (go_simp; rfl)); intro g677 hg w4 hbx hb2; have hb := below_step (lb0_ HB.out) hb2; have hi : IsS99 w w4 g677 t674 t675 t676 := (by have hz_ := A2.out; simp only [spec_newCur.f, Option.some.injEq, Prod.mk.injEq] at hz_; rw [← hz_.1, ← hz_.2.1, ← hz_.2.2]; exact ⟨_, _, hbx, (bz_ hg (lb0_ HB.out)), HR0.out⟩); clear hg hbx; replace HB := Aside0.mk (hb); have HI677 := Aside0.mk (hi); (try clear hb); (try clear hb2); (try clear hk); (try clear hi)) | ((with_reducible refine gate_callee (f := 85) rfl ?_); refine ga_ (some 14) Tryd.func85 #[.pointer (some ⟨g677, 0, none⟩)] ?_; (with_reducible refine (spec_l1Cur_labels24.calls k g677 t674 t675 t676 t678 t681 t682 w _ ?side1 ?side2 A3.out).mono ?_); (case side1 => exact is99_0 HI677.out); (case side2 => exact lb1_ HB.out (IsS99.ge HI677.out)); rintro e w5 ⟨v679, rfl, ho0, hi, hb, hk⟩; refine ⟨_, rfl, ?_⟩; have HO680 := Aside0.mk (Kd.R_lower ho0 (below_size (lb1_ HB.out (IsS99.ge HI677.out)))); replace HB := Aside0.mk (hb); replace HI677 := Aside0.mk (hi); (try clear hb); (try clear hb2); (try clear hk); (try clear hi); (try clear ho0)) | ((with_reducible refine gate_dst (N := 15) rfl ?_); refine Kd.R_lit (Kd.int .i64) _ 3 ?hg (N := 15) ?hd (xs := ([] : List Int)) (inner := []) (ok := fun _ => True) (okp := fun _ => True) ?hr ?hp (fun _ hk => hk) trivial (Below.refl _ _) (Nat.le_refl _) (by simp) ?_; (case hd => rfl); (case hg => rfl); (case hr => first | (go_simp; done) | (go_simp; rfl)); (case hp => exact (Reps.none _ _)); intro v684 w6 ho7 hb hg_ hnew_; clear hg_ hnew_; replace ho7 := ry_ Ny683.out ho7; replace HO680 := Aside0.mk (Kd.R_below (kr_ HO680.out) hb); have HO685 := Aside0.mk (Kd.R_lower ho7 (below_size (lb1_ HB.out (IsS99.ge HI677.out)))); replace HB := Aside0.mk (below_step (lb1_ HB.out (IsS99.ge HI677.out)) hb); replace HI677 := Aside0.mk (IsS99.below (is99_0 HI677.out) hb); clear hb ho7))
 go_loopg [6, 7] k (fun kq v6 v7 w' => ∃ (x6_1 : List Int) (x7_1 : Int) (x678001_1 : Int) (x678002_1 : Int), v7 = .int .i64 x7_1 ∧ Aside0 (spec_DrawIsPlacing.l0 kq t678 x6_1 x7_1 t674 x678001_1 x678002_1 = some (r1, r2)) ∧ Aside0 (kq ≤ k) ∧ Aside0 (Kd.R k29 29 w' w.heap.size (fun _ => True) v679 t678) ∧ Aside0 (Kd.R (Kd.int .i64) 3 w' w.heap.size (fun _ => True) v6 x6_1) ∧ Aside0 (IsS99 w w' g677 t674 x678001_1 x678002_1) ∧ Aside0 (Below w.heap.size w w'))
 case atStart => exact ⟨(y683), (0), (t681), (t682), (by first | rfl | (simp; done) | (simp [*]; done)), H', ⟨Nat.le_refl _⟩, ⟨kr_ HO680.out⟩, ⟨kr_ HO685.out⟩, ⟨is99_0 HI677.out⟩, ⟨lb1_ HB.out (IsS99.ge HI677.out)⟩⟩
 case round =>
  clear H'
  try clear p2
  try clear c4
  obtain ⟨x6_1, x7_1, x678001_1, x678002_1, rfl, HA, HK1, HO_5, HO_6, HI677, HB⟩ := hrel
  cases gk with
  | zero => exact absurd HA.out (by simp [spec_DrawIsPlacing.l0])
  | succ k1 =>
   have H := HA.out
   clear HA
   simp only [spec_DrawIsPlacing.l0] at H
   by_cases c8 : x7_1 < (t678.length : Int)
   ·
    rw [if_pos c8] at H
    have c8b0 : decide (x7_1 < (t678.length : Int)) = true := decide_eq_true c8
    clear c8
    replace H := Option.bind_eq_some_iff.mp H
    obtain ⟨⟨t686, t687, t688⟩, A90, H⟩ := H
    replace H : (if x6_1.length < 17592186044416 then (spec_DrawIsPlacing.l0 k1 t678 (x6_1 ++ [t686]) (wrap64 (x7_1 + 1)) t674 t687 t688) else (none)) = some (r1, r2) := H
    have A9 := Aside0.mk A90
    clear A90
    by_cases c10 : x6_1.length < 17592186044416
    ·
     rw [if_pos c10] at H
     have LMc10 := Aside0.mk c10
     clear c10
     obtain ⟨y689, hy689⟩ : ∃ y_ : List Int, y_ = (x6_1 ++ [t686]) := ⟨_, rfl⟩
     replace H : (spec_DrawIsPlacing.l0 k1 t678 y689 (wrap64 (x7_1 + 1)) t674 t687 t688) = some (r1, r2) := by first | (rw [hy689]; with_reducible exact H) | (have H2_ := (Option.bind_some _ _).symm.trans H; rw [hy689]; with_reducible exact H2_) | (have H2_ := (Option.bind_some _ _).symm.trans H; with_reducible exact H2_) | with_reducible exact H | (rw [hy689]; exact H) | exact H
     have Ny689 := Aside0.mk hy689
     clear hy689
     have H' := Aside0.mk H
     clear H
     obtain ⟨Ao11, co11, eo11⟩ := Kd.R_slice HO_5.out
     subst eo11
     go_wp2_with (first | ((with_reducible refine gate_callee (f := 86) rfl ?_); refine ga_ (some 24) Tryd.func86 #[.pointer (some ⟨g677, 0, none⟩), .int .i64 4] ?_; (with_reducible refine (spec_l1Cur_pick.calls g677 t674 x678001_1 x678002_1 4 t686 t687 t688 w _ ?side1 ?side2 A9.out).mono ?_); (case side1 => exact is99_0 HI677.out); (case side2 => exact lb1_ HB.out (IsS99.ge HI677.out)); rintro e w12 ⟨rfl, hi, hb, hk⟩; refine ⟨_, rfl, ?_⟩; replace HO_5 := Aside0.mk (Kd.R_mono (Kd.R_keep (IsS99.apart (show IsS99 w _ g677 t674 x678001_1 x678002_1 from is99_0 HI677.out) (kr_ HO_5.out) (by decide)) hk (fun _ h => h.2)) (fun _ h => h.1)); replace HO_6 := Aside0.mk (Kd.R_mono (Kd.R_keep (IsS99.apart (show IsS99 w _ g677 t674 x678001_1 x678002_1 from is99_0 HI677.out) (kr_ HO_6.out) (by decide)) hk (fun _ h => h.2)) (fun _ h => h.1)); replace HB := Aside0.mk (hb); replace HI677 := Aside0.mk (hi); (try clear hb); (try clear hb2); (try clear hk); (try clear hi)) | ((with_reducible refine gate_builtin (b := .append) (xs := #[.tmp 22, .tmp 25]) rfl ?_); at_builtin; refine Kd.R_append (Kd.int .i64) (w0 := w) w.heap.size rfl (.tmp 22) (.tmp 25) 40 3 (.int .i64 0) 8 rfl Tryd.underlying40 info3 rfl (by decide) (by omega) u6 x6_1 t686 [.int .i64 t686] (fun _ => True) (fun _ => False) rfl rfl ?aP (fun _ hk => hk.elim) ?aF ?aO ?aB ?aS ?aL ?_; (case aP => exact rfl); (case aB => exact (lb1_ HB.out (IsS99.ge HI677.out))); (case aF => exact (fun _ _ => trivial)); (case aO => exact (kr_ HO_6.out)); (case aS => exact (below_size (lb1_ HB.out (IsS99.ge HI677.out)))); (case aL => have := LMc10.out; omega); intro v690 w13 ho hb hg hat; rw [← Ny689.out] at ho; replace HO_5 := Aside0.mk (Kd.R_over' (kr_ HO_5.out) (Kd.R_typed (kr_ HO_6.out)) (by decide) hg); replace HI677 := Aside0.mk (IsS99.grown (is99_0 HI677.out) hg (IsS99.own_ne HI677.out HO_6.out (by decide))); replace HB := Aside0.mk (hb); have HO691 := Aside0.mk (ho); clear HO_6; clear ho hb hg hat))
     go_roundg k1
     case measure => have := HK1.out; omega
     case rel => exact ⟨(y689), (wrap64 (x7_1 + 1)), (t687), (t688), (by first | rfl | (simp; done) | (simp [*]; done)), H', ⟨by have := HK1.out; omega⟩, ⟨by (with_reducible repeat (first | apply Kd.R_alloc | apply Kd.R_drewN | apply Kd.R_drew)); first | exact HO_5.out | (rw [Ny689.out]; exact (Kd.R_putg (Kd.R_drewN HO_5.out _) _ _).1) | (rw [Ny689.out]; exact (Kd.R_putg HO_5.out _ _).1)⟩, ⟨kr_ HO691.out⟩, ⟨is99_0 HI677.out⟩, ⟨by repeat (first | (with_reducible first | exact HB.out | apply below_alloc | apply pw_below_drewN | apply below_drew1 | refine below_set ?_ (IsS99.ge HI677.out)) | exact HB.out | (first | exact below_set (pw_below_drewN HB.out _) GB32.out | exact below_set HB.out GB32.out))⟩⟩
    ·
     rw [if_neg c10] at H
     exact absurd H (by simp)
   ·
    rw [if_neg c8] at H
    have c8b0 : decide (x7_1 < (t678.length : Int)) = false := decide_eq_false c8
    clear c8
    replace H := Option.bind_eq_some_iff.mp H
    obtain ⟨⟨t692, t693⟩, A140, H⟩ := H
    replace H : (if t693 = true then ((spec_l1Cur_one.f t674 x678001_1 x678002_1 3).bind fun bt696 => (spec_DrawIsPlacing.j1 k1 t678 x6_1 t692 bt696.1 t674 bt696.2.1 bt696.2.2)) else (spec_DrawIsPlacing.j1 k1 t678 x6_1 t692 false t674 x678001_1 x678002_1)) = some (r1, r2) := H
    have A14 := Aside0.mk A140
    clear A140
    have HC15 := Aside0.mk H
    clear H
    obtain ⟨Ao16, co16, eo16⟩ := Kd.R_slice HO_5.out
    subst eo16
    go_upto_region 9 with (first | ((with_reducible refine gate_callee (f := 39) rfl ?_); refine ga_ (some 29) Tryd.func39 #[.slice Ao16 t678.length co16] ?_; (with_reducible refine (spec_FirstPlacing.calls k1 _ _ t678 t692 t693 _ ?side1 ?side2 A14.out).mono ?_); (case side1 => exact kc_ (Kd.R_reads' HO_5.out).2.2); (case side2 => exact (Kd.R_reads' HO_5.out).2.1); rintro e w17 ⟨v694, rfl, ho0, hb⟩; refine ⟨_, rfl, ?_⟩; replace HO_5 := Aside0.mk (Kd.R_below (kr_ HO_5.out) hb); have HO695 := Aside0.mk (Kd.R_lower (Kd.R_new' ho0 (Kd.R_lt (kr_ HO_6.out))) (below_size (lb1_ HB.out (IsS99.ge HI677.out)))); replace HO_6 := Aside0.mk (Kd.R_elder' (kr_ HO_6.out) (Kd.R_base ho0) hb); replace HB := Aside0.mk (below_step (lb1_ HB.out (IsS99.ge HI677.out)) hb); replace HI677 := Aside0.mk (IsS99.below (is99_0 HI677.out) hb); (try clear hb); (try clear hb2); (try clear hk); (try clear hi); (try clear ho0)))
    (try simp only [Act.put, List.setIfInBounds_toArray, List.set_cons_zero, List.set_cons_succ])
    go_cut [36] (fun v36 wc => ∃ (kq : Nat) (x36_14 : Bool) (x678001_14 : Int) (x678002_14 : Int), v36 = .bool x36_14 ∧ Aside0 (spec_DrawIsPlacing.j1 kq t678 x6_1 t692 x36_14 t674 x678001_14 x678002_14 = some (r1, r2)) ∧ Aside0 (kq ≤ k1) ∧ Aside0 (Kd.R k29 29 wc w.heap.size (fun _ => True) (.slice Ao16 t678.length co16) t678) ∧ Aside0 (Kd.R (Kd.int .i64) 3 wc w.heap.size (fun k_ => some k_ ≠ (v694 : Value).ownBlock) u6 x6_1) ∧ Aside0 (Kd.R (Kd.int .i64) 3 wc w.heap.size (fun k_ => some k_ ≠ (u6 : Value).ownBlock) v694 t692) ∧ Aside0 (IsS99 w wc g677 t674 x678001_14 x678002_14) ∧ Aside0 (Below w.heap.size w wc))
    case first =>
     have H := HC15.out
     clear HC15
     by_cases c18 : t693 = true
     ·
      subst c18
      have H1 : ((spec_l1Cur_one.f t674 x678001_1 x678002_1 3).bind fun bt696 => (spec_DrawIsPlacing.j1 k1 t678 x6_1 t692 bt696.1 t674 bt696.2.1 bt696.2.2)) = some (r1, r2) := by rw [if_pos rfl] at H; exact H
      clear H
      have H := H1
      clear H1
      replace H := Option.bind_eq_some_iff.mp H
      obtain ⟨⟨t696, t697, t698⟩, A190, H⟩ := H
      replace H : (spec_DrawIsPlacing.j1 k1 t678 x6_1 t692 t696 t674 t697 t698) = some (r1, r2) := H
      have A19 := Aside0.mk A190
      clear A190
      have H' := Aside0.mk H
      clear H
      go_wp2_with (first | (go_at_call 87; (with_reducible refine (spec_l1Cur_one.calls g677 t674 x678001_1 x678002_1 3 t696 t697 t698 w _ ?side1 ?side2 A19.out).mono ?_); (case side1 => exact is99_0 HI677.out); (case side2 => exact lb1_ HB.out (IsS99.ge HI677.out)); rintro e w20 ⟨rfl, hi, hb, hk⟩; replace HO_5 := Aside0.mk (Kd.R_mono (Kd.R_keep (IsS99.apart (show IsS99 w _ g677 t674 x678001_1 x678002_1 from is99_0 HI677.out) (kr_ HO_5.out) (by decide)) hk (fun _ h => h.2)) (fun _ h => h.1)); replace HO_6 := Aside0.mk (Kd.R_mono (Kd.R_keep (IsS99.apart (show IsS99 w _ g677 t674 x678001_1 x678002_1 from is99_0 HI677.out) (kr_ HO_6.out) (by decide)) hk (fun _ h => h.2)) (fun _ h => h.1)); replace HO695 := Aside0.mk (Kd.R_mono (Kd.R_keep (IsS99.apart (show IsS99 w _ g677 t674 x678001_1 x678002_1 from is99_0 HI677.out) (kr_ HO695.out) (by decide)) hk (fun _ h => h.2)) (fun _ h => h.1)); replace HB := Aside0.mk (hb); replace HI677 := Aside0.mk (hi); (try clear hb); (try clear hb2); (try clear hk); (try clear hi)))
      go_meet
      case rel => exact ⟨_, (t696), (t697), (t698), (by first | rfl | (simp; done) | (simp [*]; done)), H', ⟨by have := HK1.out; first | omega | exact Nat.le_refl _⟩, ⟨kr_ HO_5.out⟩, ⟨krm_ HO_6.out (fun _ hk => hk.2)⟩, ⟨krm_ HO695.out (fun _ hk => hk.2)⟩, ⟨is99_0 HI677.out⟩, ⟨lb1_ HB.out (IsS99.ge HI677.out)⟩⟩
     ·
      replace c18 := Bool.eq_false_iff.mpr c18
      subst c18
      have H1 : (spec_DrawIsPlacing.j1 k1 t678 x6_1 t692 false t674 x678001_1 x678002_1) = some (r1, r2) := by rw [if_neg (show ¬ (false = true) by decide)] at H; exact H
      clear H
      have H := H1
      clear H1
      have H' := Aside0.mk H
      clear H
      go_wp2
      go_meet
      case rel => exact ⟨_, (false), (x678001_1), (x678002_1), (by first | rfl | (simp; done) | (simp [*]; done)), H', ⟨by have := HK1.out; first | omega | exact Nat.le_refl _⟩, ⟨kr_ HO_5.out⟩, ⟨krm_ HO_6.out (fun _ hk => hk.2)⟩, ⟨krm_ HO695.out (fun _ hk => hk.2)⟩, ⟨is99_0 HI677.out⟩, ⟨lb1_ HB.out (IsS99.ge HI677.out)⟩⟩
    case rest =>
     clear HC15
     try clear c1
     try clear p2
     try clear c3
     try clear c4
     try clear p6
     try clear c8
     try clear c8b0
     try clear c10
     try clear c18
     try clear p2
     obtain ⟨kq, x36_14, x678001_14, x678002_14, rfl, HA, HJ14, HO_5, HO_6, HO_8, HI677, HB⟩ := hcut
     cases kq with
     | zero => exact absurd HA.out (by simp [spec_DrawIsPlacing.j1])
     | succ kj14 =>
      have H := HA.out
      clear HA
      simp only [spec_DrawIsPlacing.j1] at H
      have HC21 := Aside0.mk H
      clear H
      go_upto_if 36 with (fail)
      go_cut [6] (fun v6 wc => ∃ (kq : Nat) (x6_20 : List Int), Aside0 (spec_DrawIsPlacing.j2 kq t678 x6_20 t674 x678001_14 x678002_14 = some (r1, r2)) ∧ Aside0 (kq ≤ kj14) ∧ Aside0 (Kd.R k29 29 wc w.heap.size (fun _ => True) (.slice Ao16 t678.length co16) t678) ∧ Aside0 (Kd.R (Kd.int .i64) 3 wc w.heap.size (fun _ => True) v6 x6_20) ∧ Aside0 (IsS99 w wc g677 t674 x678001_14 x678002_14) ∧ Aside0 (Below w.heap.size w wc))
      case first =>
       have H := HC21.out
       clear HC21
       by_cases c22 : x36_14 = true
       ·
        subst c22
        have H1 : (spec_DrawIsPlacing.j2 kj14 t678 t692 t674 x678001_14 x678002_14) = some (r1, r2) := by rw [if_pos rfl] at H; exact H
        clear H; have H := H1; clear H1; have H' := Aside0.mk H; clear H
        go_wp2
        go_meet
        case rel => exact ⟨_, (t692), H', ⟨by have := HK1.out; have := HJ14.out; first | omega | exact Nat.le_refl _⟩, ⟨kr_ HO_5.out⟩, ⟨krm_ HO_8.out (fun _ hk => trivial)⟩, ⟨is99_0 HI677.out⟩, ⟨lb1_ HB.out (IsS99.ge HI677.out)⟩⟩
       ·
        replace c22 := Bool.eq_false_iff.mpr c22; subst c22
        have H1 : (spec_DrawIsPlacing.j2 kj14 t678 x6_1 t674 x678001_14 x678002_14) = some (r1, r2) := by rw [if_neg (show ¬ (false = true) by decide)] at H; exact H
        clear H; have H := H1; clear H1; have H' := Aside0.mk H; clear H
        go_wp2
        go_meet
        case rel => exact ⟨_, (x6_1), H', ⟨by have := HK1.out; have := HJ14.out; first | omega | exact Nat.le_refl _⟩, ⟨kr_ HO_5.out⟩, ⟨krm_ HO_6.out (fun _ hk => trivial)⟩, ⟨is99_0 HI677.out⟩, ⟨lb1_ HB.out (IsS99.ge HI677.out)⟩⟩
      case rest =>
       clear HC21
       try clear c1
       try clear c2
       try clear p2
       try clear c3
       try clear c4
       try clear p6
       try clear c8
       try clear c8b0
       try clear c10
       try clear c18
       try clear c22
       try clear p2
       try clear p6
       obtain ⟨kq, x6_20, HA, HJ20, HO_5, HO_6, HI677, HB⟩ := hcut
       cases kq with
       | zero => exact absurd HA.out (by simp [spec_DrawIsPlacing.j2])
       | succ kj20 =>
        have H := HA.out; clear HA; simp only [spec_DrawIsPlacing.j2] at H; replace H := Option.bind_eq_some_iff.mp H; obtain ⟨⟨t699, t700, t701⟩, A230, H⟩ := H; replace H : (if t699 = 0 then (if x6_20.length < 17592186044416 then (some (t678, (x6_20 ++ [0]))) else (none)) else (if t699 = 1 then (if (x6_20.length : Int) > 0 then ((spec_l1Cur_among.f t674 t700 t701 (([(-1), 4] : List Int))).bind fun bt708 => (if 0 < (x6_20.length : Int) then (some (t678, (x6_20.set (0 : Int).toNat bt708.1))) else (none))) else (some (t678, x6_20))) else (some (t678, x6_20)))) = some (r1, r2) := H; have A23 := Aside0.mk A230; clear A230
        by_cases c24 : t699 = 0
        ·
         rw [if_pos c24] at H
         have c24b0 : (t699 == 0) = true := beq_iff_eq.mpr c24; have c24b1 : (t699 != 0) = false := bne_eq_false_iff_eq.mpr c24; clear c24
         by_cases c25 : x6_20.length < 17592186044416
         ·
          rw [if_pos c25] at H
          have LMc25 := Aside0.mk c25; clear c25
          obtain ⟨y702, hy702⟩ : ∃ y_ : List Int, y_ = (x6_20 ++ [0]) := ⟨_, rfl⟩
          replace H : (some (t678, y702)) = some (r1, r2) := by first | (rw [hy702]; with_reducible exact H) | (have H2_ := (Option.bind_some _ _).symm.trans H; rw [hy702]; with_reducible exact H2_) | (have H2_ := (Option.bind_some _ _).symm.trans H; with_reducible exact H2_) | with_reducible exact H | (rw [hy702]; exact H) | exact H
          have Ny702 := Aside0.mk hy702; clear hy702; simp only [Option.some.injEq, Prod.mk.injEq] at H; obtain ⟨rfl, rfl⟩ := H
          go_wp2_with (first | ((with_reducible refine gate_callee (f := 86) rfl ?_); refine ga_ (some 39) Tryd.func86 #[.pointer (some ⟨g677, 0, none⟩), .int .i64 24] ?_; (with_reducible refine (spec_l1Cur_pick.calls g677 t674 x678001_14 x678002_14 24 t699 t700 t701 w _ ?side1 ?side2 A23.out).mono ?_); (case side1 => exact is99_0 HI677.out); (case side2 => exact lb1_ HB.out (IsS99.ge HI677.out)); rintro e w26 ⟨rfl, hi, hb, hk⟩; refine ⟨_, rfl, ?_⟩; replace HO_5 := Aside0.mk (Kd.R_mono (Kd.R_keep (IsS99.apart (show IsS99 w _ g677 t674 x678001_14 x678002_14 from is99_0 HI677.out) (kr_ HO_5.out) (by decide)) hk (fun _ h => h.2)) (fun _ h => h.1)); replace HO_6 := Aside0.mk (Kd.R_mono (Kd.R_keep (IsS99.apart (show IsS99 w _ g677 t674 x678001_14 x678002_14 from is99_0 HI677.out) (kr_ HO_6.out) (by decide)) hk (fun _ h => h.2)) (fun _ h => h.1)); replace HB := Aside0.mk (hb); replace HI677 := Aside0.mk (hi); (try clear hb); (try clear hb2); (try clear hk); (try clear hi)) | ((with_reducible refine gate_builtin (b := .append) (xs := #[.tmp 42, .tmp 43]) rfl ?_); at_builtin; refine Kd.R_append (Kd.int .i64) (w0 := w) w.heap.size rfl (.tmp 42) (.tmp 43) 40 3 (.int .i64 0) 8 rfl Tryd.underlying40 info3 rfl (by decide) (by omega) u6 x6_20 0 [.int .i64 0] (fun _ => True) (fun _ => False) rfl rfl ?aP (fun _ hk => hk.elim) ?aF ?aO ?aB ?aS ?aL ?_; (case aP => exact rfl); (case aB => exact (lb1_ HB.out (IsS99.ge HI677.out))); (case aF => exact (fun _ _ => trivial)); (case aO => exact (kr_ HO_6.out)); (case aS => exact (below_size (lb1_ HB.out (IsS99.ge HI677.out)))); (case aL => have := LMc25.out; omega); intro v703 w27 ho hb hg hat; rw [← Ny702.out] at ho; replace HO_5 := Aside0.mk (Kd.R_over' (kr_ HO_5.out) (Kd.R_typed (kr_ HO_6.out)) (by decide) hg); replace HI677 := Aside0.mk (IsS99.grown (is99_0 HI677.out) hg (IsS99.own_ne HI677.out HO_6.out (by decide))); replace HB := Aside0.mk (hb); have HO704 := Aside0.mk (ho); clear HO_6; clear ho hb hg hat))
          go_ret2
          exact ⟨_, _, rr_, kr_ HO_5.out, kr_ HO704.out, lb1_ HB.out (IsS99.ge HI677.out)⟩
         ·
          rw [if_neg c25] at H
          exact absurd H (by simp)
        ·
         rw [if_neg c24] at H
         have c24b0 : (t699 == 0) = false := beq_eq_false_iff_ne.mpr c24; have c24b1 : (t699 != 0) = true := bne_iff_ne.mpr c24
         by_cases c28 : t699 = 1
         ·
          rw [if_pos c28] at H
          have c28b0 : (t699 == 1) = true := beq_iff_eq.mpr c28; have c28b1 : (t699 != 1) = false := bne_eq_false_iff_eq.mpr c28; clear c28
          by_cases c29 : (x6_20.length : Int) > 0
          ·
           rw [if_pos c29] at H
           have c29b0 : decide (0 < (x6_20.length : Int)) = true := decide_eq_true c29; have c29b1 : decide (0 < x6_20.length) = true := decide_eq_true (by omega); clear c29
           obtain ⟨y705, hy705⟩ : ∃ y_ : List Int, y_ = (([(-1), 4] : List Int)) := ⟨_, rfl⟩
           replace H : ((spec_l1Cur_among.f t674 t700 t701 y705).bind fun bt708 => (if 0 < (x6_20.length : Int) then (some (t678, (x6_20.set (0 : Int).toNat bt708.1))) else (none))) = some (r1, r2) := by first | (rw [hy705]; with_reducible exact H) | (have H2_ := (Option.bind_some _ _).symm.trans H; rw [hy705]; with_reducible exact H2_) | (have H2_ := (Option.bind_some _ _).symm.trans H; with_reducible exact H2_) | with_reducible exact H | (rw [hy705]; exact H) | exact H
           have Ny705 := Aside0.mk hy705; clear hy705; replace H := Option.bind_eq_some_iff.mp H; obtain ⟨⟨t708, t709, t710⟩, A300, H⟩ := H; replace H : (if 0 < (x6_20.length : Int) then (some (t678, (x6_20.set (0 : Int).toNat t708))) else (none)) = some (r1, r2) := H; have A30 := Aside0.mk A300; clear A300
           by_cases c31 : 0 < (x6_20.length : Int)
           ·
            rw [if_pos c31] at H
            have c31b0 : decide (0 < (x6_20.length : Int)) = true := decide_eq_true c31; have c31b1 : decide (0 < x6_20.length) = true := decide_eq_true (by omega); clear c31
            obtain ⟨y711, hy711⟩ : ∃ y_ : List Int, y_ = (x6_20.set (0 : Int).toNat t708) := ⟨_, rfl⟩
            replace H : (some (t678, y711)) = some (r1, r2) := by first | (rw [hy711]; with_reducible exact H) | (have H2_ := (Option.bind_some _ _).symm.trans H; rw [hy711]; with_reducible exact H2_) | (have H2_ := (Option.bind_some _ _).symm.trans H; with_reducible exact H2_) | with_reducible exact H | (rw [hy711]; exact H) | exact H
            have Ny711 := Aside0.mk hy711; clear hy711; simp only [Option.some.injEq, Prod.mk.injEq] at H; obtain ⟨rfl, rfl⟩ := H
            go_wp2_with (first | ((with_reducible refine gate_callee (f := 86) rfl ?_); refine ga_ (some 39) Tryd.func86 #[.pointer (some ⟨g677, 0, none⟩), .int .i64 24] ?_; (with_reducible refine (spec_l1Cur_pick.calls g677 t674 x678001_14 x678002_14 24 t699 t700 t701 w _ ?side1 ?side2 A23.out).mono ?_); (case side1 => exact is99_0 HI677.out); (case side2 => exact lb1_ HB.out (IsS99.ge HI677.out)); rintro e w33 ⟨rfl, hi, hb, hk⟩; refine ⟨_, rfl, ?_⟩; replace HO_5 := Aside0.mk (Kd.R_mono (Kd.R_keep (IsS99.apart (show IsS99 w _ g677 t674 x678001_14 x678002_14 from is99_0 HI677.out) (kr_ HO_5.out) (by decide)) hk (fun _ h => h.2)) (fun _ h => h.1)); replace HO_6 := Aside0.mk (Kd.R_mono (Kd.R_keep (IsS99.apart (show IsS99 w _ g677 t674 x678001_14 x678002_14 from is99_0 HI677.out) (kr_ HO_6.out) (by decide)) hk (fun _ h => h.2)) (fun _ h => h.1)); replace HB := Aside0.mk (hb); replace HI677 := Aside0.mk (hi); (try clear hb); (try clear hb2); (try clear hk); (try clear hi); obtain ⟨Ao34, co34, eo34⟩ := Kd.R_slice HO_6.out; subst eo34) | ((with_reducible refine gate_dst (N := 52) rfl ?_); refine Kd.R_lit (Kd.int .i64) _ 3 ?hg (N := 52) ?hd (xs := ([(-1), 4] : List Int)) (inner := [.int .i64 (-1), .int .i64 4]) (ok := fun _ => True) (okp := fun _ => True) ?hr ?hp (fun _ hk => hk) trivial (Below.refl _ _) (Nat.le_refl _) (by simp) ?_; (case hd => rfl); (case hg => rfl); (case hr => first | (go_simp; done) | (go_simp; rfl)); (case hp => exact (Reps.one (show Kd.M (Kd.int .i64) _ _ _ (-1) [.int .i64 (-1)] from rfl) (Reps.one (show Kd.M (Kd.int .i64) _ _ _ 4 [.int .i64 4] from rfl) (Reps.none _ _)))); intro v706 w35 ho36 hb hg_ hnew_; clear hg_ hnew_; replace ho36 := ry_ Ny705.out ho36; replace HO_5 := Aside0.mk (Kd.R_below (kr_ HO_5.out) hb); have HO707 := Aside0.mk (Kd.R_lower (Kd.R_new' ho36 (Kd.R_lt (kr_ HO_6.out))) (below_size (lb1_ HB.out (IsS99.ge HI677.out)))); replace HO_6 := Aside0.mk (Kd.R_elder' (kr_ HO_6.out) (Kd.R_base ho36) hb); replace HB := Aside0.mk (below_step (lb1_ HB.out (IsS99.ge HI677.out)) hb); replace HI677 := Aside0.mk (IsS99.below (is99_0 HI677.out) hb); clear hb ho36; obtain ⟨Ao37, co37, eo37⟩ := Kd.R_slice HO707.out; subst eo37) | ((with_reducible refine gate_callee (f := 88) rfl ?_); refine ga_ (some 53) Tryd.func88 #[.pointer (some ⟨g677, 0, none⟩), .slice Ao37 y705.length co37] ?_; (with_reducible refine (spec_l1Cur_among.calls g677 t674 t700 t701 _ _ y705 t708 t709 t710 w _ ?side1 ?side2 ?side3 ?side4 ?side5 A30.out).mono ?_); (case side1 => exact is99_0 HI677.out); (case side2 => exact lb1_ HB.out (IsS99.ge HI677.out)); (case side3 => exact kc_ (Kd.R_reads' HO707.out).2.2); (case side4 => exact (Kd.R_reads' HO707.out).2.1); (case side5 => exact far_slice (IsS99.own_ne HI677.out HO707.out (by decide))); rintro e w38 ⟨rfl, hi, hb, hk⟩; refine ⟨_, rfl, ?_⟩; replace HO_5 := Aside0.mk (Kd.R_mono (Kd.R_keep (IsS99.apart (show IsS99 w _ g677 t674 t700 t701 from is99_0 HI677.out) (kr_ HO_5.out) (by decide)) hk (fun _ h => h.2)) (fun _ h => h.1)); replace HO_6 := Aside0.mk (Kd.R_mono (Kd.R_keep (IsS99.apart (show IsS99 w _ g677 t674 t700 t701 from is99_0 HI677.out) (kr_ HO_6.out) (by decide)) hk (fun _ h => h.2)) (fun _ h => h.1)); replace HO707 := Aside0.mk (Kd.R_mono (Kd.R_keep (IsS99.apart (show IsS99 w _ g677 t674 t700 t701 from is99_0 HI677.out) (kr_ HO707.out) (by decide)) hk (fun _ h => h.2)) (fun _ h => h.1)); replace HB := Aside0.mk (hb); replace HI677 := Aside0.mk (hi); (try clear hb); (try clear hb2); (try clear hk); (try clear hi); have p32 : 0 ≤ (0 : Int) := (by omega); have q32 : (0 : Int) < ((x6_20.length : Int) : Int) := dt_; have qi32 : (0 < x6_20.length) = True := eq_true (by omega); obtain ⟨go32, co32, eo32, gb32, gl32, cl32, HG32⟩ := Kd.R_form HO_6.out (by omega); (first | cases eo32 | (injection eo32 with ea_ en_ ec_; (first | subst ea_ | (injection ea_ with ea_; subst ea_)); subst ec_; clear en_)); have GB32 := Aside0.mk gb32; have GG32 := Aside0.mk HG32; clear gb32 gl32 HG32; obtain ⟨hx32_0, hf32_0⟩ := Kd.R_celln 0 HO_6.out (0 : Int) p32 q32; (try rw [show ((0 : Int)).toNat = 0 from rfl] at hx32_0); (try simp only [Nat.reduceMul, Nat.zero_mul, Nat.zero_add, Nat.reduceAdd] at hx32_0); (try rw [show ((0 : Int)).toNat = 0 from rfl] at hf32_0); (try simp only [Nat.reduceMul, Nat.zero_mul, Nat.zero_add, Nat.reduceAdd] at hf32_0); replace p32 := eq_true p32; replace q32 := eq_true q32; have n_ := Aside0.mk (Kd.R_mono (ok' := (fun k_ => some k_ ≠ (.slice Ao37 y705.length co37 : Value).ownBlock)) HO_6.out (fun k_ hk => hk.2)); clear HO_6; have HO_6 := n_; clear n_; obtain ⟨hy39_, hz39_⟩ := Kd.R_celln 0 HO_6.out (0 : Int) (by omega) (dt_); (try simp only [Int.reduceToNat, Int.toNat_zero, Int.toNat_ofNat, Nat.reduceMul, Nat.zero_mul, Nat.zero_add] at hy39_ hz39_); (try rw [show ((0 : Int)).toNat = 0 from rfl] at hy39_); (try rw [show ((0 : Int)).toNat = 0 from rfl] at hz39_); have HP39 := Kd.R_putg HO_6.out (0 : Int) t708) | ((with_reducible refine gate_store (t := 3) (p := 54) rfl ?_); refine store_event (t := 3) (p := 54) (v := ?vo_w40) (w1 := (w38.setCell ⟨go32, (0 : Int).toNat, none⟩ (.int .i64 t708))) ?hg ?ho ?hn ?hr ?_; (case ho => rfl); (case hg => rfl); (case hn => rfl); (case hr => first | (go_simp; done) | (go_simp; rfl)); intro w40 hw; have hg : w38.grownBy w40 (some go32) := (by rw [hw]; exact HP39.2); have hp_ : Kd.R (Kd.int .i64) 3 w40 w.heap.size (fun k_ => some k_ ≠ (.slice Ao37 y705.length co37 : Value).ownBlock) (.slice (some ⟨go32, 0, none⟩) x6_20.length co34) y711 := (by rw [hw, Ny711.out]; exact HP39.1); clear HP39; replace HO_5 := Aside0.mk (Kd.R_over' (v := (.slice (some ⟨go32, 0, none⟩) x6_20.length co34)) (kr_ HO_5.out) (Kd.R_typed HO_6.out) (by decide) hg); replace HI677 := Aside0.mk (IsS99.grown (is99_0 HI677.out) hg (IsS99.own_ne HI677.out HO_6.out (by decide))); replace HO_6 := Aside0.mk (hp_); replace HO707 := Aside0.mk (Kd.R_after (v := (.slice (some ⟨go32, 0, none⟩) x6_20.length co34)) (v1 := (.slice (some ⟨go32, 0, none⟩) x6_20.length co34)) (ok := (fun _ => True)) (kr_ HO707.out) hg (.inl rfl)); replace HB := Aside0.mk ((by rw [hw]; exact below_set (HB.out) GB32.out : Below w.heap.size w w40)); clear hg hw hp_))
            go_ret2
            exact ⟨_, _, rr_, kr_ HO_5.out, krm_ HO_6.out (fun _ hk => trivial), lb1_ HB.out (IsS99.ge HI677.out)⟩
           ·
            rw [if_neg c31] at H
            exact absurd H (by simp)
          ·
           rw [if_neg c29] at H
           have c29b0 : decide (0 < (x6_20.length : Int)) = false := decide_eq_false c29; have c29b1 : decide (0 < x6_20.length) = false := decide_eq_false (by omega); clear c29; simp only [Option.some.injEq, Prod.mk.injEq] at H; obtain ⟨rfl, rfl⟩ := H
           go_wp2_with (first | ((with_reducible refine gate_callee (f := 86) rfl ?_); refine ga_ (some 39) Tryd.func86 #[.pointer (some ⟨g677, 0, none⟩), .int .i64 24] ?_; (with_reducible refine (spec_l1Cur_pick.calls g677 t674 x678001_14 x678002_14 24 t699 t700 t701 w _ ?side1 ?side2 A23.out).mono ?_); (case side1 => exact is99_0 HI677.out); (case side2 => exact lb1_ HB.out (IsS99.ge HI677.out)); rintro e w41 ⟨rfl, hi, hb, hk⟩; refine ⟨_, rfl, ?_⟩; replace HO_5 := Aside0.mk (Kd.R_mono (Kd.R_keep (IsS99.apart (show IsS99 w _ g677 t674 x678001_14 x678002_14 from is99_0 HI677.out) (kr_ HO_5.out) (by decide)) hk (fun _ h => h.2)) (fun _ h => h.1)); replace HO_6 := Aside0.mk (Kd.R_mono (Kd.R_keep (IsS99.apart (show IsS99 w _ g677 t674 x678001_14 x678002_14 from is99_0 HI677.out) (kr_ HO_6.out) (by decide)) hk (fun _ h => h.2)) (fun _ h => h.1)); replace HB := Aside0.mk (hb); replace HI677 := Aside0.mk (hi); (try clear hb); (try clear hb2); (try clear hk); (try clear hi); obtain ⟨Ao42, co42, eo42⟩ := Kd.R_slice HO_6.out; subst eo42))
           go_ret2
           exact ⟨_, _, rr_, kr_ HO_5.out, kr_ HO_6.out, lb1_ HB.out (IsS99.ge HI677.out)⟩
         ·
          rw [if_neg c28] at H
          have c28b0 : (t699 == 1) = false := beq_eq_false_iff_ne.mpr c28; have c28b1 : (t699 != 1) = true := bne_iff_ne.mpr c28; simp only [Option.some.injEq, Prod.mk.injEq] at H; obtain ⟨rfl, rfl⟩ := H
          go_wp2_with (first | ((with_reducible refine gate_callee (f := 86) rfl ?_); refine ga_ (some 39) Tryd.func86 #[.pointer (some ⟨g677, 0, none⟩), .int .i64 24] ?_; (with_reducible refine (spec_l1Cur_pick.calls g677 t674 x678001_14 x678002_14 24 t699 t700 t701 w _ ?side1 ?side2 A23.out).mono ?_); (case side1 => exact is99_0 HI677.out); (case side2 => exact lb1_ HB.out (IsS99.ge HI677.out)); rintro e w43 ⟨rfl, hi, hb, hk⟩; refine ⟨_, rfl, ?_⟩; replace HO_5 := Aside0.mk (Kd.R_mono (Kd.R_keep (IsS99.apart (show IsS99 w _ g677 t674 x678001_14 x678002_14 from is99_0 HI677.out) (kr_ HO_5.out) (by decide)) hk (fun _ h => h.2)) (fun _ h => h.1)); replace HO_6 := Aside0.mk (Kd.R_mono (Kd.R_keep (IsS99.apart (show IsS99 w _ g677 t674 x678001_14 x678002_14 from is99_0 HI677.out) (kr_ HO_6.out) (by decide)) hk (fun _ h => h.2)) (fun _ h => h.1)); replace HB := Aside0.mk (hb); replace HI677 := Aside0.mk (hi); (try clear hb); (try clear hb2); (try clear hk); (try clear hi)))
          go_ret2
          exact ⟨_, _, rr_, kr_ HO_5.out, kr_ HO_6.out, lb1_ HB.out (IsS99.ge HI677.out)⟩
def laws_rInts.l0 : Nat → List Int → List Int → Int → Option (Bool)
 | 0, _, _, _ => none
 | k + 1, x0, x1, x5 => if x5 < (x0.length : Int) then (if 0 ≤ x5 then (if x5 < (x1.length : Int) then (if (rd x0 x5) = (rd x1 x5) then (laws_rInts.l0 k x0 x1 (wrap64 (x5 + 1))) else (some false)) else (none)) else (none)) else (some true)
def laws_rInts.f (k : Nat) (l0 : List Int) (l1 : List Int) : Option (Bool) := if (l0.length : Int) = (l1.length : Int) then (laws_rInts.l0 k l0 l1 0) else (some false)
set_option maxHeartbeats 8000000 in
set_option maxRecDepth 100000 in
theorem laws_rInts.calls (k : Nat) (A0 : Option Addr) (c0 : Nat) (l0 : List Int) (A1 : Option Addr) (c1 : Nat) (l1 : List Int) (r : Bool) (w : World) (hr0 : Kd.C (Kd.int .i64) w A0 l0.length l0) (hc0 : l0.length ≤ c0) (hr1 : Kd.C (Kd.int .i64) w A1 l1.length l1) (hc1 : l1.length ≤ c1) (h : laws_rInts.f k l0 l1 = some r) :
  Calls Tryd.prog 45 #[.slice A0 l0.length c0, .slice A1 l1.length c1] w fun e w' => e = .returned (.bool r) ∧ Drawn0 w w' := by
 have HR0 := Aside0.mk hr0
 have HC0 := Aside0.mk hc0
 clear hr0 hc0
 have HR1 := Aside0.mk hr1
 have HC1 := Aside0.mk hc1
 clear hr1 hc1
 have H : (if (l0.length : Int) = (l1.length : Int) then (laws_rInts.l0 k l0 l1 0) else (some false)) = some r := h
 clear h
 by_cases c3 : (l0.length : Int) = (l1.length : Int)
 ·
  rw [if_pos c3] at H
  have c3b0 : ((l0.length : Int) == (l1.length : Int)) = true := beq_iff_eq.mpr c3
  have c3b1 : ((l0.length : Int) != (l1.length : Int)) = false := bne_eq_false_iff_eq.mpr c3
  have c3b2 : (l0.length == l1.length) = true := by first | simpa using c3 | (simp at c3 ⊢; omega)
  clear c3
  have H' := Aside0.mk H
  clear H
  go_enter Tryd.func45, Tryd.ntmps45
  go_wp2
  repeat (go_quiet (fail); try go_wp2)
  go_loopg [5] k (fun kq v5 w' => ∃ (x5_1 : Int), v5 = .int .i64 x5_1 ∧ Aside0 (laws_rInts.l0 kq l0 l1 x5_1 = some r) ∧ Aside0 (kq ≤ k) ∧ Drawn0 w w')
  case atStart => exact ⟨(0), (by first | rfl | (simp; done) | (simp [*]; done)), H', ⟨Nat.le_refl _⟩, by repeat (first | exact Drawn0.refl _ | apply Drawn0.step)⟩
  case round =>
   clear H'
   try clear c1
   try clear p2
   try clear c3
   try clear c3b0
   try clear c3b1
   try clear c3b2
   obtain ⟨x5_1, rfl, HA, HK1, ⟨m1, rfl⟩⟩ := hrel
   cases gk with
   | zero => exact absurd HA.out (by simp [laws_rInts.l0])
   | succ k1 =>
    have H := HA.out
    clear HA
    simp only [laws_rInts.l0] at H
    by_cases c4 : x5_1 < (l0.length : Int)
    ·
     rw [if_pos c4] at H
     have c4b0 : decide (x5_1 < (l0.length : Int)) = true := decide_eq_true c4
     clear c4
     by_cases c5 : 0 ≤ x5_1
     ·
      rw [if_pos c5] at H
      have c5b0 : decide (0 ≤ x5_1) = true := decide_eq_true c5
      clear c5
      by_cases c6 : x5_1 < (l1.length : Int)
      ·
       rw [if_pos c6] at H
       have c6b0 : decide (x5_1 < (l1.length : Int)) = true := decide_eq_true c6
       clear c6
       by_cases c7 : (rd l0 x5_1) = (rd l1 x5_1)
       ·
        rw [if_pos c7] at H
        have c7b0 : ((rd l0 x5_1) == (rd l1 x5_1)) = true := beq_iff_eq.mpr c7; have c7b1 : ((rd l0 x5_1) != (rd l1 x5_1)) = false := bne_eq_false_iff_eq.mpr c7; clear c7; have H' := Aside0.mk H; clear H; have p712 : 0 ≤ (x5_1 : Int) := dt_; have q712 : x5_1 < (l0.length : Int) := dt_; obtain ⟨ad712, e712, hx712_0⟩ := Kd.at_int HR0.out x5_1 p712 q712
        cases e712
        replace p712 := eq_true p712; replace q712 := eq_true q712; have p713 : 0 ≤ (x5_1 : Int) := dt_; have q713 : x5_1 < (l1.length : Int) := dt_; obtain ⟨ad713, e713, hx713_0⟩ := Kd.at_int HR1.out x5_1 p713 q713
        cases e713
        replace p713 := eq_true p713; replace q713 := eq_true q713
        go_wp2
        repeat (go_quiet (fail); try go_wp2)
        go_roundg k1
        case measure => have := HK1.out; omega
        case rel => exact ⟨(wrap64 (x5_1 + 1)), (by first | rfl | (simp; done) | (simp [*]; done)), H', ⟨by have := HK1.out; omega⟩, by repeat (first | exact Drawn0.refl _ | apply Drawn0.step)⟩
       ·
        rw [if_neg c7] at H
        have c7b0 : ((rd l0 x5_1) == (rd l1 x5_1)) = false := beq_eq_false_iff_ne.mpr c7; have c7b1 : ((rd l0 x5_1) != (rd l1 x5_1)) = true := bne_iff_ne.mpr c7; obtain rfl := Option.some.inj H; have p712 : 0 ≤ (x5_1 : Int) := dt_; have q712 : x5_1 < (l0.length : Int) := dt_; obtain ⟨ad712, e712, hx712_0⟩ := Kd.at_int HR0.out x5_1 p712 q712
        cases e712
        replace p712 := eq_true p712; replace q712 := eq_true q712; have p713 : 0 ≤ (x5_1 : Int) := dt_; have q713 : x5_1 < (l1.length : Int) := dt_; obtain ⟨ad713, e713, hx713_0⟩ := Kd.at_int HR1.out x5_1 p713 q713
        cases e713
        replace p713 := eq_true p713; replace q713 := eq_true q713
        go_wp2
        repeat (go_quiet (fail); try go_wp2)
        go_ret
        exact ⟨by first | rfl | (simp; done) | (simp [*]; done), by repeat (first | exact Drawn0.refl _ | apply Drawn0.step)⟩
      ·
       rw [if_neg c6] at H
       exact absurd H (by simp)
     ·
      rw [if_neg c5] at H
      exact absurd H (by simp)
    ·
     rw [if_neg c4] at H
     have c4b0 : decide (x5_1 < (l0.length : Int)) = false := decide_eq_false c4
     clear c4
     obtain rfl := Option.some.inj H
     go_wp2
     repeat (go_quiet (fail); try go_wp2)
     go_ret
     exact ⟨by first | rfl | (simp; done) | (simp [*]; done), by repeat (first | exact Drawn0.refl _ | apply Drawn0.step)⟩
 ·
  rw [if_neg c3] at H
  have c3b0 : ((l0.length : Int) == (l1.length : Int)) = false := beq_eq_false_iff_ne.mpr c3
  have c3b1 : ((l0.length : Int) != (l1.length : Int)) = true := bne_iff_ne.mpr c3
  have c3b2 : (l0.length == l1.length) = false := by first | simpa using c3 | (simp at c3 ⊢; omega)
  obtain rfl := Option.some.inj H
  go_enter Tryd.func45, Tryd.ntmps45
  go_wp2
  repeat (go_quiet (fail); try go_wp2)
  go_ret
  exact ⟨by first | rfl | (simp; done) | (simp [*]; done), by repeat (first | exact Drawn0.refl _ | apply Drawn0.step)⟩
def laws_rTexts.l0 : Nat → List ByteArray → List ByteArray → Int → Option (Bool)
 | 0, _, _, _ => none
 | k + 1, x0, x1, x5 => if x5 < (x0.length : Int) then (if 0 ≤ x5 then (if x5 < (x1.length : Int) then (if (rdOf ByteArray.empty x0 x5).toList = (rdOf ByteArray.empty x1 x5).toList then (laws_rTexts.l0 k x0 x1 (wrap64 (x5 + 1))) else (some false)) else (none)) else (none)) else (some true)
def laws_rTexts.f (k : Nat) (l0 : List ByteArray) (l1 : List ByteArray) : Option (Bool) := if (l0.length : Int) = (l1.length : Int) then (laws_rTexts.l0 k l0 l1 0) else (some false)
set_option maxHeartbeats 8000000 in
set_option maxRecDepth 100000 in
theorem laws_rTexts.calls (k : Nat) (A0 : Option Addr) (c0 : Nat) (l0 : List ByteArray) (A1 : Option Addr) (c1 : Nat) (l1 : List ByteArray) (r : Bool) (w : World) (hr0 : Kd.C Kd.string w A0 l0.length l0) (hc0 : l0.length ≤ c0) (hr1 : Kd.C Kd.string w A1 l1.length l1) (hc1 : l1.length ≤ c1) (h : laws_rTexts.f k l0 l1 = some r) :
  Calls Tryd.prog 46 #[.slice A0 l0.length c0, .slice A1 l1.length c1] w fun e w' => e = .returned (.bool r) ∧ Drawn0 w w' := by
 have HR0 := Aside0.mk hr0
 have HC0 := Aside0.mk hc0
 clear hr0 hc0
 have HR1 := Aside0.mk hr1
 have HC1 := Aside0.mk hc1
 clear hr1 hc1
 have H : (if (l0.length : Int) = (l1.length : Int) then (laws_rTexts.l0 k l0 l1 0) else (some false)) = some r := h
 clear h
 by_cases c3 : (l0.length : Int) = (l1.length : Int)
 ·
  rw [if_pos c3] at H
  have c3b0 : ((l0.length : Int) == (l1.length : Int)) = true := beq_iff_eq.mpr c3
  have c3b1 : ((l0.length : Int) != (l1.length : Int)) = false := bne_eq_false_iff_eq.mpr c3
  have c3b2 : (l0.length == l1.length) = true := by first | simpa using c3 | (simp at c3 ⊢; omega)
  clear c3
  have H' := Aside0.mk H
  clear H
  go_enter Tryd.func46, Tryd.ntmps46
  go_wp2
  repeat (go_quiet (fail); try go_wp2)
  go_loopg [5] k (fun kq v5 w' => ∃ (x5_1 : Int), v5 = .int .i64 x5_1 ∧ Aside0 (laws_rTexts.l0 kq l0 l1 x5_1 = some r) ∧ Aside0 (kq ≤ k) ∧ Drawn0 w w')
  case atStart => exact ⟨(0), (by first | rfl | (simp; done) | (simp [*]; done)), H', ⟨Nat.le_refl _⟩, by repeat (first | exact Drawn0.refl _ | apply Drawn0.step)⟩
  case round =>
   clear H'
   try clear c1
   try clear p2
   try clear c3
   try clear c3b0
   try clear c3b1
   try clear c3b2
   obtain ⟨x5_1, rfl, HA, HK1, ⟨m1, rfl⟩⟩ := hrel
   cases gk with
   | zero => exact absurd HA.out (by simp [laws_rTexts.l0])
   | succ k1 =>
    have H := HA.out
    clear HA
    simp only [laws_rTexts.l0] at H
    by_cases c4 : x5_1 < (l0.length : Int)
    ·
     rw [if_pos c4] at H
     have c4b0 : decide (x5_1 < (l0.length : Int)) = true := decide_eq_true c4
     clear c4
     by_cases c5 : 0 ≤ x5_1
     ·
      rw [if_pos c5] at H
      have c5b0 : decide (0 ≤ x5_1) = true := decide_eq_true c5
      clear c5
      by_cases c6 : x5_1 < (l1.length : Int)
      ·
       rw [if_pos c6] at H
       have c6b0 : decide (x5_1 < (l1.length : Int)) = true := decide_eq_true c6
       clear c6
       by_cases c7 : (rdOf ByteArray.empty l0 x5_1).toList = (rdOf ByteArray.empty l1 x5_1).toList
       ·
        rw [if_pos c7] at H
        have c7b0 : ((rdOf ByteArray.empty l0 x5_1).toList == (rdOf ByteArray.empty l1 x5_1).toList) = true := beq_iff_eq.mpr c7; have c7b1 : ((rdOf ByteArray.empty l0 x5_1).toList != (rdOf ByteArray.empty l1 x5_1).toList) = false := bne_eq_false_iff_eq.mpr c7; clear c7; have H' := Aside0.mk H; clear H; have p714 : 0 ≤ (x5_1 : Int) := dt_; have q714 : x5_1 < (l0.length : Int) := dt_; obtain ⟨ad714, e714, hx714_0⟩ := Kd.at_string HR0.out x5_1 p714 q714
        cases e714
        replace p714 := eq_true p714; replace q714 := eq_true q714; have p715 : 0 ≤ (x5_1 : Int) := dt_; have q715 : x5_1 < (l1.length : Int) := dt_; obtain ⟨ad715, e715, hx715_0⟩ := Kd.at_string HR1.out x5_1 p715 q715
        cases e715
        replace p715 := eq_true p715; replace q715 := eq_true q715
        go_wp2
        repeat (go_quiet (fail); try go_wp2)
        go_roundg k1
        case measure => have := HK1.out; omega
        case rel => exact ⟨(wrap64 (x5_1 + 1)), (by first | rfl | (simp; done) | (simp [*]; done)), H', ⟨by have := HK1.out; omega⟩, by repeat (first | exact Drawn0.refl _ | apply Drawn0.step)⟩
       ·
        rw [if_neg c7] at H
        have c7b0 : ((rdOf ByteArray.empty l0 x5_1).toList == (rdOf ByteArray.empty l1 x5_1).toList) = false := beq_eq_false_iff_ne.mpr c7; have c7b1 : ((rdOf ByteArray.empty l0 x5_1).toList != (rdOf ByteArray.empty l1 x5_1).toList) = true := bne_iff_ne.mpr c7; obtain rfl := Option.some.inj H; have p714 : 0 ≤ (x5_1 : Int) := dt_; have q714 : x5_1 < (l0.length : Int) := dt_; obtain ⟨ad714, e714, hx714_0⟩ := Kd.at_string HR0.out x5_1 p714 q714
        cases e714
        replace p714 := eq_true p714; replace q714 := eq_true q714; have p715 : 0 ≤ (x5_1 : Int) := dt_; have q715 : x5_1 < (l1.length : Int) := dt_; obtain ⟨ad715, e715, hx715_0⟩ := Kd.at_string HR1.out x5_1 p715 q715
        cases e715
        replace p715 := eq_true p715; replace q715 := eq_true q715
        go_wp2
        repeat (go_quiet (fail); try go_wp2)
        go_ret
        exact ⟨by first | rfl | (simp; done) | (simp [*]; done), by repeat (first | exact Drawn0.refl _ | apply Drawn0.step)⟩
      ·
       rw [if_neg c6] at H
       exact absurd H (by simp)
     ·
      rw [if_neg c5] at H
      exact absurd H (by simp)
    ·
     rw [if_neg c4] at H
     have c4b0 : decide (x5_1 < (l0.length : Int)) = false := decide_eq_false c4
     clear c4
     obtain rfl := Option.some.inj H
     go_wp2
     repeat (go_quiet (fail); try go_wp2)
     go_ret
     exact ⟨by first | rfl | (simp; done) | (simp [*]; done), by repeat (first | exact Drawn0.refl _ | apply Drawn0.step)⟩
 ·
  rw [if_neg c3] at H
  have c3b0 : ((l0.length : Int) == (l1.length : Int)) = false := beq_eq_false_iff_ne.mpr c3
  have c3b1 : ((l0.length : Int) != (l1.length : Int)) = true := bne_iff_ne.mpr c3
  have c3b2 : (l0.length == l1.length) = false := by first | simpa using c3 | (simp at c3 ⊢; omega)
  obtain rfl := Option.some.inj H
  go_enter Tryd.func46, Tryd.ntmps46
  go_wp2
  repeat (go_quiet (fail); try go_wp2)
  go_ret
  exact ⟨by first | rfl | (simp; done) | (simp [*]; done), by repeat (first | exact Drawn0.refl _ | apply Drawn0.step)⟩
def laws_rHas.l0 : Nat → List Int → Int → Int → Option (Bool)
 | 0, _, _, _ => none
 | k + 1, x0, x1, x5 => if x5 < (x0.length : Int) then (if 0 ≤ x5 then (if (rd x0 x5) = x1 then (some true) else (laws_rHas.l0 k x0 x1 (wrap64 (x5 + 1)))) else (none)) else (some false)
def laws_rHas.f (k : Nat) (l0 : List Int) (a1 : Int) : Option (Bool) := laws_rHas.l0 k l0 a1 0
set_option maxHeartbeats 8000000 in
set_option maxRecDepth 100000 in
theorem laws_rHas.calls (k : Nat) (A0 : Option Addr) (c0 : Nat) (l0 : List Int) (a1 : Int) (r : Bool) (w : World) (hr0 : Kd.C (Kd.int .i64) w A0 l0.length l0) (hc0 : l0.length ≤ c0) (h : laws_rHas.f k l0 a1 = some r) :
  Calls Tryd.prog 47 #[.slice A0 l0.length c0, .int .i64 a1] w fun e w' => e = .returned (.bool r) ∧ Drawn0 w w' := by
 have HR0 := Aside0.mk hr0
 have HC0 := Aside0.mk hc0
 clear hr0 hc0
 have H : (laws_rHas.l0 k l0 a1 0) = some r := h
 clear h
 have H' := Aside0.mk H
 clear H
 go_enter Tryd.func47, Tryd.ntmps47
 go_wp2
 go_loopg [5] k (fun kq v5 w' => ∃ (x5_1 : Int), v5 = .int .i64 x5_1 ∧ Aside0 (laws_rHas.l0 kq l0 a1 x5_1 = some r) ∧ Aside0 (kq ≤ k) ∧ Drawn0 w w')
 case atStart => exact ⟨(0), (by first | rfl | (simp; done) | (simp [*]; done)), H', ⟨Nat.le_refl _⟩, by repeat (first | exact Drawn0.refl _ | apply Drawn0.step)⟩
 case round =>
  clear H'
  try clear p2
  obtain ⟨x5_1, rfl, HA, HK1, ⟨m1, rfl⟩⟩ := hrel
  cases gk with
  | zero => exact absurd HA.out (by simp [laws_rHas.l0])
  | succ k1 =>
   have H := HA.out
   clear HA
   simp only [laws_rHas.l0] at H
   by_cases c3 : x5_1 < (l0.length : Int)
   ·
    rw [if_pos c3] at H
    have c3b0 : decide (x5_1 < (l0.length : Int)) = true := decide_eq_true c3
    clear c3
    by_cases c4 : 0 ≤ x5_1
    ·
     rw [if_pos c4] at H
     have c4b0 : decide (0 ≤ x5_1) = true := decide_eq_true c4
     clear c4
     by_cases c5 : (rd l0 x5_1) = a1
     ·
      rw [if_pos c5] at H
      have c5b0 : ((rd l0 x5_1) == a1) = true := beq_iff_eq.mpr c5
      have c5b1 : ((rd l0 x5_1) != a1) = false := bne_eq_false_iff_eq.mpr c5
      clear c5
      obtain rfl := Option.some.inj H
      have p716 : 0 ≤ (x5_1 : Int) := dt_
      have q716 : x5_1 < (l0.length : Int) := dt_
      obtain ⟨ad716, e716, hx716_0⟩ := Kd.at_int HR0.out x5_1 p716 q716
      cases e716
      replace p716 := eq_true p716
      replace q716 := eq_true q716
      go_wp2
      go_ret
      exact ⟨by first | rfl | (simp; done) | (simp [*]; done), by repeat (first | exact Drawn0.refl _ | apply Drawn0.step)⟩
     ·
      rw [if_neg c5] at H
      have c5b0 : ((rd l0 x5_1) == a1) = false := beq_eq_false_iff_ne.mpr c5
      have c5b1 : ((rd l0 x5_1) != a1) = true := bne_iff_ne.mpr c5
      have H' := Aside0.mk H
      clear H
      have p716 : 0 ≤ (x5_1 : Int) := dt_
      have q716 : x5_1 < (l0.length : Int) := dt_
      obtain ⟨ad716, e716, hx716_0⟩ := Kd.at_int HR0.out x5_1 p716 q716
      cases e716
      replace p716 := eq_true p716
      replace q716 := eq_true q716
      go_wp2
      go_roundg k1
      case measure => have := HK1.out; omega
      case rel => exact ⟨(wrap64 (x5_1 + 1)), (by first | rfl | (simp; done) | (simp [*]; done)), H', ⟨by have := HK1.out; omega⟩, by repeat (first | exact Drawn0.refl _ | apply Drawn0.step)⟩
    ·
     rw [if_neg c4] at H
     exact absurd H (by simp)
   ·
    rw [if_neg c3] at H
    have c3b0 : decide (x5_1 < (l0.length : Int)) = false := decide_eq_false c3
    clear c3
    obtain rfl := Option.some.inj H
    go_wp2
    go_ret
    exact ⟨by first | rfl | (simp; done) | (simp [*]; done), by repeat (first | exact Drawn0.refl _ | apply Drawn0.step)⟩
mutual
def laws_FnLabels.j0 : Nat → List (S29) → Bool → Bool → Option (Bool)
 | 0, _, _, _ => none
 | k + 1, x3, x5, x53 => if x53 = true then (none) else ((impl_FirstPlacing.f k x3).bind fun bt728 => ((spec_FirstPlacing.f k x3).bind fun bt732 => (if (bt728.2 != bt732.2) = true then (laws_FnLabels.j1 k x3 x5 bt728.1 bt728.2 true) else ((laws_rInts.f k bt728.1 bt732.1).bind fun t736 => (laws_FnLabels.j1 k x3 x5 bt728.1 bt728.2 (!t736))))))
def laws_FnLabels.j1 : Nat → List (S29) → Bool → List Int → Bool → Bool → Option (Bool)
 | 0, _, _, _, _, _ => none
 | k + 1, x3, x5, x9, x10, x72 => if x72 = true then (none) else ((impl_CountPlacings.f k x3).bind fun bt737 => ((spec_CountPlacings.f k x3).bind fun bt739 => (if bt737.1 = bt739.1 then (if (bt737.2 != bt739.2) = true then (laws_FnLabels.j2 k x3 x5 x9 x10 true) else ((impl_AreLabels.f x3).bind fun t741 => (if (bt737.2 != t741) = true then (laws_FnLabels.j2 k x3 x5 x9 x10 true) else (if bt737.2 = true then (laws_FnLabels.j2 k x3 x5 x9 x10 (x10 != (decide (bt737.1 > 0)))) else (laws_FnLabels.j2 k x3 x5 x9 x10 false))))) else (laws_FnLabels.j2 k x3 x5 x9 x10 true))))
def laws_FnLabels.j2 : Nat → List (S29) → Bool → List Int → Bool → Bool → Option (Bool)
 | 0, _, _, _, _, _ => none
 | k + 1, x3, x5, x9, x10, x105 => if x105 = true then (none) else (if x10 = true then ((impl_IsPlacing.f k x3 x9).bind fun bt742 => (if bt742.2 = true then (if bt742.1 = true then (laws_FnLabels.j3 k x3 x5 x9 x10) else (none)) else (none))) else (laws_FnLabels.j3 k x3 x5 x9 x10))
def laws_FnLabels.j3 : Nat → List (S29) → Bool → List Int → Bool → Option (Bool)
 | 0, _, _, _, _ => none
 | k + 1, x3, x5, x9, x10 => if x5 = true then (laws_FnLabels.j4 k x3 x9 x10 (!x10)) else (laws_FnLabels.j4 k x3 x9 x10 false)
def laws_FnLabels.j4 : Nat → List (S29) → List Int → Bool → Bool → Option (Bool)
 | 0, _, _, _, _ => none
 | k + 1, x3, x9, x10, x123 => if x123 = true then (none) else ((impl_StuckLabels.f k x3).bind fun bt744 => ((spec_StuckLabels.f k x3).bind fun bt748 => (if (bt744.2 != bt748.2) = true then (laws_FnLabels.j5 k x3 x9 x10 bt744.1 bt744.2 true) else ((laws_rTexts.f k bt744.1 bt748.1).bind fun t752 => (if t752 = true then (if x10 = true then (laws_FnLabels.j5 k x3 x9 x10 bt744.1 bt744.2 (decide ((bt744.1.length : Int) > 0))) else (laws_FnLabels.j5 k x3 x9 x10 bt744.1 bt744.2 false)) else (laws_FnLabels.j5 k x3 x9 x10 bt744.1 bt744.2 true))))))
def laws_FnLabels.j5 : Nat → List (S29) → List Int → Bool → List ByteArray → Bool → Bool → Option (Bool)
 | 0, _, _, _, _, _, _ => none
 | k + 1, x3, x9, x10, x19, x20, x150 => if x150 = true then (none) else (laws_FnLabels.l0 k x3 x9 x10 x19 x20 0 0)
def laws_FnLabels.l0 : Nat → List (S29) → List Int → Bool → List ByteArray → Bool → Int → Int → Option (Bool)
 | 0, _, _, _, _, _, _, _ => none
 | k + 1, x3, x9, x10, x19, x20, x23, x24 => if x24 < (x3.length : Int) then (laws_FnLabels.j7 k x3 x9 x10 x19 x20 x23 x24 x20) else (laws_FnLabels.j7 k x3 x9 x10 x19 x20 x23 x24 false)
def laws_FnLabels.j7 : Nat → List (S29) → List Int → Bool → List ByteArray → Bool → Int → Int → Bool → Option (Bool)
 | 0, _, _, _, _, _, _, _, _ => none
 | k + 1, x3, x9, x10, x19, x20, x23, x24, x157 => if x157 = true then ((impl_WaysOf.f k x3 x24).bind fun bt753 => (if bt753.2 = true then (if (bt753.1.length : Int) = 0 then (if x10 = true then (if 0 ≤ x24 then (if x24 < (x9.length : Int) then ((laws_rHas.f k bt753.1 (rd x9 x24)).bind fun t758 => (if t758 = true then (laws_FnLabels.l0 k x3 x9 x10 x19 x20 (wrap64 (x23 + 1)) (wrap64 (x24 + 1))) else (none))) else (none)) else (none)) else (laws_FnLabels.l0 k x3 x9 x10 x19 x20 (wrap64 (x23 + 1)) (wrap64 (x24 + 1)))) else (if x10 = true then (if 0 ≤ x24 then (if x24 < (x9.length : Int) then ((laws_rHas.f k bt753.1 (rd x9 x24)).bind fun t760 => (if t760 = true then (laws_FnLabels.l0 k x3 x9 x10 x19 x20 x23 (wrap64 (x24 + 1))) else (none))) else (none)) else (none)) else (laws_FnLabels.l0 k x3 x9 x10 x19 x20 x23 (wrap64 (x24 + 1))))) else (none))) else (some (x23 == (x19.length : Int)))
end
def laws_FnLabels.f (k : Nat) (l0 : List Int) : Option (Bool) := (laws_rBig.f l0).bind fun t717 => (if t717 = true then (some true) else ((spec_DrawIsPlacing.f k l0).bind fun bt718 => ((impl_IsPlacing.f k bt718.1 bt718.2).bind fun bt724 => ((spec_IsPlacing.f k bt718.1 bt718.2).bind fun bt726 => (if (bt724.1 != bt726.1) = true then (laws_FnLabels.j0 k bt718.1 bt724.1 true) else (laws_FnLabels.j0 k bt718.1 bt724.1 (bt724.2 != bt726.2)))))))
set_option maxHeartbeats 64000000 in
set_option maxRecDepth 100000 in
theorem laws_FnLabels.calls (k : Nat) (A0 : Option Addr) (c0 : Nat) (l0 : List Int) (r : Bool) (w : World) (hr0 : Kd.C (Kd.int .u8) w A0 l0.length l0) (hc0 : l0.length ≤ c0) (h : laws_FnLabels.f k l0 = some r) :
  Calls Tryd.prog 11 #[.slice A0 l0.length c0] w fun e w' => e = .returned (.bool r) ∧ Below w.heap.size w w' := by
 have HR0 := Aside0.mk hr0
 have HC0 := Aside0.mk hc0
 clear hr0 hc0
 have HB := Aside0.mk (Below.refl w.heap.size w)
 have H : ((laws_rBig.f l0).bind fun t717 => (if t717 = true then (some true) else ((spec_DrawIsPlacing.f k l0).bind fun bt718 => ((impl_IsPlacing.f k bt718.1 bt718.2).bind fun bt724 => ((spec_IsPlacing.f k bt718.1 bt718.2).bind fun bt726 => (if (bt724.1 != bt726.1) = true then (laws_FnLabels.j0 k bt718.1 bt724.1 true) else (laws_FnLabels.j0 k bt718.1 bt724.1 (bt724.2 != bt726.2)))))))) = some r := h
 clear h
 replace H := Option.bind_eq_some_iff.mp H
 obtain ⟨t717, A20, H⟩ := H
 replace H : (if t717 = true then (some true) else ((spec_DrawIsPlacing.f k l0).bind fun bt718 => ((impl_IsPlacing.f k bt718.1 bt718.2).bind fun bt724 => ((spec_IsPlacing.f k bt718.1 bt718.2).bind fun bt726 => (if (bt724.1 != bt726.1) = true then (laws_FnLabels.j0 k bt718.1 bt724.1 true) else (laws_FnLabels.j0 k bt718.1 bt724.1 (bt724.2 != bt726.2))))))) = some r := H
 have A2 := Aside0.mk A20
 clear A20
 by_cases c3 : t717 = true
 ·
  subst c3
  have H1 : (some true) = some r := by rw [if_pos rfl] at H; exact H
  clear H
  have H := H1
  clear H1
  obtain rfl := Option.some.inj H
  go_enter Tryd.func11, Tryd.ntmps11
  go_wp2_with (first | ((with_reducible refine gate_callee (f := 43) rfl ?_); refine ga_ (some 28) Tryd.func43 #[.slice A0 l0.length c0] ?_; (with_reducible refine (laws_rBig.calls _ _ l0 true _ ?side1 ?side2 A2.out).mono ?_); (case side1 => exact kc_ HR0.out); (case side2 => exact HC0.out); rintro e w' ⟨rfl, ⟨nd, rfl⟩⟩; refine ⟨_, rfl, ?_⟩))
  go_ret
  exact ⟨rr_, lb0_ HB.out⟩
 ·
  replace c3 := Bool.eq_false_iff.mpr c3
  subst c3
  have H1 : ((spec_DrawIsPlacing.f k l0).bind fun bt718 => ((impl_IsPlacing.f k bt718.1 bt718.2).bind fun bt724 => ((spec_IsPlacing.f k bt718.1 bt718.2).bind fun bt726 => (if (bt724.1 != bt726.1) = true then (laws_FnLabels.j0 k bt718.1 bt724.1 true) else (laws_FnLabels.j0 k bt718.1 bt724.1 (bt724.2 != bt726.2)))))) = some r := by rw [if_neg (show ¬ (false = true) by decide)] at H; exact H
  clear H
  have H := H1
  clear H1
  replace H := Option.bind_eq_some_iff.mp H
  obtain ⟨⟨t718, t719⟩, A40, H⟩ := H
  replace H : ((impl_IsPlacing.f k t718 t719).bind fun bt724 => ((spec_IsPlacing.f k t718 t719).bind fun bt726 => (if (bt724.1 != bt726.1) = true then (laws_FnLabels.j0 k t718 bt724.1 true) else (laws_FnLabels.j0 k t718 bt724.1 (bt724.2 != bt726.2))))) = some r := H
  have A4 := Aside0.mk A40
  clear A40
  replace H := Option.bind_eq_some_iff.mp H
  obtain ⟨⟨t724, t725⟩, A50, H⟩ := H
  replace H : ((spec_IsPlacing.f k t718 t719).bind fun bt726 => (if (t724 != bt726.1) = true then (laws_FnLabels.j0 k t718 t724 true) else (laws_FnLabels.j0 k t718 t724 (t725 != bt726.2)))) = some r := H
  have A5 := Aside0.mk A50
  clear A50
  replace H := Option.bind_eq_some_iff.mp H
  obtain ⟨⟨t726, t727⟩, A60, H⟩ := H
  replace H : (if (t724 != t726) = true then (laws_FnLabels.j0 k t718 t724 true) else (laws_FnLabels.j0 k t718 t724 (t725 != t727))) = some r := H
  have A6 := Aside0.mk A60
  clear A60
  have HC7 := Aside0.mk H
  clear H
  go_enter Tryd.func11, Tryd.ntmps11
  go_upto_region 6 with (first | ((with_reducible refine gate_callee (f := 43) rfl ?_); refine ga_ (some 28) Tryd.func43 #[.slice A0 l0.length c0] ?_; (with_reducible refine (laws_rBig.calls _ _ l0 false _ ?side1 ?side2 A2.out).mono ?_); (case side1 => exact kc_ HR0.out); (case side2 => exact HC0.out); rintro e w' ⟨rfl, ⟨nd, rfl⟩⟩; refine ⟨_, rfl, ?_⟩) | ((with_reducible refine gate_callee (f := 44) rfl ?_); refine ga_ (some 31) Tryd.func44 #[.slice A0 l0.length c0] ?_; (with_reducible refine (spec_DrawIsPlacing.calls k _ _ l0 t718 t719 _ ?side1 ?side2 A4.out).mono ?_); (case side1 => exact kc_ HR0.out); (case side2 => exact HC0.out); rintro e w8 ⟨v720, v722, rfl, ho0, ho1, hb⟩; refine ⟨_, rfl, ?_⟩; have HO721 := Aside0.mk (Kd.R_lower ho0 (below_size (lb0_ HB.out))); have HO723 := Aside0.mk (Kd.R_lower ho1 (below_size (lb0_ HB.out))); replace HB := Aside0.mk (below_step (lb0_ HB.out) hb); (try clear hb); (try clear hb2); (try clear hk); (try clear hi); (try clear ho0); (try clear ho1); obtain ⟨Ao9, co9, eo9⟩ := Kd.R_slice HO721.out; subst eo9; obtain ⟨Ao10, co10, eo10⟩ := Kd.R_slice HO723.out; subst eo10) | ((with_reducible refine gate_callee (f := 25) rfl ?_); refine ga_ (some 37) Tryd.func25 #[.slice Ao9 t718.length co9, .slice Ao10 t719.length co10] ?_; (with_reducible refine (impl_IsPlacing.calls k _ _ t718 _ _ t719 t724 t725 _ ?side1 ?side2 ?side3 ?side4 A5.out).mono ?_); (case side1 => exact kc_ (Kd.R_reads' HO721.out).2.2); (case side2 => exact (Kd.R_reads' HO721.out).2.1); (case side3 => exact kc_ (Kd.R_reads' HO723.out).2.2); (case side4 => exact (Kd.R_reads' HO723.out).2.1); rintro e w11 ⟨rfl, hb⟩; refine ⟨_, rfl, ?_⟩; replace HO721 := Aside0.mk (Kd.R_below (kr_ HO721.out) hb); replace HO723 := Aside0.mk (Kd.R_below (kr_ HO723.out) hb); replace HB := Aside0.mk (below_step (lb0_ HB.out) hb); (try clear hb); (try clear hb2); (try clear hk); (try clear hi)) | ((with_reducible refine gate_callee (f := 23) rfl ?_); refine ga_ (some 43) Tryd.func23 #[.slice Ao9 t718.length co9, .slice Ao10 t719.length co10] ?_; (with_reducible refine (spec_IsPlacing.calls k _ _ t718 _ _ t719 t726 t727 _ ?side1 ?side2 ?side3 ?side4 A6.out).mono ?_); (case side1 => exact kc_ (Kd.R_reads' HO721.out).2.2); (case side2 => exact (Kd.R_reads' HO721.out).2.1); (case side3 => exact kc_ (Kd.R_reads' HO723.out).2.2); (case side4 => exact (Kd.R_reads' HO723.out).2.1); rintro e w12 ⟨rfl, hb⟩; refine ⟨_, rfl, ?_⟩; replace HO721 := Aside0.mk (Kd.R_below (kr_ HO721.out) hb); replace HO723 := Aside0.mk (Kd.R_below (kr_ HO723.out) hb); replace HB := Aside0.mk (below_step (lb0_ HB.out) hb); (try clear hb); (try clear hb2); (try clear hk); (try clear hi)))
  (try simp only [Act.put, List.setIfInBounds_toArray, List.set_cons_zero, List.set_cons_succ])
  go_cut [53] (fun v53 wc => ∃ (kq : Nat) (x53_6 : Bool), v53 = .bool x53_6 ∧ Aside0 (laws_FnLabels.j0 kq t718 t724 x53_6 = some r) ∧ Aside0 (kq ≤ k) ∧ Aside0 (Kd.R k29 29 wc w.heap.size (fun _ => True) (.slice Ao9 t718.length co9) t718) ∧ Aside0 (Below w.heap.size w wc))
  case first =>
   as_aux_lemma =>
    have H := HC7.out
    clear HC7
    by_cases c13 : (t724 != t726) = true
    ·
     rw [if_pos c13] at H
     have c13b0 : (t724 != t726) = true := c13
     (try (have c13b1 : decide (t724 = t726) = false := by simpa using c13))
     (try (have c13b2 : (t724 == t726) = false := by simpa using c13))
     (try (have c13b3 : ¬ (t724 = t726) := by simpa using c13))
     clear c13
     (first | rw [c13b0] | (simp only [i64_w, i32_w]; rw [c13b0]) | skip)
     have H' := Aside0.mk H
     clear H
     go_wp2
     go_meet
     case rel => exact ⟨_, (true), (by first | rfl | (simp; done) | (simp [*]; done)), H', ⟨by first | omega | exact Nat.le_refl _⟩, ⟨kr_ HO721.out⟩, ⟨lb0_ HB.out⟩⟩
    ·
     rw [if_neg c13] at H
     have c13b0 : (t724 != t726) = false := by simpa using c13
     (try (have c13b1 : decide (t724 = t726) = true := by simpa using c13))
     (try (have c13b2 : (t724 == t726) = true := by simpa using c13))
     clear c13
     (first | rw [c13b0] | (simp only [i64_w, i32_w]; rw [c13b0]) | skip)
     have H' := Aside0.mk H
     clear H
     go_wp2
     go_meet
     case rel => exact ⟨_, ((t725 != t727)), (by first | rfl | (simp; done) | (simp [*]; done)), H', ⟨by first | omega | exact Nat.le_refl _⟩, ⟨kr_ HO721.out⟩, ⟨lb0_ HB.out⟩⟩
  case rest =>
   as_aux_lemma =>
    clear HC7
    try clear c1
    try clear c2
    try clear p2
    try clear c3
    try clear c4
    try clear c11
    try clear c13
    try clear c13b0
    try clear c13b1
    try clear c13b2
    obtain ⟨kq, x53_6, rfl, HA, HJ6, HO_3, HB⟩ := hcut
    cases kq with
    | zero => exact absurd HA.out (by simp [laws_FnLabels.j0])
    | succ kj6 =>
     have H := HA.out
     clear HA
     simp only [laws_FnLabels.j0] at H
     by_cases c14 : x53_6 = true
     ·
      subst c14
      have H1 : (none) = some r := by rw [if_pos rfl] at H; exact H
      clear H
      have H := H1
      clear H1
      exact absurd H (by simp)
     ·
      replace c14 := Bool.eq_false_iff.mpr c14
      subst c14
      have H1 : ((impl_FirstPlacing.f kj6 t718).bind fun bt728 => ((spec_FirstPlacing.f kj6 t718).bind fun bt732 => (if (bt728.2 != bt732.2) = true then (laws_FnLabels.j1 kj6 t718 t724 bt728.1 bt728.2 true) else ((laws_rInts.f kj6 bt728.1 bt732.1).bind fun t736 => (laws_FnLabels.j1 kj6 t718 t724 bt728.1 bt728.2 (!t736)))))) = some r := by rw [if_neg (show ¬ (false = true) by decide)] at H; exact H
      clear H
      have H := H1
      clear H1
      replace H := Option.bind_eq_some_iff.mp H
      obtain ⟨⟨t728, t729⟩, A150, H⟩ := H
      replace H : ((spec_FirstPlacing.f kj6 t718).bind fun bt732 => (if (t729 != bt732.2) = true then (laws_FnLabels.j1 kj6 t718 t724 t728 t729 true) else ((laws_rInts.f kj6 t728 bt732.1).bind fun t736 => (laws_FnLabels.j1 kj6 t718 t724 t728 t729 (!t736))))) = some r := H
      have A15 := Aside0.mk A150
      clear A150
      replace H := Option.bind_eq_some_iff.mp H
      obtain ⟨⟨t732, t733⟩, A160, H⟩ := H
      replace H : (if (t729 != t733) = true then (laws_FnLabels.j1 kj6 t718 t724 t728 t729 true) else ((laws_rInts.f kj6 t728 t732).bind fun t736 => (laws_FnLabels.j1 kj6 t718 t724 t728 t729 (!t736)))) = some r := H
      have A16 := Aside0.mk A160
      clear A160
      have HC17 := Aside0.mk H
      clear H
      go_upto_region 10 with (first | ((with_reducible refine gate_callee (f := 40) rfl ?_); refine ga_ (some 56) Tryd.func40 #[.slice Ao9 t718.length co9] ?_; (with_reducible refine (impl_FirstPlacing.calls kj6 _ _ t718 t728 t729 _ ?side1 ?side2 A15.out).mono ?_); (case side1 => exact kc_ (Kd.R_reads' HO_3.out).2.2); (case side2 => exact (Kd.R_reads' HO_3.out).2.1); rintro e w18 ⟨v730, rfl, ho0, hb⟩; refine ⟨_, rfl, ?_⟩; replace HO_3 := Aside0.mk (Kd.R_below (kr_ HO_3.out) hb); have HO731 := Aside0.mk (Kd.R_lower ho0 (below_size (lb0_ HB.out))); replace HB := Aside0.mk (below_step (lb0_ HB.out) hb); (try clear hb); (try clear hb2); (try clear hk); (try clear hi); (try clear ho0)) | ((with_reducible refine gate_callee (f := 39) rfl ?_); refine ga_ (some 61) Tryd.func39 #[.slice Ao9 t718.length co9] ?_; (with_reducible refine (spec_FirstPlacing.calls kj6 _ _ t718 t732 t733 _ ?side1 ?side2 A16.out).mono ?_); (case side1 => exact kc_ (Kd.R_reads' HO_3.out).2.2); (case side2 => exact (Kd.R_reads' HO_3.out).2.1); rintro e w19 ⟨v734, rfl, ho0, hb⟩; refine ⟨_, rfl, ?_⟩; replace HO_3 := Aside0.mk (Kd.R_below (kr_ HO_3.out) hb); have HO735 := Aside0.mk (Kd.R_lower (Kd.R_new' ho0 (Kd.R_lt (kr_ HO731.out))) (below_size (lb0_ HB.out))); replace HO731 := Aside0.mk (Kd.R_elder' (kr_ HO731.out) (Kd.R_base ho0) hb); replace HB := Aside0.mk (below_step (lb0_ HB.out) hb); (try clear hb); (try clear hb2); (try clear hk); (try clear hi); (try clear ho0)))
      (try simp only [Act.put, List.setIfInBounds_toArray, List.set_cons_zero, List.set_cons_succ])
      go_cut [72] (fun v72 wc => ∃ (kq : Nat) (x72_16 : Bool), v72 = .bool x72_16 ∧ Aside0 (laws_FnLabels.j1 kq t718 t724 t728 t729 x72_16 = some r) ∧ Aside0 (kq ≤ kj6) ∧ Aside0 (Kd.R k29 29 wc w.heap.size (fun _ => True) (.slice Ao9 t718.length co9) t718) ∧ Aside0 (Kd.R (Kd.int .i64) 3 wc w.heap.size (fun _ => True) v730 t728) ∧ Aside0 (Below w.heap.size w wc))
      case first =>
       as_aux_lemma =>
        have H := HC17.out; clear HC17
        by_cases c20 : (t729 != t733) = true
        ·
         rw [if_pos c20] at H
         have c20b0 : (t729 != t733) = true := c20; (try (have c20b1 : decide (t729 = t733) = false := by simpa using c20)); (try (have c20b2 : (t729 == t733) = false := by simpa using c20)); (try (have c20b3 : ¬ (t729 = t733) := by simpa using c20)); clear c20
         (first | rw [c20b0] | (simp only [i64_w, i32_w]; rw [c20b0]) | skip)
         have H' := Aside0.mk H; clear H
         go_wp2
         go_meet
         case rel => exact ⟨_, (true), (by first | rfl | (simp; done) | (simp [*]; done)), H', ⟨by have := HJ6.out; first | omega | exact Nat.le_refl _⟩, ⟨kr_ HO_3.out⟩, ⟨krm_ HO731.out (fun _ hk => trivial)⟩, ⟨lb0_ HB.out⟩⟩
        ·
         rw [if_neg c20] at H
         have c20b0 : (t729 != t733) = false := by simpa using c20
         (try (have c20b1 : decide (t729 = t733) = true := by simpa using c20)); (try (have c20b2 : (t729 == t733) = true := by simpa using c20)); clear c20
         (first | rw [c20b0] | (simp only [i64_w, i32_w]; rw [c20b0]) | skip)
         replace H := Option.bind_eq_some_iff.mp H; obtain ⟨t736, A210, H⟩ := H; replace H : (laws_FnLabels.j1 kj6 t718 t724 t728 t729 (!t736)) = some r := H; have A21 := Aside0.mk A210; clear A210; have H' := Aside0.mk H; clear H; obtain ⟨Ao22, co22, eo22⟩ := Kd.R_slice HO731.out; subst eo22; obtain ⟨Ao23, co23, eo23⟩ := Kd.R_slice HO735.out; subst eo23
         go_wp2_with (first | (go_at_call 45; (with_reducible refine (laws_rInts.calls kj6 _ _ t728 _ _ t732 t736 _ ?side1 ?side2 ?side3 ?side4 A21.out).mono ?_); (case side1 => exact kc_ (Kd.R_reads' HO731.out).2.2); (case side2 => exact (Kd.R_reads' HO731.out).2.1); (case side3 => exact kc_ (Kd.R_reads' HO735.out).2.2); (case side4 => exact (Kd.R_reads' HO735.out).2.1); rintro e w' ⟨rfl, ⟨nd, rfl⟩⟩))
         go_meet
         case rel => exact ⟨_, (!t736), (by first | rfl | (simp; done) | (simp [*]; done)), H', ⟨by have := HJ6.out; first | omega | exact Nat.le_refl _⟩, ⟨kr_ HO_3.out⟩, ⟨krm_ HO731.out (fun _ hk => trivial)⟩, ⟨lb0_ HB.out⟩⟩
      case rest =>
       as_aux_lemma =>
        clear HC17
        try clear c1
        try clear c2
        try clear p2
        try clear c3
        try clear c4
        try clear c11
        try clear c13
        try clear c13b0
        try clear c13b1
        try clear c13b2
        try clear c14
        try clear c20
        try clear c20b0
        try clear c20b1
        try clear c20b2
        try clear c23
        try clear p2
        obtain ⟨kq, x72_16, rfl, HA, HJ16, HO_3, HO_9, HB⟩ := hcut
        cases kq with
        | zero => exact absurd HA.out (by simp [laws_FnLabels.j1])
        | succ kj16 =>
         have H := HA.out; clear HA; simp only [laws_FnLabels.j1] at H
         by_cases c24 : x72_16 = true
         ·
          subst c24
          have H1 : (none) = some r := by rw [if_pos rfl] at H; exact H
          clear H; have H := H1; clear H1; exact absurd H (by simp)
         ·
          replace c24 := Bool.eq_false_iff.mpr c24; subst c24
          have H1 : ((impl_CountPlacings.f kj16 t718).bind fun bt737 => ((spec_CountPlacings.f kj16 t718).bind fun bt739 => (if bt737.1 = bt739.1 then (if (bt737.2 != bt739.2) = true then (laws_FnLabels.j2 kj16 t718 t724 t728 t729 true) else ((impl_AreLabels.f t718).bind fun t741 => (if (bt737.2 != t741) = true then (laws_FnLabels.j2 kj16 t718 t724 t728 t729 true) else (if bt737.2 = true then (laws_FnLabels.j2 kj16 t718 t724 t728 t729 (t729 != (decide (bt737.1 > 0)))) else (laws_FnLabels.j2 kj16 t718 t724 t728 t729 false))))) else (laws_FnLabels.j2 kj16 t718 t724 t728 t729 true)))) = some r := by rw [if_neg (show ¬ (false = true) by decide)] at H; exact H
          clear H; have H := H1; clear H1; replace H := Option.bind_eq_some_iff.mp H; obtain ⟨⟨t737, t738⟩, A250, H⟩ := H; replace H : ((spec_CountPlacings.f kj16 t718).bind fun bt739 => (if t737 = bt739.1 then (if (t738 != bt739.2) = true then (laws_FnLabels.j2 kj16 t718 t724 t728 t729 true) else ((impl_AreLabels.f t718).bind fun t741 => (if (t738 != t741) = true then (laws_FnLabels.j2 kj16 t718 t724 t728 t729 true) else (if t738 = true then (laws_FnLabels.j2 kj16 t718 t724 t728 t729 (t729 != (decide (t737 > 0)))) else (laws_FnLabels.j2 kj16 t718 t724 t728 t729 false))))) else (laws_FnLabels.j2 kj16 t718 t724 t728 t729 true))) = some r := H; have A25 := Aside0.mk A250; clear A250; replace H := Option.bind_eq_some_iff.mp H; obtain ⟨⟨t739, t740⟩, A260, H⟩ := H; replace H : (if t737 = t739 then (if (t738 != t740) = true then (laws_FnLabels.j2 kj16 t718 t724 t728 t729 true) else ((impl_AreLabels.f t718).bind fun t741 => (if (t738 != t741) = true then (laws_FnLabels.j2 kj16 t718 t724 t728 t729 true) else (if t738 = true then (laws_FnLabels.j2 kj16 t718 t724 t728 t729 (t729 != (decide (t737 > 0)))) else (laws_FnLabels.j2 kj16 t718 t724 t728 t729 false))))) else (laws_FnLabels.j2 kj16 t718 t724 t728 t729 true)) = some r := H; have A26 := Aside0.mk A260; clear A260; have HC27 := Aside0.mk H; clear H
          go_upto_region 14 with (first | ((with_reducible refine gate_callee (f := 38) rfl ?_); refine ga_ (some 75) Tryd.func38 #[.slice Ao9 t718.length co9] ?_; (with_reducible refine (impl_CountPlacings.calls kj16 _ _ t718 t737 t738 _ ?side1 ?side2 A25.out).mono ?_); (case side1 => exact kc_ (Kd.R_reads' HO_3.out).2.2); (case side2 => exact (Kd.R_reads' HO_3.out).2.1); rintro e w28 ⟨rfl, hb⟩; refine ⟨_, rfl, ?_⟩; replace HO_3 := Aside0.mk (Kd.R_below (kr_ HO_3.out) hb); replace HO_9 := Aside0.mk (Kd.R_below (kr_ HO_9.out) hb); replace HB := Aside0.mk (below_step (lb0_ HB.out) hb); (try clear hb); (try clear hb2); (try clear hk); (try clear hi)) | ((with_reducible refine gate_callee (f := 37) rfl ?_); refine ga_ (some 80) Tryd.func37 #[.slice Ao9 t718.length co9] ?_; (with_reducible refine (spec_CountPlacings.calls kj16 _ _ t718 t739 t740 _ ?side1 ?side2 A26.out).mono ?_); (case side1 => exact kc_ (Kd.R_reads' HO_3.out).2.2); (case side2 => exact (Kd.R_reads' HO_3.out).2.1); rintro e w29 ⟨rfl, hb⟩; refine ⟨_, rfl, ?_⟩; replace HO_3 := Aside0.mk (Kd.R_below (kr_ HO_3.out) hb); replace HO_9 := Aside0.mk (Kd.R_below (kr_ HO_9.out) hb); replace HB := Aside0.mk (below_step (lb0_ HB.out) hb); (try clear hb); (try clear hb2); (try clear hk); (try clear hi)))
          (try simp only [Act.put, List.setIfInBounds_toArray, List.set_cons_zero, List.set_cons_succ])
          go_cut [105] (fun v105 wc => ∃ (kq : Nat) (x105_26 : Bool), v105 = .bool x105_26 ∧ Aside0 (laws_FnLabels.j2 kq t718 t724 t728 t729 x105_26 = some r) ∧ Aside0 (kq ≤ kj16) ∧ Aside0 (Kd.R k29 29 wc w.heap.size (fun _ => True) (.slice Ao9 t718.length co9) t718) ∧ Aside0 (Kd.R (Kd.int .i64) 3 wc w.heap.size (fun _ => True) v730 t728) ∧ Aside0 (Below w.heap.size w wc))
          case first =>
           as_aux_lemma =>
            have H := HC27.out; clear HC27
            by_cases c30 : t737 = t739
            ·
             rw [if_pos c30] at H
             have c30b0 : (t737 == t739) = true := beq_iff_eq.mpr c30; have c30b1 : (t737 != t739) = false := bne_eq_false_iff_eq.mpr c30; clear c30
             (first | rw [c30b0] | (simp only [i64_w, i32_w]; rw [c30b0]) | skip)
             by_cases c31 : (t738 != t740) = true
             ·
              rw [if_pos c31] at H
              have c31b0 : (t738 != t740) = true := c31; (try (have c31b1 : decide (t738 = t740) = false := by simpa using c31)); (try (have c31b2 : (t738 == t740) = false := by simpa using c31)); (try (have c31b3 : ¬ (t738 = t740) := by simpa using c31)); clear c31; have H' := Aside0.mk H; clear H
              go_wp2
              go_meet
              case rel => exact ⟨_, (true), (by first | rfl | (simp; done) | (simp [*]; done)), H', ⟨by have := HJ6.out; have := HJ16.out; first | omega | exact Nat.le_refl _⟩, ⟨kr_ HO_3.out⟩, ⟨kr_ HO_9.out⟩, ⟨lb0_ HB.out⟩⟩
             ·
              rw [if_neg c31] at H
              have c31b0 : (t738 != t740) = false := by simpa using c31
              (try (have c31b1 : decide (t738 = t740) = true := by simpa using c31)); (try (have c31b2 : (t738 == t740) = true := by simpa using c31)); clear c31; replace H := Option.bind_eq_some_iff.mp H; obtain ⟨t741, A320, H⟩ := H; replace H : (if (t738 != t741) = true then (laws_FnLabels.j2 kj16 t718 t724 t728 t729 true) else (if t738 = true then (laws_FnLabels.j2 kj16 t718 t724 t728 t729 (t729 != (decide (t737 > 0)))) else (laws_FnLabels.j2 kj16 t718 t724 t728 t729 false))) = some r := H; have A32 := Aside0.mk A320; clear A320
              by_cases c33 : (t738 != t741) = true
              ·
               rw [if_pos c33] at H
               have c33b0 : (t738 != t741) = true := c33; (try (have c33b1 : decide (t738 = t741) = false := by simpa using c33)); (try (have c33b2 : (t738 == t741) = false := by simpa using c33)); (try (have c33b3 : ¬ (t738 = t741) := by simpa using c33)); clear c33; have H' := Aside0.mk H; clear H
               go_wp2_with (first | (go_at_call 21; (with_reducible refine (impl_AreLabels.calls _ _ t718 t741 _ ?side1 ?side2 A32.out).mono ?_); (case side1 => exact kc_ (Kd.R_reads' HO_3.out).2.2); (case side2 => exact (Kd.R_reads' HO_3.out).2.1); rintro e w34 ⟨rfl, hb⟩; replace HO_3 := Aside0.mk (Kd.R_below (kr_ HO_3.out) hb); replace HO_9 := Aside0.mk (Kd.R_below (kr_ HO_9.out) hb); replace HB := Aside0.mk (below_step (lb0_ HB.out) hb); (try clear hb); (try clear hb2); (try clear hk); (try clear hi)))
               go_meet
               case rel => exact ⟨_, (true), (by first | rfl | (simp; done) | (simp [*]; done)), H', ⟨by have := HJ6.out; have := HJ16.out; first | omega | exact Nat.le_refl _⟩, ⟨kr_ HO_3.out⟩, ⟨kr_ HO_9.out⟩, ⟨lb0_ HB.out⟩⟩
              ·
               rw [if_neg c33] at H
               have c33b0 : (t738 != t741) = false := by simpa using c33
               (try (have c33b1 : decide (t738 = t741) = true := by simpa using c33)); (try (have c33b2 : (t738 == t741) = true := by simpa using c33)); clear c33
               by_cases c35 : t738 = true
               ·
                subst c35
                have H1 : (laws_FnLabels.j2 kj16 t718 t724 t728 t729 (t729 != (decide (t737 > 0)))) = some r := by rw [if_pos rfl] at H; exact H
                clear H; have H := H1; clear H1; have H' := Aside0.mk H; clear H
                go_wp2_with (first | (go_at_call 21; (with_reducible refine (impl_AreLabels.calls _ _ t718 t741 _ ?side1 ?side2 A32.out).mono ?_); (case side1 => exact kc_ (Kd.R_reads' HO_3.out).2.2); (case side2 => exact (Kd.R_reads' HO_3.out).2.1); rintro e w36 ⟨rfl, hb⟩; replace HO_3 := Aside0.mk (Kd.R_below (kr_ HO_3.out) hb); replace HO_9 := Aside0.mk (Kd.R_below (kr_ HO_9.out) hb); replace HB := Aside0.mk (below_step (lb0_ HB.out) hb); (try clear hb); (try clear hb2); (try clear hk); (try clear hi)))
                go_meet
                case rel => exact ⟨_, ((t729 != (decide (t737 > 0)))), (by first | rfl | (simp; done) | (simp [*]; done)), H', ⟨by have := HJ6.out; have := HJ16.out; first | omega | exact Nat.le_refl _⟩, ⟨kr_ HO_3.out⟩, ⟨kr_ HO_9.out⟩, ⟨lb0_ HB.out⟩⟩
               ·
                replace c35 := Bool.eq_false_iff.mpr c35; subst c35
                have H1 : (laws_FnLabels.j2 kj16 t718 t724 t728 t729 false) = some r := by rw [if_neg (show ¬ (false = true) by decide)] at H; exact H
                clear H; have H := H1; clear H1; have H' := Aside0.mk H; clear H
                go_wp2_with (first | (go_at_call 21; (with_reducible refine (impl_AreLabels.calls _ _ t718 t741 _ ?side1 ?side2 A32.out).mono ?_); (case side1 => exact kc_ (Kd.R_reads' HO_3.out).2.2); (case side2 => exact (Kd.R_reads' HO_3.out).2.1); rintro e w37 ⟨rfl, hb⟩; replace HO_3 := Aside0.mk (Kd.R_below (kr_ HO_3.out) hb); replace HO_9 := Aside0.mk (Kd.R_below (kr_ HO_9.out) hb); replace HB := Aside0.mk (below_step (lb0_ HB.out) hb); (try clear hb); (try clear hb2); (try clear hk); (try clear hi)))
                go_meet
                case rel => exact ⟨_, (false), (by first | rfl | (simp; done) | (simp [*]; done)), H', ⟨by have := HJ6.out; have := HJ16.out; first | omega | exact Nat.le_refl _⟩, ⟨kr_ HO_3.out⟩, ⟨kr_ HO_9.out⟩, ⟨lb0_ HB.out⟩⟩
            ·
             rw [if_neg c30] at H
             have c30b0 : (t737 == t739) = false := beq_eq_false_iff_ne.mpr c30; have c30b1 : (t737 != t739) = true := bne_iff_ne.mpr c30
             (first | rw [c30b0] | (simp only [i64_w, i32_w]; rw [c30b0]) | skip)
             have H' := Aside0.mk H; clear H
             go_wp2
             go_meet
             case rel => exact ⟨_, (true), (by first | rfl | (simp; done) | (simp [*]; done)), H', ⟨by have := HJ6.out; have := HJ16.out; first | omega | exact Nat.le_refl _⟩, ⟨kr_ HO_3.out⟩, ⟨kr_ HO_9.out⟩, ⟨lb0_ HB.out⟩⟩
          case rest =>
           as_aux_lemma =>
            clear HC27
            try clear c1
            try clear c2
            try clear p2
            try clear c3
            try clear c4
            try clear c11
            try clear c13
            try clear c13b0
            try clear c13b1
            try clear c13b2
            try clear c14
            try clear c20
            try clear c20b0
            try clear c20b1
            try clear c20b2
            try clear c23
            try clear c24
            try clear c25
            try clear c30
            try clear c30b0
            try clear c30b1
            try clear c31
            try clear c31b0
            try clear c31b1
            try clear c31b2
            try clear c33
            try clear c33b0
            try clear c33b1
            try clear c33b2
            try clear c35
            try clear c37
            try clear p2
            obtain ⟨kq, x105_26, rfl, HA, HJ26, HO_3, HO_9, HB⟩ := hcut
            cases kq with
            | zero => exact absurd HA.out (by simp [laws_FnLabels.j2])
            | succ kj26 =>
             have H := HA.out; clear HA; simp only [laws_FnLabels.j2] at H
             by_cases c38 : x105_26 = true
             ·
              subst c38
              have H1 : (none) = some r := by rw [if_pos rfl] at H; exact H
              clear H; have H := H1; clear H1; exact absurd H (by simp)
             ·
              replace c38 := Bool.eq_false_iff.mpr c38; subst c38
              have H1 : (if t729 = true then ((impl_IsPlacing.f kj26 t718 t728).bind fun bt742 => (if bt742.2 = true then (if bt742.1 = true then (laws_FnLabels.j3 kj26 t718 t724 t728 t729) else (none)) else (none))) else (laws_FnLabels.j3 kj26 t718 t724 t728 t729)) = some r := by rw [if_neg (show ¬ (false = true) by decide)] at H; exact H
              clear H; have H := H1; clear H1; have HC39 := Aside0.mk H; clear H
              go_upto_if 106 with (fail)
              go_cut [] (fun wc => ∃ (kq : Nat), Aside0 (laws_FnLabels.j3 kq t718 t724 t728 t729 = some r) ∧ Aside0 (kq ≤ kj26) ∧ Aside0 (Kd.R k29 29 wc w.heap.size (fun _ => True) (.slice Ao9 t718.length co9) t718) ∧ Aside0 (Kd.R (Kd.int .i64) 3 wc w.heap.size (fun _ => True) v730 t728) ∧ Aside0 (Below w.heap.size w wc))
              case first =>
               as_aux_lemma =>
                have H := HC39.out; clear HC39
                by_cases c40 : t729 = true
                ·
                 subst c40
                 have H1 : ((impl_IsPlacing.f kj26 t718 t728).bind fun bt742 => (if bt742.2 = true then (if bt742.1 = true then (laws_FnLabels.j3 kj26 t718 t724 t728 true) else (none)) else (none))) = some r := by rw [if_pos rfl] at H; exact H
                 clear H; have H := H1; clear H1; replace H := Option.bind_eq_some_iff.mp H; obtain ⟨⟨t742, t743⟩, A410, H⟩ := H; replace H : (if t743 = true then (if t742 = true then (laws_FnLabels.j3 kj26 t718 t724 t728 true) else (none)) else (none)) = some r := H; have A41 := Aside0.mk A410; clear A410
                 by_cases c42 : t743 = true
                 ·
                  subst c42
                  have H1 : (if t742 = true then (laws_FnLabels.j3 kj26 t718 t724 t728 true) else (none)) = some r := by rw [if_pos rfl] at H; exact H
                  clear H; have H := H1; clear H1
                  by_cases c43 : t742 = true
                  ·
                   subst c43
                   have H1 : (laws_FnLabels.j3 kj26 t718 t724 t728 true) = some r := by rw [if_pos rfl] at H; exact H
                   clear H; have H := H1; clear H1; have H' := Aside0.mk H; clear H; obtain ⟨Ao44, co44, eo44⟩ := Kd.R_slice HO_9.out; subst eo44
                   go_wp2_with (first | ((with_reducible refine gate_callee (f := 25) rfl ?_); refine ga_ (some 110) Tryd.func25 #[.slice Ao9 t718.length co9, .slice Ao44 t728.length co44] ?_; (with_reducible refine (impl_IsPlacing.calls kj26 _ _ t718 _ _ t728 true true _ ?side1 ?side2 ?side3 ?side4 A41.out).mono ?_); (case side1 => exact kc_ (Kd.R_reads' HO_3.out).2.2); (case side2 => exact (Kd.R_reads' HO_3.out).2.1); (case side3 => exact kc_ (Kd.R_reads' HO_9.out).2.2); (case side4 => exact (Kd.R_reads' HO_9.out).2.1); rintro e w45 ⟨rfl, hb⟩; refine ⟨_, rfl, ?_⟩; replace HO_3 := Aside0.mk (Kd.R_below (kr_ HO_3.out) hb); replace HO_9 := Aside0.mk (Kd.R_below (kr_ HO_9.out) hb); replace HB := Aside0.mk (below_step (lb0_ HB.out) hb); (try clear hb); (try clear hb2); (try clear hk); (try clear hi)))
                   go_meet
                   case rel => exact ⟨_, H', ⟨by have := HJ6.out; have := HJ16.out; have := HJ26.out; first | omega | exact Nat.le_refl _⟩, ⟨kr_ HO_3.out⟩, ⟨kr_ HO_9.out⟩, ⟨lb0_ HB.out⟩⟩
                  ·
                   replace c43 := Bool.eq_false_iff.mpr c43; subst c43
                   have H1 : (none) = some r := by rw [if_neg (show ¬ (false = true) by decide)] at H; exact H
                   clear H; have H := H1; clear H1; exact absurd H (by simp)
                 ·
                  replace c42 := Bool.eq_false_iff.mpr c42; subst c42
                  have H1 : (none) = some r := by rw [if_neg (show ¬ (false = true) by decide)] at H; exact H
                  clear H; have H := H1; clear H1; exact absurd H (by simp)
                ·
                 replace c40 := Bool.eq_false_iff.mpr c40; subst c40
                 have H1 : (laws_FnLabels.j3 kj26 t718 t724 t728 false) = some r := by rw [if_neg (show ¬ (false = true) by decide)] at H; exact H
                 clear H; have H := H1; clear H1; have H' := Aside0.mk H; clear H
                 go_wp2
                 go_meet
                 case rel => exact ⟨_, H', ⟨by have := HJ6.out; have := HJ16.out; have := HJ26.out; first | omega | exact Nat.le_refl _⟩, ⟨kr_ HO_3.out⟩, ⟨kr_ HO_9.out⟩, ⟨lb0_ HB.out⟩⟩
              case rest =>
               as_aux_lemma =>
                clear HC39
                try clear c1
                try clear c2
                try clear p2
                try clear c3
                try clear c4
                try clear c11
                try clear c13
                try clear c13b0
                try clear c13b1
                try clear c13b2
                try clear c14
                try clear c20
                try clear c20b0
                try clear c20b1
                try clear c20b2
                try clear c23
                try clear c24
                try clear c25
                try clear c30
                try clear c30b0
                try clear c30b1
                try clear c31
                try clear c31b0
                try clear c31b1
                try clear c31b2
                try clear c33
                try clear c33b0
                try clear c33b1
                try clear c33b2
                try clear c35
                try clear c37
                try clear c38
                try clear c39
                try clear c40
                try clear c42
                try clear c43
                try clear c44
                try clear p2
                obtain ⟨kq, HA, HJ38, HO_3, HO_9, HB⟩ := hcut
                cases kq with
                | zero => exact absurd HA.out (by simp [laws_FnLabels.j3])
                | succ kj38 =>
                 have H := HA.out; clear HA; simp only [laws_FnLabels.j3] at H; have HC46 := Aside0.mk H; clear H
                 go_upto_region 20 with (fail)
                 go_cut [123] (fun v123 wc => ∃ (kq : Nat) (x123_45 : Bool), v123 = .bool x123_45 ∧ Aside0 (laws_FnLabels.j4 kq t718 t728 t729 x123_45 = some r) ∧ Aside0 (kq ≤ kj38) ∧ Aside0 (Kd.R k29 29 wc w.heap.size (fun _ => True) (.slice Ao9 t718.length co9) t718) ∧ Aside0 (Kd.R (Kd.int .i64) 3 wc w.heap.size (fun _ => True) v730 t728) ∧ Aside0 (Below w.heap.size w wc))
                 case first =>
                  as_aux_lemma =>
                   have H := HC46.out; clear HC46
                   by_cases c47 : t724 = true
                   ·
                    subst c47
                    have H1 : (laws_FnLabels.j4 kj38 t718 t728 t729 (!t729)) = some r := by rw [if_pos rfl] at H; exact H
                    clear H; have H := H1; clear H1; have H' := Aside0.mk H; clear H
                    go_wp2
                    go_meet
                    case rel => exact ⟨_, (!t729), (by first | rfl | (simp; done) | (simp [*]; done)), H', ⟨by have := HJ6.out; have := HJ16.out; have := HJ26.out; have := HJ38.out; first | omega | exact Nat.le_refl _⟩, ⟨kr_ HO_3.out⟩, ⟨kr_ HO_9.out⟩, ⟨lb0_ HB.out⟩⟩
                   ·
                    replace c47 := Bool.eq_false_iff.mpr c47; subst c47
                    have H1 : (laws_FnLabels.j4 kj38 t718 t728 t729 false) = some r := by rw [if_neg (show ¬ (false = true) by decide)] at H; exact H
                    clear H; have H := H1; clear H1; have H' := Aside0.mk H; clear H
                    go_wp2
                    go_meet
                    case rel => exact ⟨_, (false), (by first | rfl | (simp; done) | (simp [*]; done)), H', ⟨by have := HJ6.out; have := HJ16.out; have := HJ26.out; have := HJ38.out; first | omega | exact Nat.le_refl _⟩, ⟨kr_ HO_3.out⟩, ⟨kr_ HO_9.out⟩, ⟨lb0_ HB.out⟩⟩
                 case rest =>
                  as_aux_lemma =>
                   clear HC46
                   try clear c1
                   try clear c2
                   try clear p2
                   try clear c3
                   try clear c4
                   try clear c11
                   try clear c13
                   try clear c13b0
                   try clear c13b1
                   try clear c13b2
                   try clear c14
                   try clear c20
                   try clear c20b0
                   try clear c20b1
                   try clear c20b2
                   try clear c23
                   try clear c24
                   try clear c25
                   try clear c30
                   try clear c30b0
                   try clear c30b1
                   try clear c31
                   try clear c31b0
                   try clear c31b1
                   try clear c31b2
                   try clear c33
                   try clear c33b0
                   try clear c33b1
                   try clear c33b2
                   try clear c35
                   try clear c37
                   try clear c38
                   try clear c39
                   try clear c40
                   try clear c42
                   try clear c43
                   try clear c44
                   try clear c47
                   try clear p2
                   obtain ⟨kq, x123_45, rfl, HA, HJ45, HO_3, HO_9, HB⟩ := hcut
                   cases kq with
                   | zero => exact absurd HA.out (by simp [laws_FnLabels.j4])
                   | succ kj45 =>
                    have H := HA.out; clear HA; simp only [laws_FnLabels.j4] at H
                    by_cases c48 : x123_45 = true
                    ·
                     subst c48
                     have H1 : (none) = some r := by rw [if_pos rfl] at H; exact H
                     clear H; have H := H1; clear H1; exact absurd H (by simp)
                    ·
                     replace c48 := Bool.eq_false_iff.mpr c48; subst c48
                     have H1 : ((impl_StuckLabels.f kj45 t718).bind fun bt744 => ((spec_StuckLabels.f kj45 t718).bind fun bt748 => (if (bt744.2 != bt748.2) = true then (laws_FnLabels.j5 kj45 t718 t728 t729 bt744.1 bt744.2 true) else ((laws_rTexts.f kj45 bt744.1 bt748.1).bind fun t752 => (if t752 = true then (if t729 = true then (laws_FnLabels.j5 kj45 t718 t728 t729 bt744.1 bt744.2 (decide ((bt744.1.length : Int) > 0))) else (laws_FnLabels.j5 kj45 t718 t728 t729 bt744.1 bt744.2 false)) else (laws_FnLabels.j5 kj45 t718 t728 t729 bt744.1 bt744.2 true)))))) = some r := by rw [if_neg (show ¬ (false = true) by decide)] at H; exact H
                     clear H; have H := H1; clear H1; replace H := Option.bind_eq_some_iff.mp H; obtain ⟨⟨t744, t745⟩, A490, H⟩ := H; replace H : ((spec_StuckLabels.f kj45 t718).bind fun bt748 => (if (t745 != bt748.2) = true then (laws_FnLabels.j5 kj45 t718 t728 t729 t744 t745 true) else ((laws_rTexts.f kj45 t744 bt748.1).bind fun t752 => (if t752 = true then (if t729 = true then (laws_FnLabels.j5 kj45 t718 t728 t729 t744 t745 (decide ((t744.length : Int) > 0))) else (laws_FnLabels.j5 kj45 t718 t728 t729 t744 t745 false)) else (laws_FnLabels.j5 kj45 t718 t728 t729 t744 t745 true))))) = some r := H; have A49 := Aside0.mk A490; clear A490; replace H := Option.bind_eq_some_iff.mp H; obtain ⟨⟨t748, t749⟩, A500, H⟩ := H; replace H : (if (t745 != t749) = true then (laws_FnLabels.j5 kj45 t718 t728 t729 t744 t745 true) else ((laws_rTexts.f kj45 t744 t748).bind fun t752 => (if t752 = true then (if t729 = true then (laws_FnLabels.j5 kj45 t718 t728 t729 t744 t745 (decide ((t744.length : Int) > 0))) else (laws_FnLabels.j5 kj45 t718 t728 t729 t744 t745 false)) else (laws_FnLabels.j5 kj45 t718 t728 t729 t744 t745 true)))) = some r := H; have A50 := Aside0.mk A500; clear A500; have HC51 := Aside0.mk H; clear H
                     go_upto_region 24 with (first | ((with_reducible refine gate_callee (f := 33) rfl ?_); refine ga_ (some 126) Tryd.func33 #[.slice Ao9 t718.length co9] ?_; (with_reducible refine (impl_StuckLabels.calls kj45 _ _ t718 t744 t745 _ ?side1 ?side2 A49.out).mono ?_); (case side1 => exact kc_ (Kd.R_reads' HO_3.out).2.2); (case side2 => exact (Kd.R_reads' HO_3.out).2.1); rintro e w52 ⟨v746, rfl, ho0, hb⟩; refine ⟨_, rfl, ?_⟩; replace HO_3 := Aside0.mk (Kd.R_below (kr_ HO_3.out) hb); replace HO_9 := Aside0.mk (Kd.R_below (kr_ HO_9.out) hb); have HO747 := Aside0.mk (Kd.R_lower ho0 (below_size (lb0_ HB.out))); replace HB := Aside0.mk (below_step (lb0_ HB.out) hb); (try clear hb); (try clear hb2); (try clear hk); (try clear hi); (try clear ho0)) | ((with_reducible refine gate_callee (f := 32) rfl ?_); refine ga_ (some 131) Tryd.func32 #[.slice Ao9 t718.length co9] ?_; (with_reducible refine (spec_StuckLabels.calls kj45 _ _ t718 t748 t749 _ ?side1 ?side2 A50.out).mono ?_); (case side1 => exact kc_ (Kd.R_reads' HO_3.out).2.2); (case side2 => exact (Kd.R_reads' HO_3.out).2.1); rintro e w53 ⟨v750, rfl, ho0, hb⟩; refine ⟨_, rfl, ?_⟩; replace HO_3 := Aside0.mk (Kd.R_below (kr_ HO_3.out) hb); replace HO_9 := Aside0.mk (Kd.R_below (kr_ HO_9.out) hb); have HO751 := Aside0.mk (Kd.R_lower (Kd.R_new' ho0 (Kd.R_lt (kr_ HO747.out))) (below_size (lb0_ HB.out))); replace HO747 := Aside0.mk (Kd.R_elder' (kr_ HO747.out) (Kd.R_base ho0) hb); replace HB := Aside0.mk (below_step (lb0_ HB.out) hb); (try clear hb); (try clear hb2); (try clear hk); (try clear hi); (try clear ho0)))
                     (try simp only [Act.put, List.setIfInBounds_toArray, List.set_cons_zero, List.set_cons_succ])
                     go_cut [150] (fun v150 wc => ∃ (kq : Nat) (x150_50 : Bool), v150 = .bool x150_50 ∧ Aside0 (laws_FnLabels.j5 kq t718 t728 t729 t744 t745 x150_50 = some r) ∧ Aside0 (kq ≤ kj45) ∧ Aside0 (Kd.R k29 29 wc w.heap.size (fun _ => True) (.slice Ao9 t718.length co9) t718) ∧ Aside0 (Kd.R (Kd.int .i64) 3 wc w.heap.size (fun _ => True) v730 t728) ∧ Aside0 (Kd.R Kd.string 9 wc w.heap.size (fun _ => True) v746 t744) ∧ Aside0 (Below w.heap.size w wc))
                     case first =>
                      as_aux_lemma =>
                       have H := HC51.out; clear HC51
                       by_cases c54 : (t745 != t749) = true
                       ·
                        rw [if_pos c54] at H
                        have c54b0 : (t745 != t749) = true := c54; (try (have c54b1 : decide (t745 = t749) = false := by simpa using c54)); (try (have c54b2 : (t745 == t749) = false := by simpa using c54)); (try (have c54b3 : ¬ (t745 = t749) := by simpa using c54)); clear c54
                        (first | rw [c54b0] | (simp only [i64_w, i32_w]; rw [c54b0]) | skip)
                        have H' := Aside0.mk H; clear H
                        go_wp2
                        go_meet
                        case rel => exact ⟨_, (true), (by first | rfl | (simp; done) | (simp [*]; done)), H', ⟨by have := HJ6.out; have := HJ16.out; have := HJ26.out; have := HJ38.out; have := HJ45.out; first | omega | exact Nat.le_refl _⟩, ⟨kr_ HO_3.out⟩, ⟨kr_ HO_9.out⟩, ⟨krm_ HO747.out (fun _ hk => trivial)⟩, ⟨lb0_ HB.out⟩⟩
                       ·
                        rw [if_neg c54] at H
                        have c54b0 : (t745 != t749) = false := by simpa using c54
                        (try (have c54b1 : decide (t745 = t749) = true := by simpa using c54)); (try (have c54b2 : (t745 == t749) = true := by simpa using c54)); clear c54
                        (first | rw [c54b0] | (simp only [i64_w, i32_w]; rw [c54b0]) | skip)
                        replace H := Option.bind_eq_some_iff.mp H; obtain ⟨t752, A550, H⟩ := H; replace H : (if t752 = true then (if t729 = true then (laws_FnLabels.j5 kj45 t718 t728 t729 t744 t745 (decide ((t744.length : Int) > 0))) else (laws_FnLabels.j5 kj45 t718 t728 t729 t744 t745 false)) else (laws_FnLabels.j5 kj45 t718 t728 t729 t744 t745 true)) = some r := H; have A55 := Aside0.mk A550; clear A550
                        by_cases c56 : t752 = true
                        ·
                         subst c56
                         have H1 : (if t729 = true then (laws_FnLabels.j5 kj45 t718 t728 t729 t744 t745 (decide ((t744.length : Int) > 0))) else (laws_FnLabels.j5 kj45 t718 t728 t729 t744 t745 false)) = some r := by rw [if_pos rfl] at H; exact H
                         clear H; have H := H1; clear H1
                         by_cases c57 : t729 = true
                         ·
                          subst c57
                          have H1 : (laws_FnLabels.j5 kj45 t718 t728 true t744 t745 (decide ((t744.length : Int) > 0))) = some r := by rw [if_pos rfl] at H; exact H
                          clear H; have H := H1; clear H1; have H' := Aside0.mk H; clear H; obtain ⟨Ao58, co58, eo58⟩ := Kd.R_slice HO747.out; subst eo58; obtain ⟨Ao59, co59, eo59⟩ := Kd.R_slice HO751.out; subst eo59
                          go_wp2_with (first | (go_at_call 46; (with_reducible refine (laws_rTexts.calls kj45 _ _ t744 _ _ t748 true _ ?side1 ?side2 ?side3 ?side4 A55.out).mono ?_); (case side1 => exact kc_ (Kd.R_reads' HO747.out).2.2); (case side2 => exact (Kd.R_reads' HO747.out).2.1); (case side3 => exact kc_ (Kd.R_reads' HO751.out).2.2); (case side4 => exact (Kd.R_reads' HO751.out).2.1); rintro e w' ⟨rfl, ⟨nd, rfl⟩⟩))
                          go_meet
                          case rel => exact ⟨_, (decide ((t744.length : Int) > 0)), (by first | rfl | (simp; done) | (simp [*]; done)), H', ⟨by have := HJ6.out; have := HJ16.out; have := HJ26.out; have := HJ38.out; have := HJ45.out; first | omega | exact Nat.le_refl _⟩, ⟨kr_ HO_3.out⟩, ⟨kr_ HO_9.out⟩, ⟨krm_ HO747.out (fun _ hk => trivial)⟩, ⟨lb0_ HB.out⟩⟩
                         ·
                          replace c57 := Bool.eq_false_iff.mpr c57; subst c57
                          have H1 : (laws_FnLabels.j5 kj45 t718 t728 false t744 t745 false) = some r := by rw [if_neg (show ¬ (false = true) by decide)] at H; exact H
                          clear H; have H := H1; clear H1; have H' := Aside0.mk H; clear H; obtain ⟨Ao60, co60, eo60⟩ := Kd.R_slice HO747.out; subst eo60; obtain ⟨Ao61, co61, eo61⟩ := Kd.R_slice HO751.out; subst eo61
                          go_wp2_with (first | (go_at_call 46; (with_reducible refine (laws_rTexts.calls kj45 _ _ t744 _ _ t748 true _ ?side1 ?side2 ?side3 ?side4 A55.out).mono ?_); (case side1 => exact kc_ (Kd.R_reads' HO747.out).2.2); (case side2 => exact (Kd.R_reads' HO747.out).2.1); (case side3 => exact kc_ (Kd.R_reads' HO751.out).2.2); (case side4 => exact (Kd.R_reads' HO751.out).2.1); rintro e w' ⟨rfl, ⟨nd, rfl⟩⟩))
                          go_meet
                          case rel => exact ⟨_, (false), (by first | rfl | (simp; done) | (simp [*]; done)), H', ⟨by have := HJ6.out; have := HJ16.out; have := HJ26.out; have := HJ38.out; have := HJ45.out; first | omega | exact Nat.le_refl _⟩, ⟨kr_ HO_3.out⟩, ⟨kr_ HO_9.out⟩, ⟨krm_ HO747.out (fun _ hk => trivial)⟩, ⟨lb0_ HB.out⟩⟩
                        ·
                         replace c56 := Bool.eq_false_iff.mpr c56; subst c56
                         have H1 : (laws_FnLabels.j5 kj45 t718 t728 t729 t744 t745 true) = some r := by rw [if_neg (show ¬ (false = true) by decide)] at H; exact H
                         clear H; have H := H1; clear H1; have H' := Aside0.mk H; clear H; obtain ⟨Ao62, co62, eo62⟩ := Kd.R_slice HO747.out; subst eo62; obtain ⟨Ao63, co63, eo63⟩ := Kd.R_slice HO751.out; subst eo63
                         go_wp2_with (first | (go_at_call 46; (with_reducible refine (laws_rTexts.calls kj45 _ _ t744 _ _ t748 false _ ?side1 ?side2 ?side3 ?side4 A55.out).mono ?_); (case side1 => exact kc_ (Kd.R_reads' HO747.out).2.2); (case side2 => exact (Kd.R_reads' HO747.out).2.1); (case side3 => exact kc_ (Kd.R_reads' HO751.out).2.2); (case side4 => exact (Kd.R_reads' HO751.out).2.1); rintro e w' ⟨rfl, ⟨nd, rfl⟩⟩))
                         go_meet
                         case rel => exact ⟨_, (true), (by first | rfl | (simp; done) | (simp [*]; done)), H', ⟨by have := HJ6.out; have := HJ16.out; have := HJ26.out; have := HJ38.out; have := HJ45.out; first | omega | exact Nat.le_refl _⟩, ⟨kr_ HO_3.out⟩, ⟨kr_ HO_9.out⟩, ⟨krm_ HO747.out (fun _ hk => trivial)⟩, ⟨lb0_ HB.out⟩⟩
                     case rest =>
                      as_aux_lemma =>
                       clear HC51
                       try clear c1
                       try clear c2
                       try clear p2
                       try clear c3
                       try clear c4
                       try clear c5
                       try clear c11
                       try clear c13
                       try clear c13b0
                       try clear c13b1
                       try clear c13b2
                       try clear c14
                       try clear c20
                       try clear c20b0
                       try clear c20b1
                       try clear c20b2
                       try clear c23
                       try clear c24
                       try clear c25
                       try clear c30
                       try clear c30b0
                       try clear c30b1
                       try clear c31
                       try clear c31b0
                       try clear c31b1
                       try clear c31b2
                       try clear c32
                       try clear c33
                       try clear c33b0
                       try clear c33b1
                       try clear c33b2
                       try clear c35
                       try clear c37
                       try clear c38
                       try clear c39
                       try clear c40
                       try clear c42
                       try clear c43
                       try clear c44
                       try clear c47
                       try clear c48
                       try clear c54
                       try clear c54b0
                       try clear c54b1
                       try clear c54b2
                       try clear c56
                       try clear c57
                       try clear p2
                       obtain ⟨kq, x150_50, rfl, HA, HJ50, HO_3, HO_9, HO_19, HB⟩ := hcut
                       cases kq with
                       | zero => exact absurd HA.out (by simp [laws_FnLabels.j5])
                       | succ kj50 =>
                        have H := HA.out; clear HA; simp only [laws_FnLabels.j5] at H
                        by_cases c64 : x150_50 = true
                        ·
                         subst c64
                         have H1 : (none) = some r := by rw [if_pos rfl] at H; exact H
                         clear H; have H := H1; clear H1; exact absurd H (by simp)
                        ·
                         replace c64 := Bool.eq_false_iff.mpr c64; subst c64
                         have H1 : (laws_FnLabels.l0 kj50 t718 t728 t729 t744 t745 0 0) = some r := by rw [if_neg (show ¬ (false = true) by decide)] at H; exact H
                         clear H; have H := H1; clear H1; have H' := Aside0.mk H; clear H
                         go_wp2
                         go_loopg [23, 24] kj50 (fun kq v23 v24 w' => ∃ (x23_7 : Int) (x24_7 : Int), v23 = .int .i64 x23_7 ∧ v24 = .int .i64 x24_7 ∧ Aside0 (laws_FnLabels.l0 kq t718 t728 t729 t744 t745 x23_7 x24_7 = some r) ∧ Aside0 (kq ≤ kj50) ∧ Aside0 (Kd.R k29 29 w' w.heap.size (fun _ => True) (.slice Ao9 t718.length co9) t718) ∧ Aside0 (Kd.R (Kd.int .i64) 3 w' w.heap.size (fun _ => True) v730 t728) ∧ Aside0 (Kd.R Kd.string 9 w' w.heap.size (fun _ => True) v746 t744) ∧ Aside0 (Below w.heap.size w w'))
                         case atStart => exact ⟨(0), (0), (by first | rfl | (simp; done) | (simp [*]; done)), (by first | rfl | (simp; done) | (simp [*]; done)), H', ⟨Nat.le_refl _⟩, ⟨kr_ HO_3.out⟩, ⟨kr_ HO_9.out⟩, ⟨kr_ HO_19.out⟩, ⟨lb0_ HB.out⟩⟩
                         case round =>
                          as_aux_lemma =>
                           clear H'
                           try clear c1
                           try clear c2
                           try clear p2
                           try clear c3
                           try clear c4
                           try clear c5
                           try clear c6
                           try clear c11
                           try clear c13
                           try clear c13b0
                           try clear c13b1
                           try clear c13b2
                           try clear c14
                           try clear c20
                           try clear c20b0
                           try clear c20b1
                           try clear c20b2
                           try clear c23
                           try clear c24
                           try clear c25
                           try clear c30
                           try clear c30b0
                           try clear c30b1
                           try clear c31
                           try clear c31b0
                           try clear c31b1
                           try clear c31b2
                           try clear c32
                           try clear c33
                           try clear c33b0
                           try clear c33b1
                           try clear c33b2
                           try clear c35
                           try clear c37
                           try clear c38
                           try clear c39
                           try clear c40
                           try clear c42
                           try clear c43
                           try clear c44
                           try clear c47
                           try clear c48
                           try clear c54
                           try clear c54b0
                           try clear c54b1
                           try clear c54b2
                           try clear c56
                           try clear c57
                           try clear c64
                           try clear p2
                           obtain ⟨x23_7, x24_7, rfl, rfl, HA, HK7, HO_3, HO_9, HO_19, HB⟩ := hrel
                           cases gk with
                           | zero => exact absurd HA.out (by simp [laws_FnLabels.l0])
                           | succ k7 =>
                            have H := HA.out; clear HA; simp only [laws_FnLabels.l0] at H; have HC65 := Aside0.mk H; clear H
                            go_upto_region 28 with (fail)
                            go_cut [157] (fun v157 wc => ∃ (kq : Nat) (x157_64 : Bool), v157 = .bool x157_64 ∧ Aside0 (laws_FnLabels.j7 kq t718 t728 t729 t744 t745 x23_7 x24_7 x157_64 = some r) ∧ Aside0 (kq ≤ k7) ∧ Aside0 (Kd.R k29 29 wc w.heap.size (fun _ => True) (.slice Ao9 t718.length co9) t718) ∧ Aside0 (Kd.R (Kd.int .i64) 3 wc w.heap.size (fun _ => True) v730 t728) ∧ Aside0 (Kd.R Kd.string 9 wc w.heap.size (fun _ => True) v746 t744) ∧ Aside0 (Below w.heap.size w wc))
                            case first =>
                             as_aux_lemma =>
                              have H := HC65.out; clear HC65
                              by_cases c66 : x24_7 < (t718.length : Int)
                              ·
                               rw [if_pos c66] at H
                               have c66b0 : decide (x24_7 < (t718.length : Int)) = true := decide_eq_true c66; clear c66
                               (first | rw [c66b0] | (simp only [i64_w, i32_w]; rw [c66b0]) | skip)
                               have H' := Aside0.mk H; clear H
                               go_wp2
                               go_meet
                               case rel => exact ⟨_, (t745), (by first | rfl | (simp; done) | (simp [*]; done)), H', ⟨by have := HJ6.out; have := HJ16.out; have := HJ26.out; have := HJ38.out; have := HJ45.out; have := HJ50.out; have := HK7.out; first | omega | exact Nat.le_refl _⟩, ⟨kr_ HO_3.out⟩, ⟨kr_ HO_9.out⟩, ⟨kr_ HO_19.out⟩, ⟨lb0_ HB.out⟩⟩
                              ·
                               rw [if_neg c66] at H
                               have c66b0 : decide (x24_7 < (t718.length : Int)) = false := decide_eq_false c66; clear c66
                               (first | rw [c66b0] | (simp only [i64_w, i32_w]; rw [c66b0]) | skip)
                               have H' := Aside0.mk H; clear H
                               go_wp2
                               go_meet
                               case rel => exact ⟨_, (false), (by first | rfl | (simp; done) | (simp [*]; done)), H', ⟨by have := HJ6.out; have := HJ16.out; have := HJ26.out; have := HJ38.out; have := HJ45.out; have := HJ50.out; have := HK7.out; first | omega | exact Nat.le_refl _⟩, ⟨kr_ HO_3.out⟩, ⟨kr_ HO_9.out⟩, ⟨kr_ HO_19.out⟩, ⟨lb0_ HB.out⟩⟩
                            case rest =>
                             as_aux_lemma =>
                              clear HC65
                              try clear c1
                              try clear c2
                              try clear p2
                              try clear c3
                              try clear c4
                              try clear c5
                              try clear c6
                              try clear c11
                              try clear c13
                              try clear c13b0
                              try clear c13b1
                              try clear c13b2
                              try clear c14
                              try clear c20
                              try clear c20b0
                              try clear c20b1
                              try clear c20b2
                              try clear c23
                              try clear c24
                              try clear c25
                              try clear c30
                              try clear c30b0
                              try clear c30b1
                              try clear c31
                              try clear c31b0
                              try clear c31b1
                              try clear c31b2
                              try clear c32
                              try clear c33
                              try clear c33b0
                              try clear c33b1
                              try clear c33b2
                              try clear c35
                              try clear c37
                              try clear c38
                              try clear c39
                              try clear c40
                              try clear c42
                              try clear c43
                              try clear c44
                              try clear c47
                              try clear c48
                              try clear c54
                              try clear c54b0
                              try clear c54b1
                              try clear c54b2
                              try clear c56
                              try clear c57
                              try clear c64
                              try clear c66
                              try clear c66b0
                              try clear p2
                              obtain ⟨kq, x157_64, rfl, HA, HJ64, HO_3, HO_9, HO_19, HB⟩ := hcut
                              cases kq with
                              | zero => exact absurd HA.out (by simp [laws_FnLabels.j7])
                              | succ kj64 =>
                               have H := HA.out; clear HA; simp only [laws_FnLabels.j7] at H
                               by_cases c67 : x157_64 = true
                               ·
                                subst c67
                                have H1 : ((impl_WaysOf.f kj64 t718 x24_7).bind fun bt753 => (if bt753.2 = true then (if (bt753.1.length : Int) = 0 then (if t729 = true then (if 0 ≤ x24_7 then (if x24_7 < (t728.length : Int) then ((laws_rHas.f kj64 bt753.1 (rd t728 x24_7)).bind fun t758 => (if t758 = true then (laws_FnLabels.l0 kj64 t718 t728 t729 t744 t745 (wrap64 (x23_7 + 1)) (wrap64 (x24_7 + 1))) else (none))) else (none)) else (none)) else (laws_FnLabels.l0 kj64 t718 t728 t729 t744 t745 (wrap64 (x23_7 + 1)) (wrap64 (x24_7 + 1)))) else (if t729 = true then (if 0 ≤ x24_7 then (if x24_7 < (t728.length : Int) then ((laws_rHas.f kj64 bt753.1 (rd t728 x24_7)).bind fun t760 => (if t760 = true then (laws_FnLabels.l0 kj64 t718 t728 t729 t744 t745 x23_7 (wrap64 (x24_7 + 1))) else (none))) else (none)) else (none)) else (laws_FnLabels.l0 kj64 t718 t728 t729 t744 t745 x23_7 (wrap64 (x24_7 + 1))))) else (none))) = some r := by rw [if_pos rfl] at H; exact H
                                clear H; have H := H1; clear H1; replace H := Option.bind_eq_some_iff.mp H; obtain ⟨⟨t753, t754⟩, A680, H⟩ := H; replace H : (if t754 = true then (if (t753.length : Int) = 0 then (if t729 = true then (if 0 ≤ x24_7 then (if x24_7 < (t728.length : Int) then ((laws_rHas.f kj64 t753 (rd t728 x24_7)).bind fun t758 => (if t758 = true then (laws_FnLabels.l0 kj64 t718 t728 t729 t744 t745 (wrap64 (x23_7 + 1)) (wrap64 (x24_7 + 1))) else (none))) else (none)) else (none)) else (laws_FnLabels.l0 kj64 t718 t728 t729 t744 t745 (wrap64 (x23_7 + 1)) (wrap64 (x24_7 + 1)))) else (if t729 = true then (if 0 ≤ x24_7 then (if x24_7 < (t728.length : Int) then ((laws_rHas.f kj64 t753 (rd t728 x24_7)).bind fun t760 => (if t760 = true then (laws_FnLabels.l0 kj64 t718 t728 t729 t744 t745 x23_7 (wrap64 (x24_7 + 1))) else (none))) else (none)) else (none)) else (laws_FnLabels.l0 kj64 t718 t728 t729 t744 t745 x23_7 (wrap64 (x24_7 + 1))))) else (none)) = some r := H; have A68 := Aside0.mk A680; clear A680
                                by_cases c69 : t754 = true
                                ·
                                 subst c69
                                 have H1 : (if (t753.length : Int) = 0 then (if t729 = true then (if 0 ≤ x24_7 then (if x24_7 < (t728.length : Int) then ((laws_rHas.f kj64 t753 (rd t728 x24_7)).bind fun t758 => (if t758 = true then (laws_FnLabels.l0 kj64 t718 t728 t729 t744 t745 (wrap64 (x23_7 + 1)) (wrap64 (x24_7 + 1))) else (none))) else (none)) else (none)) else (laws_FnLabels.l0 kj64 t718 t728 t729 t744 t745 (wrap64 (x23_7 + 1)) (wrap64 (x24_7 + 1)))) else (if t729 = true then (if 0 ≤ x24_7 then (if x24_7 < (t728.length : Int) then ((laws_rHas.f kj64 t753 (rd t728 x24_7)).bind fun t760 => (if t760 = true then (laws_FnLabels.l0 kj64 t718 t728 t729 t744 t745 x23_7 (wrap64 (x24_7 + 1))) else (none))) else (none)) else (none)) else (laws_FnLabels.l0 kj64 t718 t728 t729 t744 t745 x23_7 (wrap64 (x24_7 + 1))))) = some r := by rw [if_pos rfl] at H; exact H
                                 clear H; have H := H1; clear H1
                                 by_cases c70 : (t753.length : Int) = 0
                                 ·
                                  rw [if_pos c70] at H
                                  have c70b0 : ((t753.length : Int) == 0) = true := beq_iff_eq.mpr c70; have c70b1 : ((t753.length : Int) != 0) = false := bne_eq_false_iff_eq.mpr c70; clear c70
                                  by_cases c71 : t729 = true
                                  ·
                                   subst c71
                                   have H1 : (if 0 ≤ x24_7 then (if x24_7 < (t728.length : Int) then ((laws_rHas.f kj64 t753 (rd t728 x24_7)).bind fun t758 => (if t758 = true then (laws_FnLabels.l0 kj64 t718 t728 true t744 t745 (wrap64 (x23_7 + 1)) (wrap64 (x24_7 + 1))) else (none))) else (none)) else (none)) = some r := by rw [if_pos rfl] at H; exact H
                                   clear H; have H := H1; clear H1
                                   by_cases c72 : 0 ≤ x24_7
                                   ·
                                    rw [if_pos c72] at H
                                    have c72b0 : decide (0 ≤ x24_7) = true := decide_eq_true c72; clear c72
                                    by_cases c73 : x24_7 < (t728.length : Int)
                                    ·
                                     rw [if_pos c73] at H
                                     have c73b0 : decide (x24_7 < (t728.length : Int)) = true := decide_eq_true c73; clear c73; replace H := Option.bind_eq_some_iff.mp H; obtain ⟨t758, A740, H⟩ := H; replace H : (if t758 = true then (laws_FnLabels.l0 kj64 t718 t728 true t744 t745 (wrap64 (x23_7 + 1)) (wrap64 (x24_7 + 1))) else (none)) = some r := H; have A74 := Aside0.mk A740; clear A740
                                     by_cases c75 : t758 = true
                                     ·
                                      subst c75
                                      have H1 : (laws_FnLabels.l0 kj64 t718 t728 true t744 t745 (wrap64 (x23_7 + 1)) (wrap64 (x24_7 + 1))) = some r := by rw [if_pos rfl] at H; exact H
                                      clear H; have H := H1; clear H1; have H' := Aside0.mk H; clear H
                                      go_wp2_with (first | ((with_reducible refine gate_callee (f := 28) rfl ?_); refine ga_ (some 163) Tryd.func28 #[.slice Ao9 t718.length co9, .int .i64 x24_7] ?_; (with_reducible refine (impl_WaysOf.calls kj64 _ _ t718 x24_7 t753 true _ ?side1 ?side2 A68.out).mono ?_); (case side1 => exact kc_ (Kd.R_reads' HO_3.out).2.2); (case side2 => exact (Kd.R_reads' HO_3.out).2.1); rintro e w76 ⟨v755, rfl, ho0, hb⟩; refine ⟨_, rfl, ?_⟩; replace HO_3 := Aside0.mk (Kd.R_below (kr_ HO_3.out) hb); replace HO_19 := Aside0.mk (Kd.R_below (kr_ HO_19.out) hb); have HO756 := Aside0.mk (Kd.R_lower (Kd.R_new' ho0 (Kd.R_lt (kr_ HO_9.out))) (below_size (lb0_ HB.out))); replace HO_9 := Aside0.mk (Kd.R_elder' (kr_ HO_9.out) (Kd.R_base ho0) hb); replace HB := Aside0.mk (below_step (lb0_ HB.out) hb); (try clear hb); (try clear hb2); (try clear hk); (try clear hi); (try clear ho0); obtain ⟨Ao77, co77, eo77⟩ := Kd.R_slice HO756.out; subst eo77; obtain ⟨Ao78, co78, eo78⟩ := Kd.R_slice HO_9.out; subst eo78; have p757 : 0 ≤ (x24_7 : Int) := dt_; have q757 : x24_7 < (t728.length : Int) := dt_; obtain ⟨ad757, e757, hx757_0⟩ := Kd.at_int (Kd.R_reads' HO_9.out).2.2 x24_7 p757 q757; cases e757; replace p757 := eq_true p757; replace q757 := eq_true q757) | (go_at_call 47; (with_reducible refine (laws_rHas.calls kj64 _ _ t753 (rd t728 x24_7) true _ ?side1 ?side2 A74.out).mono ?_); (case side1 => exact kc_ (Kd.R_reads' HO756.out).2.2); (case side2 => exact (Kd.R_reads' HO756.out).2.1); rintro e w' ⟨rfl, ⟨nd, rfl⟩⟩))
                                      go_roundg kj64
                                      case measure => have := HJ6.out; have := HJ16.out; have := HJ26.out; have := HJ38.out; have := HJ45.out; have := HJ50.out; have := HK7.out; have := HJ64.out; omega
                                      case rel => exact ⟨(wrap64 (x23_7 + 1)), (wrap64 (x24_7 + 1)), (by first | rfl | (simp; done) | (simp [*]; done)), (by first | rfl | (simp; done) | (simp [*]; done)), H', ⟨by have := HJ6.out; have := HJ16.out; have := HJ26.out; have := HJ38.out; have := HJ45.out; have := HJ50.out; have := HK7.out; have := HJ64.out; omega⟩, ⟨kr_ HO_3.out⟩, ⟨krm_ HO_9.out (fun _ hk => trivial)⟩, ⟨kr_ HO_19.out⟩, ⟨lb0_ HB.out⟩⟩
                                     ·
                                      replace c75 := Bool.eq_false_iff.mpr c75; subst c75
                                      have H1 : (none) = some r := by rw [if_neg (show ¬ (false = true) by decide)] at H; exact H
                                      clear H; have H := H1; clear H1; exact absurd H (by simp)
                                    ·
                                     rw [if_neg c73] at H
                                     exact absurd H (by simp)
                                   ·
                                    rw [if_neg c72] at H
                                    exact absurd H (by simp)
                                  ·
                                   replace c71 := Bool.eq_false_iff.mpr c71; subst c71
                                   have H1 : (laws_FnLabels.l0 kj64 t718 t728 false t744 t745 (wrap64 (x23_7 + 1)) (wrap64 (x24_7 + 1))) = some r := by rw [if_neg (show ¬ (false = true) by decide)] at H; exact H
                                   clear H; have H := H1; clear H1; have H' := Aside0.mk H; clear H
                                   go_wp2_with (first | ((with_reducible refine gate_callee (f := 28) rfl ?_); refine ga_ (some 163) Tryd.func28 #[.slice Ao9 t718.length co9, .int .i64 x24_7] ?_; (with_reducible refine (impl_WaysOf.calls kj64 _ _ t718 x24_7 t753 true _ ?side1 ?side2 A68.out).mono ?_); (case side1 => exact kc_ (Kd.R_reads' HO_3.out).2.2); (case side2 => exact (Kd.R_reads' HO_3.out).2.1); rintro e w79 ⟨v755, rfl, ho0, hb⟩; refine ⟨_, rfl, ?_⟩; replace HO_3 := Aside0.mk (Kd.R_below (kr_ HO_3.out) hb); replace HO_19 := Aside0.mk (Kd.R_below (kr_ HO_19.out) hb); have HO756 := Aside0.mk (Kd.R_lower (Kd.R_new' ho0 (Kd.R_lt (kr_ HO_9.out))) (below_size (lb0_ HB.out))); replace HO_9 := Aside0.mk (Kd.R_elder' (kr_ HO_9.out) (Kd.R_base ho0) hb); replace HB := Aside0.mk (below_step (lb0_ HB.out) hb); (try clear hb); (try clear hb2); (try clear hk); (try clear hi); (try clear ho0); obtain ⟨Ao80, co80, eo80⟩ := Kd.R_slice HO756.out; subst eo80))
                                   go_roundg kj64
                                   case measure => have := HJ6.out; have := HJ16.out; have := HJ26.out; have := HJ38.out; have := HJ45.out; have := HJ50.out; have := HK7.out; have := HJ64.out; omega
                                   case rel => exact ⟨(wrap64 (x23_7 + 1)), (wrap64 (x24_7 + 1)), (by first | rfl | (simp; done) | (simp [*]; done)), (by first | rfl | (simp; done) | (simp [*]; done)), H', ⟨by have := HJ6.out; have := HJ16.out; have := HJ26.out; have := HJ38.out; have := HJ45.out; have := HJ50.out; have := HK7.out; have := HJ64.out; omega⟩, ⟨kr_ HO_3.out⟩, ⟨krm_ HO_9.out (fun _ hk => trivial)⟩, ⟨kr_ HO_19.out⟩, ⟨lb0_ HB.out⟩⟩
                                 ·
                                  rw [if_neg c70] at H
                                  have c70b0 : ((t753.length : Int) == 0) = false := beq_eq_false_iff_ne.mpr c70; have c70b1 : ((t753.length : Int) != 0) = true := bne_iff_ne.mpr c70
                                  have c70b2 : ¬ (t753 = []) := fun h_ => c70 (by rw [h_]; rfl)
                                  by_cases c81 : t729 = true
                                  ·
                                   subst c81
                                   have H1 : (if 0 ≤ x24_7 then (if x24_7 < (t728.length : Int) then ((laws_rHas.f kj64 t753 (rd t728 x24_7)).bind fun t760 => (if t760 = true then (laws_FnLabels.l0 kj64 t718 t728 true t744 t745 x23_7 (wrap64 (x24_7 + 1))) else (none))) else (none)) else (none)) = some r := by rw [if_pos rfl] at H; exact H
                                   clear H; have H := H1; clear H1
                                   by_cases c82 : 0 ≤ x24_7
                                   ·
                                    rw [if_pos c82] at H
                                    have c82b0 : decide (0 ≤ x24_7) = true := decide_eq_true c82; clear c82
                                    by_cases c83 : x24_7 < (t728.length : Int)
                                    ·
                                     rw [if_pos c83] at H
                                     have c83b0 : decide (x24_7 < (t728.length : Int)) = true := decide_eq_true c83; clear c83; replace H := Option.bind_eq_some_iff.mp H; obtain ⟨t760, A840, H⟩ := H; replace H : (if t760 = true then (laws_FnLabels.l0 kj64 t718 t728 true t744 t745 x23_7 (wrap64 (x24_7 + 1))) else (none)) = some r := H; have A84 := Aside0.mk A840; clear A840
                                     by_cases c85 : t760 = true
                                     ·
                                      subst c85
                                      have H1 : (laws_FnLabels.l0 kj64 t718 t728 true t744 t745 x23_7 (wrap64 (x24_7 + 1))) = some r := by rw [if_pos rfl] at H; exact H
                                      clear H; have H := H1; clear H1; have H' := Aside0.mk H; clear H
                                      go_wp2_with (first | ((with_reducible refine gate_callee (f := 28) rfl ?_); refine ga_ (some 163) Tryd.func28 #[.slice Ao9 t718.length co9, .int .i64 x24_7] ?_; (with_reducible refine (impl_WaysOf.calls kj64 _ _ t718 x24_7 t753 true _ ?side1 ?side2 A68.out).mono ?_); (case side1 => exact kc_ (Kd.R_reads' HO_3.out).2.2); (case side2 => exact (Kd.R_reads' HO_3.out).2.1); rintro e w86 ⟨v755, rfl, ho0, hb⟩; refine ⟨_, rfl, ?_⟩; replace HO_3 := Aside0.mk (Kd.R_below (kr_ HO_3.out) hb); replace HO_19 := Aside0.mk (Kd.R_below (kr_ HO_19.out) hb); have HO756 := Aside0.mk (Kd.R_lower (Kd.R_new' ho0 (Kd.R_lt (kr_ HO_9.out))) (below_size (lb0_ HB.out))); replace HO_9 := Aside0.mk (Kd.R_elder' (kr_ HO_9.out) (Kd.R_base ho0) hb); replace HB := Aside0.mk (below_step (lb0_ HB.out) hb); (try clear hb); (try clear hb2); (try clear hk); (try clear hi); (try clear ho0); obtain ⟨Ao87, co87, eo87⟩ := Kd.R_slice HO756.out; subst eo87; obtain ⟨Ao88, co88, eo88⟩ := Kd.R_slice HO_9.out; subst eo88; have p759 : 0 ≤ (x24_7 : Int) := dt_; have q759 : x24_7 < (t728.length : Int) := dt_; obtain ⟨ad759, e759, hx759_0⟩ := Kd.at_int (Kd.R_reads' HO_9.out).2.2 x24_7 p759 q759; cases e759; replace p759 := eq_true p759; replace q759 := eq_true q759) | (go_at_call 47; (with_reducible refine (laws_rHas.calls kj64 _ _ t753 (rd t728 x24_7) true _ ?side1 ?side2 A84.out).mono ?_); (case side1 => exact kc_ (Kd.R_reads' HO756.out).2.2); (case side2 => exact (Kd.R_reads' HO756.out).2.1); rintro e w' ⟨rfl, ⟨nd, rfl⟩⟩))
                                      go_roundg kj64
                                      case measure => have := HJ6.out; have := HJ16.out; have := HJ26.out; have := HJ38.out; have := HJ45.out; have := HJ50.out; have := HK7.out; have := HJ64.out; omega
                                      case rel => exact ⟨(x23_7), (wrap64 (x24_7 + 1)), (by first | rfl | (simp; done) | (simp [*]; done)), (by first | rfl | (simp; done) | (simp [*]; done)), H', ⟨by have := HJ6.out; have := HJ16.out; have := HJ26.out; have := HJ38.out; have := HJ45.out; have := HJ50.out; have := HK7.out; have := HJ64.out; omega⟩, ⟨kr_ HO_3.out⟩, ⟨krm_ HO_9.out (fun _ hk => trivial)⟩, ⟨kr_ HO_19.out⟩, ⟨lb0_ HB.out⟩⟩
                                     ·
                                      replace c85 := Bool.eq_false_iff.mpr c85; subst c85
                                      have H1 : (none) = some r := by rw [if_neg (show ¬ (false = true) by decide)] at H; exact H
                                      clear H; have H := H1; clear H1; exact absurd H (by simp)
                                    ·
                                     rw [if_neg c83] at H
                                     exact absurd H (by simp)
                                   ·
                                    rw [if_neg c82] at H
                                    exact absurd H (by simp)
                                  ·
                                   replace c81 := Bool.eq_false_iff.mpr c81; subst c81
                                   have H1 : (laws_FnLabels.l0 kj64 t718 t728 false t744 t745 x23_7 (wrap64 (x24_7 + 1))) = some r := by rw [if_neg (show ¬ (false = true) by decide)] at H; exact H
                                   clear H; have H := H1; clear H1; have H' := Aside0.mk H; clear H
                                   go_wp2_with (first | ((with_reducible refine gate_callee (f := 28) rfl ?_); refine ga_ (some 163) Tryd.func28 #[.slice Ao9 t718.length co9, .int .i64 x24_7] ?_; (with_reducible refine (impl_WaysOf.calls kj64 _ _ t718 x24_7 t753 true _ ?side1 ?side2 A68.out).mono ?_); (case side1 => exact kc_ (Kd.R_reads' HO_3.out).2.2); (case side2 => exact (Kd.R_reads' HO_3.out).2.1); rintro e w89 ⟨v755, rfl, ho0, hb⟩; refine ⟨_, rfl, ?_⟩; replace HO_3 := Aside0.mk (Kd.R_below (kr_ HO_3.out) hb); replace HO_19 := Aside0.mk (Kd.R_below (kr_ HO_19.out) hb); have HO756 := Aside0.mk (Kd.R_lower (Kd.R_new' ho0 (Kd.R_lt (kr_ HO_9.out))) (below_size (lb0_ HB.out))); replace HO_9 := Aside0.mk (Kd.R_elder' (kr_ HO_9.out) (Kd.R_base ho0) hb); replace HB := Aside0.mk (below_step (lb0_ HB.out) hb); (try clear hb); (try clear hb2); (try clear hk); (try clear hi); (try clear ho0); obtain ⟨Ao90, co90, eo90⟩ := Kd.R_slice HO756.out; subst eo90))
                                   go_roundg kj64
                                   case measure => have := HJ6.out; have := HJ16.out; have := HJ26.out; have := HJ38.out; have := HJ45.out; have := HJ50.out; have := HK7.out; have := HJ64.out; omega
                                   case rel => exact ⟨(x23_7), (wrap64 (x24_7 + 1)), (by first | rfl | (simp; done) | (simp [*]; done)), (by first | rfl | (simp; done) | (simp [*]; done)), H', ⟨by have := HJ6.out; have := HJ16.out; have := HJ26.out; have := HJ38.out; have := HJ45.out; have := HJ50.out; have := HK7.out; have := HJ64.out; omega⟩, ⟨kr_ HO_3.out⟩, ⟨krm_ HO_9.out (fun _ hk => trivial)⟩, ⟨kr_ HO_19.out⟩, ⟨lb0_ HB.out⟩⟩
                                ·
                                 replace c69 := Bool.eq_false_iff.mpr c69; subst c69
                                 have H1 : (none) = some r := by rw [if_neg (show ¬ (false = true) by decide)] at H; exact H
                                 clear H; have H := H1; clear H1; exact absurd H (by simp)
                               ·
                                replace c67 := Bool.eq_false_iff.mpr c67; subst c67
                                have H1 : (some (x23_7 == (t744.length : Int))) = some r := by rw [if_neg (show ¬ (false = true) by decide)] at H; exact H
                                clear H; have H := H1; clear H1; obtain rfl := Option.some.inj H; obtain ⟨Ao91, co91, eo91⟩ := Kd.R_slice HO_19.out; subst eo91
                                go_wp2
                                go_ret
                                exact ⟨rr_, lb0_ HB.out⟩
end Go.Proofs.YtjkcfpmonpkhhaaDoor.Pr

namespace Go.Proofs.YtjkcfpmonpkhhaaDoorW.Opens
open Go.ChangeShapes Go.WideShapes Go.RowKit
open Go.Deep (open_slice choose_lt)
open Go.Proofs.YtjkcfpmonpkhhaaDoorW.PrintWords
set_option linter.unusedVariables false
set_option linter.unusedSimpArgs false
def Opn {α : Type} (P : Program) (t : TypeId) (d : Kd α) (wf : α → Prop) : Prop :=
 P.cellsOf t = d.sz ∧ ∀ (H : Type) (enc : TypeId × Value → H) (W : World) (fuel : Nat) (cs : List Value) (x : DataW H × List MemPlace),
  DataW.trod enc P W 0 (fun _ => true) true fuel t cs = some x → (∀ n ∈ x.1.weights P t, n ≤ reachBytes) → ∃ y, d.K W y cs ∧ wf y
theorem Opn.int {P : Program} {t : TypeId} {k : IntKind} (hc : P.cellsOf t = 1) (ht : P.underlying t = some (.int k)) : Opn P t (Kd.int k) (fun n => (Lit.int k n).wf = true) :=
 ⟨hc, fun H enc W fuel cs x h _ => by
  obtain ⟨m, rfl, rfl, hw⟩ := DataW.trod_int ht h
  exact ⟨m, rfl, hw⟩⟩
theorem Opn.bool {P : Program} {t : TypeId} (hc : P.cellsOf t = 1) (ht : P.underlying t = some .bool) : Opn P t Kd.bool (fun _ => True) :=
 ⟨hc, fun H enc W fuel cs x h _ => by
  obtain ⟨m, rfl, rfl⟩ := DataW.trod_bool ht h
  exact ⟨m, rfl, trivial⟩⟩
theorem Opn.string {P : Program} {t : TypeId} (hc : P.cellsOf t = 1) (ht : P.underlying t = some .string) : Opn P t Kd.string (fun s => s.size ≤ 140737488351232) :=
 ⟨hc, fun H enc W fuel cs x h hw => by
  obtain ⟨m, rfl, rfl, hm⟩ := DataW.trod_string ht h
  have := hw m.data.toList.length (by simp [DataW.weights])
  rw [Array.length_toList] at this
  exact ⟨m, rfl, this⟩⟩
theorem weightsAll_mem {H : Type} {P : Program} {e : TypeId} : ∀ {l : List (DataW H)} {d : DataW H}, d ∈ l → ∀ n ∈ d.weights P e, n ∈ DataW.weightsAll P e l
 | _ :: r, d, h, n, hn => by
  simp only [DataW.weightsAll, List.mem_append]
  rcases List.mem_cons.1 h with rfl | h
  ·
   exact .inl hn
  ·
   exact .inr (weightsAll_mem h n hn)
theorem Opn.slice {α : Type} (z : α) {P : Program} {t e : TypeId} {d : Kd α} {wf : α → Prop} {B : Nat} (hc : P.cellsOf t = 1) (ht : P.underlying t = some (.slice e)) (hB : P.bytesOf e = B) (h : Opn P e d wf) :
  Opn P t (Kd.slice e d) (fun xs => xs.length ≤ maxLen ∧ xs.length * B ≤ 140737488351232 ∧ ∀ y ∈ xs, wf y) :=
 ⟨hc, fun H enc W fuel cs x hf hw => by
  haveI : Inhabited α := ⟨z⟩
  rcases open_slice ht hf with ⟨rfl, rfl⟩ | ⟨a, len, cap, m, n, D, Pl, rfl, _, hl, hm, hmm, rfl, each⟩
  ·
   exact ⟨[], ⟨none, 0, rfl, Nat.le_refl _, rfl, by simp, fun h => absurd h (Nat.lt_irrefl 0)⟩, by simp, by simp, by simp⟩
  ·
   rw [if_pos rfl] at hmm
   subst hmm
   have hw0 : ∀ n ∈ DataW.weights P t (DataW.slice (H := H) ((List.range len).map D) ((List.range (m - len)).map fun j => D (len + j))), n ≤ reachBytes := hw
   have hww : ∀ i, i < len → ∀ n ∈ (D i).weights P e, n ≤ reachBytes := by
    intro i hi n hn
    refine hw0 n ?_
    simp only [DataW.weights, ht, List.mem_cons, List.mem_append]
    exact .inr (.inl (weightsAll_mem (List.mem_map.2 ⟨i, List.mem_range.2 hi, rfl⟩) n hn))
   have hB2 : len * B ≤ 140737488351232 := by
    have := hw0 ((len + (m - len)) * B) (by simp [DataW.weights, ht, hB])
    refine Nat.le_trans (Nat.mul_le_mul_right _ (by omega)) this
   have hx : ∀ i, i < len → ∃ y, ∃ c : List Value, c.length = d.sz ∧ d.K W y c ∧ wf y ∧ ∀ j u, c[j]? = some u → W.cell? (a.add (i * d.sz + j)) = some u := by
    intro i hi
    obtain ⟨cs', h1, h2⟩ := each i (by omega)
    obtain ⟨y, hy, hwy⟩ := h.2 H enc W n cs' _ h2 (hww i hi)
    obtain ⟨_, hlen, hcell⟩ := World.cells?_some h1
    rw [h.1] at hlen hcell
    refine ⟨y, cs', hlen, hy, hwy, fun j u hu => ?_⟩
    have hj : j < d.sz := by
     have := (List.getElem?_eq_some_iff.1 hu).1
     omega
    have := hcell j hj
    rw [add_add] at this
    exact this.trans hu
   obtain ⟨f, hf'⟩ := choose_lt hx
   refine ⟨(List.range len).map f, ⟨some a, m, by simp, by simpa using hl, by simp, by simp only [maxLen] at hm; simp; omega, fun _ => ⟨a, rfl, fun j p hj => ?_⟩⟩, ?_, ?_, ?_⟩
   ·
    rw [List.getElem?_map] at hj
    have hj' : j < len := by
     by_cases hjl : j < len
     ·
      exact hjl
     ·
      rw [List.getElem?_eq_none (by simp; omega)] at hj
      cases hj
    rw [List.getElem?_range hj'] at hj
    obtain rfl := Option.some.inj hj
    obtain ⟨c, h1, h2, _, h3⟩ := hf' j hj'
    exact ⟨c, h1, h2, h3⟩
   ·
    simp; omega
   ·
    simpa using hB2
   ·
    intro y hy
    obtain ⟨i, hi, rfl⟩ := List.mem_map.1 hy
    obtain ⟨c, _, _, h2, _⟩ := hf' i (List.mem_range.1 hi)
    exact h2⟩
def FOpn {α : Type} (P : Program) (fs : List Field) (off : Nat) (d : Kd α) (wf : α → Prop) : Prop :=
 ∀ (H : Type) (enc : TypeId × Value → H) (W : World) (fuel : Nat) (cs : List Value) (xs : List (DataW H × List MemPlace)),
  xs.length = fs.length → (∀ (i : Nat) (f : Field), fs[i]? = some f → DataW.trod enc P W 0 (fun _ => true) true fuel f.type ((cs.drop f.offset).take (P.cellsOf f.type)) = xs[i]?) →
  (∀ n ∈ DataW.weightsEach P (fs.map (·.type)) (xs.map (·.1)), n ≤ reachBytes) → ∃ y, d.K W y ((cs.drop off).take d.sz) ∧ wf y
theorem FOpn.one {α : Type} {P : Program} {f : Field} {off : Nat} {d : Kd α} {wf : α → Prop} (ho : f.offset = off) (h : Opn P f.type d wf) : FOpn P [f] off d wf := by
 intro H enc W fuel cs xs hl hx hw
 match xs, hl with
 | [x], _ =>
  have h0 := hx 0 f rfl
  rw [ho, h.1] at h0
  exact h.2 H enc W fuel _ x h0 (fun n hn => hw n (by simp only [List.map, DataW.weightsEach, List.mem_append]; exact .inl hn))
theorem FOpn.cons {α β : Type} {P : Program} {f : Field} {fs : List Field} {off : Nat} {d : Kd α} {d' : Kd β} {wf : α → Prop} {wf' : β → Prop} (ho : f.offset = off) (h : Opn P f.type d wf) (h' : FOpn P fs (off + d.sz) d' wf') :
  FOpn P (f :: fs) off (Kd.pair d d') (fun x => wf x.1 ∧ wf' x.2) := by
 intro H enc W fuel cs xs hl hx hw
 match xs, hl with
 | x :: xs, hl =>
  have h0 := hx 0 f rfl
  rw [ho, h.1] at h0
  have hw' : ∀ n ∈ x.1.weights P f.type ++ DataW.weightsEach P (fs.map (·.type)) (xs.map (·.1)), n ≤ reachBytes := hw
  obtain ⟨y, hy, hwy⟩ := h.2 H enc W fuel _ x h0 (fun n hn => hw' n (List.mem_append_left _ hn))
  obtain ⟨y', hy', hwy'⟩ := h' H enc W fuel cs xs (by simpa using hl) (fun i f' hf' => hx (i + 1) f' (by simpa using hf')) (fun n hn => hw' n (List.mem_append_right _ hn))
  refine ⟨(y, y'), ⟨_, _, ?_, hy, hy'⟩, hwy, hwy'⟩
  show (cs.drop off).take (d.sz + d'.sz) = _
  rw [List.take_add, List.drop_drop]
theorem par_weights {H : Type} {P : Program} {ts : List TypeId} {ds : List (DataW H)} {j : Nat} {t : TypeId} {d : DataW H} (h : (DataW.weightsEach P ts ds).all (· ≤ reachBytes) = true) (ht : ts[j]? = some t) (hd : ds[j]? = some d) :
  ∀ n ∈ d.weights P t, n ≤ reachBytes := fun n hn => of_decide_eq_true (List.all_eq_true.1 h n (DataW.weights_mem_each ht hd n hn))
theorem par_slice {α : Type} {H : Type} {enc : TypeId × Value → H} {P : Program} {W : World} {r : Reach} {b0 : Nat} {t e : TypeId} {d : Kd α} {wf : List α → Prop} {v : Value} {D : DataW H} {ps : List MemPlace}
  (ht : P.underlying t = some (.slice e)) (ho : Opn P t (Kd.slice e d) wf) (hv : Value.okWide P W r b0 t v) (hd : DataW.Trod enc P W 0 (fun _ => true) true t v D ps) (hw : ∀ n ∈ D.weights P t, n ≤ reachBytes) :
  ∃ (A : Option Addr) (l : List α) (c : Nat), v = .slice A l.length c ∧ l.length ≤ c ∧ d.C W A l.length l ∧ wf l := by
 obtain ⟨A, len, cap, rfl⟩ := okWide_slice ht hv
 obtain ⟨fuel, hf⟩ := hd
 obtain ⟨l, ⟨A', c, he, hl, hC⟩, hwl⟩ := ho.2 H enc W fuel _ _ hf hw
 have he' : [Value.slice A len cap] = [.slice A' l.length c] := he
 simp only [List.cons.injEq, Value.slice.injEq, and_true] at he'
 obtain ⟨rfl, rfl, rfl⟩ := he'
 exact ⟨_, l, _, rfl, hl, hC, hwl⟩
end Go.Proofs.YtjkcfpmonpkhhaaDoorW.Opens

namespace Go.Proofs.YtjkcfpmonpkhhaaDoor.Pr
open Go.RowKit Go.Proofs.YtjkcfpmonpkhhaaDoorW.PrintWords Go.Proofs.YtjkcfpmonpkhhaaDoorW.PrintLast Go.Proofs.YtjkcfpmonpkhhaaDoorW.Opens
set_option linter.unusedVariables false
def wfL5 (l : List Int) : Prop := l.length ≤ maxLen ∧ l.length * 1 ≤ 140737488351232 ∧ ∀ y ∈ l, (Lit.int .u8 y).wf = true
theorem opnL59 : Opn Tryd.prog 59 (Kd.slice 5 (Kd.int .u8)) wfL5 := Opn.slice (0 : Int) (by kernel_rfl) Tryd.underlying59 (by kernel_rfl) (Opn.int (by kernel_rfl) Tryd.underlying5)
def FnLabels.Pure : Prop := ∀ (x0 : (List Int)), wfL5 x0 → ∃ k, laws_FnLabels.f k x0 = some true
end Go.Proofs.YtjkcfpmonpkhhaaDoor.Pr

namespace Go.Proofs.YtjkcfpmonpkhhaaDoor.Pr
open Go.RowKit Go.Proofs.YtjkcfpmonpkhhaaDoorW.PrintWords Go.Proofs.YtjkcfpmonpkhhaaDoorW.PrintLast Go.Proofs.YtjkcfpmonpkhhaaDoorW.PrintMore
attribute [local go_sem] max2_int min2_int max_two min_two max_three min_three max_four min_four   -- for this text's walks alone
set_option linter.unusedVariables false
set_option linter.unusedSimpArgs false
def sc (a b : ByteArray) : ByteArray := a ++ b
theorem sc_in (a b : ByteArray) : a ++ b = sc a b := rfl
def sx (a : ByteArray) (i j : Nat) : ByteArray := a.extract i j
theorem sx_in (a : ByteArray) (i j : Nat) : a.extract i j = sx a i j := rfl
end Go.Proofs.YtjkcfpmonpkhhaaDoor.Pr

namespace Go.Proofs.YtjkcfpmonpkhhaaDoor.Pr.Pure
open Go.RowKit Go.Proofs.YtjkcfpmonpkhhaaDoorW.PrintWords Go.Proofs.YtjkcfpmonpkhhaaDoorW.PrintLast Go.Proofs.YtjkcfpmonpkhhaaDoorW.PrintMore  Go.Lib
set_option linter.unusedVariables false
set_option linter.unusedSimpArgs false
theorem w64 {x : Int} (h1 : -9223372036854775808 ≤ x) (h2 : x ≤ 9223372036854775807) : wrap64 x = x := by
 unfold wrap64
 omega
theorem obs {α β : Type} (a : α) (f : α → Option β) : (some a).bind f = f a := id (Option.bind_some a f)
def M (l : List UInt8) : ByteArray := ⟨l.toArray⟩
theorem ex_M (b : ByteArray) : ∃ l, b = M l := ⟨b.data.toList, by unfold M; rw [Array.toArray_toList]⟩
theorem M_size (l : List UInt8) : (M l).size = l.length := by simp [M, ByteArray.size]
theorem M_data (l : List UInt8) : (M l).data.toList = l := by simp [M]
theorem M_toList (l : List UInt8) : (M l).toList = l := by rw [ByteArray.toList_eq, M_data]
theorem bt_M (l : List UInt8) (i : Nat) : bt (M l) (i : Int) = ((l.getD i 0).toNat : Int) := by
 have hb := rd_bytesOf (M l) (i : Int)
 rw [← hb]
 unfold rd bytesOf
 rw [M_data, Int.toNat_natCast, List.getD_eq_getElem?_getD, List.getD_eq_getElem?_getD, List.getElem?_map]
 cases l[i]? <;> rfl
theorem drop_at (l : List UInt8) (i : Nat) (h : i < l.length) : l.drop i = l.getD i 0 :: l.drop (i + 1) := by
 rw [List.drop_eq_getElem_cons h, List.getD_eq_getElem?_getD, List.getElem?_eq_getElem h]
 rfl
theorem l1In_eq (a b c : Int) : spec_l1In.f a b c = some (decide (b ≤ a ∧ a ≤ c)) := by
 unfold spec_l1In.f
 by_cases h : b ≤ a
 ·
  rw [if_pos h]; simp [h]
 ·
  rw [if_neg (by omega)]; simp [h]
theorem within_eq (a b c : Int) : impl_within.f a b c = some (decide (b ≤ a ∧ a ≤ c)) := by
 unfold impl_within.f
 by_cases h : b ≤ a
 ·
  rw [if_pos h]; simp [h]
 ·
  rw [if_neg (by omega)]; simp [h]
end Go.Proofs.YtjkcfpmonpkhhaaDoor.Pr.Pure

namespace Go.Proofs.YtjkcfpmonpkhhaaDoor.Pr.Pure
open Go.RowKit Go.Proofs.YtjkcfpmonpkhhaaDoorW.PrintWords Go.Proofs.YtjkcfpmonpkhhaaDoorW.PrintLast Go.Proofs.YtjkcfpmonpkhhaaDoorW.PrintMore Go.Lib
set_option linter.unusedVariables false
set_option linter.unusedSimpArgs false
def small (x : UInt8) : Bool := decide (97 ≤ x.toNat) && decide (x.toNat ≤ 122)
def isW (l : List UInt8) : Bool := decide (1 ≤ l.length) && decide (l.length ≤ 10) && l.all small
theorem word_l0 (l : List UInt8) (hl : l.length ≤ 4611686018427387904) (d : Nat) : ∀ (k i : Nat), i + d = l.length → d < k → spec_l2Word.l0 k (M l) i = some (decide (1 ≤ l.length) && decide (l.length ≤ 10) && (l.drop i).all small) := by
 induction d with
 | zero =>
  intro k i hd hk
  obtain ⟨k, rfl⟩ : ∃ m, k = m + 1 := ⟨k - 1, by omega⟩
  simp only [spec_l2Word.l0]
  rw [M_size, if_neg (by omega), List.drop_of_length_le (by omega), l1In_eq, obs]
  simp only [List.all_nil, Bool.and_true]
  congr 1
  rw [Bool.eq_iff_iff]
  simp
  omega
 | succ d ih =>
  intro k i hd hk
  obtain ⟨k, rfl⟩ : ∃ m, k = m + 1 := ⟨k - 1, by omega⟩
  simp only [spec_l2Word.l0]
  rw [M_size, if_pos (by omega), if_pos (by omega), bt_M, drop_at l i (by omega)]
  generalize l.getD i 0 = x
  rw [w64 (by omega) (by omega)]
  have ih' := ih k (i + 1) (by omega) (by omega)
  rw [show ((i + 1 : Nat) : Int) = (i : Int) + 1 by omega] at ih'
  rw [List.all_cons]
  by_cases h1 : (x.toNat : Int) < 97
  ·
   have : small x = false := by
    unfold small
    have : ¬ 97 ≤ x.toNat := by omega
    simp [this]
   rw [if_pos h1, this]
   simp
  ·
   rw [if_neg h1]
   by_cases h2 : (x.toNat : Int) > 122
   ·
    have : small x = false := by
     unfold small
     have : ¬ x.toNat ≤ 122 := by omega
     simp [this]
    rw [if_pos h2, this]
    simp
   ·
    have : small x = true := by
     unfold small
     have a : 97 ≤ x.toNat := by omega
     have b : x.toNat ≤ 122 := by omega
     simp [a, b]
    rw [if_neg h2, ih', this, Bool.true_and]
theorem word_spec (l : List UInt8) (hl : l.length ≤ 4611686018427387904) {k : Nat} (hk : l.length < k) : spec_l2Word.f k (M l) = some (isW l) := by
 unfold spec_l2Word.f isW
 simpa using word_l0 l hl l.length k 0 (by omega) hk
def letters : List UInt8 := [97, 98, 99, 100, 101, 102, 103, 104, 105, 106, 107, 108, 109, 110, 111, 112, 113, 114, 115, 116, 117, 118, 119, 120, 121, 122]
set_option maxRecDepth 100000 in
theorem letters_small (x : UInt8) : letters.contains x = small x := by
 have : ∀ n : Nat, n < 256 → letters.contains (UInt8.ofNat n) = small (UInt8.ofNat n) := by decide
 have h := this x.toNat x.toNat_lt
 rwa [show UInt8.ofNat x.toNat = x from UInt8.ofNat_toNat] at h
theorem drop_all {p : UInt8 → Bool} : ∀ l : List UInt8, l.dropWhile p = [] ↔ l.all p = true
 | [] => by simp
 | x :: l => by
  by_cases h : p x = true
  ·
   rw [List.dropWhile_cons_of_pos h, drop_all l]
   simp [h]
  ·
   rw [List.dropWhile_cons_of_neg h]
   simp [h]
theorem trim_nil (l : List UInt8) : trimS l letters = [] ↔ l.all small = true := by
 have hp : (fun x => letters.contains x) = small := funext letters_small
 unfold trimS trimLeftS trimRightS
 rw [hp, drop_all]
 constructor
 ·
  intro h
  rw [List.all_reverse] at h
  have h2 : (l.reverse.dropWhile small).all small = true := h
  have h3 : l.reverse.all small = true := by
   rw [← drop_all]
   have h4 := (drop_all _).2 h2
   have : ∀ m : List UInt8, (m.dropWhile small).dropWhile small = m.dropWhile small := by
    intro m
    induction m with
    | nil => rfl
    | cons x m ih =>
     by_cases h : small x = true
     ·
      rw [List.dropWhile_cons_of_pos h, ih]
     ·
      rw [List.dropWhile_cons_of_neg h, List.dropWhile_cons_of_neg h]
   rw [this] at h4
   exact h4
  rwa [List.all_reverse] at h3
 ·
  intro h
  have h3 : l.reverse.all small = true := by rwa [List.all_reverse]
  rw [(drop_all _).2 h3]
  rfl
theorem word_impl (l : List UInt8) (hl : l.length ≤ 4611686018427387904) : impl_isWord.f (M l) = some (isW l) := by
 unfold impl_isWord.f isW
 rw [M_size]
 by_cases h1 : (l.length : Int) ≥ 1
 ·
  rw [if_pos h1]
  by_cases h2 : (l.length : Int) ≤ 10
  ·
   have ht : strings_Trim.f (M l) (M letters) = some (M (trimS l letters)) := by
    unfold strings_Trim.f
    rw [M_size, M_size, M_data, M_data, if_pos (by omega), if_pos (by decide), if_pos (by decide)]
    rfl
   rw [if_pos h2, show (⟨#[97, 98, 99, 100, 101, 102, 103, 104, 105, 106, 107, 108, 109, 110, 111, 112, 113, 114, 115, 116, 117, 118, 119, 120, 121, 122]⟩ : ByteArray) = M letters from rfl, ht, obs, M_toList]
   congr 1
   rw [Bool.eq_iff_iff]
   have a : 1 ≤ l.length := by omega
   have b : l.length ≤ 10 := by omega
   simp only [a, b, decide_true, Bool.true_and, beq_iff_eq]
   exact trim_nil l
  ·
   rw [if_neg h2]
   have b : ¬ l.length ≤ 10 := by omega
   simp [b]
 ·
  rw [if_neg h1]
  have b : ¬ 1 ≤ l.length := by omega
  simp only [b, decide_false, Bool.false_and]
def lab (l : List UInt8) (x y : Int) : Bool := isW l && decide (0 ≤ x ∧ x ≤ 99) && decide (0 ≤ y ∧ y ≤ 99)
def labB (x : S29) : Bool := lab x.f0.data.toList x.f1 x.f2
theorem lab_spec (l : List UInt8) (hl : l.length ≤ 4611686018427387904) (x y : Int) {k : Nat} (hk : l.length < k) : spec_l24One.f k (M l) x y = some (lab l x y) := by
 unfold spec_l24One.f lab
 rw [word_spec l hl hk, obs]
 cases isW l with
 | false => rfl
 | true =>
  rw [if_pos rfl, l1In_eq, obs]
  cases decide (0 ≤ x ∧ x ≤ 99) with
  | false => rfl
  | true =>
   rw [if_pos rfl, l1In_eq, obs]
   rfl
theorem lab_impl (l : List UInt8) (hl : l.length ≤ 4611686018427387904) (x y : Int) : impl_isLabel.f (M l) x y = some (lab l x y) := by
 unfold impl_isLabel.f lab
 rw [word_impl l hl, obs]
 cases isW l with
 | false => rfl
 | true =>
  rw [if_pos rfl, within_eq, obs]
  cases decide (0 ≤ x ∧ x ≤ 99) with
  | false => rfl
  | true =>
   rw [if_pos rfl, within_eq, obs]
   rfl
theorem labB_spec (x : S29) (hx : x.f0.size ≤ 1048576) {k : Nat} (hk : 1048576 < k) : spec_l24One.f k x.f0 x.f1 x.f2 = some (labB x) := by
 obtain ⟨l, hl⟩ := ex_M x.f0
 unfold labB
 rw [hl] at hx ⊢
 rw [M_size] at hx
 rw [M_data]
 exact lab_spec l (by omega) _ _ (by omega)
theorem labB_impl (x : S29) (hx : x.f0.size ≤ 1048576) : impl_isLabel.f x.f0 x.f1 x.f2 = some (labB x) := by
 obtain ⟨l, hl⟩ := ex_M x.f0
 unfold labB
 rw [hl] at hx ⊢
 rw [M_size] at hx
 rw [M_data]
 exact lab_impl l (by omega) _ _
theorem rdLab_drop (l : List S29) (i : Nat) (h : i < l.length) : l.drop i = rd_T29 l (i : Int) :: l.drop (i + 1) := by
 rw [List.drop_eq_getElem_cons h, show rd_T29 l (i : Int) = l.getD (i : Int).toNat _ from rfl, Int.toNat_natCast, List.getD_eq_getElem?_getD, List.getElem?_eq_getElem h]
 rfl
theorem good_l0 (l : List S29) (hs : ∀ x, x ∈ l → x.f0.size ≤ 1048576) (hl : l.length ≤ 4611686018427387904) (d : Nat) : ∀ (k i : Nat), i + d = l.length → 1048577 + d < k →
  spec_l24Good.l0 k l i = some ((l.drop i).all labB && decide (l.length ≤ 6)) := by
 induction d with
 | zero =>
  intro k i hd hk
  obtain ⟨k, rfl⟩ : ∃ m, k = m + 1 := ⟨k - 1, by omega⟩
  simp only [spec_l24Good.l0]
  rw [if_neg (by omega), List.drop_of_length_le (by omega), List.all_nil, Bool.true_and]
  congr 1
  rw [Bool.eq_iff_iff, decide_eq_true_eq, decide_eq_true_eq]
  omega
 | succ d ih =>
  intro k i hd hk
  obtain ⟨k, rfl⟩ : ∃ m, k = m + 1 := ⟨k - 1, by omega⟩
  simp only [spec_l24Good.l0]
  have hm : rd_T29 l i ∈ l := by
   show l.getD (i : Int).toNat _ ∈ l
   rw [Int.toNat_natCast, List.getD_eq_getElem?_getD, List.getElem?_eq_getElem (by omega)]
   exact List.getElem_mem _
  rw [if_pos (by omega), if_pos (by omega), labB_spec _ (hs _ hm) (by omega), obs, rdLab_drop l i (by omega), List.all_cons]
  cases labB (rd_T29 l i) with
  | false =>
   rw [if_neg Bool.false_ne_true]
   rfl
  | true =>
   rw [if_pos rfl, w64 (by omega) (by omega), Bool.true_and]
   exact ih k (i + 1) (by omega) (by omega)
def labs (l : List S29) : Bool := l.all labB && decide (l.length ≤ 6)
theorem good_eq {l : List S29} (hs : ∀ x, x ∈ l → x.f0.size ≤ 1048576) (hl : l.length ≤ 1048576) {k : Nat} (hk : 1048577 + l.length < k) : spec_l24Good.f k l = some (labs l) := by
 unfold spec_l24Good.f labs
 have := good_l0 l hs (by omega) l.length k 0 (by omega) hk
 simpa using this
theorem are_eq {l : List S29} (hs : ∀ x, x ∈ l → x.f0.size ≤ 1048576) : impl_AreLabels.f l = some (labs l) := by
 unfold impl_AreLabels.f labs
 have hx : ∀ x, x ∈ l → impl_isLabel.f x.f0 x.f1 x.f2 = some (labB x) := fun x h => labB_impl x (hs x h)
 by_cases c : (l.length : Int) ≤ 6
 ·
  rw [if_pos c, if_pos (List.all_eq_true.2 fun x h => by rw [hx x h]; rfl), decide_eq_true (show l.length ≤ 6 by omega), Bool.and_true]
  congr 1
  cases h : l.all labB with
  | false =>
   obtain ⟨x, h1, h2⟩ := List.all_eq_false.1 h
   rw [List.any_eq_true.2 ⟨x, h1, by rw [hx x h1]; simpa using h2⟩]
   rfl
  | true =>
   have : (l.any fun x => !(impl_isLabel.f x.f0 x.f1 x.f2).getD false) = false := List.any_eq_false.2 fun x h1 => by
    rw [hx x h1]
    simpa using List.all_eq_true.1 h x h1
   rw [this]
   rfl
 ·
  rw [if_neg c, decide_eq_false (show ¬ l.length ≤ 6 by omega), Bool.and_false]
def meetB (a b c d e f g h : Int) : Bool := (impl_meet.f a b c d e f g h).getD false
theorem meet_eq (a b c d e f g h : Int) : impl_meet.f a b c d e f g h = some (meetB a b c d e f g h) := by
 have : ∃ r, impl_meet.f a b c d e f g h = some r := by
  unfold impl_meet.f
  repeat' split
  all_goals exact ⟨_, rfl⟩
 obtain ⟨r, hr⟩ := this
 unfold meetB
 rw [hr]
 rfl
theorem meet_eq' (a b c d e f g h : Int) : spec_l24Meet.f a b c d e f g h = some (meetB a b c d e f g h) := meet_eq a b c d e f g h
def onB (b0 b1 b2 b3 : Int) : Bool := if b0 ≥ 0 then (if b1 ≥ 0 then (if wrap64 (b0 + b2) ≤ 100 then decide (wrap64 (b1 + b3) ≤ 100) else false) else false) else false
def fitB (l : List S29) (b0 b1 b2 b3 : Int) : Bool := !(l.any fun x => meetB b0 b1 b2 b3 x.f1 x.f2 1 1) && onB b0 b1 b2 b3
theorem free_l0 (l : List S29) (hl : l.length ≤ 1048576) (b0 b1 b2 b3 : Int) (d : Nat) : ∀ (k i : Nat), i + d = l.length → d < k →
  spec_l24Free.l0 k l i b0 b1 b2 b3 = some (!((l.drop i).any fun x => meetB b0 b1 b2 b3 x.f1 x.f2 1 1) && onB b0 b1 b2 b3) := by
 induction d with
 | zero =>
  intro k i hd hk
  obtain ⟨k, rfl⟩ : ∃ m, k = m + 1 := ⟨k - 1, by omega⟩
  simp only [spec_l24Free.l0]
  rw [if_neg (by omega), List.drop_of_length_le (by omega), List.any_nil, Bool.not_false, Bool.true_and]
  unfold onB
  repeat' split
  all_goals first | rfl | contradiction
 | succ d ih =>
  intro k i hd hk
  obtain ⟨k, rfl⟩ : ∃ m, k = m + 1 := ⟨k - 1, by omega⟩
  simp only [spec_l24Free.l0]
  rw [if_pos (by omega), if_pos (by omega), meet_eq', obs, rdLab_drop l i (by omega), List.any_cons]
  cases meetB b0 b1 b2 b3 (rd_T29 l i).f1 (rd_T29 l i).f2 1 1 with
  | true => rfl
  | false =>
   rw [if_neg Bool.false_ne_true, w64 (by omega) (by omega), Bool.false_or]
   exact ih k (i + 1) (by omega) (by omega)
theorem free_spec (l : List S29) (hl : l.length ≤ 1048576) (b0 b1 b2 b3 : Int) {k : Nat} (hk : l.length < k) : spec_l24Free.f k l b0 b1 b2 b3 = some (fitB l b0 b1 b2 b3) := by
 unfold spec_l24Free.f fitB
 have := free_l0 l hl b0 b1 b2 b3 l.length k 0 (by omega) hk
 simpa using this
theorem free_impl (l : List S29) (b0 b1 b2 b3 : Int) : impl_free.f l b0 b1 b2 b3 = some (fitB l b0 b1 b2 b3) := by
 unfold impl_free.f fitB onB
 by_cases c0 : b0 < 0
 ·
  rw [if_pos c0, if_neg (show ¬ b0 ≥ 0 by omega), Bool.and_false]
 ·
  rw [if_neg c0, if_pos (show b0 ≥ 0 by omega)]
  by_cases c1 : b1 < 0
  ·
   rw [if_pos c1, if_neg (show ¬ b1 ≥ 0 by omega), Bool.and_false]
  ·
   rw [if_neg c1, if_pos (show b1 ≥ 0 by omega)]
   by_cases c2 : 100 < wrap64 (b0 + b2)
   ·
    rw [if_pos c2, if_neg (show ¬ wrap64 (b0 + b2) ≤ 100 by omega), Bool.and_false]
   ·
    rw [if_neg c2, if_pos (show wrap64 (b0 + b2) ≤ 100 by omega)]
    by_cases c3 : 100 < wrap64 (b1 + b3)
    ·
     rw [if_pos c3, decide_eq_false (show ¬ wrap64 (b1 + b3) ≤ 100 by omega), Bool.and_false]
    ·
     rw [if_neg c3, if_pos (List.all_eq_true.2 fun x _ => by rw [meet_eq]; rfl), decide_eq_true (show wrap64 (b1 + b3) ≤ 100 by omega), Bool.and_true]
     rfl
def boxT (x : S29) (w : Int) : Int × Int × Int × Int :=
 ((if w ≥ 2 then wrap64 (x.f1 - (x.f0.size : Int)) else wrap64 (x.f1 + 1)), (if Int.tmod w 2 = 1 then wrap64 (x.f2 - 2) else wrap64 (x.f2 + 1)), (x.f0.size : Int), 2)
theorem box_spec (x : S29) (w : Int) : spec_l24Box.f x.f0 x.f1 x.f2 w = some (boxT x w) := rfl
theorem box_impl (x : S29) (w : Int) : impl_boxFor.f x.f0 x.f1 x.f2 w = some (boxT x w) := rfl
def fitW (l : List S29) (x : S29) (w : Int) : Bool := fitB l (boxT x w).1 (boxT x w).2.1 (boxT x w).2.2.1 (boxT x w).2.2.2
def wF (l : List S29) (y : S29) : Nat → Int → List Int
 | 0, _ => []
 | d + 1, i => if fitW l y i = true then i :: wF l y d (i + 1) else wF l y d (i + 1)
theorem wF_len (l : List S29) (y : S29) : ∀ (d : Nat) (i : Int), (wF l y d i).length ≤ d
 | 0, _ => Nat.le_refl _
 | d + 1, i => by
  unfold wF
  have := wF_len l y d (i + 1)
  split
  ·
   rw [List.length_cons]; omega
  ·
   omega
theorem ways_spec (l : List S29) (hl : l.length ≤ 1048576) {a : Int} (h0 : 0 ≤ a) (h1 : a < l.length) (d : Nat) : ∀ (k : Nat) (i : Int) (out : List Int), i + d = 4 → 0 ≤ i → out.length + d ≤ 100 → l.length + d + 2 < k →
  spec_l24Ways.l0 k l a out i = some (out ++ wF l (rd_T29 l a) d i) := by
 induction d with
 | zero =>
  intro k i out hd hi ho hk
  obtain ⟨k, rfl⟩ : ∃ m, k = m + 1 := ⟨k - 1, by omega⟩
  simp only [spec_l24Ways.l0]
  rw [if_neg (by omega)]
  simp [wF]
 | succ d ih =>
  intro k i out hd hi ho hk
  obtain ⟨k, rfl⟩ : ∃ m, k = m + 1 := ⟨k - 1, by omega⟩
  simp only [spec_l24Ways.l0]
  rw [if_pos (by omega), if_pos h0, if_pos h1, box_spec, obs, free_spec l hl _ _ _ _ (by omega), obs, w64 (by omega) (by omega)]
  show (if fitW l (rd_T29 l a) i = true then _ else _) = _
  unfold wF
  cases fitW l (rd_T29 l a) i with
  | false =>
   rw [if_neg Bool.false_ne_true, if_neg Bool.false_ne_true]
   exact ih k (i + 1) out (by omega) (by omega) (by omega) (by omega)
  | true =>
   rw [if_pos rfl, if_pos rfl, if_pos (by omega), ih k (i + 1) (out ++ [i]) (by omega) (by omega) (by rw [List.length_append, List.length_singleton]; omega) (by omega), List.append_assoc]
   rfl
theorem ways_impl (l : List S29) (hl : l.length ≤ 1048576) {a : Int} (h0 : 0 ≤ a) (h1 : a < l.length) (d : Nat) : ∀ (k : Nat) (i : Int) (out : List Int), i + d = 4 → 0 ≤ i → out.length + d ≤ 100 → d < k →
  impl_waysOf.l0 k l a out i = some (out ++ wF l (rd_T29 l a) d i) := by
 induction d with
 | zero =>
  intro k i out hd hi ho hk
  obtain ⟨k, rfl⟩ : ∃ m, k = m + 1 := ⟨k - 1, by omega⟩
  simp only [impl_waysOf.l0]
  rw [if_neg (by omega)]
  simp [wF]
 | succ d ih =>
  intro k i out hd hi ho hk
  obtain ⟨k, rfl⟩ : ∃ m, k = m + 1 := ⟨k - 1, by omega⟩
  simp only [impl_waysOf.l0]
  rw [if_pos (by omega), if_pos h0, if_pos h1, box_impl, obs, free_impl, obs, w64 (by omega) (by omega)]
  show (if fitW l (rd_T29 l a) i = true then _ else _) = _
  unfold wF
  cases fitW l (rd_T29 l a) i with
  | false =>
   rw [if_neg Bool.false_ne_true, if_neg Bool.false_ne_true]
   exact ih k (i + 1) out (by omega) (by omega) (by omega) (by omega)
  | true =>
   rw [if_pos rfl, if_pos rfl, if_pos (by omega), ih k (i + 1) (out ++ [i]) (by omega) (by omega) (by rw [List.length_append, List.length_singleton]; omega) (by omega), List.append_assoc]
   rfl
def waysL (l : List S29) (a : Int) : List Int := wF l (rd_T29 l a) 4 0
theorem waysL_len (l : List S29) (a : Int) : (waysL l a).length ≤ 4 := wF_len l _ 4 0
theorem waysOf_spec {l : List S29} (hl : l.length ≤ 1048576) {a : Int} (h0 : 0 ≤ a) (h1 : a < l.length) {k : Nat} (hk : l.length + 6 < k) : spec_l24Ways.f k l a = some (waysL l a) := by
 unfold spec_l24Ways.f waysL
 rw [ways_spec l hl h0 h1 4 k 0 [] (by omega) (by omega) (by decide) (by omega), List.nil_append]
theorem waysOf_impl {l : List S29} (hl : l.length ≤ 1048576) {a : Int} (h0 : 0 ≤ a) (h1 : a < l.length) {k : Nat} (hk : 6 < k) : impl_waysOf.f k l a = some (waysL l a) := by
 unfold impl_waysOf.f waysL
 rw [ways_impl l hl h0 h1 4 k 0 [] (by omega) (by omega) (by decide) (by omega), List.nil_append]
end Go.Proofs.YtjkcfpmonpkhhaaDoor.Pr.Pure

