/-
What is proved: parts of the law FnCaveLines: what the functions that it reaches compute, and the plain law.
Conditions: those of each theorem.
-/
import Derived.ChangeArms
import Derived.ChangeSlices
import Derived.Deep.Slices
import Derived.Lib.Bytealg
import Derived.Lib.ItoaNum
import Derived.RowKit
import Derived.SizedLaws
import Derived.WideShapes
import Derived.Test.YteepnlofbfccgaaDoorCFnCaveLines2
namespace Go.Proofs.YteepnlofbfccgaaDoor.Pr
open Go.RowKit Go.Proofs.YteepnlofbfccgaaDoorW.PrintWords Go.Proofs.YteepnlofbfccgaaDoorW.PrintLast Go.Proofs.YteepnlofbfccgaaDoorW.PrintMore
attribute [local go_sem] max2_int min2_int max_two min_two max_three min_three max_four min_four   -- for this text's walks alone
set_option linter.unusedVariables false
set_option linter.unusedSimpArgs false
def spec_l1Cur_caveRow.j0 : Nat → List Int → Int → Int → ByteArray → Int → Int → Int → Option (ByteArray × Int × Int × Int × Int × Int)
 | 0, _, _, _, _, _, _, _ => none
 | k + 1, x1000, x1001, x1002, x597000, x597001, x597002, x597003 => (spec_l1Cur_pick.f x1000 x1001 x1002 60).bind fun bt610 => (if bt610.1 = 0 then ((spec_l1Cur_of.f x1000 bt610.2.1 bt610.2.2 (([(⟨#[]⟩ : ByteArray), (⟨#[65]⟩ : ByteArray), (⟨#[97, 98, 99, 100, 101, 102, 103, 104, 105, 106, 107]⟩ : ByteArray)] : List ByteArray))).bind fun bt616 => (some (bt616.1, x597001, x597002, x597003, bt616.2.1, bt616.2.2))) else (if bt610.1 = 1 then ((spec_l1Cur_among.f x1000 bt610.2.1 bt610.2.2 (([(-1), 0, 1000001] : List Int))).bind fun bt622 => (some (x597000, bt622.1, x597002, x597003, bt622.2.1, bt622.2.2))) else (if bt610.1 = 2 then ((spec_l1Cur_among.f x1000 bt610.2.1 bt610.2.2 (([(-1), wrap64 (x597001 + 1), 20001] : List Int))).bind fun bt628 => (some (x597000, x597001, bt628.1, x597003, bt628.2.1, bt628.2.2))) else (if bt610.1 = 3 then ((spec_l1Cur_among.f x1000 bt610.2.1 bt610.2.2 (([(-1), 0, 10000] : List Int))).bind fun bt634 => (some (x597000, x597001, x597002, bt634.1, bt634.2.1, bt634.2.2))) else (some (x597000, x597001, x597002, x597003, bt610.2.1, bt610.2.2))))))
def spec_l1Cur_caveRow.f (k : Nat) (s0_0 : List Int) (s0_1 : Int) (s0_2 : Int) (a1 : ByteArray) : Option (ByteArray × Int × Int × Int × Int × Int) := (spec_l1Cur_among.f s0_0 s0_1 s0_2 (([0, 1, 105, 12030, 12030, 999900] : List Int))).bind fun bt593 => (if bt593.1 > 0 then ((spec_l1Cur_among.f s0_0 bt593.2.1 bt593.2.2 (([1, 2, 410, 9999] : List Int))).bind fun bt600 => ((spec_l1Cur_among.f s0_0 bt600.2.1 bt600.2.2 (([0, 9, 845, 20000] : List Int))).bind fun bt606 => ((spec_l1Least.f bt593.1 bt606.1).bind fun t609 => (spec_l1Cur_caveRow.j0 k s0_0 bt606.2.1 bt606.2.2 a1 bt593.1 t609 bt600.1)))) else (spec_l1Cur_caveRow.j0 k s0_0 bt593.2.1 bt593.2.2 a1 bt593.1 0 0))
def spec_l1Cur_caveRow.T4 : Bool × List (List Nat × List Nat) := (true, [([], []), ([0], [0]), ([], []), ([], []), ([2, 3], [2, 3]), ([1, 4, 4], [1, 4]), ([0, 1, 2, 3, 4, 5], []), ([6, 5, 5, 0, 1, 2, 3, 4, 5], [5, 6])])
def spec_l1Cur_caveRow.B4 : List Nat := [0, 1, 0, 0, 12, 31, 63, 127]
theorem spec_l1Cur_caveRow.tab4 : rtab .any (opsOf Tryd.f99 4) = spec_l1Cur_caveRow.T4 := by kernel_rfl
theorem spec_l1Cur_caveRow.bits4 : waitsOk spec_l1Cur_caveRow.T4.2 spec_l1Cur_caveRow.B4 = true := by kernel_rfl
set_option maxHeartbeats 8000000 in
set_option maxRecDepth 100000 in
theorem spec_l1Cur_caveRow.calls (k : Nat) (g : Nat) (s0_0 : List Int) (s0_1 : Int) (s0_2 : Int) (a1 : ByteArray) (r1 : ByteArray) (r2 : Int) (r3 : Int) (r4 : Int) (r5 : Int) (r6 : Int) (w0 w : World) (hI : IsS93 w0 w g s0_0 s0_1 s0_2) (hB : Below w0.heap.size w0 w) (h : spec_l1Cur_caveRow.f k s0_0 s0_1 s0_2 a1 = some (r1, r2, r3, r4, r5, r6)) :
  Calls Tryd.prog 99 #[.pointer (some ⟨g, 0, none⟩), .string a1] w fun e w' => e = .returned (.agg #[.string r1, .int .i64 r2, .int .i64 r3, .int .i64 r4]) ∧ IsS93 w0 w' g s0_0 r5 r6 ∧ Below w0.heap.size w0 w' ∧ KeepBut w w' g none := by
 have hu26 := Tryd.underlying26
 have HI0 := Aside0.mk hI
 have HK := Aside0.mk (KeepBut.refl w g none)
 have HL := Aside0.mk hB.size
 clear hI
 have HW0 := Aside0.mk hB.size
 have HB := Aside0.mk hB
 clear hB
 have H : ((spec_l1Cur_among.f s0_0 s0_1 s0_2 (([0, 1, 105, 12030, 12030, 999900] : List Int))).bind fun bt593 => (if bt593.1 > 0 then ((spec_l1Cur_among.f s0_0 bt593.2.1 bt593.2.2 (([1, 2, 410, 9999] : List Int))).bind fun bt600 => ((spec_l1Cur_among.f s0_0 bt600.2.1 bt600.2.2 (([0, 9, 845, 20000] : List Int))).bind fun bt606 => ((spec_l1Least.f bt593.1 bt606.1).bind fun t609 => (spec_l1Cur_caveRow.j0 k s0_0 bt606.2.1 bt606.2.2 a1 bt593.1 t609 bt600.1)))) else (spec_l1Cur_caveRow.j0 k s0_0 bt593.2.1 bt593.2.2 a1 bt593.1 0 0))) = some (r1, r2, r3, r4, r5, r6) := h
 clear h
 obtain ⟨y590, hy590⟩ : ∃ y_ : List Int, y_ = (([0, 1, 105, 12030, 12030, 999900] : List Int)) := ⟨_, rfl⟩
 replace H : ((spec_l1Cur_among.f s0_0 s0_1 s0_2 y590).bind fun bt593 => (if bt593.1 > 0 then ((spec_l1Cur_among.f s0_0 bt593.2.1 bt593.2.2 (([1, 2, 410, 9999] : List Int))).bind fun bt600 => ((spec_l1Cur_among.f s0_0 bt600.2.1 bt600.2.2 (([0, 9, 845, 20000] : List Int))).bind fun bt606 => ((spec_l1Least.f bt593.1 bt606.1).bind fun t609 => (spec_l1Cur_caveRow.j0 k s0_0 bt606.2.1 bt606.2.2 a1 bt593.1 t609 bt600.1)))) else (spec_l1Cur_caveRow.j0 k s0_0 bt593.2.1 bt593.2.2 a1 bt593.1 0 0))) = some (r1, r2, r3, r4, r5, r6) := by first | (rw [hy590]; with_reducible exact H) | (have H2_ := (Option.bind_some _ _).symm.trans H; rw [hy590]; with_reducible exact H2_) | (have H2_ := (Option.bind_some _ _).symm.trans H; with_reducible exact H2_) | with_reducible exact H | (rw [hy590]; exact H) | exact H
 have Ny590 := Aside0.mk hy590
 clear hy590
 replace H := Option.bind_eq_some_iff.mp H
 obtain ⟨⟨t593, t594, t595⟩, A30, H⟩ := H
 replace H : (if t593 > 0 then ((spec_l1Cur_among.f s0_0 t594 t595 (([1, 2, 410, 9999] : List Int))).bind fun bt600 => ((spec_l1Cur_among.f s0_0 bt600.2.1 bt600.2.2 (([0, 9, 845, 20000] : List Int))).bind fun bt606 => ((spec_l1Least.f t593 bt606.1).bind fun t609 => (spec_l1Cur_caveRow.j0 k s0_0 bt606.2.1 bt606.2.2 a1 t593 t609 bt600.1)))) else (spec_l1Cur_caveRow.j0 k s0_0 t594 t595 a1 t593 0 0)) = some (r1, r2, r3, r4, r5, r6) := H
 have A3 := Aside0.mk A30
 clear A30
 have HC4 := Aside0.mk H
 clear H
 go_enter Tryd.func99, Tryd.ntmps99
 go_upto_if 13 with (first | ((with_reducible refine gate_dst (N := 4) rfl ?_); refine box_event ?hg (N := 4) ?hd (cs := #[.string (⟨#[]⟩ : ByteArray), .int .i64 0, .int .i64 0, .int .i64 0]) (t := 26) ?hr ?_; (case hd => rfl); (case hg => rfl); (case hr => first | (go_simp; done) | (go_simp; rfl)); intro gb589 hg w5 hbox hb; have n0_ := Aside0.mk (IsS93.below (by repeat (first | (with_reducible first | exact HI0.out | apply IsS93.alloc | apply IsS93.drewN | apply IsS93.drew | apply IsS93.set_1 | apply IsS93.set_2) | exact HI0.out)) hb); have n1_ := Aside0.mk (KeepBut.trans (by repeat (first | (with_reducible first | exact HK.out | apply KeepBut.set_ | apply keep_drewN | apply keep_drew | apply keep_alloc) | exact HK.out)) (KeepBut.of_below hb g none) (.inl rfl)); have n2_ := Aside0.mk (below_step (by repeat (first | (with_reducible first | exact HB.out | apply below_alloc | apply pw_below_drewN | apply below_drew1 | refine below_set ?_ (IsS93.ge HI0.out)) | exact HB.out)) hb); have n3_ := Aside0.mk (hbox); have n4_ := Aside0.mk ((by rw [hg]; exact (keep_size (w := w) (g := g) (row := none) (by repeat (first | (with_reducible first | exact HK.out | apply KeepBut.set_ | apply keep_drewN | apply keep_drew | apply keep_alloc) | exact HK.out))) : w.heap.size ≤ gb589)); have n5_ := Aside0.mk ((Nat.le_trans HW0.out (by rw [hg]; exact (keep_size (w := w) (g := g) (row := none) (by repeat (first | (with_reducible first | exact HK.out | apply KeepBut.set_ | apply keep_drewN | apply keep_drew | apply keep_alloc) | exact HK.out))) : w.heap.size ≤ gb589) : w0.heap.size ≤ gb589)); have n6_ := Aside0.mk ((by rw [hg]; exact Nat.ne_of_lt (IsS93.lt (show IsS93 w0 _ g s0_0 s0_1 s0_2 from by repeat (first | (with_reducible first | exact HI0.out | apply IsS93.alloc | apply IsS93.drewN | apply IsS93.drew | apply IsS93.set_1 | apply IsS93.set_2) | exact HI0.out))) : g ≠ gb589)); have n7_ := Aside0.mk ((by rw [hg]; exact Nat.ne_of_gt (IsS93.lt (show IsS93 w0 _ g s0_0 s0_1 s0_2 from by repeat (first | (with_reducible first | exact HI0.out | apply IsS93.alloc | apply IsS93.drewN | apply IsS93.drew | apply IsS93.set_1 | apply IsS93.set_2) | exact HI0.out))) : gb589 ≠ g)); clear HI0; clear HK; clear HB; have HI0 := n0_; have HK := n1_; have HB := n2_; have BK589 := n3_; have GW589 := n4_; have GE589 := n5_; have NB0_589 := n6_; have NB589_0 := n7_; clear n0_ n1_ n2_ n3_ n4_ n5_ n6_ n7_; clear hb hbox hg) | ((with_reducible refine gate_dst (N := 8) rfl ?_); refine Kd.R_lit (Kd.int .i64) _ 3 ?hg (N := 8) ?hd (xs := ([0, 1, 105, 12030, 12030, 999900] : List Int)) (inner := [.int .i64 0, .int .i64 1, .int .i64 105, .int .i64 12030, .int .i64 12030, .int .i64 999900]) (ok := fun _ => True) (okp := fun _ => True) ?hr ?hp (fun _ hk => hk) trivial (Below.refl _ _) (Nat.le_refl _) (by simp) ?_; (case hd => rfl); (case hg => rfl); (case hr => first | (go_simp; done) | (go_simp; rfl)); (case hp => exact (Reps.one (show Kd.M (Kd.int .i64) _ _ _ 0 [.int .i64 0] from rfl) (Reps.one (show Kd.M (Kd.int .i64) _ _ _ 1 [.int .i64 1] from rfl) (Reps.one (show Kd.M (Kd.int .i64) _ _ _ 105 [.int .i64 105] from rfl) (Reps.one (show Kd.M (Kd.int .i64) _ _ _ 12030 [.int .i64 12030] from rfl) (Reps.one (show Kd.M (Kd.int .i64) _ _ _ 12030 [.int .i64 12030] from rfl) (Reps.one (show Kd.M (Kd.int .i64) _ _ _ 999900 [.int .i64 999900] from rfl) (Reps.none _ _)))))))); intro v591 w6 ho7 hb hg_ hnew_; clear hg_ hnew_; (first | rw [← Ny590.out] at ho7 | (simp only [Int.reduceToNat] at ho7; rw [← Ny590.out] at ho7)); have n0_ := Aside0.mk (Kd.R_lower ho7 (keep_size (w := w) (g := g) (row := none) (by repeat (first | (with_reducible first | exact HK.out | apply KeepBut.set_ | apply keep_drewN | apply keep_drew | apply keep_alloc | refine keep_far ?_ GW589.out _) | exact HK.out)))); have n1_ := Aside0.mk (IsS93.below (by repeat (first | (with_reducible first | exact HI0.out | apply IsS93.alloc | apply IsS93.drewN | apply IsS93.drew | apply IsS93.set_1 | apply IsS93.set_2 | refine IsS93.far ?_ NB0_589.out _) | exact HI0.out)) hb); have n2_ := Aside0.mk (blk_below (g := gb589) (o := .cells #[.string (⟨#[]⟩ : ByteArray), .int .i64 0, .int .i64 0, .int .i64 0] 26 (0, 0)) (bk_ BK589.out) hb); have n3_ := Aside0.mk (KeepBut.trans (by repeat (first | (with_reducible first | exact HK.out | apply KeepBut.set_ | apply keep_drewN | apply keep_drew | apply keep_alloc | refine keep_far ?_ GW589.out _) | exact HK.out)) (KeepBut.of_below hb g none) (.inl rfl)); have n4_ := Aside0.mk (below_step (by repeat (first | (with_reducible first | exact HB.out | apply below_alloc | apply pw_below_drewN | apply below_drew1 | refine below_set ?_ (IsS93.ge HI0.out) | refine below_set ?_ GE589.out) | exact HB.out)) hb); clear HI0; clear BK589; clear HK; clear HB; have HO592 := n0_; have HI0 := n1_; have BK589 := n2_; have HK := n3_; have HB := n4_; clear n0_ n1_ n2_ n3_ n4_; clear hb ho7; obtain ⟨Ao8, co8, eo8⟩ := Kd.R_slice HO592.out; subst eo8) | ((with_reducible refine gate_callee (f := 83) rfl ?_); refine ga_ (some 9) Tryd.func83 #[.pointer (some ⟨g, 0, none⟩), .slice Ao8 y590.length co8] ?_; (with_reducible refine (spec_l1Cur_among.calls g s0_0 s0_1 s0_2 _ _ y590 t593 t594 t595 w0 _ ?side1 ?side2 ?side3 ?side4 ?side5 A3.out).mono ?_); (case side1 => repeat (first | (with_reducible first | exact HI0.out | apply IsS93.alloc | apply IsS93.drewN | apply IsS93.drew | apply IsS93.set_1 | apply IsS93.set_2 | refine IsS93.far ?_ NB0_589.out _) | exact HI0.out)); (case side2 => repeat (first | (with_reducible first | exact HB.out | apply below_alloc | apply pw_below_drewN | apply below_drew1 | refine below_set ?_ (IsS93.ge HI0.out) | refine below_set ?_ GE589.out) | exact HB.out)); (case side3 => exact kc_ (Kd.R_reads' HO592.out).2.2); (case side4 => exact (Kd.R_reads' HO592.out).2.1); (case side5 => exact far_slice (IsS93.own_ne HI0.out HO592.out (by decide))); rintro e w9 ⟨rfl, hi, hb, hk⟩; refine ⟨_, rfl, ?_⟩; have n0_ := Aside0.mk (KeepBut.blk hk (g' := gb589) (o := .cells #[.string (⟨#[]⟩ : ByteArray), .int .i64 0, .int .i64 0, .int .i64 0] 26 (0, 0)) (bk_ BK589.out) NB589_0.out (by simp)); have n1_ := Aside0.mk (Kd.R_mono (Kd.R_keep (IsS93.apart (show IsS93 w0 _ g s0_0 s0_1 s0_2 from by repeat (first | (with_reducible first | exact HI0.out | apply IsS93.alloc | apply IsS93.drewN | apply IsS93.drew | apply IsS93.set_1 | apply IsS93.set_2 | refine IsS93.far ?_ NB0_589.out _) | exact HI0.out)) (kr_ HO592.out) (by decide)) hk (fun _ h => h.2)) (fun _ h => h.1)); have n2_ := Aside0.mk (KeepBut.trans (by repeat (first | (with_reducible first | exact HK.out | apply KeepBut.set_ | apply keep_drewN | apply keep_drew | apply keep_alloc | refine keep_far ?_ GW589.out _) | exact HK.out)) hk (.inl rfl)); have n3_ := Aside0.mk (hb); have n4_ := Aside0.mk (hi); clear BK589; clear HO592; clear HK; clear HB; clear HI0; have BK589 := n0_; have HO592 := n1_; have HK := n2_; have HB := n3_; have HI0 := n4_; clear n0_ n1_ n2_ n3_ n4_; (try clear hb); (try clear hb2); (try clear hk); (try clear hi)) | ((with_reducible refine gate_dst (N := 5) rfl ?_); refine box_event ?hg (N := 5) ?hd (cs := #[.string (⟨#[]⟩ : ByteArray), .int .i64 0, .int .i64 0, .int .i64 0]) (t := 26) ?hr ?_; (case hd => rfl); (case hg => rfl); (case hr => first | (go_simp; done) | (go_simp; rfl)); intro gb596 hg w10 hbox hb; have n0_ := Aside0.mk (Kd.R_below (kr_ HO592.out) hb); have n1_ := Aside0.mk (IsS93.below (by repeat (first | (with_reducible first | exact HI0.out | apply IsS93.alloc | apply IsS93.drewN | apply IsS93.drew | apply IsS93.set_1 | apply IsS93.set_2 | refine IsS93.far ?_ NB0_589.out _) | exact HI0.out)) hb); have n2_ := Aside0.mk (blk_below (g := gb589) (o := .cells #[.string (⟨#[]⟩ : ByteArray), .int .i64 0, .int .i64 0, .int .i64 0] 26 (0, 0)) (bk_ BK589.out) hb); have n3_ := Aside0.mk (KeepBut.trans (by repeat (first | (with_reducible first | exact HK.out | apply KeepBut.set_ | apply keep_drewN | apply keep_drew | apply keep_alloc | refine keep_far ?_ GW589.out _) | exact HK.out)) (KeepBut.of_below hb g none) (.inl rfl)); have n4_ := Aside0.mk (below_step (by repeat (first | (with_reducible first | exact HB.out | apply below_alloc | apply pw_below_drewN | apply below_drew1 | refine below_set ?_ (IsS93.ge HI0.out) | refine below_set ?_ GE589.out) | exact HB.out)) hb); have n5_ := Aside0.mk (hbox); have n6_ := Aside0.mk ((by rw [hg]; exact (keep_size (w := w) (g := g) (row := none) (by repeat (first | (with_reducible first | exact HK.out | apply KeepBut.set_ | apply keep_drewN | apply keep_drew | apply keep_alloc | refine keep_far ?_ GW589.out _) | exact HK.out))) : w.heap.size ≤ gb596)); have n7_ := Aside0.mk ((Nat.le_trans HW0.out (by rw [hg]; exact (keep_size (w := w) (g := g) (row := none) (by repeat (first | (with_reducible first | exact HK.out | apply KeepBut.set_ | apply keep_drewN | apply keep_drew | apply keep_alloc | refine keep_far ?_ GW589.out _) | exact HK.out))) : w.heap.size ≤ gb596) : w0.heap.size ≤ gb596)); have n8_ := Aside0.mk ((by rw [hg]; exact Nat.ne_of_lt (blk_lt (g := gb589) (o := .cells #[.string (⟨#[]⟩ : ByteArray), .int .i64 0, .int .i64 0, .int .i64 0] 26 (0, 0)) (bk_ BK589.out)) : gb589 ≠ gb596)); have n9_ := Aside0.mk ((by rw [hg]; exact Nat.ne_of_gt (blk_lt (g := gb589) (o := .cells #[.string (⟨#[]⟩ : ByteArray), .int .i64 0, .int .i64 0, .int .i64 0] 26 (0, 0)) (bk_ BK589.out)) : gb596 ≠ gb589)); have n10_ := Aside0.mk ((by rw [hg]; exact Nat.ne_of_lt (IsS93.lt (show IsS93 w0 _ g s0_0 t594 t595 from by repeat (first | (with_reducible first | exact HI0.out | apply IsS93.alloc | apply IsS93.drewN | apply IsS93.drew | apply IsS93.set_1 | apply IsS93.set_2 | refine IsS93.far ?_ NB0_589.out _) | exact HI0.out))) : g ≠ gb596)); have n11_ := Aside0.mk ((by rw [hg]; exact Nat.ne_of_gt (IsS93.lt (show IsS93 w0 _ g s0_0 t594 t595 from by repeat (first | (with_reducible first | exact HI0.out | apply IsS93.alloc | apply IsS93.drewN | apply IsS93.drew | apply IsS93.set_1 | apply IsS93.set_2 | refine IsS93.far ?_ NB0_589.out _) | exact HI0.out))) : gb596 ≠ g)); clear HO592; clear HI0; clear BK589; clear HK; clear HB; have HO592 := n0_; have HI0 := n1_; have BK589 := n2_; have HK := n3_; have HB := n4_; have BK596 := n5_; have GW596 := n6_; have GE596 := n7_; have NB589_596 := n8_; have NB596_589 := n9_; have NB0_596 := n10_; have NB596_0 := n11_; clear n0_ n1_ n2_ n3_ n4_ n5_ n6_ n7_ n8_ n9_ n10_ n11_; clear hb hbox hg; have hnb11 := NB596_589.out; have hnc11 := NB589_596.out; have hnb12 := NB596_0.out; have hnc12 := NB0_596.out; have hcz13_0 : w10.cell? ⟨gb596, 0, none⟩ = some (.string (⟨#[]⟩ : ByteArray)) := (blk_cell BK596.out 0).trans rfl; have hcz13_1 : w10.cell? ⟨gb596, 1, none⟩ = some (.int .i64 0) := (blk_cell BK596.out 1).trans rfl; have hcz13_2 : w10.cell? ⟨gb596, 2, none⟩ = some (.int .i64 0) := (blk_cell BK596.out 2).trans rfl; have hcz13_3 : w10.cell? ⟨gb596, 3, none⟩ = some (.int .i64 0) := (blk_cell BK596.out 3).trans rfl; have hfz13_0 := blk_frozen BK596.out 0; have hfz13_1 := blk_frozen BK596.out 1; have hfz13_2 := blk_frozen BK596.out 2; have hfz13_3 := blk_frozen BK596.out 3))
 (try simp only [Act.put, List.setIfInBounds_toArray, List.set_cons_zero, List.set_cons_succ])
 go_cut [] (fun wc => ∃ (kq : Nat) (x1001_3 : Int) (x1002_3 : Int) (x597002_3 : Int) (x597003_3 : Int), Aside0 (spec_l1Cur_caveRow.j0 kq s0_0 x1001_3 x1002_3 a1 t593 x597002_3 x597003_3 = some (r1, r2, r3, r4, r5, r6)) ∧ Aside0 (kq ≤ k) ∧ Aside0 (wc.heap[gb589]? = some (.cells #[.string (⟨#[]⟩ : ByteArray), .int .i64 0, .int .i64 0, .int .i64 0] 26 (0, 0))) ∧ Aside0 (wc.heap[gb596]? = some (.cells #[.string a1, .int .i64 t593, .int .i64 x597002_3, .int .i64 x597003_3] 26 (0, 0))) ∧ Aside0 (IsS93 w0 wc g s0_0 x1001_3 x1002_3) ∧ Aside0 (KeepBut w wc g none) ∧ Aside0 (Below w0.heap.size w0 wc))
 case first =>
  have H := HC4.out
  clear HC4
  by_cases c14 : t593 > 0
  ·
   rw [if_pos c14] at H
   have c14b0 : decide (0 < t593) = true := decide_eq_true c14
   clear c14
   (first | rw [c14b0] | (simp only [i64_w, i32_w]; rw [c14b0]) | skip)
   obtain ⟨y597, hy597⟩ : ∃ y_ : List Int, y_ = (([1, 2, 410, 9999] : List Int)) := ⟨_, rfl⟩
   replace H : ((spec_l1Cur_among.f s0_0 t594 t595 y597).bind fun bt600 => ((spec_l1Cur_among.f s0_0 bt600.2.1 bt600.2.2 (([0, 9, 845, 20000] : List Int))).bind fun bt606 => ((spec_l1Least.f t593 bt606.1).bind fun t609 => (spec_l1Cur_caveRow.j0 k s0_0 bt606.2.1 bt606.2.2 a1 t593 t609 bt600.1)))) = some (r1, r2, r3, r4, r5, r6) := by first | (rw [hy597]; with_reducible exact H) | (have H2_ := (Option.bind_some _ _).symm.trans H; rw [hy597]; with_reducible exact H2_) | (have H2_ := (Option.bind_some _ _).symm.trans H; with_reducible exact H2_) | with_reducible exact H | (rw [hy597]; exact H) | exact H
   have Ny597 := Aside0.mk hy597
   clear hy597
   replace H := Option.bind_eq_some_iff.mp H
   obtain ⟨⟨t600, t601, t602⟩, A150, H⟩ := H
   replace H : ((spec_l1Cur_among.f s0_0 t601 t602 (([0, 9, 845, 20000] : List Int))).bind fun bt606 => ((spec_l1Least.f t593 bt606.1).bind fun t609 => (spec_l1Cur_caveRow.j0 k s0_0 bt606.2.1 bt606.2.2 a1 t593 t609 t600))) = some (r1, r2, r3, r4, r5, r6) := H
   have A15 := Aside0.mk A150
   clear A150
   obtain ⟨y603, hy603⟩ : ∃ y_ : List Int, y_ = (([0, 9, 845, 20000] : List Int)) := ⟨_, rfl⟩
   replace H : ((spec_l1Cur_among.f s0_0 t601 t602 y603).bind fun bt606 => ((spec_l1Least.f t593 bt606.1).bind fun t609 => (spec_l1Cur_caveRow.j0 k s0_0 bt606.2.1 bt606.2.2 a1 t593 t609 t600))) = some (r1, r2, r3, r4, r5, r6) := by first | (rw [hy603]; with_reducible exact H) | (have H2_ := (Option.bind_some _ _).symm.trans H; rw [hy603]; with_reducible exact H2_) | (have H2_ := (Option.bind_some _ _).symm.trans H; with_reducible exact H2_) | with_reducible exact H | (rw [hy603]; exact H) | exact H
   have Ny603 := Aside0.mk hy603
   clear hy603
   replace H := Option.bind_eq_some_iff.mp H
   obtain ⟨⟨t606, t607, t608⟩, A160, H⟩ := H
   replace H : ((spec_l1Least.f t593 t606).bind fun t609 => (spec_l1Cur_caveRow.j0 k s0_0 t607 t608 a1 t593 t609 t600)) = some (r1, r2, r3, r4, r5, r6) := H
   have A16 := Aside0.mk A160
   clear A160
   replace H := Option.bind_eq_some_iff.mp H
   obtain ⟨t609, A170, H⟩ := H
   replace H : (spec_l1Cur_caveRow.j0 k s0_0 t607 t608 a1 t593 t609 t600) = some (r1, r2, r3, r4, r5, r6) := H
   have A17 := Aside0.mk A170
   clear A170
   have H' := Aside0.mk H
   clear H
   try go_wp2_with (first | ((with_reducible refine gate_dst (N := 15) rfl ?_); refine Kd.R_lit (Kd.int .i64) _ 3 ?hg (N := 15) ?hd (xs := ([1, 2, 410, 9999] : List Int)) (inner := [.int .i64 1, .int .i64 2, .int .i64 410, .int .i64 9999]) (ok := fun _ => True) (okp := fun _ => True) ?hr ?hp (fun _ hk => hk) trivial (Below.refl _ _) (Nat.le_refl _) (by simp) ?_; (case hd => rfl); (case hg => rfl); (case hr => first | (go_simp; done) | (go_simp; rfl)); (case hp => exact (Reps.one (show Kd.M (Kd.int .i64) _ _ _ 1 [.int .i64 1] from rfl) (Reps.one (show Kd.M (Kd.int .i64) _ _ _ 2 [.int .i64 2] from rfl) (Reps.one (show Kd.M (Kd.int .i64) _ _ _ 410 [.int .i64 410] from rfl) (Reps.one (show Kd.M (Kd.int .i64) _ _ _ 9999 [.int .i64 9999] from rfl) (Reps.none _ _)))))); intro v598 w18 ho19 hb hg_ hnew_; clear hg_ hnew_; (first | rw [← Ny597.out] at ho19 | (simp only [Int.reduceToNat] at ho19; rw [← Ny597.out] at ho19)); have n0_ := Aside0.mk (Kd.R_elder' (by (with_reducible repeat (first | apply Kd.R_alloc | apply Kd.R_drewN | apply Kd.R_drew)); exact (Kd.R_mono (Kd.R_far (p := ⟨gb596, 3, none⟩) (Kd.R_far (p := ⟨gb596, 2, none⟩) (Kd.R_far (p := ⟨gb596, 1, none⟩) (Kd.R_far (p := ⟨gb596, 0, none⟩) (Kd.R_types HO592.out BK596.out (by decide)) (fun _ hk => hk.2) (.string a1)) (fun _ hk => hk.2) (.int .i64 t593)) (fun _ hk => hk.2) (.int .i64 0)) (fun _ hk => hk.2) (.int .i64 0)) (fun _ h_ => h_.1))) (Kd.R_base ho19) hb); have n1_ := Aside0.mk (Kd.R_lower (Kd.R_new' ho19 (Kd.R_lt (by (with_reducible repeat (first | apply Kd.R_alloc | apply Kd.R_drewN | apply Kd.R_drew)); exact (Kd.R_mono (Kd.R_far (p := ⟨gb596, 3, none⟩) (Kd.R_far (p := ⟨gb596, 2, none⟩) (Kd.R_far (p := ⟨gb596, 1, none⟩) (Kd.R_far (p := ⟨gb596, 0, none⟩) (Kd.R_types HO592.out BK596.out (by decide)) (fun _ hk => hk.2) (.string a1)) (fun _ hk => hk.2) (.int .i64 t593)) (fun _ hk => hk.2) (.int .i64 0)) (fun _ hk => hk.2) (.int .i64 0)) (fun _ h_ => h_.1))))) (keep_size (w := w) (g := g) (row := none) (by repeat (first | (with_reducible first | exact HK.out | apply KeepBut.set_ | apply keep_drewN | apply keep_drew | apply keep_alloc | refine keep_far ?_ GW589.out _ | refine keep_far ?_ GW596.out _) | exact HK.out)))); have n2_ := Aside0.mk (IsS93.below (show IsS93 w0 ((((w10.setCell ⟨gb596, 0, none⟩ (.string a1)).setCell ⟨gb596, 1, none⟩ (.int .i64 t593)).setCell ⟨gb596, 2, none⟩ (.int .i64 0)).setCell ⟨gb596, 3, none⟩ (.int .i64 0)) g s0_0 t594 t595 from by repeat (first | (with_reducible first | exact HI0.out | apply IsS93.alloc | apply IsS93.drewN | apply IsS93.drew | apply IsS93.set_1 | apply IsS93.set_2 | refine IsS93.far ?_ NB0_589.out _ | refine IsS93.far ?_ NB0_596.out _) | exact HI0.out)) hb); have n3_ := Aside0.mk (blk_below (g := gb589) (o := .cells #[.string (⟨#[]⟩ : ByteArray), .int .i64 0, .int .i64 0, .int .i64 0] 26 (0, 0)) (by (with_reducible repeat (first | refine blk_drewN ?_ _ | refine blk_drew ?_ | refine blk_alloc ?_ _)); refine blk_far ?_ NB589_596.out _; (with_reducible repeat (first | refine blk_drewN ?_ _ | refine blk_drew ?_ | refine blk_alloc ?_ _)); refine blk_far ?_ NB589_596.out _; (with_reducible repeat (first | refine blk_drewN ?_ _ | refine blk_drew ?_ | refine blk_alloc ?_ _)); refine blk_far ?_ NB589_596.out _; (with_reducible repeat (first | refine blk_drewN ?_ _ | refine blk_drew ?_ | refine blk_alloc ?_ _)); refine blk_far ?_ NB589_596.out _; (with_reducible repeat (first | refine blk_drewN ?_ _ | refine blk_drew ?_ | refine blk_alloc ?_ _)); exact BK589.out) hb); have n4_ := Aside0.mk (blk_below (g := gb596) (o := .cells #[.string a1, .int .i64 t593, .int .i64 0, .int .i64 0] 26 (0, 0)) (by (with_reducible repeat (first | refine blk_drewN ?_ _ | refine blk_drew ?_ | refine blk_alloc ?_ _)); refine blk_put (cs := #[.string a1, .int .i64 t593, .int .i64 0, .int .i64 0]) ?_ 3 _ rfl; (with_reducible repeat (first | refine blk_drewN ?_ _ | refine blk_drew ?_ | refine blk_alloc ?_ _)); refine blk_put (cs := #[.string a1, .int .i64 t593, .int .i64 0, .int .i64 0]) ?_ 2 _ rfl; (with_reducible repeat (first | refine blk_drewN ?_ _ | refine blk_drew ?_ | refine blk_alloc ?_ _)); refine blk_put (cs := #[.string a1, .int .i64 0, .int .i64 0, .int .i64 0]) ?_ 1 _ rfl; (with_reducible repeat (first | refine blk_drewN ?_ _ | refine blk_drew ?_ | refine blk_alloc ?_ _)); refine blk_put (cs := #[.string (⟨#[]⟩ : ByteArray), .int .i64 0, .int .i64 0, .int .i64 0]) ?_ 0 _ rfl; (with_reducible repeat (first | refine blk_drewN ?_ _ | refine blk_drew ?_ | refine blk_alloc ?_ _)); exact BK596.out) hb); have n5_ := Aside0.mk (KeepBut.trans (by repeat (first | (with_reducible first | exact HK.out | apply KeepBut.set_ | apply keep_drewN | apply keep_drew | apply keep_alloc | refine keep_far ?_ GW589.out _ | refine keep_far ?_ GW596.out _) | exact HK.out)) (KeepBut.of_below hb g none) (.inl rfl)); have n6_ := Aside0.mk (below_step (by repeat (first | (with_reducible first | exact HB.out | apply below_alloc | apply pw_below_drewN | apply below_drew1 | refine below_set ?_ (IsS93.ge HI0.out) | refine below_set ?_ GE589.out | refine below_set ?_ GE596.out) | exact HB.out)) hb); clear HO592; clear HI0; clear BK589; clear BK596; clear HK; clear HB; have HO592 := n0_; have HO599 := n1_; have HI0 := n2_; have BK589 := n3_; have BK596 := n4_; have HK := n5_; have HB := n6_; clear n0_ n1_ n2_ n3_ n4_ n5_ n6_; clear hb ho19; obtain ⟨Ao20, co20, eo20⟩ := Kd.R_slice HO599.out; subst eo20) | ((with_reducible refine gate_callee (f := 83) rfl ?_); refine ga_ (some 16) Tryd.func83 #[.pointer (some ⟨g, 0, none⟩), .slice Ao20 y597.length co20] ?_; (with_reducible refine (spec_l1Cur_among.calls g s0_0 t594 t595 _ _ y597 t600 t601 t602 w0 _ ?side1 ?side2 ?side3 ?side4 ?side5 A15.out).mono ?_); (case side1 => repeat (first | (with_reducible first | exact HI0.out | apply IsS93.alloc | apply IsS93.drewN | apply IsS93.drew | apply IsS93.set_1 | apply IsS93.set_2 | refine IsS93.far ?_ NB0_589.out _ | refine IsS93.far ?_ NB0_596.out _) | exact HI0.out)); (case side2 => repeat (first | (with_reducible first | exact HB.out | apply below_alloc | apply pw_below_drewN | apply below_drew1 | refine below_set ?_ (IsS93.ge HI0.out) | refine below_set ?_ GE589.out | refine below_set ?_ GE596.out) | exact HB.out)); (case side3 => exact kc_ (Kd.R_reads' HO599.out).2.2); (case side4 => exact (Kd.R_reads' HO599.out).2.1); (case side5 => exact far_slice (IsS93.own_ne HI0.out HO599.out (by decide))); rintro e w21 ⟨rfl, hi, hb, hk⟩; refine ⟨_, rfl, ?_⟩; have n0_ := Aside0.mk (KeepBut.blk hk (g' := gb589) (o := .cells #[.string (⟨#[]⟩ : ByteArray), .int .i64 0, .int .i64 0, .int .i64 0] 26 (0, 0)) (bk_ BK589.out) NB589_0.out (by simp)); have n1_ := Aside0.mk (Kd.R_mono (Kd.R_keep (IsS93.apart (show IsS93 w0 _ g s0_0 t594 t595 from by repeat (first | (with_reducible first | exact HI0.out | apply IsS93.alloc | apply IsS93.drewN | apply IsS93.drew | apply IsS93.set_1 | apply IsS93.set_2 | refine IsS93.far ?_ NB0_589.out _ | refine IsS93.far ?_ NB0_596.out _) | exact HI0.out)) (kr_ HO592.out) (by decide)) hk (fun _ h => h.2)) (fun _ h => h.1)); have n2_ := Aside0.mk (KeepBut.blk hk (g' := gb596) (o := .cells #[.string a1, .int .i64 t593, .int .i64 0, .int .i64 0] 26 (0, 0)) (bk_ BK596.out) NB596_0.out (by simp)); have n3_ := Aside0.mk (Kd.R_mono (Kd.R_keep (IsS93.apart (show IsS93 w0 _ g s0_0 t594 t595 from by repeat (first | (with_reducible first | exact HI0.out | apply IsS93.alloc | apply IsS93.drewN | apply IsS93.drew | apply IsS93.set_1 | apply IsS93.set_2 | refine IsS93.far ?_ NB0_589.out _ | refine IsS93.far ?_ NB0_596.out _) | exact HI0.out)) (kr_ HO599.out) (by decide)) hk (fun _ h => h.2)) (fun _ h => h.1)); have n4_ := Aside0.mk (KeepBut.trans (by repeat (first | (with_reducible first | exact HK.out | apply KeepBut.set_ | apply keep_drewN | apply keep_drew | apply keep_alloc | refine keep_far ?_ GW589.out _ | refine keep_far ?_ GW596.out _) | exact HK.out)) hk (.inl rfl)); have n5_ := Aside0.mk (hb); have n6_ := Aside0.mk (hi); clear BK589; clear HO592; clear BK596; clear HO599; clear HK; clear HB; clear HI0; have BK589 := n0_; have HO592 := n1_; have BK596 := n2_; have HO599 := n3_; have HK := n4_; have HB := n5_; have HI0 := n6_; clear n0_ n1_ n2_ n3_ n4_ n5_ n6_; (try clear hb); (try clear hb2); (try clear hk); (try clear hi); have hnb22 := NB596_589.out; have hnc22 := NB589_596.out; have hnb23 := NB596_0.out; have hnc23 := NB0_596.out; have hcz24_0 : w21.cell? ⟨gb596, 0, none⟩ = some (.string a1) := (blk_cell BK596.out 0).trans rfl; have hcz24_1 : w21.cell? ⟨gb596, 1, none⟩ = some (.int .i64 t593) := (blk_cell BK596.out 1).trans rfl; have hcz24_2 : w21.cell? ⟨gb596, 2, none⟩ = some (.int .i64 0) := (blk_cell BK596.out 2).trans rfl; have hcz24_3 : w21.cell? ⟨gb596, 3, none⟩ = some (.int .i64 0) := (blk_cell BK596.out 3).trans rfl; have hfz24_0 := blk_frozen BK596.out 0; have hfz24_1 := blk_frozen BK596.out 1; have hfz24_2 := blk_frozen BK596.out 2; have hfz24_3 := blk_frozen BK596.out 3))
   have n0_ : Aside0 (Kd.R (Kd.int .i64) 3 (w21.setCell ⟨gb596, 3, none⟩ (.int .i64 t600)) w.heap.size (fun k_ => some k_ ≠ (.slice Ao20 y597.length co20 : Value).ownBlock) (.slice Ao8 y590.length co8) y590) := ⟨by (with_reducible repeat (first | apply Kd.R_alloc | apply Kd.R_drewN | apply Kd.R_drew)); exact Kd.R_mono (Kd.R_far (p := ⟨gb596, 3, none⟩) (Kd.R_types HO592.out BK596.out (by decide)) (fun _ hk => hk.2) (.int .i64 t600)) (fun _ hk => hk.1.2)⟩
   have n1_ : Aside0 (Kd.R (Kd.int .i64) 3 (w21.setCell ⟨gb596, 3, none⟩ (.int .i64 t600)) w.heap.size (fun k_ => some k_ ≠ (.slice Ao8 y590.length co8 : Value).ownBlock) (.slice Ao20 y597.length co20) y597) := ⟨by (with_reducible repeat (first | apply Kd.R_alloc | apply Kd.R_drewN | apply Kd.R_drew)); exact Kd.R_mono (Kd.R_far (p := ⟨gb596, 3, none⟩) (Kd.R_types HO599.out BK596.out (by decide)) (fun _ hk => hk.2) (.int .i64 t600)) (fun _ hk => hk.1.2)⟩
   have n2_ : Aside0 ((w21.setCell ⟨gb596, 3, none⟩ (.int .i64 t600)).heap[gb589]? = some (.cells #[.string (⟨#[]⟩ : ByteArray), .int .i64 0, .int .i64 0, .int .i64 0] 26 (0, 0))) := ⟨by (with_reducible repeat (first | refine blk_drewN ?_ _ | refine blk_drew ?_ | refine blk_alloc ?_ _)); refine blk_far ?_ NB589_596.out _; (with_reducible repeat (first | refine blk_drewN ?_ _ | refine blk_drew ?_ | refine blk_alloc ?_ _)); exact BK589.out⟩
   have n3_ : Aside0 ((w21.setCell ⟨gb596, 3, none⟩ (.int .i64 t600)).heap[gb596]? = some (.cells #[.string a1, .int .i64 t593, .int .i64 0, .int .i64 t600] 26 (0, 0))) := ⟨by (with_reducible repeat (first | refine blk_drewN ?_ _ | refine blk_drew ?_ | refine blk_alloc ?_ _)); refine blk_put (cs := #[.string a1, .int .i64 t593, .int .i64 0, .int .i64 0]) ?_ 3 _ rfl; (with_reducible repeat (first | refine blk_drewN ?_ _ | refine blk_drew ?_ | refine blk_alloc ?_ _)); exact BK596.out⟩
   have n4_ : Aside0 (IsS93 w0 (w21.setCell ⟨gb596, 3, none⟩ (.int .i64 t600)) g s0_0 t601 t602) := ⟨by repeat (first | (with_reducible first | exact HI0.out | apply IsS93.alloc | apply IsS93.drewN | apply IsS93.drew | apply IsS93.set_1 | apply IsS93.set_2 | refine IsS93.far ?_ NB0_589.out _ | refine IsS93.far ?_ NB0_596.out _) | exact HI0.out)⟩
   have n5_ : Aside0 (KeepBut w (w21.setCell ⟨gb596, 3, none⟩ (.int .i64 t600)) g none) := ⟨by repeat (first | (with_reducible first | exact HK.out | apply KeepBut.set_ | apply keep_drewN | apply keep_drew | apply keep_alloc | refine keep_far ?_ GW589.out _ | refine keep_far ?_ GW596.out _) | exact HK.out)⟩
   have n6_ : Aside0 (Below w0.heap.size w0 (w21.setCell ⟨gb596, 3, none⟩ (.int .i64 t600))) := ⟨by repeat (first | (with_reducible first | exact HB.out | apply below_alloc | apply pw_below_drewN | apply below_drew1 | refine below_set ?_ (IsS93.ge HI0.out) | refine below_set ?_ GE589.out | refine below_set ?_ GE596.out) | exact HB.out)⟩
   (try clear HO592)
   (try clear HO599)
   (try clear BK589)
   (try clear BK596)
   (try clear HI0)
   (try clear HK)
   (try clear HB)
   generalize (w21.setCell ⟨gb596, 3, none⟩ (.int .i64 t600)) = w25 at n0_ n1_ n2_ n3_ n4_ n5_ n6_ ⊢
   have HO592 := n0_
   have HO599 := n1_
   have BK589 := n2_
   have BK596 := n3_
   have HI0 := n4_
   have HK := n5_
   have HB := n6_
   clear n0_ n1_ n2_ n3_ n4_ n5_ n6_
   have n0_ := Aside0.mk (Kd.R_drew HO592.out)
   have n1_ := Aside0.mk (Kd.R_drew HO599.out)
   have n2_ := Aside0.mk (blk_drew BK589.out)
   have n3_ := Aside0.mk (blk_drew BK596.out)
   have n4_ := Aside0.mk (IsS93.drew HI0.out)
   have n5_ := Aside0.mk (keep_drew HK.out)
   have n6_ := Aside0.mk (below_drew1 HB.out)
   clear HO592
   clear HO599
   clear BK589
   clear BK596
   clear HI0
   clear HK
   clear HB
   have HO592 := n0_
   have HO599 := n1_
   have BK589 := n2_
   have BK596 := n3_
   have HI0 := n4_
   have HK := n5_
   have HB := n6_
   clear n0_ n1_ n2_ n3_ n4_ n5_ n6_
   refine start_ (n := 8) (S := fun w' => w'.cell? ⟨gb596, 0, none⟩ = some (.string a1) ∧ w'.cell? ⟨gb596, 1, none⟩ = some (.int .i64 t593) ∧ w'.cell? ⟨gb596, 2, none⟩ = some (.int .i64 0) ∧ w'.cell? ⟨gb596, 3, none⟩ = some (.int .i64 t600)) (ds := [7]) #[false, false, false, false, false, false, false, false] (by kernel_rfl) rfl rfl ⟨(blk_cell BK596.out 0).trans rfl, (blk_cell BK596.out 1).trans rfl, (blk_cell BK596.out 2).trans rfl, (blk_cell BK596.out 3).trans rfl⟩ (fun hHeld => ?_); refine with_tabW spec_l1Cur_caveRow.tab4 spec_l1Cur_caveRow.bits4 (fun HT_ HW_ => ?_)
   generalize w25.drew = w26 at HO592 HO599 BK589 BK596 HI0 HK HB hHeld ⊢
   refine pz_ HT_ 0 (some 18) #[true, false, false, false, false, false, false, false] ?_
   refine pz_ HT_ 2 (some 20) #[true, false, true, false, false, false, false, false] ?_
   refine take_ (i := 1) (N := some 19) (v := ?_) (a' := ?_) #[true, true, true, false, false, false, false, false] rfl rfl (take_ofW HT_.out HW_.out (by kernel_rfl)) (fun _ _ _ h => h) (Or.inl ⟨by rfl, ?_⟩) hHeld ?_ ?_
   rotate_left
   ·
    rintro w' ⟨s0, s1, s2, s3⟩
    go_simp
    with_reducible rfl
   rotate_left
   ·
    simp only [Act.put, List.setIfInBounds_toArray, List.set_cons_zero, List.set_cons_succ, i64_w, i32_w]
    rfl
   refine one_ (i := 3) (N := some 21) #[true, true, true, true, false, false, false, false] rfl rfl (one_of HT_.out (by kernel_rfl)) (by decide) (fun K hK => ?_)
   refine Kd.R_lit_step (Kd.int .i64) _ 3 ?hg (N := 21) ?hd (xs := ([0, 9, 845, 20000] : List Int)) (inner := [.int .i64 0, .int .i64 9, .int .i64 845, .int .i64 20000]) (ok := fun _ => True) (okp := fun _ => True) ?hr ?hp (fun _ hk => hk) trivial (Below.refl _ _) (Nat.le_refl _) (by simp) ?_; (case hd => rfl); (case hg => rfl); (case hr => first | (go_simp; done) | (go_simp; rfl)); (case hp => exact (Reps.one (show Kd.M (Kd.int .i64) _ _ _ 0 [.int .i64 0] from rfl) (Reps.one (show Kd.M (Kd.int .i64) _ _ _ 9 [.int .i64 9] from rfl) (Reps.one (show Kd.M (Kd.int .i64) _ _ _ 845 [.int .i64 845] from rfl) (Reps.one (show Kd.M (Kd.int .i64) _ _ _ 20000 [.int .i64 20000] from rfl) (Reps.none _ _))))))
   intro v604 w27 ho28 hb hg_ hnew_
   clear hg_ hnew_
   (first | rw [← Ny603.out] at ho28 | (simp only [Int.reduceToNat] at ho28; rw [← Ny603.out] at ho28))
   have n0_ := Aside0.mk (Kd.R_elder' (kr_ HO592.out) (Kd.R_base ho28) hb)
   have n1_ := Aside0.mk (Kd.R_elder' (kr_ HO599.out) (Kd.R_base ho28) hb)
   have n2_ := Aside0.mk (Kd.R_lower (Kd.R_new' (Kd.R_new' ho28 (Kd.R_lt (kr_ HO592.out))) (Kd.R_lt (kr_ HO599.out))) (keep_size (w := w) (g := g) (row := none) (by repeat (first | (with_reducible first | exact HK.out | apply KeepBut.set_ | apply keep_drewN | apply keep_drew | apply keep_alloc | refine keep_far ?_ GW589.out _ | refine keep_far ?_ GW596.out _) | exact HK.out))))
   have n3_ := Aside0.mk (IsS93.below (by repeat (first | (with_reducible first | exact HI0.out | apply IsS93.alloc | apply IsS93.drewN | apply IsS93.drew | apply IsS93.set_1 | apply IsS93.set_2 | refine IsS93.far ?_ NB0_589.out _ | refine IsS93.far ?_ NB0_596.out _) | exact HI0.out)) hb)
   have n4_ := Aside0.mk (blk_below (g := gb589) (o := .cells #[.string (⟨#[]⟩ : ByteArray), .int .i64 0, .int .i64 0, .int .i64 0] 26 (0, 0)) (bk_ BK589.out) hb)
   have n5_ := Aside0.mk (blk_below (g := gb596) (o := .cells #[.string a1, .int .i64 t593, .int .i64 0, .int .i64 t600] 26 (0, 0)) (bk_ BK596.out) hb)
   have n6_ := Aside0.mk (KeepBut.trans (by repeat (first | (with_reducible first | exact HK.out | apply KeepBut.set_ | apply keep_drewN | apply keep_drew | apply keep_alloc | refine keep_far ?_ GW589.out _ | refine keep_far ?_ GW596.out _) | exact HK.out)) (KeepBut.of_below hb g none) (.inl rfl))
   have n7_ := Aside0.mk (below_step (by repeat (first | (with_reducible first | exact HB.out | apply below_alloc | apply pw_below_drewN | apply below_drew1 | refine below_set ?_ (IsS93.ge HI0.out) | refine below_set ?_ GE589.out | refine below_set ?_ GE596.out) | exact HB.out)) hb)
   clear HO592
   clear HO599
   clear HI0
   clear BK589
   clear BK596
   clear HK
   clear HB
   have HO592 := n0_
   have HO599 := n1_
   have HO605 := n2_
   have HI0 := n3_
   have BK589 := n4_
   have BK596 := n5_
   have HK := n6_
   have HB := n7_
   clear n0_ n1_ n2_ n3_ n4_ n5_ n6_ n7_
   clear hb ho28
   obtain ⟨Ao29, co29, eo29⟩ := Kd.R_slice HO605.out
   (first | subst eo29 | (injection eo29 with f1_ f2_ f3_; have f4_ := f1_.symm; have f5_ := f3_.symm; clear f1_ f2_ f3_; subst f4_; subst f5_))
   refine hK.out _ _ ⟨(blk_cell BK596.out 0).trans rfl, (blk_cell BK596.out 1).trans rfl, (blk_cell BK596.out 2).trans rfl, (blk_cell BK596.out 3).trans rfl⟩ (fun hHeld => ?_)
   clear hK K
   refine norm_ (a' := ?_) ?_ ?_
   rotate_left
   ·
    show Act.put _ (some 21) _ = _
    simp only [Act.put, List.setIfInBounds_toArray, List.set_cons_zero, List.set_cons_succ, i64_w, i32_w]
    rfl
   refine one_ (i := 4) (N := some 22) #[true, true, true, true, true, false, false, false] rfl rfl (one_of HT_.out (by kernel_rfl)) (by decide) (fun K hK => ?_)
   refine goes_ Tryd.func83 (by kernel_rfl) rfl #[.pointer (some ⟨g, 0, none⟩), .slice Ao29 y603.length co29] (by rfl) rfl rfl (by (try simp only [List.map_toArray, List.map_cons, List.map_nil]); first | done | rfl | (simp only [List.length_drop, List.length_take]; rfl)) ?_
   with_reducible refine (spec_l1Cur_among.calls g s0_0 t601 t602 _ _ y603 t606 t607 t608 w0 _ ?side1 ?side2 ?side3 ?side4 ?side5 A16.out).mono ?_
   (case side1 => repeat (first | (with_reducible first | exact HI0.out | apply IsS93.alloc | apply IsS93.drewN | apply IsS93.drew | apply IsS93.set_1 | apply IsS93.set_2 | refine IsS93.far ?_ NB0_589.out _ | refine IsS93.far ?_ NB0_596.out _) | exact HI0.out))
   (case side2 => repeat (first | (with_reducible first | exact HB.out | apply below_alloc | apply pw_below_drewN | apply below_drew1 | refine below_set ?_ (IsS93.ge HI0.out) | refine below_set ?_ GE589.out | refine below_set ?_ GE596.out) | exact HB.out))
   (case side3 => exact kc_ (Kd.R_reads' HO605.out).2.2)
   (case side4 => exact (Kd.R_reads' HO605.out).2.1)
   (case side5 => exact far_slice (IsS93.own_ne HI0.out HO605.out (by decide)))
   rintro e w30 ⟨rfl, hi, hb, hk⟩
   refine ⟨_, rfl, ?_⟩
   have n0_ := Aside0.mk (KeepBut.blk hk (g' := gb589) (o := .cells #[.string (⟨#[]⟩ : ByteArray), .int .i64 0, .int .i64 0, .int .i64 0] 26 (0, 0)) (bk_ BK589.out) NB589_0.out (by simp))
   have n1_ := Aside0.mk (Kd.R_mono (Kd.R_keep (IsS93.apart (show IsS93 w0 _ g s0_0 t601 t602 from by repeat (first | (with_reducible first | exact HI0.out | apply IsS93.alloc | apply IsS93.drewN | apply IsS93.drew | apply IsS93.set_1 | apply IsS93.set_2 | refine IsS93.far ?_ NB0_589.out _ | refine IsS93.far ?_ NB0_596.out _) | exact HI0.out)) (kr_ HO592.out) (by decide)) hk (fun _ h => h.2)) (fun _ h => h.1))
   have n2_ := Aside0.mk (KeepBut.blk hk (g' := gb596) (o := .cells #[.string a1, .int .i64 t593, .int .i64 0, .int .i64 t600] 26 (0, 0)) (bk_ BK596.out) NB596_0.out (by simp))
   have n3_ := Aside0.mk (Kd.R_mono (Kd.R_keep (IsS93.apart (show IsS93 w0 _ g s0_0 t601 t602 from by repeat (first | (with_reducible first | exact HI0.out | apply IsS93.alloc | apply IsS93.drewN | apply IsS93.drew | apply IsS93.set_1 | apply IsS93.set_2 | refine IsS93.far ?_ NB0_589.out _ | refine IsS93.far ?_ NB0_596.out _) | exact HI0.out)) (kr_ HO599.out) (by decide)) hk (fun _ h => h.2)) (fun _ h => h.1))
   have n4_ := Aside0.mk (Kd.R_mono (Kd.R_keep (IsS93.apart (show IsS93 w0 _ g s0_0 t601 t602 from by repeat (first | (with_reducible first | exact HI0.out | apply IsS93.alloc | apply IsS93.drewN | apply IsS93.drew | apply IsS93.set_1 | apply IsS93.set_2 | refine IsS93.far ?_ NB0_589.out _ | refine IsS93.far ?_ NB0_596.out _) | exact HI0.out)) (kr_ HO605.out) (by decide)) hk (fun _ h => h.2)) (fun _ h => h.1))
   have n5_ := Aside0.mk (KeepBut.trans (by repeat (first | (with_reducible first | exact HK.out | apply KeepBut.set_ | apply keep_drewN | apply keep_drew | apply keep_alloc | refine keep_far ?_ GW589.out _ | refine keep_far ?_ GW596.out _) | exact HK.out)) hk (.inl rfl))
   have n6_ := Aside0.mk (hb)
   have n7_ := Aside0.mk (hi)
   clear BK589
   clear HO592
   clear BK596
   clear HO599
   clear HO605
   clear HK
   clear HB
   clear HI0
   have BK589 := n0_
   have HO592 := n1_
   have BK596 := n2_
   have HO599 := n3_
   have HO605 := n4_
   have HK := n5_
   have HB := n6_
   have HI0 := n7_
   clear n0_ n1_ n2_ n3_ n4_ n5_ n6_ n7_
   (try clear hb)
   (try clear hb2)
   (try clear hk)
   (try clear hi)
   refine hK.out _ _ ⟨(blk_cell BK596.out 0).trans rfl, (blk_cell BK596.out 1).trans rfl, (blk_cell BK596.out 2).trans rfl, (blk_cell BK596.out 3).trans rfl⟩ (fun hHeld => ?_)
   clear hK K
   refine norm_ (a' := ?_) ?_ ?_
   rotate_left
   ·
    show Act.put _ (some 22) _ = _
    simp only [Act.put, List.setIfInBounds_toArray, List.set_cons_zero, List.set_cons_succ, i64_w, i32_w]
    rfl
   refine one_ (i := 5) (N := some 23) #[true, true, true, true, true, true, false, false] rfl rfl (one_of HT_.out (by kernel_rfl)) (by decide) (fun K hK => ?_)
   refine goes_ Tryd.func68 (by kernel_rfl) rfl #[.int .i64 t593, .int .i64 t606] (by rfl) rfl rfl (by (try simp only [List.map_toArray, List.map_cons, List.map_nil]); first | done | rfl | (simp only [List.length_drop, List.length_take]; rfl)) ?_
   with_reducible refine (spec_l1Least.calls t593 t606 t609 _ A17.out).mono ?_
   rintro e w' ⟨rfl, ⟨nd, rfl⟩⟩
   refine ⟨_, rfl, ?_⟩
   refine hK.out _ _ ⟨(blk_cell BK596.out 0).trans rfl, (blk_cell BK596.out 1).trans rfl, (blk_cell BK596.out 2).trans rfl, (blk_cell BK596.out 3).trans rfl⟩ (fun hHeld => ?_)
   clear hK K
   refine norm_ (a' := ?_) ?_ ?_
   rotate_left
   ·
    show Act.put _ (some 23) _ = _
    simp only [Act.put, List.setIfInBounds_toArray, List.set_cons_zero, List.set_cons_succ, i64_w, i32_w]
    rfl
   refine pz_ HT_ 6 (some 24) #[true, true, true, true, true, true, true, false] ?_
   refine last_ (i := 7) (N := none) #[true, true, true, true, true, true, true, true] rfl rfl (one_of HT_.out (by kernel_rfl)) (by decide) (fun K hK => ?_)
   have hs31 : w30.cell? ⟨gb596, 2, none⟩ = some (.int .i64 0) := (blk_cell BK596.out 2).trans rfl
   have hfs31 := blk_frozen BK596.out 2
   have hns31_0 := NB589_596.out
   have hms31_0 := NB596_589.out
   refine skip_ (w1 := ?_) (by rfl) rfl ?_ ?_
   rotate_left
   ·
    go_simp
    rfl
   refine hK.out _ _ ?_
   clear hK K
   refine done_ (done_of HT_.out (by kernel_rfl)) ?_
   try go_wp2
   go_meet
   case rel => exact ⟨_, (t607), (t608), (t609), (t600), H', ⟨by first | omega | exact Nat.le_refl _⟩, ⟨by (with_reducible repeat (first | refine blk_drewN ?_ _ | refine blk_drew ?_ | refine blk_alloc ?_ _)); refine blk_far ?_ NB589_596.out _; (with_reducible repeat (first | refine blk_drewN ?_ _ | refine blk_drew ?_ | refine blk_alloc ?_ _)); exact BK589.out⟩, ⟨by (with_reducible repeat (first | refine blk_drewN ?_ _ | refine blk_drew ?_ | refine blk_alloc ?_ _)); refine blk_put (cs := #[.string a1, .int .i64 t593, .int .i64 0, .int .i64 t600]) ?_ 2 _ rfl; (with_reducible repeat (first | refine blk_drewN ?_ _ | refine blk_drew ?_ | refine blk_alloc ?_ _)); exact BK596.out⟩, ⟨by repeat (first | (with_reducible first | exact HI0.out | apply IsS93.alloc | apply IsS93.drewN | apply IsS93.drew | apply IsS93.set_1 | apply IsS93.set_2 | refine IsS93.far ?_ NB0_589.out _ | refine IsS93.far ?_ NB0_596.out _) | exact HI0.out)⟩, ⟨by repeat (first | (with_reducible first | exact HK.out | apply KeepBut.set_ | apply keep_drewN | apply keep_drew | apply keep_alloc | refine keep_far ?_ GW589.out _ | refine keep_far ?_ GW596.out _) | exact HK.out)⟩, ⟨by repeat (first | (with_reducible first | exact HB.out | apply below_alloc | apply pw_below_drewN | apply below_drew1 | refine below_set ?_ (IsS93.ge HI0.out) | refine below_set ?_ GE589.out | refine below_set ?_ GE596.out) | exact HB.out)⟩⟩
  ·
   rw [if_neg c14] at H
   have c14b0 : decide (0 < t593) = false := decide_eq_false c14
   clear c14
   (first | rw [c14b0] | (simp only [i64_w, i32_w]; rw [c14b0]) | skip)
   have H' := Aside0.mk H
   clear H
   go_wp2
   go_meet
   case rel => exact ⟨_, (t594), (t595), (0), (0), H', ⟨by first | omega | exact Nat.le_refl _⟩, ⟨by (with_reducible repeat (first | refine blk_drewN ?_ _ | refine blk_drew ?_ | refine blk_alloc ?_ _)); refine blk_far ?_ NB589_596.out _; (with_reducible repeat (first | refine blk_drewN ?_ _ | refine blk_drew ?_ | refine blk_alloc ?_ _)); refine blk_far ?_ NB589_596.out _; (with_reducible repeat (first | refine blk_drewN ?_ _ | refine blk_drew ?_ | refine blk_alloc ?_ _)); refine blk_far ?_ NB589_596.out _; (with_reducible repeat (first | refine blk_drewN ?_ _ | refine blk_drew ?_ | refine blk_alloc ?_ _)); refine blk_far ?_ NB589_596.out _; (with_reducible repeat (first | refine blk_drewN ?_ _ | refine blk_drew ?_ | refine blk_alloc ?_ _)); exact BK589.out⟩, ⟨by (with_reducible repeat (first | refine blk_drewN ?_ _ | refine blk_drew ?_ | refine blk_alloc ?_ _)); refine blk_put (cs := #[.string a1, .int .i64 t593, .int .i64 0, .int .i64 0]) ?_ 3 _ rfl; (with_reducible repeat (first | refine blk_drewN ?_ _ | refine blk_drew ?_ | refine blk_alloc ?_ _)); refine blk_put (cs := #[.string a1, .int .i64 t593, .int .i64 0, .int .i64 0]) ?_ 2 _ rfl; (with_reducible repeat (first | refine blk_drewN ?_ _ | refine blk_drew ?_ | refine blk_alloc ?_ _)); refine blk_put (cs := #[.string a1, .int .i64 0, .int .i64 0, .int .i64 0]) ?_ 1 _ rfl; (with_reducible repeat (first | refine blk_drewN ?_ _ | refine blk_drew ?_ | refine blk_alloc ?_ _)); refine blk_put (cs := #[.string (⟨#[]⟩ : ByteArray), .int .i64 0, .int .i64 0, .int .i64 0]) ?_ 0 _ rfl; (with_reducible repeat (first | refine blk_drewN ?_ _ | refine blk_drew ?_ | refine blk_alloc ?_ _)); exact BK596.out⟩, ⟨by repeat (first | (with_reducible first | exact HI0.out | apply IsS93.alloc | apply IsS93.drewN | apply IsS93.drew | apply IsS93.set_1 | apply IsS93.set_2 | refine IsS93.far ?_ NB0_589.out _ | refine IsS93.far ?_ NB0_596.out _) | exact HI0.out)⟩, ⟨by repeat (first | (with_reducible first | exact HK.out | apply KeepBut.set_ | apply keep_drewN | apply keep_drew | apply keep_alloc | refine keep_far ?_ GW589.out _ | refine keep_far ?_ GW596.out _) | exact HK.out)⟩, ⟨by repeat (first | (with_reducible first | exact HB.out | apply below_alloc | apply pw_below_drewN | apply below_drew1 | refine below_set ?_ (IsS93.ge HI0.out) | refine below_set ?_ GE589.out | refine below_set ?_ GE596.out) | exact HB.out)⟩⟩
 case rest =>
  clear HC4
  try clear c1
  try clear c2
  try clear p2
  try clear c6
  try clear c8
  try clear c9
  try clear c11
  try clear c12
  try clear c14
  try clear c14b0
  try clear c22
  try clear c23
  try clear hcz13_0
  try clear hcz13_1
  try clear hcz13_2
  try clear hcz13_3
  try clear hcz24_0
  try clear hcz24_1
  try clear hcz24_2
  try clear hcz24_3
  try clear hfz13_0
  try clear hfz13_1
  try clear hfz13_2
  try clear hfz13_3
  try clear hfz24_0
  try clear hfz24_1
  try clear hfz24_2
  try clear hfz24_3
  obtain ⟨kq, x1001_3, x1002_3, x597002_3, x597003_3, HA, HJ3, BK589, BK596, HI0, HK, HB⟩ := hcut
  cases kq with
  | zero => exact absurd HA.out (by simp [spec_l1Cur_caveRow.j0])
  | succ kj3 =>
   have H := HA.out
   clear HA
   simp only [spec_l1Cur_caveRow.j0] at H
   replace H := Option.bind_eq_some_iff.mp H
   obtain ⟨⟨t610, t611, t612⟩, A320, H⟩ := H
   replace H : (if t610 = 0 then ((spec_l1Cur_of.f s0_0 t611 t612 (([(⟨#[]⟩ : ByteArray), (⟨#[65]⟩ : ByteArray), (⟨#[97, 98, 99, 100, 101, 102, 103, 104, 105, 106, 107]⟩ : ByteArray)] : List ByteArray))).bind fun bt616 => (some (bt616.1, t593, x597002_3, x597003_3, bt616.2.1, bt616.2.2))) else (if t610 = 1 then ((spec_l1Cur_among.f s0_0 t611 t612 (([(-1), 0, 1000001] : List Int))).bind fun bt622 => (some (a1, bt622.1, x597002_3, x597003_3, bt622.2.1, bt622.2.2))) else (if t610 = 2 then ((spec_l1Cur_among.f s0_0 t611 t612 (([(-1), wrap64 (t593 + 1), 20001] : List Int))).bind fun bt628 => (some (a1, t593, bt628.1, x597003_3, bt628.2.1, bt628.2.2))) else (if t610 = 3 then ((spec_l1Cur_among.f s0_0 t611 t612 (([(-1), 0, 10000] : List Int))).bind fun bt634 => (some (a1, t593, x597002_3, bt634.1, bt634.2.1, bt634.2.2))) else (some (a1, t593, x597002_3, x597003_3, t611, t612)))))) = some (r1, r2, r3, r4, r5, r6) := H
   have A32 := Aside0.mk A320
   clear A320
   by_cases c33 : t610 = 0
   ·
    rw [if_pos c33] at H
    have c33b0 : (t610 == 0) = true := beq_iff_eq.mpr c33
    have c33b1 : (t610 != 0) = false := bne_eq_false_iff_eq.mpr c33
    clear c33
    obtain ⟨y613, hy613⟩ : ∃ y_ : List ByteArray, y_ = (([(⟨#[]⟩ : ByteArray), (⟨#[65]⟩ : ByteArray), (⟨#[97, 98, 99, 100, 101, 102, 103, 104, 105, 106, 107]⟩ : ByteArray)] : List ByteArray)) := ⟨_, rfl⟩
    replace H : ((spec_l1Cur_of.f s0_0 t611 t612 y613).bind fun bt616 => (some (bt616.1, t593, x597002_3, x597003_3, bt616.2.1, bt616.2.2))) = some (r1, r2, r3, r4, r5, r6) := by first | (rw [hy613]; with_reducible exact H) | (have H2_ := (Option.bind_some _ _).symm.trans H; rw [hy613]; with_reducible exact H2_) | (have H2_ := (Option.bind_some _ _).symm.trans H; with_reducible exact H2_) | with_reducible exact H | (rw [hy613]; exact H) | exact H
    have Ny613 := Aside0.mk hy613
    clear hy613
    replace H := Option.bind_eq_some_iff.mp H
    obtain ⟨⟨t616, t617, t618⟩, A340, H⟩ := H
    replace H : (some (t616, t593, x597002_3, x597003_3, t617, t618)) = some (r1, r2, r3, r4, r5, r6) := H
    have A34 := Aside0.mk A340
    clear A340
    simp only [Option.some.injEq, Prod.mk.injEq] at H
    obtain ⟨rfl, rfl, rfl, rfl, rfl, rfl⟩ := H
    go_wp2_with (first | ((with_reducible refine gate_callee (f := 82) rfl ?_); refine ga_ (some 26) Tryd.func82 #[.pointer (some ⟨g, 0, none⟩), .int .i64 60] ?_; (with_reducible refine (spec_l1Cur_pick.calls g s0_0 x1001_3 x1002_3 60 t610 t611 t612 w0 _ ?side1 ?side2 A32.out).mono ?_); (case side1 => repeat (first | (with_reducible first | exact HI0.out | apply IsS93.alloc | apply IsS93.drewN | apply IsS93.drew | apply IsS93.set_1 | apply IsS93.set_2 | refine IsS93.far ?_ NB0_589.out _ | refine IsS93.far ?_ NB0_596.out _) | exact HI0.out)); (case side2 => repeat (first | (with_reducible first | exact HB.out | apply below_alloc | apply pw_below_drewN | apply below_drew1 | refine below_set ?_ (IsS93.ge HI0.out) | refine below_set ?_ GE589.out | refine below_set ?_ GE596.out) | exact HB.out)); rintro e w35 ⟨rfl, hi, hb, hk⟩; refine ⟨_, rfl, ?_⟩; have n0_ := Aside0.mk (KeepBut.blk hk (g' := gb589) (o := .cells #[.string (⟨#[]⟩ : ByteArray), .int .i64 0, .int .i64 0, .int .i64 0] 26 (0, 0)) (bk_ BK589.out) NB589_0.out (by simp)); have n1_ := Aside0.mk (KeepBut.blk hk (g' := gb596) (o := .cells #[.string a1, .int .i64 t593, .int .i64 x597002_3, .int .i64 x597003_3] 26 (0, 0)) (bk_ BK596.out) NB596_0.out (by simp)); have n2_ := Aside0.mk (KeepBut.trans (by repeat (first | (with_reducible first | exact HK.out | apply KeepBut.set_ | apply keep_drewN | apply keep_drew | apply keep_alloc | refine keep_far ?_ GW589.out _ | refine keep_far ?_ GW596.out _) | exact HK.out)) hk (.inl rfl)); have n3_ := Aside0.mk (hb); have n4_ := Aside0.mk (hi); clear BK589; clear BK596; clear HK; clear HB; clear HI0; have BK589 := n0_; have BK596 := n1_; have HK := n2_; have HB := n3_; have HI0 := n4_; clear n0_ n1_ n2_ n3_ n4_; (try clear hb); (try clear hb2); (try clear hk); (try clear hi)) | ((with_reducible refine gate_dst (N := 30) rfl ?_); refine Kd.R_lit Kd.string _ 9 ?hg (N := 30) ?hd (xs := ([(⟨#[]⟩ : ByteArray), (⟨#[65]⟩ : ByteArray), (⟨#[97, 98, 99, 100, 101, 102, 103, 104, 105, 106, 107]⟩ : ByteArray)] : List ByteArray)) (inner := [.string (⟨#[]⟩ : ByteArray), .string (⟨#[65]⟩ : ByteArray), .string (⟨#[97, 98, 99, 100, 101, 102, 103, 104, 105, 106, 107]⟩ : ByteArray)]) (ok := fun _ => True) (okp := fun _ => True) ?hr ?hp (fun _ hk => hk) trivial (Below.refl _ _) (Nat.le_refl _) (by simp) ?_; (case hd => rfl); (case hg => rfl); (case hr => first | (go_simp; done) | (go_simp; rfl)); (case hp => exact (Reps.one (show Kd.M Kd.string _ _ _ (⟨#[]⟩ : ByteArray) [.string (⟨#[]⟩ : ByteArray)] from rfl) (Reps.one (show Kd.M Kd.string _ _ _ (⟨#[65]⟩ : ByteArray) [.string (⟨#[65]⟩ : ByteArray)] from rfl) (Reps.one (show Kd.M Kd.string _ _ _ (⟨#[97, 98, 99, 100, 101, 102, 103, 104, 105, 106, 107]⟩ : ByteArray) [.string (⟨#[97, 98, 99, 100, 101, 102, 103, 104, 105, 106, 107]⟩ : ByteArray)] from rfl) (Reps.none _ _))))); intro v614 w36 ho37 hb hg_ hnew_; clear hg_ hnew_; (first | rw [← Ny613.out] at ho37 | (simp only [Int.reduceToNat] at ho37; rw [← Ny613.out] at ho37)); have n0_ := Aside0.mk (Kd.R_lower ho37 (keep_size (w := w) (g := g) (row := none) (by repeat (first | (with_reducible first | exact HK.out | apply KeepBut.set_ | apply keep_drewN | apply keep_drew | apply keep_alloc | refine keep_far ?_ GW589.out _ | refine keep_far ?_ GW596.out _) | exact HK.out)))); have n1_ := Aside0.mk (blk_below (g := gb589) (o := .cells #[.string (⟨#[]⟩ : ByteArray), .int .i64 0, .int .i64 0, .int .i64 0] 26 (0, 0)) (bk_ BK589.out) hb); have n2_ := Aside0.mk (blk_below (g := gb596) (o := .cells #[.string a1, .int .i64 t593, .int .i64 x597002_3, .int .i64 x597003_3] 26 (0, 0)) (bk_ BK596.out) hb); have n3_ := Aside0.mk (IsS93.below (by repeat (first | (with_reducible first | exact HI0.out | apply IsS93.alloc | apply IsS93.drewN | apply IsS93.drew | apply IsS93.set_1 | apply IsS93.set_2 | refine IsS93.far ?_ NB0_589.out _ | refine IsS93.far ?_ NB0_596.out _) | exact HI0.out)) hb); have n4_ := Aside0.mk (KeepBut.trans (by repeat (first | (with_reducible first | exact HK.out | apply KeepBut.set_ | apply keep_drewN | apply keep_drew | apply keep_alloc | refine keep_far ?_ GW589.out _ | refine keep_far ?_ GW596.out _) | exact HK.out)) (KeepBut.of_below hb g none) (.inl rfl)); have n5_ := Aside0.mk (below_step (by repeat (first | (with_reducible first | exact HB.out | apply below_alloc | apply pw_below_drewN | apply below_drew1 | refine below_set ?_ (IsS93.ge HI0.out) | refine below_set ?_ GE589.out | refine below_set ?_ GE596.out) | exact HB.out)) hb); clear BK589; clear BK596; clear HI0; clear HK; clear HB; have HO615 := n0_; have BK589 := n1_; have BK596 := n2_; have HI0 := n3_; have HK := n4_; have HB := n5_; clear n0_ n1_ n2_ n3_ n4_ n5_; clear hb ho37; obtain ⟨Ao38, co38, eo38⟩ := Kd.R_slice HO615.out; subst eo38) | ((with_reducible refine gate_callee (f := 101) rfl ?_); refine ga_ (some 31) Tryd.func101 #[.pointer (some ⟨g, 0, none⟩), .slice Ao38 y613.length co38] ?_; (with_reducible refine (spec_l1Cur_of.calls g s0_0 t611 t612 _ _ y613 t616 t617 t618 w0 _ ?side1 ?side2 ?side3 ?side4 ?side5 A34.out).mono ?_); (case side1 => repeat (first | (with_reducible first | exact HI0.out | apply IsS93.alloc | apply IsS93.drewN | apply IsS93.drew | apply IsS93.set_1 | apply IsS93.set_2 | refine IsS93.far ?_ NB0_589.out _ | refine IsS93.far ?_ NB0_596.out _) | exact HI0.out)); (case side2 => repeat (first | (with_reducible first | exact HB.out | apply below_alloc | apply pw_below_drewN | apply below_drew1 | refine below_set ?_ (IsS93.ge HI0.out) | refine below_set ?_ GE589.out | refine below_set ?_ GE596.out) | exact HB.out)); (case side3 => exact kc_ (Kd.R_reads' HO615.out).2.2); (case side4 => exact (Kd.R_reads' HO615.out).2.1); (case side5 => exact far_slice (IsS93.own_ne HI0.out HO615.out (by decide))); rintro e w39 ⟨rfl, hi, hb, hk⟩; refine ⟨_, rfl, ?_⟩; have n0_ := Aside0.mk (KeepBut.blk hk (g' := gb589) (o := .cells #[.string (⟨#[]⟩ : ByteArray), .int .i64 0, .int .i64 0, .int .i64 0] 26 (0, 0)) (bk_ BK589.out) NB589_0.out (by simp)); have n1_ := Aside0.mk (KeepBut.blk hk (g' := gb596) (o := .cells #[.string a1, .int .i64 t593, .int .i64 x597002_3, .int .i64 x597003_3] 26 (0, 0)) (bk_ BK596.out) NB596_0.out (by simp)); have n2_ := Aside0.mk (Kd.R_mono (Kd.R_keep (IsS93.apart (show IsS93 w0 _ g s0_0 t611 t612 from by repeat (first | (with_reducible first | exact HI0.out | apply IsS93.alloc | apply IsS93.drewN | apply IsS93.drew | apply IsS93.set_1 | apply IsS93.set_2 | refine IsS93.far ?_ NB0_589.out _ | refine IsS93.far ?_ NB0_596.out _) | exact HI0.out)) (kr_ HO615.out) (by decide)) hk (fun _ h => h.2)) (fun _ h => h.1)); have n3_ := Aside0.mk (KeepBut.trans (by repeat (first | (with_reducible first | exact HK.out | apply KeepBut.set_ | apply keep_drewN | apply keep_drew | apply keep_alloc | refine keep_far ?_ GW589.out _ | refine keep_far ?_ GW596.out _) | exact HK.out)) hk (.inl rfl)); have n4_ := Aside0.mk (hb); have n5_ := Aside0.mk (hi); clear BK589; clear BK596; clear HO615; clear HK; clear HB; clear HI0; have BK589 := n0_; have BK596 := n1_; have HO615 := n2_; have HK := n3_; have HB := n4_; have HI0 := n5_; clear n0_ n1_ n2_ n3_ n4_ n5_; (try clear hb); (try clear hb2); (try clear hk); (try clear hi); have hnb40 := NB596_589.out; have hnc40 := NB589_596.out; have hnb41 := NB596_0.out; have hnc41 := NB0_596.out; have hcz42_0 : w39.cell? ⟨gb596, 0, none⟩ = some (.string a1) := (blk_cell BK596.out 0).trans rfl; have hcz42_1 : w39.cell? ⟨gb596, 1, none⟩ = some (.int .i64 t593) := (blk_cell BK596.out 1).trans rfl; have hcz42_2 : w39.cell? ⟨gb596, 2, none⟩ = some (.int .i64 x597002_3) := (blk_cell BK596.out 2).trans rfl; have hcz42_3 : w39.cell? ⟨gb596, 3, none⟩ = some (.int .i64 x597003_3) := (blk_cell BK596.out 3).trans rfl; have hfz42_0 := blk_frozen BK596.out 0; have hfz42_1 := blk_frozen BK596.out 1; have hfz42_2 := blk_frozen BK596.out 2; have hfz42_3 := blk_frozen BK596.out 3; have hnb43 := NB589_0.out; have hnc43 := NB0_589.out; have hcz44_0 : w39.cell? ⟨gb589, 0, none⟩ = some (.string (⟨#[]⟩ : ByteArray)) := (blk_cell BK589.out 0).trans rfl; have hcz44_1 : w39.cell? ⟨gb589, 1, none⟩ = some (.int .i64 0) := (blk_cell BK589.out 1).trans rfl; have hcz44_2 : w39.cell? ⟨gb589, 2, none⟩ = some (.int .i64 0) := (blk_cell BK589.out 2).trans rfl; have hcz44_3 : w39.cell? ⟨gb589, 3, none⟩ = some (.int .i64 0) := (blk_cell BK589.out 3).trans rfl; have hfz44_0 := blk_frozen BK589.out 0; have hfz44_1 := blk_frozen BK589.out 1; have hfz44_2 := blk_frozen BK589.out 2; have hfz44_3 := blk_frozen BK589.out 3))
    refine bodyPost_ret (results_cell_row rfl _ _ gb589 26 #[.string t616, .int .i64 t593, .int .i64 x597002_3, .int .i64 x597003_3] (0, 0) _ rfl (by (with_reducible repeat (first | refine blk_drewN ?_ _ | refine blk_drew ?_ | refine blk_alloc ?_ _)); refine blk_put (cs := #[.string t616, .int .i64 t593, .int .i64 x597002_3, .int .i64 0]) ?_ 3 _ rfl; (with_reducible repeat (first | refine blk_drewN ?_ _ | refine blk_drew ?_ | refine blk_alloc ?_ _)); refine blk_put (cs := #[.string t616, .int .i64 t593, .int .i64 0, .int .i64 0]) ?_ 2 _ rfl; (with_reducible repeat (first | refine blk_drewN ?_ _ | refine blk_drew ?_ | refine blk_alloc ?_ _)); refine blk_put (cs := #[.string t616, .int .i64 0, .int .i64 0, .int .i64 0]) ?_ 1 _ rfl; (with_reducible repeat (first | refine blk_drewN ?_ _ | refine blk_drew ?_ | refine blk_alloc ?_ _)); refine blk_put (cs := #[.string (⟨#[]⟩ : ByteArray), .int .i64 0, .int .i64 0, .int .i64 0]) ?_ 0 _ rfl; (with_reducible repeat (first | refine blk_drewN ?_ _ | refine blk_drew ?_ | refine blk_alloc ?_ _)); refine blk_far ?_ NB589_596.out _; (with_reducible repeat (first | refine blk_drewN ?_ _ | refine blk_drew ?_ | refine blk_alloc ?_ _)); exact BK589.out) Tryd.underlying26 rfl (by kernel_rfl)) rfl ?_
    exact ⟨rr_, by repeat (first | (with_reducible first | exact HI0.out | apply IsS93.alloc | apply IsS93.drewN | apply IsS93.drew | apply IsS93.set_1 | apply IsS93.set_2 | refine IsS93.far ?_ NB0_589.out _ | refine IsS93.far ?_ NB0_596.out _) | exact HI0.out), by repeat (first | (with_reducible first | exact HB.out | apply below_alloc | apply pw_below_drewN | apply below_drew1 | refine below_set ?_ (IsS93.ge HI0.out) | refine below_set ?_ GE589.out | refine below_set ?_ GE596.out) | exact HB.out), by repeat (first | (with_reducible first | exact HK.out | apply KeepBut.set_ | apply keep_drewN | apply keep_drew | apply keep_alloc | refine keep_far ?_ GW589.out _ | refine keep_far ?_ GW596.out _) | exact HK.out)⟩
   ·
    rw [if_neg c33] at H
    have c33b0 : (t610 == 0) = false := beq_eq_false_iff_ne.mpr c33
    have c33b1 : (t610 != 0) = true := bne_iff_ne.mpr c33
    by_cases c45 : t610 = 1
    ·
     rw [if_pos c45] at H
     have c45b0 : (t610 == 1) = true := beq_iff_eq.mpr c45
     have c45b1 : (t610 != 1) = false := bne_eq_false_iff_eq.mpr c45
     clear c45
     obtain ⟨y619, hy619⟩ : ∃ y_ : List Int, y_ = (([(-1), 0, 1000001] : List Int)) := ⟨_, rfl⟩
     replace H : ((spec_l1Cur_among.f s0_0 t611 t612 y619).bind fun bt622 => (some (a1, bt622.1, x597002_3, x597003_3, bt622.2.1, bt622.2.2))) = some (r1, r2, r3, r4, r5, r6) := by first | (rw [hy619]; with_reducible exact H) | (have H2_ := (Option.bind_some _ _).symm.trans H; rw [hy619]; with_reducible exact H2_) | (have H2_ := (Option.bind_some _ _).symm.trans H; with_reducible exact H2_) | with_reducible exact H | (rw [hy619]; exact H) | exact H
     have Ny619 := Aside0.mk hy619
     clear hy619
     replace H := Option.bind_eq_some_iff.mp H
     obtain ⟨⟨t622, t623, t624⟩, A460, H⟩ := H
     replace H : (some (a1, t622, x597002_3, x597003_3, t623, t624)) = some (r1, r2, r3, r4, r5, r6) := H
     have A46 := Aside0.mk A460
     clear A460
     simp only [Option.some.injEq, Prod.mk.injEq] at H
     obtain ⟨rfl, rfl, rfl, rfl, rfl, rfl⟩ := H
     go_wp2_with (first | ((with_reducible refine gate_callee (f := 82) rfl ?_); refine ga_ (some 26) Tryd.func82 #[.pointer (some ⟨g, 0, none⟩), .int .i64 60] ?_; (with_reducible refine (spec_l1Cur_pick.calls g s0_0 x1001_3 x1002_3 60 t610 t611 t612 w0 _ ?side1 ?side2 A32.out).mono ?_); (case side1 => repeat (first | (with_reducible first | exact HI0.out | apply IsS93.alloc | apply IsS93.drewN | apply IsS93.drew | apply IsS93.set_1 | apply IsS93.set_2 | refine IsS93.far ?_ NB0_589.out _ | refine IsS93.far ?_ NB0_596.out _) | exact HI0.out)); (case side2 => repeat (first | (with_reducible first | exact HB.out | apply below_alloc | apply pw_below_drewN | apply below_drew1 | refine below_set ?_ (IsS93.ge HI0.out) | refine below_set ?_ GE589.out | refine below_set ?_ GE596.out) | exact HB.out)); rintro e w47 ⟨rfl, hi, hb, hk⟩; refine ⟨_, rfl, ?_⟩; have n0_ := Aside0.mk (KeepBut.blk hk (g' := gb589) (o := .cells #[.string (⟨#[]⟩ : ByteArray), .int .i64 0, .int .i64 0, .int .i64 0] 26 (0, 0)) (bk_ BK589.out) NB589_0.out (by simp)); have n1_ := Aside0.mk (KeepBut.blk hk (g' := gb596) (o := .cells #[.string a1, .int .i64 t593, .int .i64 x597002_3, .int .i64 x597003_3] 26 (0, 0)) (bk_ BK596.out) NB596_0.out (by simp)); have n2_ := Aside0.mk (KeepBut.trans (by repeat (first | (with_reducible first | exact HK.out | apply KeepBut.set_ | apply keep_drewN | apply keep_drew | apply keep_alloc | refine keep_far ?_ GW589.out _ | refine keep_far ?_ GW596.out _) | exact HK.out)) hk (.inl rfl)); have n3_ := Aside0.mk (hb); have n4_ := Aside0.mk (hi); clear BK589; clear BK596; clear HK; clear HB; clear HI0; have BK589 := n0_; have BK596 := n1_; have HK := n2_; have HB := n3_; have HI0 := n4_; clear n0_ n1_ n2_ n3_ n4_; (try clear hb); (try clear hb2); (try clear hk); (try clear hi)) | ((with_reducible refine gate_dst (N := 36) rfl ?_); refine Kd.R_lit (Kd.int .i64) _ 3 ?hg (N := 36) ?hd (xs := ([(-1), 0, 1000001] : List Int)) (inner := [.int .i64 (-1), .int .i64 0, .int .i64 1000001]) (ok := fun _ => True) (okp := fun _ => True) ?hr ?hp (fun _ hk => hk) trivial (Below.refl _ _) (Nat.le_refl _) (by simp) ?_; (case hd => rfl); (case hg => rfl); (case hr => first | (go_simp; done) | (go_simp; rfl)); (case hp => exact (Reps.one (show Kd.M (Kd.int .i64) _ _ _ (-1) [.int .i64 (-1)] from rfl) (Reps.one (show Kd.M (Kd.int .i64) _ _ _ 0 [.int .i64 0] from rfl) (Reps.one (show Kd.M (Kd.int .i64) _ _ _ 1000001 [.int .i64 1000001] from rfl) (Reps.none _ _))))); intro v620 w48 ho49 hb hg_ hnew_; clear hg_ hnew_; (first | rw [← Ny619.out] at ho49 | (simp only [Int.reduceToNat] at ho49; rw [← Ny619.out] at ho49)); have n0_ := Aside0.mk (Kd.R_lower ho49 (keep_size (w := w) (g := g) (row := none) (by repeat (first | (with_reducible first | exact HK.out | apply KeepBut.set_ | apply keep_drewN | apply keep_drew | apply keep_alloc | refine keep_far ?_ GW589.out _ | refine keep_far ?_ GW596.out _) | exact HK.out)))); have n1_ := Aside0.mk (blk_below (g := gb589) (o := .cells #[.string (⟨#[]⟩ : ByteArray), .int .i64 0, .int .i64 0, .int .i64 0] 26 (0, 0)) (bk_ BK589.out) hb); have n2_ := Aside0.mk (blk_below (g := gb596) (o := .cells #[.string a1, .int .i64 t593, .int .i64 x597002_3, .int .i64 x597003_3] 26 (0, 0)) (bk_ BK596.out) hb); have n3_ := Aside0.mk (IsS93.below (by repeat (first | (with_reducible first | exact HI0.out | apply IsS93.alloc | apply IsS93.drewN | apply IsS93.drew | apply IsS93.set_1 | apply IsS93.set_2 | refine IsS93.far ?_ NB0_589.out _ | refine IsS93.far ?_ NB0_596.out _) | exact HI0.out)) hb); have n4_ := Aside0.mk (KeepBut.trans (by repeat (first | (with_reducible first | exact HK.out | apply KeepBut.set_ | apply keep_drewN | apply keep_drew | apply keep_alloc | refine keep_far ?_ GW589.out _ | refine keep_far ?_ GW596.out _) | exact HK.out)) (KeepBut.of_below hb g none) (.inl rfl)); have n5_ := Aside0.mk (below_step (by repeat (first | (with_reducible first | exact HB.out | apply below_alloc | apply pw_below_drewN | apply below_drew1 | refine below_set ?_ (IsS93.ge HI0.out) | refine below_set ?_ GE589.out | refine below_set ?_ GE596.out) | exact HB.out)) hb); clear BK589; clear BK596; clear HI0; clear HK; clear HB; have HO621 := n0_; have BK589 := n1_; have BK596 := n2_; have HI0 := n3_; have HK := n4_; have HB := n5_; clear n0_ n1_ n2_ n3_ n4_ n5_; clear hb ho49; obtain ⟨Ao50, co50, eo50⟩ := Kd.R_slice HO621.out; subst eo50) | ((with_reducible refine gate_callee (f := 83) rfl ?_); refine ga_ (some 37) Tryd.func83 #[.pointer (some ⟨g, 0, none⟩), .slice Ao50 y619.length co50] ?_; (with_reducible refine (spec_l1Cur_among.calls g s0_0 t611 t612 _ _ y619 t622 t623 t624 w0 _ ?side1 ?side2 ?side3 ?side4 ?side5 A46.out).mono ?_); (case side1 => repeat (first | (with_reducible first | exact HI0.out | apply IsS93.alloc | apply IsS93.drewN | apply IsS93.drew | apply IsS93.set_1 | apply IsS93.set_2 | refine IsS93.far ?_ NB0_589.out _ | refine IsS93.far ?_ NB0_596.out _) | exact HI0.out)); (case side2 => repeat (first | (with_reducible first | exact HB.out | apply below_alloc | apply pw_below_drewN | apply below_drew1 | refine below_set ?_ (IsS93.ge HI0.out) | refine below_set ?_ GE589.out | refine below_set ?_ GE596.out) | exact HB.out)); (case side3 => exact kc_ (Kd.R_reads' HO621.out).2.2); (case side4 => exact (Kd.R_reads' HO621.out).2.1); (case side5 => exact far_slice (IsS93.own_ne HI0.out HO621.out (by decide))); rintro e w51 ⟨rfl, hi, hb, hk⟩; refine ⟨_, rfl, ?_⟩; have n0_ := Aside0.mk (KeepBut.blk hk (g' := gb589) (o := .cells #[.string (⟨#[]⟩ : ByteArray), .int .i64 0, .int .i64 0, .int .i64 0] 26 (0, 0)) (bk_ BK589.out) NB589_0.out (by simp)); have n1_ := Aside0.mk (KeepBut.blk hk (g' := gb596) (o := .cells #[.string a1, .int .i64 t593, .int .i64 x597002_3, .int .i64 x597003_3] 26 (0, 0)) (bk_ BK596.out) NB596_0.out (by simp)); have n2_ := Aside0.mk (Kd.R_mono (Kd.R_keep (IsS93.apart (show IsS93 w0 _ g s0_0 t611 t612 from by repeat (first | (with_reducible first | exact HI0.out | apply IsS93.alloc | apply IsS93.drewN | apply IsS93.drew | apply IsS93.set_1 | apply IsS93.set_2 | refine IsS93.far ?_ NB0_589.out _ | refine IsS93.far ?_ NB0_596.out _) | exact HI0.out)) (kr_ HO621.out) (by decide)) hk (fun _ h => h.2)) (fun _ h => h.1)); have n3_ := Aside0.mk (KeepBut.trans (by repeat (first | (with_reducible first | exact HK.out | apply KeepBut.set_ | apply keep_drewN | apply keep_drew | apply keep_alloc | refine keep_far ?_ GW589.out _ | refine keep_far ?_ GW596.out _) | exact HK.out)) hk (.inl rfl)); have n4_ := Aside0.mk (hb); have n5_ := Aside0.mk (hi); clear BK589; clear BK596; clear HO621; clear HK; clear HB; clear HI0; have BK589 := n0_; have BK596 := n1_; have HO621 := n2_; have HK := n3_; have HB := n4_; have HI0 := n5_; clear n0_ n1_ n2_ n3_ n4_ n5_; (try clear hb); (try clear hb2); (try clear hk); (try clear hi); have hnb52 := NB596_589.out; have hnc52 := NB589_596.out; have hnb53 := NB596_0.out; have hnc53 := NB0_596.out; have hcz54_0 : w51.cell? ⟨gb596, 0, none⟩ = some (.string a1) := (blk_cell BK596.out 0).trans rfl; have hcz54_1 : w51.cell? ⟨gb596, 1, none⟩ = some (.int .i64 t593) := (blk_cell BK596.out 1).trans rfl; have hcz54_2 : w51.cell? ⟨gb596, 2, none⟩ = some (.int .i64 x597002_3) := (blk_cell BK596.out 2).trans rfl; have hcz54_3 : w51.cell? ⟨gb596, 3, none⟩ = some (.int .i64 x597003_3) := (blk_cell BK596.out 3).trans rfl; have hfz54_0 := blk_frozen BK596.out 0; have hfz54_1 := blk_frozen BK596.out 1; have hfz54_2 := blk_frozen BK596.out 2; have hfz54_3 := blk_frozen BK596.out 3; have hnb55 := NB589_0.out; have hnc55 := NB0_589.out; have hcz56_0 : w51.cell? ⟨gb589, 0, none⟩ = some (.string (⟨#[]⟩ : ByteArray)) := (blk_cell BK589.out 0).trans rfl; have hcz56_1 : w51.cell? ⟨gb589, 1, none⟩ = some (.int .i64 0) := (blk_cell BK589.out 1).trans rfl; have hcz56_2 : w51.cell? ⟨gb589, 2, none⟩ = some (.int .i64 0) := (blk_cell BK589.out 2).trans rfl; have hcz56_3 : w51.cell? ⟨gb589, 3, none⟩ = some (.int .i64 0) := (blk_cell BK589.out 3).trans rfl; have hfz56_0 := blk_frozen BK589.out 0; have hfz56_1 := blk_frozen BK589.out 1; have hfz56_2 := blk_frozen BK589.out 2; have hfz56_3 := blk_frozen BK589.out 3))
     refine bodyPost_ret (results_cell_row rfl _ _ gb589 26 #[.string a1, .int .i64 t622, .int .i64 x597002_3, .int .i64 x597003_3] (0, 0) _ rfl (by (with_reducible repeat (first | refine blk_drewN ?_ _ | refine blk_drew ?_ | refine blk_alloc ?_ _)); refine blk_put (cs := #[.string a1, .int .i64 t622, .int .i64 x597002_3, .int .i64 0]) ?_ 3 _ rfl; (with_reducible repeat (first | refine blk_drewN ?_ _ | refine blk_drew ?_ | refine blk_alloc ?_ _)); refine blk_put (cs := #[.string a1, .int .i64 t622, .int .i64 0, .int .i64 0]) ?_ 2 _ rfl; (with_reducible repeat (first | refine blk_drewN ?_ _ | refine blk_drew ?_ | refine blk_alloc ?_ _)); refine blk_put (cs := #[.string a1, .int .i64 0, .int .i64 0, .int .i64 0]) ?_ 1 _ rfl; (with_reducible repeat (first | refine blk_drewN ?_ _ | refine blk_drew ?_ | refine blk_alloc ?_ _)); refine blk_put (cs := #[.string (⟨#[]⟩ : ByteArray), .int .i64 0, .int .i64 0, .int .i64 0]) ?_ 0 _ rfl; (with_reducible repeat (first | refine blk_drewN ?_ _ | refine blk_drew ?_ | refine blk_alloc ?_ _)); refine blk_far ?_ NB589_596.out _; (with_reducible repeat (first | refine blk_drewN ?_ _ | refine blk_drew ?_ | refine blk_alloc ?_ _)); exact BK589.out) Tryd.underlying26 rfl (by kernel_rfl)) rfl ?_
     exact ⟨rr_, by repeat (first | (with_reducible first | exact HI0.out | apply IsS93.alloc | apply IsS93.drewN | apply IsS93.drew | apply IsS93.set_1 | apply IsS93.set_2 | refine IsS93.far ?_ NB0_589.out _ | refine IsS93.far ?_ NB0_596.out _) | exact HI0.out), by repeat (first | (with_reducible first | exact HB.out | apply below_alloc | apply pw_below_drewN | apply below_drew1 | refine below_set ?_ (IsS93.ge HI0.out) | refine below_set ?_ GE589.out | refine below_set ?_ GE596.out) | exact HB.out), by repeat (first | (with_reducible first | exact HK.out | apply KeepBut.set_ | apply keep_drewN | apply keep_drew | apply keep_alloc | refine keep_far ?_ GW589.out _ | refine keep_far ?_ GW596.out _) | exact HK.out)⟩
    ·
     rw [if_neg c45] at H
     have c45b0 : (t610 == 1) = false := beq_eq_false_iff_ne.mpr c45
     have c45b1 : (t610 != 1) = true := bne_iff_ne.mpr c45
     by_cases c57 : t610 = 2
     ·
      rw [if_pos c57] at H
      have c57b0 : (t610 == 2) = true := beq_iff_eq.mpr c57
      have c57b1 : (t610 != 2) = false := bne_eq_false_iff_eq.mpr c57
      clear c57
      obtain ⟨y625, hy625⟩ : ∃ y_ : List Int, y_ = (([(-1), wrap64 (t593 + 1), 20001] : List Int)) := ⟨_, rfl⟩
      replace H : ((spec_l1Cur_among.f s0_0 t611 t612 y625).bind fun bt628 => (some (a1, t593, bt628.1, x597003_3, bt628.2.1, bt628.2.2))) = some (r1, r2, r3, r4, r5, r6) := by first | (rw [hy625]; with_reducible exact H) | (have H2_ := (Option.bind_some _ _).symm.trans H; rw [hy625]; with_reducible exact H2_) | (have H2_ := (Option.bind_some _ _).symm.trans H; with_reducible exact H2_) | with_reducible exact H | (rw [hy625]; exact H) | exact H
      have Ny625 := Aside0.mk hy625
      clear hy625
      replace H := Option.bind_eq_some_iff.mp H
      obtain ⟨⟨t628, t629, t630⟩, A580, H⟩ := H
      replace H : (some (a1, t593, t628, x597003_3, t629, t630)) = some (r1, r2, r3, r4, r5, r6) := H
      have A58 := Aside0.mk A580
      clear A580
      simp only [Option.some.injEq, Prod.mk.injEq] at H
      obtain ⟨rfl, rfl, rfl, rfl, rfl, rfl⟩ := H
      go_wp2_with (first | ((with_reducible refine gate_callee (f := 82) rfl ?_); refine ga_ (some 26) Tryd.func82 #[.pointer (some ⟨g, 0, none⟩), .int .i64 60] ?_; (with_reducible refine (spec_l1Cur_pick.calls g s0_0 x1001_3 x1002_3 60 t610 t611 t612 w0 _ ?side1 ?side2 A32.out).mono ?_); (case side1 => repeat (first | (with_reducible first | exact HI0.out | apply IsS93.alloc | apply IsS93.drewN | apply IsS93.drew | apply IsS93.set_1 | apply IsS93.set_2 | refine IsS93.far ?_ NB0_589.out _ | refine IsS93.far ?_ NB0_596.out _) | exact HI0.out)); (case side2 => repeat (first | (with_reducible first | exact HB.out | apply below_alloc | apply pw_below_drewN | apply below_drew1 | refine below_set ?_ (IsS93.ge HI0.out) | refine below_set ?_ GE589.out | refine below_set ?_ GE596.out) | exact HB.out)); rintro e w59 ⟨rfl, hi, hb, hk⟩; refine ⟨_, rfl, ?_⟩; have n0_ := Aside0.mk (KeepBut.blk hk (g' := gb589) (o := .cells #[.string (⟨#[]⟩ : ByteArray), .int .i64 0, .int .i64 0, .int .i64 0] 26 (0, 0)) (bk_ BK589.out) NB589_0.out (by simp)); have n1_ := Aside0.mk (KeepBut.blk hk (g' := gb596) (o := .cells #[.string a1, .int .i64 t593, .int .i64 x597002_3, .int .i64 x597003_3] 26 (0, 0)) (bk_ BK596.out) NB596_0.out (by simp)); have n2_ := Aside0.mk (KeepBut.trans (by repeat (first | (with_reducible first | exact HK.out | apply KeepBut.set_ | apply keep_drewN | apply keep_drew | apply keep_alloc | refine keep_far ?_ GW589.out _ | refine keep_far ?_ GW596.out _) | exact HK.out)) hk (.inl rfl)); have n3_ := Aside0.mk (hb); have n4_ := Aside0.mk (hi); clear BK589; clear BK596; clear HK; clear HB; clear HI0; have BK589 := n0_; have BK596 := n1_; have HK := n2_; have HB := n3_; have HI0 := n4_; clear n0_ n1_ n2_ n3_ n4_; (try clear hb); (try clear hb2); (try clear hk); (try clear hi); have hnb60 := NB596_589.out; have hnc60 := NB589_596.out; have hnb61 := NB596_0.out; have hnc61 := NB0_596.out; have hcz62_0 : w59.cell? ⟨gb596, 0, none⟩ = some (.string a1) := (blk_cell BK596.out 0).trans rfl; have hcz62_1 : w59.cell? ⟨gb596, 1, none⟩ = some (.int .i64 t593) := (blk_cell BK596.out 1).trans rfl; have hcz62_2 : w59.cell? ⟨gb596, 2, none⟩ = some (.int .i64 x597002_3) := (blk_cell BK596.out 2).trans rfl; have hcz62_3 : w59.cell? ⟨gb596, 3, none⟩ = some (.int .i64 x597003_3) := (blk_cell BK596.out 3).trans rfl; have hfz62_0 := blk_frozen BK596.out 0; have hfz62_1 := blk_frozen BK596.out 1; have hfz62_2 := blk_frozen BK596.out 2; have hfz62_3 := blk_frozen BK596.out 3) | ((with_reducible refine gate_dst (N := 45) rfl ?_); refine Kd.R_lit (Kd.int .i64) _ 3 ?hg (N := 45) ?hd (xs := ([(-1), wrap64 (t593 + 1), 20001] : List Int)) (inner := [.int .i64 (-1), .int .i64 (wrap64 (t593 + 1)), .int .i64 20001]) (ok := fun _ => True) (okp := fun _ => True) ?hr ?hp (fun _ hk => hk) trivial (Below.refl _ _) (Nat.le_refl _) (by simp) ?_; (case hd => rfl); (case hg => rfl); (case hr => first | (go_simp; done) | (go_simp; rfl)); (case hp => exact (Reps.one (show Kd.M (Kd.int .i64) _ _ _ (-1) [.int .i64 (-1)] from rfl) (Reps.one (show Kd.M (Kd.int .i64) _ _ _ (wrap64 (t593 + 1)) [.int .i64 (wrap64 (t593 + 1))] from rfl) (Reps.one (show Kd.M (Kd.int .i64) _ _ _ 20001 [.int .i64 20001] from rfl) (Reps.none _ _))))); intro v626 w63 ho64 hb hg_ hnew_; clear hg_ hnew_; (first | rw [← Ny625.out] at ho64 | (simp only [Int.reduceToNat] at ho64; rw [← Ny625.out] at ho64)); have n0_ := Aside0.mk (Kd.R_lower ho64 (keep_size (w := w) (g := g) (row := none) (by repeat (first | (with_reducible first | exact HK.out | apply KeepBut.set_ | apply keep_drewN | apply keep_drew | apply keep_alloc | refine keep_far ?_ GW589.out _ | refine keep_far ?_ GW596.out _) | exact HK.out)))); have n1_ := Aside0.mk (blk_below (g := gb589) (o := .cells #[.string (⟨#[]⟩ : ByteArray), .int .i64 0, .int .i64 0, .int .i64 0] 26 (0, 0)) (bk_ BK589.out) hb); have n2_ := Aside0.mk (blk_below (g := gb596) (o := .cells #[.string a1, .int .i64 t593, .int .i64 x597002_3, .int .i64 x597003_3] 26 (0, 0)) (bk_ BK596.out) hb); have n3_ := Aside0.mk (IsS93.below (by repeat (first | (with_reducible first | exact HI0.out | apply IsS93.alloc | apply IsS93.drewN | apply IsS93.drew | apply IsS93.set_1 | apply IsS93.set_2 | refine IsS93.far ?_ NB0_589.out _ | refine IsS93.far ?_ NB0_596.out _) | exact HI0.out)) hb); have n4_ := Aside0.mk (KeepBut.trans (by repeat (first | (with_reducible first | exact HK.out | apply KeepBut.set_ | apply keep_drewN | apply keep_drew | apply keep_alloc | refine keep_far ?_ GW589.out _ | refine keep_far ?_ GW596.out _) | exact HK.out)) (KeepBut.of_below hb g none) (.inl rfl)); have n5_ := Aside0.mk (below_step (by repeat (first | (with_reducible first | exact HB.out | apply below_alloc | apply pw_below_drewN | apply below_drew1 | refine below_set ?_ (IsS93.ge HI0.out) | refine below_set ?_ GE589.out | refine below_set ?_ GE596.out) | exact HB.out)) hb); clear BK589; clear BK596; clear HI0; clear HK; clear HB; have HO627 := n0_; have BK589 := n1_; have BK596 := n2_; have HI0 := n3_; have HK := n4_; have HB := n5_; clear n0_ n1_ n2_ n3_ n4_ n5_; clear hb ho64; obtain ⟨Ao65, co65, eo65⟩ := Kd.R_slice HO627.out; subst eo65) | ((with_reducible refine gate_callee (f := 83) rfl ?_); refine ga_ (some 46) Tryd.func83 #[.pointer (some ⟨g, 0, none⟩), .slice Ao65 y625.length co65] ?_; (with_reducible refine (spec_l1Cur_among.calls g s0_0 t611 t612 _ _ y625 t628 t629 t630 w0 _ ?side1 ?side2 ?side3 ?side4 ?side5 A58.out).mono ?_); (case side1 => repeat (first | (with_reducible first | exact HI0.out | apply IsS93.alloc | apply IsS93.drewN | apply IsS93.drew | apply IsS93.set_1 | apply IsS93.set_2 | refine IsS93.far ?_ NB0_589.out _ | refine IsS93.far ?_ NB0_596.out _) | exact HI0.out)); (case side2 => repeat (first | (with_reducible first | exact HB.out | apply below_alloc | apply pw_below_drewN | apply below_drew1 | refine below_set ?_ (IsS93.ge HI0.out) | refine below_set ?_ GE589.out | refine below_set ?_ GE596.out) | exact HB.out)); (case side3 => exact kc_ (Kd.R_reads' HO627.out).2.2); (case side4 => exact (Kd.R_reads' HO627.out).2.1); (case side5 => exact far_slice (IsS93.own_ne HI0.out HO627.out (by decide))); rintro e w66 ⟨rfl, hi, hb, hk⟩; refine ⟨_, rfl, ?_⟩; have n0_ := Aside0.mk (KeepBut.blk hk (g' := gb589) (o := .cells #[.string (⟨#[]⟩ : ByteArray), .int .i64 0, .int .i64 0, .int .i64 0] 26 (0, 0)) (bk_ BK589.out) NB589_0.out (by simp)); have n1_ := Aside0.mk (KeepBut.blk hk (g' := gb596) (o := .cells #[.string a1, .int .i64 t593, .int .i64 x597002_3, .int .i64 x597003_3] 26 (0, 0)) (bk_ BK596.out) NB596_0.out (by simp)); have n2_ := Aside0.mk (Kd.R_mono (Kd.R_keep (IsS93.apart (show IsS93 w0 _ g s0_0 t611 t612 from by repeat (first | (with_reducible first | exact HI0.out | apply IsS93.alloc | apply IsS93.drewN | apply IsS93.drew | apply IsS93.set_1 | apply IsS93.set_2 | refine IsS93.far ?_ NB0_589.out _ | refine IsS93.far ?_ NB0_596.out _) | exact HI0.out)) (kr_ HO627.out) (by decide)) hk (fun _ h => h.2)) (fun _ h => h.1)); have n3_ := Aside0.mk (KeepBut.trans (by repeat (first | (with_reducible first | exact HK.out | apply KeepBut.set_ | apply keep_drewN | apply keep_drew | apply keep_alloc | refine keep_far ?_ GW589.out _ | refine keep_far ?_ GW596.out _) | exact HK.out)) hk (.inl rfl)); have n4_ := Aside0.mk (hb); have n5_ := Aside0.mk (hi); clear BK589; clear BK596; clear HO627; clear HK; clear HB; clear HI0; have BK589 := n0_; have BK596 := n1_; have HO627 := n2_; have HK := n3_; have HB := n4_; have HI0 := n5_; clear n0_ n1_ n2_ n3_ n4_ n5_; (try clear hb); (try clear hb2); (try clear hk); (try clear hi); have hcz67_0 : w66.cell? ⟨gb596, 0, none⟩ = some (.string a1) := (blk_cell BK596.out 0).trans rfl; have hcz67_1 : w66.cell? ⟨gb596, 1, none⟩ = some (.int .i64 t593) := (blk_cell BK596.out 1).trans rfl; have hcz67_2 : w66.cell? ⟨gb596, 2, none⟩ = some (.int .i64 x597002_3) := (blk_cell BK596.out 2).trans rfl; have hcz67_3 : w66.cell? ⟨gb596, 3, none⟩ = some (.int .i64 x597003_3) := (blk_cell BK596.out 3).trans rfl; have hfz67_0 := blk_frozen BK596.out 0; have hfz67_1 := blk_frozen BK596.out 1; have hfz67_2 := blk_frozen BK596.out 2; have hfz67_3 := blk_frozen BK596.out 3; have hnb68 := NB589_0.out; have hnc68 := NB0_589.out; have hcz69_0 : w66.cell? ⟨gb589, 0, none⟩ = some (.string (⟨#[]⟩ : ByteArray)) := (blk_cell BK589.out 0).trans rfl; have hcz69_1 : w66.cell? ⟨gb589, 1, none⟩ = some (.int .i64 0) := (blk_cell BK589.out 1).trans rfl; have hcz69_2 : w66.cell? ⟨gb589, 2, none⟩ = some (.int .i64 0) := (blk_cell BK589.out 2).trans rfl; have hcz69_3 : w66.cell? ⟨gb589, 3, none⟩ = some (.int .i64 0) := (blk_cell BK589.out 3).trans rfl; have hfz69_0 := blk_frozen BK589.out 0; have hfz69_1 := blk_frozen BK589.out 1; have hfz69_2 := blk_frozen BK589.out 2; have hfz69_3 := blk_frozen BK589.out 3))
      refine bodyPost_ret (results_cell_row rfl _ _ gb589 26 #[.string a1, .int .i64 t593, .int .i64 t628, .int .i64 x597003_3] (0, 0) _ rfl (by (with_reducible repeat (first | refine blk_drewN ?_ _ | refine blk_drew ?_ | refine blk_alloc ?_ _)); refine blk_put (cs := #[.string a1, .int .i64 t593, .int .i64 t628, .int .i64 0]) ?_ 3 _ rfl; (with_reducible repeat (first | refine blk_drewN ?_ _ | refine blk_drew ?_ | refine blk_alloc ?_ _)); refine blk_put (cs := #[.string a1, .int .i64 t593, .int .i64 0, .int .i64 0]) ?_ 2 _ rfl; (with_reducible repeat (first | refine blk_drewN ?_ _ | refine blk_drew ?_ | refine blk_alloc ?_ _)); refine blk_put (cs := #[.string a1, .int .i64 0, .int .i64 0, .int .i64 0]) ?_ 1 _ rfl; (with_reducible repeat (first | refine blk_drewN ?_ _ | refine blk_drew ?_ | refine blk_alloc ?_ _)); refine blk_put (cs := #[.string (⟨#[]⟩ : ByteArray), .int .i64 0, .int .i64 0, .int .i64 0]) ?_ 0 _ rfl; (with_reducible repeat (first | refine blk_drewN ?_ _ | refine blk_drew ?_ | refine blk_alloc ?_ _)); refine blk_far ?_ NB589_596.out _; (with_reducible repeat (first | refine blk_drewN ?_ _ | refine blk_drew ?_ | refine blk_alloc ?_ _)); exact BK589.out) Tryd.underlying26 rfl (by kernel_rfl)) rfl ?_
      exact ⟨rr_, by repeat (first | (with_reducible first | exact HI0.out | apply IsS93.alloc | apply IsS93.drewN | apply IsS93.drew | apply IsS93.set_1 | apply IsS93.set_2 | refine IsS93.far ?_ NB0_589.out _ | refine IsS93.far ?_ NB0_596.out _) | exact HI0.out), by repeat (first | (with_reducible first | exact HB.out | apply below_alloc | apply pw_below_drewN | apply below_drew1 | refine below_set ?_ (IsS93.ge HI0.out) | refine below_set ?_ GE589.out | refine below_set ?_ GE596.out) | exact HB.out), by repeat (first | (with_reducible first | exact HK.out | apply KeepBut.set_ | apply keep_drewN | apply keep_drew | apply keep_alloc | refine keep_far ?_ GW589.out _ | refine keep_far ?_ GW596.out _) | exact HK.out)⟩
     ·
      rw [if_neg c57] at H
      have c57b0 : (t610 == 2) = false := beq_eq_false_iff_ne.mpr c57
      have c57b1 : (t610 != 2) = true := bne_iff_ne.mpr c57
      by_cases c70 : t610 = 3
      ·
       rw [if_pos c70] at H
       have c70b0 : (t610 == 3) = true := beq_iff_eq.mpr c70
       have c70b1 : (t610 != 3) = false := bne_eq_false_iff_eq.mpr c70
       clear c70
       obtain ⟨y631, hy631⟩ : ∃ y_ : List Int, y_ = (([(-1), 0, 10000] : List Int)) := ⟨_, rfl⟩
       replace H : ((spec_l1Cur_among.f s0_0 t611 t612 y631).bind fun bt634 => (some (a1, t593, x597002_3, bt634.1, bt634.2.1, bt634.2.2))) = some (r1, r2, r3, r4, r5, r6) := by first | (rw [hy631]; with_reducible exact H) | (have H2_ := (Option.bind_some _ _).symm.trans H; rw [hy631]; with_reducible exact H2_) | (have H2_ := (Option.bind_some _ _).symm.trans H; with_reducible exact H2_) | with_reducible exact H | (rw [hy631]; exact H) | exact H
       have Ny631 := Aside0.mk hy631
       clear hy631
       replace H := Option.bind_eq_some_iff.mp H
       obtain ⟨⟨t634, t635, t636⟩, A710, H⟩ := H
       replace H : (some (a1, t593, x597002_3, t634, t635, t636)) = some (r1, r2, r3, r4, r5, r6) := H
       have A71 := Aside0.mk A710
       clear A710
       simp only [Option.some.injEq, Prod.mk.injEq] at H
       obtain ⟨rfl, rfl, rfl, rfl, rfl, rfl⟩ := H
       go_wp2_with (first | ((with_reducible refine gate_callee (f := 82) rfl ?_); refine ga_ (some 26) Tryd.func82 #[.pointer (some ⟨g, 0, none⟩), .int .i64 60] ?_; (with_reducible refine (spec_l1Cur_pick.calls g s0_0 x1001_3 x1002_3 60 t610 t611 t612 w0 _ ?side1 ?side2 A32.out).mono ?_); (case side1 => repeat (first | (with_reducible first | exact HI0.out | apply IsS93.alloc | apply IsS93.drewN | apply IsS93.drew | apply IsS93.set_1 | apply IsS93.set_2 | refine IsS93.far ?_ NB0_589.out _ | refine IsS93.far ?_ NB0_596.out _) | exact HI0.out)); (case side2 => repeat (first | (with_reducible first | exact HB.out | apply below_alloc | apply pw_below_drewN | apply below_drew1 | refine below_set ?_ (IsS93.ge HI0.out) | refine below_set ?_ GE589.out | refine below_set ?_ GE596.out) | exact HB.out)); rintro e w72 ⟨rfl, hi, hb, hk⟩; refine ⟨_, rfl, ?_⟩; have n0_ := Aside0.mk (KeepBut.blk hk (g' := gb589) (o := .cells #[.string (⟨#[]⟩ : ByteArray), .int .i64 0, .int .i64 0, .int .i64 0] 26 (0, 0)) (bk_ BK589.out) NB589_0.out (by simp)); have n1_ := Aside0.mk (KeepBut.blk hk (g' := gb596) (o := .cells #[.string a1, .int .i64 t593, .int .i64 x597002_3, .int .i64 x597003_3] 26 (0, 0)) (bk_ BK596.out) NB596_0.out (by simp)); have n2_ := Aside0.mk (KeepBut.trans (by repeat (first | (with_reducible first | exact HK.out | apply KeepBut.set_ | apply keep_drewN | apply keep_drew | apply keep_alloc | refine keep_far ?_ GW589.out _ | refine keep_far ?_ GW596.out _) | exact HK.out)) hk (.inl rfl)); have n3_ := Aside0.mk (hb); have n4_ := Aside0.mk (hi); clear BK589; clear BK596; clear HK; clear HB; clear HI0; have BK589 := n0_; have BK596 := n1_; have HK := n2_; have HB := n3_; have HI0 := n4_; clear n0_ n1_ n2_ n3_ n4_; (try clear hb); (try clear hb2); (try clear hk); (try clear hi)) | ((with_reducible refine gate_dst (N := 51) rfl ?_); refine Kd.R_lit (Kd.int .i64) _ 3 ?hg (N := 51) ?hd (xs := ([(-1), 0, 10000] : List Int)) (inner := [.int .i64 (-1), .int .i64 0, .int .i64 10000]) (ok := fun _ => True) (okp := fun _ => True) ?hr ?hp (fun _ hk => hk) trivial (Below.refl _ _) (Nat.le_refl _) (by simp) ?_; (case hd => rfl); (case hg => rfl); (case hr => first | (go_simp; done) | (go_simp; rfl)); (case hp => exact (Reps.one (show Kd.M (Kd.int .i64) _ _ _ (-1) [.int .i64 (-1)] from rfl) (Reps.one (show Kd.M (Kd.int .i64) _ _ _ 0 [.int .i64 0] from rfl) (Reps.one (show Kd.M (Kd.int .i64) _ _ _ 10000 [.int .i64 10000] from rfl) (Reps.none _ _))))); intro v632 w73 ho74 hb hg_ hnew_; clear hg_ hnew_; (first | rw [← Ny631.out] at ho74 | (simp only [Int.reduceToNat] at ho74; rw [← Ny631.out] at ho74)); have n0_ := Aside0.mk (Kd.R_lower ho74 (keep_size (w := w) (g := g) (row := none) (by repeat (first | (with_reducible first | exact HK.out | apply KeepBut.set_ | apply keep_drewN | apply keep_drew | apply keep_alloc | refine keep_far ?_ GW589.out _ | refine keep_far ?_ GW596.out _) | exact HK.out)))); have n1_ := Aside0.mk (blk_below (g := gb589) (o := .cells #[.string (⟨#[]⟩ : ByteArray), .int .i64 0, .int .i64 0, .int .i64 0] 26 (0, 0)) (bk_ BK589.out) hb); have n2_ := Aside0.mk (blk_below (g := gb596) (o := .cells #[.string a1, .int .i64 t593, .int .i64 x597002_3, .int .i64 x597003_3] 26 (0, 0)) (bk_ BK596.out) hb); have n3_ := Aside0.mk (IsS93.below (by repeat (first | (with_reducible first | exact HI0.out | apply IsS93.alloc | apply IsS93.drewN | apply IsS93.drew | apply IsS93.set_1 | apply IsS93.set_2 | refine IsS93.far ?_ NB0_589.out _ | refine IsS93.far ?_ NB0_596.out _) | exact HI0.out)) hb); have n4_ := Aside0.mk (KeepBut.trans (by repeat (first | (with_reducible first | exact HK.out | apply KeepBut.set_ | apply keep_drewN | apply keep_drew | apply keep_alloc | refine keep_far ?_ GW589.out _ | refine keep_far ?_ GW596.out _) | exact HK.out)) (KeepBut.of_below hb g none) (.inl rfl)); have n5_ := Aside0.mk (below_step (by repeat (first | (with_reducible first | exact HB.out | apply below_alloc | apply pw_below_drewN | apply below_drew1 | refine below_set ?_ (IsS93.ge HI0.out) | refine below_set ?_ GE589.out | refine below_set ?_ GE596.out) | exact HB.out)) hb); clear BK589; clear BK596; clear HI0; clear HK; clear HB; have HO633 := n0_; have BK589 := n1_; have BK596 := n2_; have HI0 := n3_; have HK := n4_; have HB := n5_; clear n0_ n1_ n2_ n3_ n4_ n5_; clear hb ho74; obtain ⟨Ao75, co75, eo75⟩ := Kd.R_slice HO633.out; subst eo75) | ((with_reducible refine gate_callee (f := 83) rfl ?_); refine ga_ (some 52) Tryd.func83 #[.pointer (some ⟨g, 0, none⟩), .slice Ao75 y631.length co75] ?_; (with_reducible refine (spec_l1Cur_among.calls g s0_0 t611 t612 _ _ y631 t634 t635 t636 w0 _ ?side1 ?side2 ?side3 ?side4 ?side5 A71.out).mono ?_); (case side1 => repeat (first | (with_reducible first | exact HI0.out | apply IsS93.alloc | apply IsS93.drewN | apply IsS93.drew | apply IsS93.set_1 | apply IsS93.set_2 | refine IsS93.far ?_ NB0_589.out _ | refine IsS93.far ?_ NB0_596.out _) | exact HI0.out)); (case side2 => repeat (first | (with_reducible first | exact HB.out | apply below_alloc | apply pw_below_drewN | apply below_drew1 | refine below_set ?_ (IsS93.ge HI0.out) | refine below_set ?_ GE589.out | refine below_set ?_ GE596.out) | exact HB.out)); (case side3 => exact kc_ (Kd.R_reads' HO633.out).2.2); (case side4 => exact (Kd.R_reads' HO633.out).2.1); (case side5 => exact far_slice (IsS93.own_ne HI0.out HO633.out (by decide))); rintro e w76 ⟨rfl, hi, hb, hk⟩; refine ⟨_, rfl, ?_⟩; have n0_ := Aside0.mk (KeepBut.blk hk (g' := gb589) (o := .cells #[.string (⟨#[]⟩ : ByteArray), .int .i64 0, .int .i64 0, .int .i64 0] 26 (0, 0)) (bk_ BK589.out) NB589_0.out (by simp)); have n1_ := Aside0.mk (KeepBut.blk hk (g' := gb596) (o := .cells #[.string a1, .int .i64 t593, .int .i64 x597002_3, .int .i64 x597003_3] 26 (0, 0)) (bk_ BK596.out) NB596_0.out (by simp)); have n2_ := Aside0.mk (Kd.R_mono (Kd.R_keep (IsS93.apart (show IsS93 w0 _ g s0_0 t611 t612 from by repeat (first | (with_reducible first | exact HI0.out | apply IsS93.alloc | apply IsS93.drewN | apply IsS93.drew | apply IsS93.set_1 | apply IsS93.set_2 | refine IsS93.far ?_ NB0_589.out _ | refine IsS93.far ?_ NB0_596.out _) | exact HI0.out)) (kr_ HO633.out) (by decide)) hk (fun _ h => h.2)) (fun _ h => h.1)); have n3_ := Aside0.mk (KeepBut.trans (by repeat (first | (with_reducible first | exact HK.out | apply KeepBut.set_ | apply keep_drewN | apply keep_drew | apply keep_alloc | refine keep_far ?_ GW589.out _ | refine keep_far ?_ GW596.out _) | exact HK.out)) hk (.inl rfl)); have n4_ := Aside0.mk (hb); have n5_ := Aside0.mk (hi); clear BK589; clear BK596; clear HO633; clear HK; clear HB; clear HI0; have BK589 := n0_; have BK596 := n1_; have HO633 := n2_; have HK := n3_; have HB := n4_; have HI0 := n5_; clear n0_ n1_ n2_ n3_ n4_ n5_; (try clear hb); (try clear hb2); (try clear hk); (try clear hi); have hnb77 := NB596_589.out; have hnc77 := NB589_596.out; have hnb78 := NB596_0.out; have hnc78 := NB0_596.out; have hcz79_0 : w76.cell? ⟨gb596, 0, none⟩ = some (.string a1) := (blk_cell BK596.out 0).trans rfl; have hcz79_1 : w76.cell? ⟨gb596, 1, none⟩ = some (.int .i64 t593) := (blk_cell BK596.out 1).trans rfl; have hcz79_2 : w76.cell? ⟨gb596, 2, none⟩ = some (.int .i64 x597002_3) := (blk_cell BK596.out 2).trans rfl; have hcz79_3 : w76.cell? ⟨gb596, 3, none⟩ = some (.int .i64 x597003_3) := (blk_cell BK596.out 3).trans rfl; have hfz79_0 := blk_frozen BK596.out 0; have hfz79_1 := blk_frozen BK596.out 1; have hfz79_2 := blk_frozen BK596.out 2; have hfz79_3 := blk_frozen BK596.out 3; have hnb80 := NB589_0.out; have hnc80 := NB0_589.out; have hcz81_0 : w76.cell? ⟨gb589, 0, none⟩ = some (.string (⟨#[]⟩ : ByteArray)) := (blk_cell BK589.out 0).trans rfl; have hcz81_1 : w76.cell? ⟨gb589, 1, none⟩ = some (.int .i64 0) := (blk_cell BK589.out 1).trans rfl; have hcz81_2 : w76.cell? ⟨gb589, 2, none⟩ = some (.int .i64 0) := (blk_cell BK589.out 2).trans rfl; have hcz81_3 : w76.cell? ⟨gb589, 3, none⟩ = some (.int .i64 0) := (blk_cell BK589.out 3).trans rfl; have hfz81_0 := blk_frozen BK589.out 0; have hfz81_1 := blk_frozen BK589.out 1; have hfz81_2 := blk_frozen BK589.out 2; have hfz81_3 := blk_frozen BK589.out 3))
       refine bodyPost_ret (results_cell_row rfl _ _ gb589 26 #[.string a1, .int .i64 t593, .int .i64 x597002_3, .int .i64 t634] (0, 0) _ rfl (by (with_reducible repeat (first | refine blk_drewN ?_ _ | refine blk_drew ?_ | refine blk_alloc ?_ _)); refine blk_put (cs := #[.string a1, .int .i64 t593, .int .i64 x597002_3, .int .i64 0]) ?_ 3 _ rfl; (with_reducible repeat (first | refine blk_drewN ?_ _ | refine blk_drew ?_ | refine blk_alloc ?_ _)); refine blk_put (cs := #[.string a1, .int .i64 t593, .int .i64 0, .int .i64 0]) ?_ 2 _ rfl; (with_reducible repeat (first | refine blk_drewN ?_ _ | refine blk_drew ?_ | refine blk_alloc ?_ _)); refine blk_put (cs := #[.string a1, .int .i64 0, .int .i64 0, .int .i64 0]) ?_ 1 _ rfl; (with_reducible repeat (first | refine blk_drewN ?_ _ | refine blk_drew ?_ | refine blk_alloc ?_ _)); refine blk_put (cs := #[.string (⟨#[]⟩ : ByteArray), .int .i64 0, .int .i64 0, .int .i64 0]) ?_ 0 _ rfl; (with_reducible repeat (first | refine blk_drewN ?_ _ | refine blk_drew ?_ | refine blk_alloc ?_ _)); refine blk_far ?_ NB589_596.out _; (with_reducible repeat (first | refine blk_drewN ?_ _ | refine blk_drew ?_ | refine blk_alloc ?_ _)); exact BK589.out) Tryd.underlying26 rfl (by kernel_rfl)) rfl ?_
       exact ⟨rr_, by repeat (first | (with_reducible first | exact HI0.out | apply IsS93.alloc | apply IsS93.drewN | apply IsS93.drew | apply IsS93.set_1 | apply IsS93.set_2 | refine IsS93.far ?_ NB0_589.out _ | refine IsS93.far ?_ NB0_596.out _) | exact HI0.out), by repeat (first | (with_reducible first | exact HB.out | apply below_alloc | apply pw_below_drewN | apply below_drew1 | refine below_set ?_ (IsS93.ge HI0.out) | refine below_set ?_ GE589.out | refine below_set ?_ GE596.out) | exact HB.out), by repeat (first | (with_reducible first | exact HK.out | apply KeepBut.set_ | apply keep_drewN | apply keep_drew | apply keep_alloc | refine keep_far ?_ GW589.out _ | refine keep_far ?_ GW596.out _) | exact HK.out)⟩
      ·
       rw [if_neg c70] at H
       have c70b0 : (t610 == 3) = false := beq_eq_false_iff_ne.mpr c70
       have c70b1 : (t610 != 3) = true := bne_iff_ne.mpr c70
       simp only [Option.some.injEq, Prod.mk.injEq] at H
       obtain ⟨rfl, rfl, rfl, rfl, rfl, rfl⟩ := H
       go_wp2_with (first | ((with_reducible refine gate_callee (f := 82) rfl ?_); refine ga_ (some 26) Tryd.func82 #[.pointer (some ⟨g, 0, none⟩), .int .i64 60] ?_; (with_reducible refine (spec_l1Cur_pick.calls g s0_0 x1001_3 x1002_3 60 t610 t611 t612 w0 _ ?side1 ?side2 A32.out).mono ?_); (case side1 => repeat (first | (with_reducible first | exact HI0.out | apply IsS93.alloc | apply IsS93.drewN | apply IsS93.drew | apply IsS93.set_1 | apply IsS93.set_2 | refine IsS93.far ?_ NB0_589.out _ | refine IsS93.far ?_ NB0_596.out _) | exact HI0.out)); (case side2 => repeat (first | (with_reducible first | exact HB.out | apply below_alloc | apply pw_below_drewN | apply below_drew1 | refine below_set ?_ (IsS93.ge HI0.out) | refine below_set ?_ GE589.out | refine below_set ?_ GE596.out) | exact HB.out)); rintro e w82 ⟨rfl, hi, hb, hk⟩; refine ⟨_, rfl, ?_⟩; have n0_ := Aside0.mk (KeepBut.blk hk (g' := gb589) (o := .cells #[.string (⟨#[]⟩ : ByteArray), .int .i64 0, .int .i64 0, .int .i64 0] 26 (0, 0)) (bk_ BK589.out) NB589_0.out (by simp)); have n1_ := Aside0.mk (KeepBut.blk hk (g' := gb596) (o := .cells #[.string a1, .int .i64 t593, .int .i64 x597002_3, .int .i64 x597003_3] 26 (0, 0)) (bk_ BK596.out) NB596_0.out (by simp)); have n2_ := Aside0.mk (KeepBut.trans (by repeat (first | (with_reducible first | exact HK.out | apply KeepBut.set_ | apply keep_drewN | apply keep_drew | apply keep_alloc | refine keep_far ?_ GW589.out _ | refine keep_far ?_ GW596.out _) | exact HK.out)) hk (.inl rfl)); have n3_ := Aside0.mk (hb); have n4_ := Aside0.mk (hi); clear BK589; clear BK596; clear HK; clear HB; clear HI0; have BK589 := n0_; have BK596 := n1_; have HK := n2_; have HB := n3_; have HI0 := n4_; clear n0_ n1_ n2_ n3_ n4_; (try clear hb); (try clear hb2); (try clear hk); (try clear hi); have hnb83 := NB596_589.out; have hnc83 := NB589_596.out; have hnb84 := NB596_0.out; have hnc84 := NB0_596.out; have hcz85_0 : w82.cell? ⟨gb596, 0, none⟩ = some (.string a1) := (blk_cell BK596.out 0).trans rfl; have hcz85_1 : w82.cell? ⟨gb596, 1, none⟩ = some (.int .i64 t593) := (blk_cell BK596.out 1).trans rfl; have hcz85_2 : w82.cell? ⟨gb596, 2, none⟩ = some (.int .i64 x597002_3) := (blk_cell BK596.out 2).trans rfl; have hcz85_3 : w82.cell? ⟨gb596, 3, none⟩ = some (.int .i64 x597003_3) := (blk_cell BK596.out 3).trans rfl; have hfz85_0 := blk_frozen BK596.out 0; have hfz85_1 := blk_frozen BK596.out 1; have hfz85_2 := blk_frozen BK596.out 2; have hfz85_3 := blk_frozen BK596.out 3; have hnb86 := NB589_0.out; have hnc86 := NB0_589.out; have hcz87_0 : w82.cell? ⟨gb589, 0, none⟩ = some (.string (⟨#[]⟩ : ByteArray)) := (blk_cell BK589.out 0).trans rfl; have hcz87_1 : w82.cell? ⟨gb589, 1, none⟩ = some (.int .i64 0) := (blk_cell BK589.out 1).trans rfl; have hcz87_2 : w82.cell? ⟨gb589, 2, none⟩ = some (.int .i64 0) := (blk_cell BK589.out 2).trans rfl; have hcz87_3 : w82.cell? ⟨gb589, 3, none⟩ = some (.int .i64 0) := (blk_cell BK589.out 3).trans rfl; have hfz87_0 := blk_frozen BK589.out 0; have hfz87_1 := blk_frozen BK589.out 1; have hfz87_2 := blk_frozen BK589.out 2; have hfz87_3 := blk_frozen BK589.out 3))
       refine bodyPost_ret (results_cell_row rfl _ _ gb589 26 #[.string a1, .int .i64 t593, .int .i64 x597002_3, .int .i64 x597003_3] (0, 0) _ rfl (by (with_reducible repeat (first | refine blk_drewN ?_ _ | refine blk_drew ?_ | refine blk_alloc ?_ _)); refine blk_put (cs := #[.string a1, .int .i64 t593, .int .i64 x597002_3, .int .i64 0]) ?_ 3 _ rfl; (with_reducible repeat (first | refine blk_drewN ?_ _ | refine blk_drew ?_ | refine blk_alloc ?_ _)); refine blk_put (cs := #[.string a1, .int .i64 t593, .int .i64 0, .int .i64 0]) ?_ 2 _ rfl; (with_reducible repeat (first | refine blk_drewN ?_ _ | refine blk_drew ?_ | refine blk_alloc ?_ _)); refine blk_put (cs := #[.string a1, .int .i64 0, .int .i64 0, .int .i64 0]) ?_ 1 _ rfl; (with_reducible repeat (first | refine blk_drewN ?_ _ | refine blk_drew ?_ | refine blk_alloc ?_ _)); refine blk_put (cs := #[.string (⟨#[]⟩ : ByteArray), .int .i64 0, .int .i64 0, .int .i64 0]) ?_ 0 _ rfl; (with_reducible repeat (first | refine blk_drewN ?_ _ | refine blk_drew ?_ | refine blk_alloc ?_ _)); exact BK589.out) Tryd.underlying26 rfl (by kernel_rfl)) rfl ?_
       exact ⟨rr_, by repeat (first | (with_reducible first | exact HI0.out | apply IsS93.alloc | apply IsS93.drewN | apply IsS93.drew | apply IsS93.set_1 | apply IsS93.set_2 | refine IsS93.far ?_ NB0_589.out _ | refine IsS93.far ?_ NB0_596.out _) | exact HI0.out), by repeat (first | (with_reducible first | exact HB.out | apply below_alloc | apply pw_below_drewN | apply below_drew1 | refine below_set ?_ (IsS93.ge HI0.out) | refine below_set ?_ GE589.out | refine below_set ?_ GE596.out) | exact HB.out), by repeat (first | (with_reducible first | exact HK.out | apply KeepBut.set_ | apply keep_drewN | apply keep_drew | apply keep_alloc | refine keep_far ?_ GW589.out _ | refine keep_far ?_ GW596.out _) | exact HK.out)⟩
def spec_DrawIsCaveRow.f (k : Nat) (l0 : List Int) : Option (ByteArray × Int × Int × Int) := (spec_newCur.f l0).bind fun bt858 => ((spec_l1Cur_caveRow.f k bt858.1 bt858.2.1 bt858.2.2 (⟨#[98, 108, 117, 102, 102]⟩ : ByteArray)).bind fun bt862 => (some (bt862.1, bt862.2.1, bt862.2.2.1, bt862.2.2.2.1)))
set_option maxHeartbeats 8000000 in
set_option maxRecDepth 100000 in
theorem spec_DrawIsCaveRow.calls (k : Nat) (A0 : Option Addr) (c0 : Nat) (l0 : List Int) (r1 : ByteArray) (r2 : Int) (r3 : Int) (r4 : Int) (w : World) (hr0 : Kd.C (Kd.int .u8) w A0 l0.length l0) (hc0 : l0.length ≤ c0) (h : spec_DrawIsCaveRow.f k l0 = some (r1, r2, r3, r4)) :
  Calls Tryd.prog 86 #[.slice A0 l0.length c0] w fun e w' => e = .returned (.agg #[.string r1, .int .i64 r2, .int .i64 r3, .int .i64 r4]) ∧ Below w.heap.size w w' := by
 have hu26 := Tryd.underlying26
 have hu93 := Tryd.underlying93
 have HR0 := Aside0.mk hr0
 have HC0 := Aside0.mk hc0
 clear hr0 hc0
 have HB := Aside0.mk (Below.refl w.heap.size w)
 have H : ((spec_newCur.f l0).bind fun bt858 => ((spec_l1Cur_caveRow.f k bt858.1 bt858.2.1 bt858.2.2 (⟨#[98, 108, 117, 102, 102]⟩ : ByteArray)).bind fun bt862 => (some (bt862.1, bt862.2.1, bt862.2.2.1, bt862.2.2.2.1)))) = some (r1, r2, r3, r4) := h
 clear h
 replace H := Option.bind_eq_some_iff.mp H
 obtain ⟨⟨t858, t859, t860⟩, A20, H⟩ := H
 replace H : ((spec_l1Cur_caveRow.f k t858 t859 t860 (⟨#[98, 108, 117, 102, 102]⟩ : ByteArray)).bind fun bt862 => (some (bt862.1, bt862.2.1, bt862.2.2.1, bt862.2.2.2.1))) = some (r1, r2, r3, r4) := H
 have A2 := Aside0.mk A20
 clear A20
 replace H := Option.bind_eq_some_iff.mp H
 obtain ⟨⟨t862, t863, t864, t865, t866, t867⟩, A30, H⟩ := H
 replace H : (some (t862, t863, t864, t865)) = some (r1, r2, r3, r4) := H
 have A3 := Aside0.mk A30
 clear A30
 simp only [Option.some.injEq, Prod.mk.injEq] at H
 obtain ⟨rfl, rfl, rfl, rfl⟩ := H
 go_enter Tryd.func86, Tryd.ntmps86
 go_wp2_with (first | ((with_reducible refine gate_dst (N := 2) rfl ?_); refine box_event ?hg (N := 2) ?hd (cs := #[.string (⟨#[]⟩ : ByteArray), .int .i64 0, .int .i64 0, .int .i64 0]) (t := 26) ?hr ?_; (case hd => rfl); (case hg => rfl); (case hr => first | (go_simp; done) | (go_simp; rfl)); intro gb857 hg w4 hbox hb; have n0_ := Aside0.mk (below_step (lb0_ HB.out) hb); have n1_ := Aside0.mk (hbox); have n2_ := Aside0.mk ((by rw [hg]; exact (below_size (lb0_ HB.out)) : w.heap.size ≤ gb857)); have n3_ := Aside0.mk ((by rw [hg]; exact (below_size (lb0_ HB.out)) : w.heap.size ≤ gb857)); clear HB; have HB := n0_; have BK857 := n1_; have GW857 := n2_; have GE857 := n3_; clear n0_ n1_ n2_ n3_; clear hb hbox hg) | ((with_reducible refine gate_dst (N := 6) rfl ?_); refine box_event ?hg (N := 6) ?hd (cs := #[.slice A0 l0.length c0, .int .i64 0, .int .u64 0]) (t := 93) ?hr ?_; (case hd => rfl); (case hg => rfl); (case hr => first | (go_simp; done) | (go_simp; rfl)); intro g861 hg w5 hbx hb2; have hb := below_step (lb1_ HB.out GE857.out) hb2; have hi : IsS93 w w5 g861 t858 t859 t860 := (by have hz_ := A2.out; simp only [spec_newCur.f, Option.some.injEq, Prod.mk.injEq] at hz_; rw [← hz_.1, ← hz_.2.1, ← hz_.2.2]; exact ⟨_, _, hbx, (by rw [hg]; exact (below_size (lb1_ HB.out GE857.out)) : w.heap.size ≤ g861), HR0.out⟩); clear hg hbx; have n0_ := Aside0.mk (blk_below (g := gb857) (o := .cells #[.string (⟨#[]⟩ : ByteArray), .int .i64 0, .int .i64 0, .int .i64 0] 26 (0, 0)) (bk_ BK857.out) hb2); have n1_ := Aside0.mk (hb); have n2_ := Aside0.mk (hi); have n3_ := Aside0.mk (IsS93.ne_blk hi (blk_below (g := gb857) (o := .cells #[.string (⟨#[]⟩ : ByteArray), .int .i64 0, .int .i64 0, .int .i64 0] 26 (0, 0)) (bk_ BK857.out) hb2) (by decide)); have n4_ := Aside0.mk (Ne.symm (IsS93.ne_blk hi (blk_below (g := gb857) (o := .cells #[.string (⟨#[]⟩ : ByteArray), .int .i64 0, .int .i64 0, .int .i64 0] 26 (0, 0)) (bk_ BK857.out) hb2) (by decide))); clear BK857; clear HB; have BK857 := n0_; have HB := n1_; have HI861 := n2_; have NB861_857 := n3_; have NB857_861 := n4_; clear n0_ n1_ n2_ n3_ n4_; (try clear hb); (try clear hb2); (try clear hk); (try clear hi)) | ((with_reducible refine gate_callee (f := 99) rfl ?_); refine ga_ (some 8) Tryd.func99 #[.pointer (some ⟨g861, 0, none⟩), .string (⟨#[98, 108, 117, 102, 102]⟩ : ByteArray)] ?_; (with_reducible refine (spec_l1Cur_caveRow.calls k g861 t858 t859 t860 (⟨#[98, 108, 117, 102, 102]⟩ : ByteArray) t862 t863 t864 t865 t866 t867 w _ ?side1 ?side2 A3.out).mono ?_); (case side1 => repeat (first | (with_reducible first | exact HI861.out | apply IsS93.alloc | apply IsS93.drewN | apply IsS93.drew | apply IsS93.set_1 | apply IsS93.set_2 | refine IsS93.far ?_ NB861_857.out _) | exact HI861.out)); (case side2 => repeat (first | (with_reducible first | exact HB.out | apply below_alloc | apply pw_below_drewN | apply below_drew1 | refine below_set ?_ (IsS93.ge HI861.out) | refine below_set ?_ GE857.out) | exact HB.out)); rintro e w6 ⟨rfl, hi, hb, hk⟩; refine ⟨_, rfl, ?_⟩; have n0_ := Aside0.mk (KeepBut.blk hk (g' := gb857) (o := .cells #[.string (⟨#[]⟩ : ByteArray), .int .i64 0, .int .i64 0, .int .i64 0] 26 (0, 0)) (bk_ BK857.out) NB857_861.out (by simp)); have n1_ := Aside0.mk (hb); have n2_ := Aside0.mk (hi); clear BK857; clear HB; clear HI861; have BK857 := n0_; have HB := n1_; have HI861 := n2_; clear n0_ n1_ n2_; (try clear hb); (try clear hb2); (try clear hk); (try clear hi); have hnb7 := NB857_861.out; have hnc7 := NB861_857.out; have hcz8_0 : w6.cell? ⟨gb857, 0, none⟩ = some (.string (⟨#[]⟩ : ByteArray)) := (blk_cell BK857.out 0).trans rfl; have hcz8_1 : w6.cell? ⟨gb857, 1, none⟩ = some (.int .i64 0) := (blk_cell BK857.out 1).trans rfl; have hcz8_2 : w6.cell? ⟨gb857, 2, none⟩ = some (.int .i64 0) := (blk_cell BK857.out 2).trans rfl; have hcz8_3 : w6.cell? ⟨gb857, 3, none⟩ = some (.int .i64 0) := (blk_cell BK857.out 3).trans rfl; have hfz8_0 := blk_frozen BK857.out 0; have hfz8_1 := blk_frozen BK857.out 1; have hfz8_2 := blk_frozen BK857.out 2; have hfz8_3 := blk_frozen BK857.out 3))
 refine bodyPost_ret (results_cell_row rfl _ _ gb857 26 #[.string t862, .int .i64 t863, .int .i64 t864, .int .i64 t865] (0, 0) _ rfl (by (with_reducible repeat (first | refine blk_drewN ?_ _ | refine blk_drew ?_ | refine blk_alloc ?_ _)); refine blk_put (cs := #[.string t862, .int .i64 t863, .int .i64 t864, .int .i64 0]) ?_ 3 _ rfl; (with_reducible repeat (first | refine blk_drewN ?_ _ | refine blk_drew ?_ | refine blk_alloc ?_ _)); refine blk_put (cs := #[.string t862, .int .i64 t863, .int .i64 0, .int .i64 0]) ?_ 2 _ rfl; (with_reducible repeat (first | refine blk_drewN ?_ _ | refine blk_drew ?_ | refine blk_alloc ?_ _)); refine blk_put (cs := #[.string t862, .int .i64 0, .int .i64 0, .int .i64 0]) ?_ 1 _ rfl; (with_reducible repeat (first | refine blk_drewN ?_ _ | refine blk_drew ?_ | refine blk_alloc ?_ _)); refine blk_put (cs := #[.string (⟨#[]⟩ : ByteArray), .int .i64 0, .int .i64 0, .int .i64 0]) ?_ 0 _ rfl; (with_reducible repeat (first | refine blk_drewN ?_ _ | refine blk_drew ?_ | refine blk_alloc ?_ _)); exact BK857.out) Tryd.underlying26 rfl (by kernel_rfl)) rfl ?_
 exact ⟨rr_, by repeat (first | (with_reducible first | exact HB.out | apply below_alloc | apply pw_below_drewN | apply below_drew1 | refine below_set ?_ (IsS93.ge HI861.out) | refine below_set ?_ GE857.out) | exact HB.out)⟩
def spec_DrawCaveLine.f (k : Nat) (l0 : List Int) : Option (ByteArray × Int × Int × Int) := (spec_DrawIsCaveRow.f k l0).bind fun bt869 => (some (bt869.1, bt869.2.1, bt869.2.2.1, bt869.2.2.2))
set_option maxHeartbeats 8000000 in
set_option maxRecDepth 100000 in
theorem spec_DrawCaveLine.calls (k : Nat) (A0 : Option Addr) (c0 : Nat) (l0 : List Int) (r1 : ByteArray) (r2 : Int) (r3 : Int) (r4 : Int) (w : World) (hr0 : Kd.C (Kd.int .u8) w A0 l0.length l0) (hc0 : l0.length ≤ c0) (h : spec_DrawCaveLine.f k l0 = some (r1, r2, r3, r4)) :
  Calls Tryd.prog 52 #[.slice A0 l0.length c0] w fun e w' => e = .returned (.agg #[.string r1, .int .i64 r2, .int .i64 r3, .int .i64 r4]) ∧ Below w.heap.size w w' := by
 have hu26 := Tryd.underlying26
 have HR0 := Aside0.mk hr0
 have HC0 := Aside0.mk hc0
 clear hr0 hc0
 have HB := Aside0.mk (Below.refl w.heap.size w)
 have H : ((spec_DrawIsCaveRow.f k l0).bind fun bt869 => (some (bt869.1, bt869.2.1, bt869.2.2.1, bt869.2.2.2))) = some (r1, r2, r3, r4) := h
 clear h
 replace H := Option.bind_eq_some_iff.mp H
 obtain ⟨⟨t869, t870, t871, t872⟩, A20, H⟩ := H
 replace H : (some (t869, t870, t871, t872)) = some (r1, r2, r3, r4) := H
 have A2 := Aside0.mk A20
 clear A20
 simp only [Option.some.injEq, Prod.mk.injEq] at H
 obtain ⟨rfl, rfl, rfl, rfl⟩ := H
 go_enter Tryd.func52, Tryd.ntmps52
 go_wp2_with (first | ((with_reducible refine gate_dst (N := 2) rfl ?_); refine box_event ?hg (N := 2) ?hd (cs := #[.string (⟨#[]⟩ : ByteArray), .int .i64 0, .int .i64 0, .int .i64 0]) (t := 26) ?hr ?_; (case hd => rfl); (case hg => rfl); (case hr => first | (go_simp; done) | (go_simp; rfl)); intro gb868 hg w3 hbox hb; have n0_ := Aside0.mk (below_step (lb0_ HB.out) hb); have n1_ := Aside0.mk (hbox); have n2_ := Aside0.mk ((by rw [hg]; exact (below_size (lb0_ HB.out)) : w.heap.size ≤ gb868)); have n3_ := Aside0.mk ((by rw [hg]; exact (below_size (lb0_ HB.out)) : w.heap.size ≤ gb868)); clear HB; have HB := n0_; have BK868 := n1_; have GW868 := n2_; have GE868 := n3_; clear n0_ n1_ n2_ n3_; clear hb hbox hg) | ((with_reducible refine gate_callee (f := 86) rfl ?_); refine ga_ (some 4) Tryd.func86 #[.slice A0 l0.length c0] ?_; (with_reducible refine (spec_DrawIsCaveRow.calls k _ _ l0 t869 t870 t871 t872 _ ?side1 ?side2 A2.out).mono ?_); (case side1 => exact kc_ (Kd.C_below HR0.out HB.out)); (case side2 => exact HC0.out); rintro e w4 ⟨rfl, hb⟩; refine ⟨_, rfl, ?_⟩; have n0_ := Aside0.mk (blk_below (g := gb868) (o := .cells #[.string (⟨#[]⟩ : ByteArray), .int .i64 0, .int .i64 0, .int .i64 0] 26 (0, 0)) (bk_ BK868.out) hb); have n1_ := Aside0.mk (below_step (lb1_ HB.out GE868.out) hb); clear BK868; clear HB; have BK868 := n0_; have HB := n1_; clear n0_ n1_; (try clear hb); (try clear hb2); (try clear hk); (try clear hi); have hcz5_0 : w4.cell? ⟨gb868, 0, none⟩ = some (.string (⟨#[]⟩ : ByteArray)) := (blk_cell BK868.out 0).trans rfl; have hcz5_1 : w4.cell? ⟨gb868, 1, none⟩ = some (.int .i64 0) := (blk_cell BK868.out 1).trans rfl; have hcz5_2 : w4.cell? ⟨gb868, 2, none⟩ = some (.int .i64 0) := (blk_cell BK868.out 2).trans rfl; have hcz5_3 : w4.cell? ⟨gb868, 3, none⟩ = some (.int .i64 0) := (blk_cell BK868.out 3).trans rfl; have hfz5_0 := blk_frozen BK868.out 0; have hfz5_1 := blk_frozen BK868.out 1; have hfz5_2 := blk_frozen BK868.out 2; have hfz5_3 := blk_frozen BK868.out 3))
 refine bodyPost_ret (results_cell_row rfl _ _ gb868 26 #[.string t869, .int .i64 t870, .int .i64 t871, .int .i64 t872] (0, 0) _ rfl (by (with_reducible repeat (first | refine blk_drewN ?_ _ | refine blk_drew ?_ | refine blk_alloc ?_ _)); refine blk_put (cs := #[.string t869, .int .i64 t870, .int .i64 t871, .int .i64 0]) ?_ 3 _ rfl; (with_reducible repeat (first | refine blk_drewN ?_ _ | refine blk_drew ?_ | refine blk_alloc ?_ _)); refine blk_put (cs := #[.string t869, .int .i64 t870, .int .i64 0, .int .i64 0]) ?_ 2 _ rfl; (with_reducible repeat (first | refine blk_drewN ?_ _ | refine blk_drew ?_ | refine blk_alloc ?_ _)); refine blk_put (cs := #[.string t869, .int .i64 0, .int .i64 0, .int .i64 0]) ?_ 1 _ rfl; (with_reducible repeat (first | refine blk_drewN ?_ _ | refine blk_drew ?_ | refine blk_alloc ?_ _)); refine blk_put (cs := #[.string (⟨#[]⟩ : ByteArray), .int .i64 0, .int .i64 0, .int .i64 0]) ?_ 0 _ rfl; (with_reducible repeat (first | refine blk_drewN ?_ _ | refine blk_drew ?_ | refine blk_alloc ?_ _)); exact BK868.out) Tryd.underlying26 rfl (by kernel_rfl)) rfl ?_
 exact ⟨rr_, lb1_ HB.out GE868.out⟩
def spec_l1Cur_one.f (s0_0 : List Int) (s0_1 : Int) (s0_2 : Int) (a1 : Int) : Option (Bool × Int × Int) := (spec_l1Cur_pick.f s0_0 s0_1 s0_2 a1).bind fun bt578 => (some ((bt578.1 == 0), bt578.2.1, bt578.2.2))
set_option maxHeartbeats 8000000 in
set_option maxRecDepth 100000 in
theorem spec_l1Cur_one.calls (g : Nat) (s0_0 : List Int) (s0_1 : Int) (s0_2 : Int) (a1 : Int) (r1 : Bool) (r2 : Int) (r3 : Int) (w0 w : World) (hI : IsS93 w0 w g s0_0 s0_1 s0_2) (hB : Below w0.heap.size w0 w) (h : spec_l1Cur_one.f s0_0 s0_1 s0_2 a1 = some (r1, r2, r3)) :
  Calls Tryd.prog 81 #[.pointer (some ⟨g, 0, none⟩), .int .i64 a1] w fun e w' => e = .returned (.bool r1) ∧ IsS93 w0 w' g s0_0 r2 r3 ∧ Below w0.heap.size w0 w' ∧ KeepBut w w' g none := by
 have HI0 := Aside0.mk hI
 have HK := Aside0.mk (KeepBut.refl w g none)
 have HL := Aside0.mk hB.size
 clear hI
 have HW0 := Aside0.mk hB.size
 have HB := Aside0.mk hB
 clear hB
 have H : ((spec_l1Cur_pick.f s0_0 s0_1 s0_2 a1).bind fun bt578 => (some ((bt578.1 == 0), bt578.2.1, bt578.2.2))) = some (r1, r2, r3) := h
 clear h
 replace H := Option.bind_eq_some_iff.mp H
 obtain ⟨⟨t578, t579, t580⟩, A30, H⟩ := H
 replace H : (some ((t578 == 0), t579, t580)) = some (r1, r2, r3) := H
 have A3 := Aside0.mk A30
 clear A30
 simp only [Option.some.injEq, Prod.mk.injEq] at H
 obtain ⟨rfl, rfl, rfl⟩ := H
 go_enter Tryd.func81, Tryd.ntmps81
 go_wp2_with (first | ((with_reducible refine gate_callee (f := 82) rfl ?_); refine ga_ (some 7) Tryd.func82 #[.pointer (some ⟨g, 0, none⟩), .int .i64 a1] ?_; (with_reducible refine (spec_l1Cur_pick.calls g s0_0 s0_1 s0_2 a1 t578 t579 t580 w0 _ ?side1 ?side2 A3.out).mono ?_); (case side1 => repeat (first | (with_reducible first | exact HI0.out | apply IsS93.alloc | apply IsS93.drewN | apply IsS93.drew | apply IsS93.set_1 | apply IsS93.set_2) | exact HI0.out)); (case side2 => repeat (first | (with_reducible first | exact HB.out | apply below_alloc | apply pw_below_drewN | apply below_drew1 | refine below_set ?_ (IsS93.ge HI0.out)) | exact HB.out)); rintro e w4 ⟨rfl, hi, hb, hk⟩; refine ⟨_, rfl, ?_⟩; have n0_ := Aside0.mk (KeepBut.trans (by repeat (first | (with_reducible first | exact HK.out | apply KeepBut.set_ | apply keep_drewN | apply keep_drew | apply keep_alloc) | exact HK.out)) hk (.inl rfl)); have n1_ := Aside0.mk (hb); have n2_ := Aside0.mk (hi); clear HK; clear HB; clear HI0; have HK := n0_; have HB := n1_; have HI0 := n2_; clear n0_ n1_ n2_; (try clear hb); (try clear hb2); (try clear hk); (try clear hi)))
 go_ret
 exact ⟨rr_, by repeat (first | (with_reducible first | exact HI0.out | apply IsS93.alloc | apply IsS93.drewN | apply IsS93.drew | apply IsS93.set_1 | apply IsS93.set_2) | exact HI0.out), by repeat (first | (with_reducible first | exact HB.out | apply below_alloc | apply pw_below_drewN | apply below_drew1 | refine below_set ?_ (IsS93.ge HI0.out)) | exact HB.out), by repeat (first | (with_reducible first | exact HK.out | apply KeepBut.set_ | apply keep_drewN | apply keep_drew | apply keep_alloc) | exact HK.out)⟩
mutual
def spec_l1Cur_caves26.l0 : Nat → List (S26) → List ByteArray → Int → List Int → Int → Int → Option ((List (S26)) × Int × Int)
 | 0, _, _, _, _, _, _ => none
 | k + 1, x3, x4, x5, x1000, x1001, x1002 => if x5 < (x4.length : Int) then ((spec_l1Cur_one.f x1000 x1001 x1002 2).bind fun bt643 => (if bt643.1 = true then (if 0 ≤ x5 then ((spec_l1Cur_caveRow.f k x1000 bt643.2.1 bt643.2.2 (rdOf ByteArray.empty x4 x5)).bind fun bt647 => (if x3.length < 3518437208883 then (spec_l1Cur_caves26.l0 k (x3 ++ [(⟨bt647.1, bt647.2.1, bt647.2.2.1, bt647.2.2.2.1⟩ : S26)]) x4 (wrap64 (x5 + 1)) x1000 bt647.2.2.2.2.1 bt647.2.2.2.2.2) else (none))) else (none)) else (spec_l1Cur_caves26.l0 k x3 x4 (wrap64 (x5 + 1)) x1000 bt643.2.1 bt643.2.2))) else ((spec_l1Cur_pick.f x1000 x1001 x1002 30).bind fun bt656 => (if bt656.1 = 0 then ((spec_l1Cur_caveRow.f k x1000 bt656.2.1 bt656.2.2 (⟨#[98, 108, 117, 102, 102]⟩ : ByteArray)).bind fun bt659 => (if x3.length < 3518437208883 then (some ((x3 ++ [(⟨bt659.1, bt659.2.1, bt659.2.2.1, bt659.2.2.2.1⟩ : S26)]), bt659.2.2.2.2.1, bt659.2.2.2.2.2)) else (none))) else (if bt656.1 = 1 then (spec_l1Cur_caves26.l1 k (([] : List (S26))) 0 x1000 bt656.2.1 bt656.2.2) else (some (x3, bt656.2.1, bt656.2.2)))))
def spec_l1Cur_caves26.l1 : Nat → List (S26) → Int → List Int → Int → Int → Option ((List (S26)) × Int × Int)
 | 0, _, _, _, _, _ => none
 | k + 1, x3, x6, x1000, x1001, x1002 => (spec_l1Cur_pick.f x1000 x1001 x1002 2).bind fun bt671 => (if x6 < (wrap64 (10 + bt671.1)) then (if x3.length < 3518437208883 then (spec_l1Cur_caves26.l1 k (x3 ++ [(⟨strOfNums (([(wrap64 (97 + x6)) % 256] : List Int)), 0, 0, 0⟩ : S26)]) (wrap64 (x6 + 1)) x1000 bt671.2.1 bt671.2.2) else (none)) else (some (x3, bt671.2.1, bt671.2.2)))
end
def spec_l1Cur_caves26.f (k : Nat) (s0_0 : List Int) (s0_1 : Int) (s0_2 : Int) : Option ((List (S26)) × Int × Int) := spec_l1Cur_caves26.l0 k (([] : List (S26))) (([(⟨#[97, 114, 99, 104]⟩ : ByteArray), (⟨#[98, 108, 117, 102, 102]⟩ : ByteArray), (⟨#[99, 108, 101, 102, 116]⟩ : ByteArray), (⟨#[100, 101, 110]⟩ : ByteArray), (⟨#[107, 97, 114, 115, 116]⟩ : ByteArray), (⟨#[109, 97, 122, 101]⟩ : ByteArray)] : List ByteArray)) 0 s0_0 s0_1 s0_2
set_option maxHeartbeats 8000000 in
set_option maxRecDepth 100000 in
theorem spec_l1Cur_caves26.calls (k : Nat) (g : Nat) (s0_0 : List Int) (s0_1 : Int) (s0_2 : Int) (r1 : List (S26)) (r2 : Int) (r3 : Int) (w0 w : World) (hI : IsS93 w0 w g s0_0 s0_1 s0_2) (hB : Below w0.heap.size w0 w) (h : spec_l1Cur_caves26.f k s0_0 s0_1 s0_2 = some (r1, r2, r3)) :
  Calls Tryd.prog 80 #[.pointer (some ⟨g, 0, none⟩)] w fun e w' => ∃ v0_ : Value, e = .returned (v0_) ∧ Kd.R k26 26 w' w.heap.size (fun _ => True) v0_ r1 ∧ IsS93 w0 w' g s0_0 r2 r3 ∧ Below w0.heap.size w0 w' ∧ KeepBut w w' g none := by
 have hu26 := Tryd.underlying26
 have HI0 := Aside0.mk hI
 have HK := Aside0.mk (KeepBut.refl w g none)
 have HL := Aside0.mk hB.size
 clear hI
 have HW0 := Aside0.mk hB.size
 have HB := Aside0.mk hB
 clear hB
 have H : (spec_l1Cur_caves26.l0 k (([] : List (S26))) (([(⟨#[97, 114, 99, 104]⟩ : ByteArray), (⟨#[98, 108, 117, 102, 102]⟩ : ByteArray), (⟨#[99, 108, 101, 102, 116]⟩ : ByteArray), (⟨#[100, 101, 110]⟩ : ByteArray), (⟨#[107, 97, 114, 115, 116]⟩ : ByteArray), (⟨#[109, 97, 122, 101]⟩ : ByteArray)] : List ByteArray)) 0 s0_0 s0_1 s0_2) = some (r1, r2, r3) := h
 clear h
 obtain ⟨y637, hy637⟩ : ∃ y_ : List (S26), y_ = (([] : List (S26))) := ⟨_, rfl⟩
 replace H : (spec_l1Cur_caves26.l0 k y637 (([(⟨#[97, 114, 99, 104]⟩ : ByteArray), (⟨#[98, 108, 117, 102, 102]⟩ : ByteArray), (⟨#[99, 108, 101, 102, 116]⟩ : ByteArray), (⟨#[100, 101, 110]⟩ : ByteArray), (⟨#[107, 97, 114, 115, 116]⟩ : ByteArray), (⟨#[109, 97, 122, 101]⟩ : ByteArray)] : List ByteArray)) 0 s0_0 s0_1 s0_2) = some (r1, r2, r3) := by first | (rw [hy637]; with_reducible exact H) | (have H2_ := (Option.bind_some _ _).symm.trans H; rw [hy637]; with_reducible exact H2_) | (have H2_ := (Option.bind_some _ _).symm.trans H; with_reducible exact H2_) | with_reducible exact H | (rw [hy637]; exact H) | exact H
 have Ny637 := Aside0.mk hy637
 clear hy637
 obtain ⟨y640, hy640⟩ : ∃ y_ : List ByteArray, y_ = (([(⟨#[97, 114, 99, 104]⟩ : ByteArray), (⟨#[98, 108, 117, 102, 102]⟩ : ByteArray), (⟨#[99, 108, 101, 102, 116]⟩ : ByteArray), (⟨#[100, 101, 110]⟩ : ByteArray), (⟨#[107, 97, 114, 115, 116]⟩ : ByteArray), (⟨#[109, 97, 122, 101]⟩ : ByteArray)] : List ByteArray)) := ⟨_, rfl⟩
 replace H : (spec_l1Cur_caves26.l0 k y637 y640 0 s0_0 s0_1 s0_2) = some (r1, r2, r3) := by first | (rw [hy640]; with_reducible exact H) | (have H2_ := (Option.bind_some _ _).symm.trans H; rw [hy640]; with_reducible exact H2_) | (have H2_ := (Option.bind_some _ _).symm.trans H; with_reducible exact H2_) | with_reducible exact H | (rw [hy640]; exact H) | exact H
 have Ny640 := Aside0.mk hy640
 clear hy640
 have H' := Aside0.mk H
 clear H
 go_enter Tryd.func80, Tryd.ntmps80
 go_wp2_with (first | ((with_reducible refine gate_dst (N := 7) rfl ?_); refine Kd.R_lit k26 _ 26 ?hg (N := 7) ?hd (xs := ([] : List (S26))) (inner := []) (ok := fun _ => True) (okp := fun _ => True) ?hr ?hp (fun _ hk => hk) trivial (Below.refl _ _) (Nat.le_refl _) (by simp) ?_; (case hd => rfl); (case hg => rfl); (case hr => first | (go_simp; done) | (go_simp; rfl)); (case hp => exact (Reps.none _ _)); intro v638 w2 ho3 hb hg_ hnew_; clear hg_ hnew_; (first | rw [← Ny637.out] at ho3 | (simp only [Int.reduceToNat] at ho3; rw [← Ny637.out] at ho3)); have n0_ := Aside0.mk (Kd.R_lower ho3 (keep_size (w := w) (g := g) (row := none) (by repeat (first | (with_reducible first | exact HK.out | apply KeepBut.set_ | apply keep_drewN | apply keep_drew | apply keep_alloc) | exact HK.out)))); have n1_ := Aside0.mk (IsS93.below (by repeat (first | (with_reducible first | exact HI0.out | apply IsS93.alloc | apply IsS93.drewN | apply IsS93.drew | apply IsS93.set_1 | apply IsS93.set_2) | exact HI0.out)) hb); have n2_ := Aside0.mk (KeepBut.trans (by repeat (first | (with_reducible first | exact HK.out | apply KeepBut.set_ | apply keep_drewN | apply keep_drew | apply keep_alloc) | exact HK.out)) (KeepBut.of_below hb g none) (.inl rfl)); have n3_ := Aside0.mk (below_step (by repeat (first | (with_reducible first | exact HB.out | apply below_alloc | apply pw_below_drewN | apply below_drew1 | refine below_set ?_ (IsS93.ge HI0.out)) | exact HB.out)) hb); clear HI0; clear HK; clear HB; have HO639 := n0_; have HI0 := n1_; have HK := n2_; have HB := n3_; clear n0_ n1_ n2_ n3_; clear hb ho3) | ((with_reducible refine gate_dst (N := 8) rfl ?_); refine Kd.R_lit Kd.string _ 9 ?hg (N := 8) ?hd (xs := ([(⟨#[97, 114, 99, 104]⟩ : ByteArray), (⟨#[98, 108, 117, 102, 102]⟩ : ByteArray), (⟨#[99, 108, 101, 102, 116]⟩ : ByteArray), (⟨#[100, 101, 110]⟩ : ByteArray), (⟨#[107, 97, 114, 115, 116]⟩ : ByteArray), (⟨#[109, 97, 122, 101]⟩ : ByteArray)] : List ByteArray)) (inner := [.string (⟨#[97, 114, 99, 104]⟩ : ByteArray), .string (⟨#[98, 108, 117, 102, 102]⟩ : ByteArray), .string (⟨#[99, 108, 101, 102, 116]⟩ : ByteArray), .string (⟨#[100, 101, 110]⟩ : ByteArray), .string (⟨#[107, 97, 114, 115, 116]⟩ : ByteArray), .string (⟨#[109, 97, 122, 101]⟩ : ByteArray)]) (ok := fun _ => True) (okp := fun _ => True) ?hr ?hp (fun _ hk => hk) trivial (Below.refl _ _) (Nat.le_refl _) (by simp) ?_; (case hd => rfl); (case hg => rfl); (case hr => first | (go_simp; done) | (go_simp; rfl)); (case hp => exact (Reps.one (show Kd.M Kd.string _ _ _ (⟨#[97, 114, 99, 104]⟩ : ByteArray) [.string (⟨#[97, 114, 99, 104]⟩ : ByteArray)] from rfl) (Reps.one (show Kd.M Kd.string _ _ _ (⟨#[98, 108, 117, 102, 102]⟩ : ByteArray) [.string (⟨#[98, 108, 117, 102, 102]⟩ : ByteArray)] from rfl) (Reps.one (show Kd.M Kd.string _ _ _ (⟨#[99, 108, 101, 102, 116]⟩ : ByteArray) [.string (⟨#[99, 108, 101, 102, 116]⟩ : ByteArray)] from rfl) (Reps.one (show Kd.M Kd.string _ _ _ (⟨#[100, 101, 110]⟩ : ByteArray) [.string (⟨#[100, 101, 110]⟩ : ByteArray)] from rfl) (Reps.one (show Kd.M Kd.string _ _ _ (⟨#[107, 97, 114, 115, 116]⟩ : ByteArray) [.string (⟨#[107, 97, 114, 115, 116]⟩ : ByteArray)] from rfl) (Reps.one (show Kd.M Kd.string _ _ _ (⟨#[109, 97, 122, 101]⟩ : ByteArray) [.string (⟨#[109, 97, 122, 101]⟩ : ByteArray)] from rfl) (Reps.none _ _)))))))); intro v641 w4 ho5 hb hg_ hnew_; clear hg_ hnew_; (first | rw [← Ny640.out] at ho5 | (simp only [Int.reduceToNat] at ho5; rw [← Ny640.out] at ho5)); have n0_ := Aside0.mk (Kd.R_below (kr_ HO639.out) hb); have n1_ := Aside0.mk (Kd.R_lower ho5 (keep_size (w := w) (g := g) (row := none) (by repeat (first | (with_reducible first | exact HK.out | apply KeepBut.set_ | apply keep_drewN | apply keep_drew | apply keep_alloc) | exact HK.out)))); have n2_ := Aside0.mk (IsS93.below (by repeat (first | (with_reducible first | exact HI0.out | apply IsS93.alloc | apply IsS93.drewN | apply IsS93.drew | apply IsS93.set_1 | apply IsS93.set_2) | exact HI0.out)) hb); have n3_ := Aside0.mk (KeepBut.trans (by repeat (first | (with_reducible first | exact HK.out | apply KeepBut.set_ | apply keep_drewN | apply keep_drew | apply keep_alloc) | exact HK.out)) (KeepBut.of_below hb g none) (.inl rfl)); have n4_ := Aside0.mk (below_step (by repeat (first | (with_reducible first | exact HB.out | apply below_alloc | apply pw_below_drewN | apply below_drew1 | refine below_set ?_ (IsS93.ge HI0.out)) | exact HB.out)) hb); clear HO639; clear HI0; clear HK; clear HB; have HO639 := n0_; have HO642 := n1_; have HI0 := n2_; have HK := n3_; have HB := n4_; clear n0_ n1_ n2_ n3_ n4_; clear hb ho5))
 go_loopg [3, 5] k (fun kq v3 v5 w' => ∃ (x3_1 : List (S26)) (x5_1 : Int) (x1001_1 : Int) (x1002_1 : Int), v5 = .int .i64 x5_1 ∧ Aside0 (spec_l1Cur_caves26.l0 kq x3_1 y640 x5_1 s0_0 x1001_1 x1002_1 = some (r1, r2, r3)) ∧ Aside0 (kq ≤ k) ∧ Aside0 (Kd.R k26 26 w' w.heap.size (fun _ => True) v3 x3_1) ∧ Aside0 (Kd.R Kd.string 9 w' w.heap.size (fun _ => True) v641 y640) ∧ Aside0 (IsS93 w0 w' g s0_0 x1001_1 x1002_1) ∧ Aside0 (KeepBut w w' g none) ∧ Aside0 (Below w0.heap.size w0 w'))
 case atStart => exact ⟨(y637), (0), (s0_1), (s0_2), (by first | rfl | (simp; done) | (simp [*]; done)), H', ⟨Nat.le_refl _⟩, ⟨kr_ HO639.out⟩, ⟨kr_ HO642.out⟩, ⟨by repeat (first | (with_reducible first | exact HI0.out | apply IsS93.alloc | apply IsS93.drewN | apply IsS93.drew | apply IsS93.set_1 | apply IsS93.set_2) | exact HI0.out)⟩, ⟨by repeat (first | (with_reducible first | exact HK.out | apply KeepBut.set_ | apply keep_drewN | apply keep_drew | apply keep_alloc) | exact HK.out)⟩, ⟨by repeat (first | (with_reducible first | exact HB.out | apply below_alloc | apply pw_below_drewN | apply below_drew1 | refine below_set ?_ (IsS93.ge HI0.out)) | exact HB.out)⟩⟩
 case round =>
  clear H'
  try clear p2
  obtain ⟨x3_1, x5_1, x1001_1, x1002_1, rfl, HA, HK1, HO_3, HO_4, HI0, HK, HB⟩ := hrel
  cases gk with
  | zero => exact absurd HA.out (by simp [spec_l1Cur_caves26.l0])
  | succ k1 =>
   have H := HA.out
   clear HA
   simp only [spec_l1Cur_caves26.l0] at H
   by_cases c6 : x5_1 < (y640.length : Int)
   ·
    rw [if_pos c6] at H
    have c6b0 : decide (x5_1 < (y640.length : Int)) = true := decide_eq_true c6
    clear c6
    replace H := Option.bind_eq_some_iff.mp H
    obtain ⟨⟨t643, t644, t645⟩, A70, H⟩ := H
    replace H : (if t643 = true then (if 0 ≤ x5_1 then ((spec_l1Cur_caveRow.f k1 s0_0 t644 t645 (rdOf ByteArray.empty y640 x5_1)).bind fun bt647 => (if x3_1.length < 3518437208883 then (spec_l1Cur_caves26.l0 k1 (x3_1 ++ [(⟨bt647.1, bt647.2.1, bt647.2.2.1, bt647.2.2.2.1⟩ : S26)]) y640 (wrap64 (x5_1 + 1)) s0_0 bt647.2.2.2.2.1 bt647.2.2.2.2.2) else (none))) else (none)) else (spec_l1Cur_caves26.l0 k1 x3_1 y640 (wrap64 (x5_1 + 1)) s0_0 t644 t645)) = some (r1, r2, r3) := H
    have A7 := Aside0.mk A70
    clear A70
    by_cases c8 : t643 = true
    ·
     subst c8
     have H1 : (if 0 ≤ x5_1 then ((spec_l1Cur_caveRow.f k1 s0_0 t644 t645 (rdOf ByteArray.empty y640 x5_1)).bind fun bt647 => (if x3_1.length < 3518437208883 then (spec_l1Cur_caves26.l0 k1 (x3_1 ++ [(⟨bt647.1, bt647.2.1, bt647.2.2.1, bt647.2.2.2.1⟩ : S26)]) y640 (wrap64 (x5_1 + 1)) s0_0 bt647.2.2.2.2.1 bt647.2.2.2.2.2) else (none))) else (none)) = some (r1, r2, r3) := by rw [if_pos rfl] at H; exact H
     clear H
     have H := H1
     clear H1
     by_cases c9 : 0 ≤ x5_1
     ·
      rw [if_pos c9] at H
      have c9b0 : decide (0 ≤ x5_1) = true := decide_eq_true c9
      clear c9
      replace H := Option.bind_eq_some_iff.mp H
      obtain ⟨⟨t647, t648, t649, t650, t651, t652⟩, A100, H⟩ := H
      replace H : (if x3_1.length < 3518437208883 then (spec_l1Cur_caves26.l0 k1 (x3_1 ++ [(⟨t647, t648, t649, t650⟩ : S26)]) y640 (wrap64 (x5_1 + 1)) s0_0 t651 t652) else (none)) = some (r1, r2, r3) := H
      have A10 := Aside0.mk A100
      clear A100
      by_cases c11 : x3_1.length < 3518437208883
      ·
       rw [if_pos c11] at H
       have LMc11 := Aside0.mk c11
       clear c11
       obtain ⟨y653, hy653⟩ : ∃ y_ : List (S26), y_ = (x3_1 ++ [(⟨t647, t648, t649, t650⟩ : S26)]) := ⟨_, rfl⟩
       replace H : (spec_l1Cur_caves26.l0 k1 y653 y640 (wrap64 (x5_1 + 1)) s0_0 t651 t652) = some (r1, r2, r3) := by first | (rw [hy653]; with_reducible exact H) | (have H2_ := (Option.bind_some _ _).symm.trans H; rw [hy653]; with_reducible exact H2_) | (have H2_ := (Option.bind_some _ _).symm.trans H; with_reducible exact H2_) | with_reducible exact H | (rw [hy653]; exact H) | exact H
       have Ny653 := Aside0.mk hy653
       clear hy653
       have H' := Aside0.mk H
       clear H
       obtain ⟨Ao12, co12, eo12⟩ := Kd.R_slice HO_4.out
       subst eo12
       go_wp2_with (first | ((with_reducible refine gate_callee (f := 81) rfl ?_); refine ga_ (some 16) Tryd.func81 #[.pointer (some ⟨g, 0, none⟩), .int .i64 2] ?_; (with_reducible refine (spec_l1Cur_one.calls g s0_0 x1001_1 x1002_1 2 true t644 t645 w0 _ ?side1 ?side2 A7.out).mono ?_); (case side1 => repeat (first | (with_reducible first | exact HI0.out | apply IsS93.alloc | apply IsS93.drewN | apply IsS93.drew | apply IsS93.set_1 | apply IsS93.set_2) | exact HI0.out)); (case side2 => repeat (first | (with_reducible first | exact HB.out | apply below_alloc | apply pw_below_drewN | apply below_drew1 | refine below_set ?_ (IsS93.ge HI0.out)) | exact HB.out)); rintro e w13 ⟨rfl, hi, hb, hk⟩; refine ⟨_, rfl, ?_⟩; have n0_ := Aside0.mk (Kd.R_mono (Kd.R_keep (IsS93.apart (show IsS93 w0 _ g s0_0 x1001_1 x1002_1 from by repeat (first | (with_reducible first | exact HI0.out | apply IsS93.alloc | apply IsS93.drewN | apply IsS93.drew | apply IsS93.set_1 | apply IsS93.set_2) | exact HI0.out)) (kr_ HO_3.out) (by decide)) hk (fun _ h => h.2)) (fun _ h => h.1)); have n1_ := Aside0.mk (Kd.R_mono (Kd.R_keep (IsS93.apart (show IsS93 w0 _ g s0_0 x1001_1 x1002_1 from by repeat (first | (with_reducible first | exact HI0.out | apply IsS93.alloc | apply IsS93.drewN | apply IsS93.drew | apply IsS93.set_1 | apply IsS93.set_2) | exact HI0.out)) (kr_ HO_4.out) (by decide)) hk (fun _ h => h.2)) (fun _ h => h.1)); have n2_ := Aside0.mk (KeepBut.trans (by repeat (first | (with_reducible first | exact HK.out | apply KeepBut.set_ | apply keep_drewN | apply keep_drew | apply keep_alloc) | exact HK.out)) hk (.inl rfl)); have n3_ := Aside0.mk (hb); have n4_ := Aside0.mk (hi); clear HO_3; clear HO_4; clear HK; clear HB; clear HI0; have HO_3 := n0_; have HO_4 := n1_; have HK := n2_; have HB := n3_; have HI0 := n4_; clear n0_ n1_ n2_ n3_ n4_; (try clear hb); (try clear hb2); (try clear hk); (try clear hi); have p646 : 0 ≤ (x5_1 : Int) := dt_; have q646 : x5_1 < (y640.length : Int) := dt_; obtain ⟨ad646, e646, hx646_0⟩ := Kd.at_string (Kd.R_reads' HO_4.out).2.2 x5_1 p646 q646; cases e646; replace p646 := eq_true p646; replace q646 := eq_true q646) | ((with_reducible refine gate_callee (f := 99) rfl ?_); refine ga_ (some 23) Tryd.func99 #[.pointer (some ⟨g, 0, none⟩), .string (rdOf ByteArray.empty y640 x5_1)] ?_; (with_reducible refine (spec_l1Cur_caveRow.calls k1 g s0_0 t644 t645 (rdOf ByteArray.empty y640 x5_1) t647 t648 t649 t650 t651 t652 w0 _ ?side1 ?side2 A10.out).mono ?_); (case side1 => repeat (first | (with_reducible first | exact HI0.out | apply IsS93.alloc | apply IsS93.drewN | apply IsS93.drew | apply IsS93.set_1 | apply IsS93.set_2) | exact HI0.out)); (case side2 => repeat (first | (with_reducible first | exact HB.out | apply below_alloc | apply pw_below_drewN | apply below_drew1 | refine below_set ?_ (IsS93.ge HI0.out)) | exact HB.out)); rintro e w14 ⟨rfl, hi, hb, hk⟩; refine ⟨_, rfl, ?_⟩; have n0_ := Aside0.mk (Kd.R_mono (Kd.R_keep (IsS93.apart (show IsS93 w0 _ g s0_0 t644 t645 from by repeat (first | (with_reducible first | exact HI0.out | apply IsS93.alloc | apply IsS93.drewN | apply IsS93.drew | apply IsS93.set_1 | apply IsS93.set_2) | exact HI0.out)) (kr_ HO_3.out) (by decide)) hk (fun _ h => h.2)) (fun _ h => h.1)); have n1_ := Aside0.mk (Kd.R_mono (Kd.R_keep (IsS93.apart (show IsS93 w0 _ g s0_0 t644 t645 from by repeat (first | (with_reducible first | exact HI0.out | apply IsS93.alloc | apply IsS93.drewN | apply IsS93.drew | apply IsS93.set_1 | apply IsS93.set_2) | exact HI0.out)) (kr_ HO_4.out) (by decide)) hk (fun _ h => h.2)) (fun _ h => h.1)); have n2_ := Aside0.mk (KeepBut.trans (by repeat (first | (with_reducible first | exact HK.out | apply KeepBut.set_ | apply keep_drewN | apply keep_drew | apply keep_alloc) | exact HK.out)) hk (.inl rfl)); have n3_ := Aside0.mk (hb); have n4_ := Aside0.mk (hi); clear HO_3; clear HO_4; clear HK; clear HB; clear HI0; have HO_3 := n0_; have HO_4 := n1_; have HK := n2_; have HB := n3_; have HI0 := n4_; clear n0_ n1_ n2_ n3_ n4_; (try clear hb); (try clear hb2); (try clear hk); (try clear hi)) | ((with_reducible refine gate_builtin (b := .append) (xs := #[.tmp 17, .tmp 24]) rfl ?_); at_builtin; refine Kd.R_append k26 w.heap.size rfl (.tmp 17) (.tmp 24) 32 26 (.agg #[(.string ⟨#[]⟩), (.int .i64 0), (.int .i64 0), (.int .i64 0)]) 40 rfl Tryd.underlying32 info26 rfl (by decide) (by omega) u3 x3_1 (⟨t647, t648, t649, t650⟩ : S26) [.string t647, .int .i64 t648, .int .i64 t649, .int .i64 t650] (fun _ => True) (fun _ => False) rfl rfl ?aP (fun _ hk => hk.elim) ?aF ?aO (Below.refl _ _) ?aS ?aL ?_; (case aP => exact k26_mkM _ _ _ (⟨t647, t648, t649, t650⟩ : S26)); (case aF => exact (fun _ _ => trivial)); (case aO => exact (kr_ HO_3.out)); (case aS => exact (keep_size (w := w) (g := g) (row := none) (by repeat (first | (with_reducible first | exact HK.out | apply KeepBut.set_ | apply keep_drewN | apply keep_drew | apply keep_alloc) | exact HK.out)))); (case aL => have := LMc11.out; omega); intro v654 w15 ho hb hg hat; rw [← Ny653.out] at ho; have n0_ := Aside0.mk (Kd.R_over' (kr_ HO_4.out) (Kd.R_typed (kr_ HO_3.out)) (by decide) hg); have n1_ := Aside0.mk (IsS93.grown (by repeat (first | (with_reducible first | exact HI0.out | apply IsS93.alloc | apply IsS93.drewN | apply IsS93.drew | apply IsS93.set_1 | apply IsS93.set_2) | exact HI0.out)) hg (IsS93.own_ne HI0.out HO_3.out (by decide))); have n2_ := Aside0.mk (below_weaken (by repeat (first | (with_reducible first | exact HB.out | apply below_alloc | apply pw_below_drewN | apply below_drew1 | refine below_set ?_ (IsS93.ge HI0.out)) | exact HB.out)) HL.out hb); have n3_ := Aside0.mk (KeepBut.trans (by repeat (first | (with_reducible first | exact HK.out | apply KeepBut.set_ | apply keep_drewN | apply keep_drew | apply keep_alloc) | exact HK.out)) (KeepBut.of_grown hg g) (Kd.R_base2 HO_3.out)); have n4_ := Aside0.mk (ho); clear HO_4; clear HI0; clear HB; clear HK; clear HO_3; have HO_4 := n0_; have HI0 := n1_; have HB := n2_; have HK := n3_; have HO655 := n4_; clear n0_ n1_ n2_ n3_ n4_; clear ho hb hg hat))
       go_roundg k1
       case measure => have := HK1.out; omega
       case rel => exact ⟨(y653), (wrap64 (x5_1 + 1)), (t651), (t652), (by first | rfl | (simp; done) | (simp [*]; done)), H', ⟨by have := HK1.out; omega⟩, ⟨kr_ HO655.out⟩, ⟨kr_ HO_4.out⟩, ⟨by repeat (first | (with_reducible first | exact HI0.out | apply IsS93.alloc | apply IsS93.drewN | apply IsS93.drew | apply IsS93.set_1 | apply IsS93.set_2) | exact HI0.out)⟩, ⟨by repeat (first | (with_reducible first | exact HK.out | apply KeepBut.set_ | apply keep_drewN | apply keep_drew | apply keep_alloc) | exact HK.out)⟩, ⟨by repeat (first | (with_reducible first | exact HB.out | apply below_alloc | apply pw_below_drewN | apply below_drew1 | refine below_set ?_ (IsS93.ge HI0.out)) | exact HB.out)⟩⟩
      ·
       rw [if_neg c11] at H
       exact absurd H (by simp)
     ·
      rw [if_neg c9] at H
      exact absurd H (by simp)
    ·
     replace c8 := Bool.eq_false_iff.mpr c8
     subst c8
     have H1 : (spec_l1Cur_caves26.l0 k1 x3_1 y640 (wrap64 (x5_1 + 1)) s0_0 t644 t645) = some (r1, r2, r3) := by rw [if_neg (show ¬ (false = true) by decide)] at H; exact H
     clear H
     have H := H1
     clear H1
     have H' := Aside0.mk H
     clear H
     obtain ⟨Ao16, co16, eo16⟩ := Kd.R_slice HO_4.out
     subst eo16
     go_wp2_with (first | ((with_reducible refine gate_callee (f := 81) rfl ?_); refine ga_ (some 16) Tryd.func81 #[.pointer (some ⟨g, 0, none⟩), .int .i64 2] ?_; (with_reducible refine (spec_l1Cur_one.calls g s0_0 x1001_1 x1002_1 2 false t644 t645 w0 _ ?side1 ?side2 A7.out).mono ?_); (case side1 => repeat (first | (with_reducible first | exact HI0.out | apply IsS93.alloc | apply IsS93.drewN | apply IsS93.drew | apply IsS93.set_1 | apply IsS93.set_2) | exact HI0.out)); (case side2 => repeat (first | (with_reducible first | exact HB.out | apply below_alloc | apply pw_below_drewN | apply below_drew1 | refine below_set ?_ (IsS93.ge HI0.out)) | exact HB.out)); rintro e w17 ⟨rfl, hi, hb, hk⟩; refine ⟨_, rfl, ?_⟩; have n0_ := Aside0.mk (Kd.R_mono (Kd.R_keep (IsS93.apart (show IsS93 w0 _ g s0_0 x1001_1 x1002_1 from by repeat (first | (with_reducible first | exact HI0.out | apply IsS93.alloc | apply IsS93.drewN | apply IsS93.drew | apply IsS93.set_1 | apply IsS93.set_2) | exact HI0.out)) (kr_ HO_3.out) (by decide)) hk (fun _ h => h.2)) (fun _ h => h.1)); have n1_ := Aside0.mk (Kd.R_mono (Kd.R_keep (IsS93.apart (show IsS93 w0 _ g s0_0 x1001_1 x1002_1 from by repeat (first | (with_reducible first | exact HI0.out | apply IsS93.alloc | apply IsS93.drewN | apply IsS93.drew | apply IsS93.set_1 | apply IsS93.set_2) | exact HI0.out)) (kr_ HO_4.out) (by decide)) hk (fun _ h => h.2)) (fun _ h => h.1)); have n2_ := Aside0.mk (KeepBut.trans (by repeat (first | (with_reducible first | exact HK.out | apply KeepBut.set_ | apply keep_drewN | apply keep_drew | apply keep_alloc) | exact HK.out)) hk (.inl rfl)); have n3_ := Aside0.mk (hb); have n4_ := Aside0.mk (hi); clear HO_3; clear HO_4; clear HK; clear HB; clear HI0; have HO_3 := n0_; have HO_4 := n1_; have HK := n2_; have HB := n3_; have HI0 := n4_; clear n0_ n1_ n2_ n3_ n4_; (try clear hb); (try clear hb2); (try clear hk); (try clear hi)))
     go_roundg k1
     case measure => have := HK1.out; omega
     case rel => exact ⟨(x3_1), (wrap64 (x5_1 + 1)), (t644), (t645), (by first | rfl | (simp; done) | (simp [*]; done)), H', ⟨by have := HK1.out; omega⟩, ⟨kr_ HO_3.out⟩, ⟨kr_ HO_4.out⟩, ⟨by repeat (first | (with_reducible first | exact HI0.out | apply IsS93.alloc | apply IsS93.drewN | apply IsS93.drew | apply IsS93.set_1 | apply IsS93.set_2) | exact HI0.out)⟩, ⟨by repeat (first | (with_reducible first | exact HK.out | apply KeepBut.set_ | apply keep_drewN | apply keep_drew | apply keep_alloc) | exact HK.out)⟩, ⟨by repeat (first | (with_reducible first | exact HB.out | apply below_alloc | apply pw_below_drewN | apply below_drew1 | refine below_set ?_ (IsS93.ge HI0.out)) | exact HB.out)⟩⟩
   ·
    rw [if_neg c6] at H
    have c6b0 : decide (x5_1 < (y640.length : Int)) = false := decide_eq_false c6
    clear c6
    replace H := Option.bind_eq_some_iff.mp H
    obtain ⟨⟨t656, t657, t658⟩, A180, H⟩ := H
    replace H : (if t656 = 0 then ((spec_l1Cur_caveRow.f k1 s0_0 t657 t658 (⟨#[98, 108, 117, 102, 102]⟩ : ByteArray)).bind fun bt659 => (if x3_1.length < 3518437208883 then (some ((x3_1 ++ [(⟨bt659.1, bt659.2.1, bt659.2.2.1, bt659.2.2.2.1⟩ : S26)]), bt659.2.2.2.2.1, bt659.2.2.2.2.2)) else (none))) else (if t656 = 1 then (spec_l1Cur_caves26.l1 k1 (([] : List (S26))) 0 s0_0 t657 t658) else (some (x3_1, t657, t658)))) = some (r1, r2, r3) := H
    have A18 := Aside0.mk A180
    clear A180
    by_cases c19 : t656 = 0
    ·
     rw [if_pos c19] at H
     have c19b0 : (t656 == 0) = true := beq_iff_eq.mpr c19
     have c19b1 : (t656 != 0) = false := bne_eq_false_iff_eq.mpr c19
     clear c19
     replace H := Option.bind_eq_some_iff.mp H
     obtain ⟨⟨t659, t660, t661, t662, t663, t664⟩, A200, H⟩ := H
     replace H : (if x3_1.length < 3518437208883 then (some ((x3_1 ++ [(⟨t659, t660, t661, t662⟩ : S26)]), t663, t664)) else (none)) = some (r1, r2, r3) := H
     have A20 := Aside0.mk A200
     clear A200
     by_cases c21 : x3_1.length < 3518437208883
     ·
      rw [if_pos c21] at H
      have LMc21 := Aside0.mk c21
      clear c21
      obtain ⟨y665, hy665⟩ : ∃ y_ : List (S26), y_ = (x3_1 ++ [(⟨t659, t660, t661, t662⟩ : S26)]) := ⟨_, rfl⟩
      replace H : (some (y665, t663, t664)) = some (r1, r2, r3) := by first | (rw [hy665]; with_reducible exact H) | (have H2_ := (Option.bind_some _ _).symm.trans H; rw [hy665]; with_reducible exact H2_) | (have H2_ := (Option.bind_some _ _).symm.trans H; with_reducible exact H2_) | with_reducible exact H | (rw [hy665]; exact H) | exact H
      have Ny665 := Aside0.mk hy665
      clear hy665
      simp only [Option.some.injEq, Prod.mk.injEq] at H
      obtain ⟨rfl, rfl, rfl⟩ := H
      obtain ⟨Ao22, co22, eo22⟩ := Kd.R_slice HO_4.out
      subst eo22
      go_wp2_with (first | ((with_reducible refine gate_callee (f := 82) rfl ?_); refine ga_ (some 27) Tryd.func82 #[.pointer (some ⟨g, 0, none⟩), .int .i64 30] ?_; (with_reducible refine (spec_l1Cur_pick.calls g s0_0 x1001_1 x1002_1 30 t656 t657 t658 w0 _ ?side1 ?side2 A18.out).mono ?_); (case side1 => repeat (first | (with_reducible first | exact HI0.out | apply IsS93.alloc | apply IsS93.drewN | apply IsS93.drew | apply IsS93.set_1 | apply IsS93.set_2) | exact HI0.out)); (case side2 => repeat (first | (with_reducible first | exact HB.out | apply below_alloc | apply pw_below_drewN | apply below_drew1 | refine below_set ?_ (IsS93.ge HI0.out)) | exact HB.out)); rintro e w23 ⟨rfl, hi, hb, hk⟩; refine ⟨_, rfl, ?_⟩; have n0_ := Aside0.mk (Kd.R_mono (Kd.R_keep (IsS93.apart (show IsS93 w0 _ g s0_0 x1001_1 x1002_1 from by repeat (first | (with_reducible first | exact HI0.out | apply IsS93.alloc | apply IsS93.drewN | apply IsS93.drew | apply IsS93.set_1 | apply IsS93.set_2) | exact HI0.out)) (kr_ HO_3.out) (by decide)) hk (fun _ h => h.2)) (fun _ h => h.1)); have n1_ := Aside0.mk (Kd.R_mono (Kd.R_keep (IsS93.apart (show IsS93 w0 _ g s0_0 x1001_1 x1002_1 from by repeat (first | (with_reducible first | exact HI0.out | apply IsS93.alloc | apply IsS93.drewN | apply IsS93.drew | apply IsS93.set_1 | apply IsS93.set_2) | exact HI0.out)) (kr_ HO_4.out) (by decide)) hk (fun _ h => h.2)) (fun _ h => h.1)); have n2_ := Aside0.mk (KeepBut.trans (by repeat (first | (with_reducible first | exact HK.out | apply KeepBut.set_ | apply keep_drewN | apply keep_drew | apply keep_alloc) | exact HK.out)) hk (.inl rfl)); have n3_ := Aside0.mk (hb); have n4_ := Aside0.mk (hi); clear HO_3; clear HO_4; clear HK; clear HB; clear HI0; have HO_3 := n0_; have HO_4 := n1_; have HK := n2_; have HB := n3_; have HI0 := n4_; clear n0_ n1_ n2_ n3_ n4_; (try clear hb); (try clear hb2); (try clear hk); (try clear hi)) | ((with_reducible refine gate_callee (f := 99) rfl ?_); refine ga_ (some 32) Tryd.func99 #[.pointer (some ⟨g, 0, none⟩), .string (⟨#[98, 108, 117, 102, 102]⟩ : ByteArray)] ?_; (with_reducible refine (spec_l1Cur_caveRow.calls k1 g s0_0 t657 t658 (⟨#[98, 108, 117, 102, 102]⟩ : ByteArray) t659 t660 t661 t662 t663 t664 w0 _ ?side1 ?side2 A20.out).mono ?_); (case side1 => repeat (first | (with_reducible first | exact HI0.out | apply IsS93.alloc | apply IsS93.drewN | apply IsS93.drew | apply IsS93.set_1 | apply IsS93.set_2) | exact HI0.out)); (case side2 => repeat (first | (with_reducible first | exact HB.out | apply below_alloc | apply pw_below_drewN | apply below_drew1 | refine below_set ?_ (IsS93.ge HI0.out)) | exact HB.out)); rintro e w24 ⟨rfl, hi, hb, hk⟩; refine ⟨_, rfl, ?_⟩; have n0_ := Aside0.mk (Kd.R_mono (Kd.R_keep (IsS93.apart (show IsS93 w0 _ g s0_0 t657 t658 from by repeat (first | (with_reducible first | exact HI0.out | apply IsS93.alloc | apply IsS93.drewN | apply IsS93.drew | apply IsS93.set_1 | apply IsS93.set_2) | exact HI0.out)) (kr_ HO_3.out) (by decide)) hk (fun _ h => h.2)) (fun _ h => h.1)); have n1_ := Aside0.mk (Kd.R_mono (Kd.R_keep (IsS93.apart (show IsS93 w0 _ g s0_0 t657 t658 from by repeat (first | (with_reducible first | exact HI0.out | apply IsS93.alloc | apply IsS93.drewN | apply IsS93.drew | apply IsS93.set_1 | apply IsS93.set_2) | exact HI0.out)) (kr_ HO_4.out) (by decide)) hk (fun _ h => h.2)) (fun _ h => h.1)); have n2_ := Aside0.mk (KeepBut.trans (by repeat (first | (with_reducible first | exact HK.out | apply KeepBut.set_ | apply keep_drewN | apply keep_drew | apply keep_alloc) | exact HK.out)) hk (.inl rfl)); have n3_ := Aside0.mk (hb); have n4_ := Aside0.mk (hi); clear HO_3; clear HO_4; clear HK; clear HB; clear HI0; have HO_3 := n0_; have HO_4 := n1_; have HK := n2_; have HB := n3_; have HI0 := n4_; clear n0_ n1_ n2_ n3_ n4_; (try clear hb); (try clear hb2); (try clear hk); (try clear hi)) | ((with_reducible refine gate_builtin (b := .append) (xs := #[.tmp 30, .tmp 33]) rfl ?_); at_builtin; refine Kd.R_append k26 w.heap.size rfl (.tmp 30) (.tmp 33) 32 26 (.agg #[(.string ⟨#[]⟩), (.int .i64 0), (.int .i64 0), (.int .i64 0)]) 40 rfl Tryd.underlying32 info26 rfl (by decide) (by omega) u3 x3_1 (⟨t659, t660, t661, t662⟩ : S26) [.string t659, .int .i64 t660, .int .i64 t661, .int .i64 t662] (fun _ => True) (fun _ => False) rfl rfl ?aP (fun _ hk => hk.elim) ?aF ?aO (Below.refl _ _) ?aS ?aL ?_; (case aP => exact k26_mkM _ _ _ (⟨t659, t660, t661, t662⟩ : S26)); (case aF => exact (fun _ _ => trivial)); (case aO => exact (kr_ HO_3.out)); (case aS => exact (keep_size (w := w) (g := g) (row := none) (by repeat (first | (with_reducible first | exact HK.out | apply KeepBut.set_ | apply keep_drewN | apply keep_drew | apply keep_alloc) | exact HK.out)))); (case aL => have := LMc21.out; omega); intro v666 w25 ho hb hg hat; rw [← Ny665.out] at ho; have n0_ := Aside0.mk (Kd.R_over' (kr_ HO_4.out) (Kd.R_typed (kr_ HO_3.out)) (by decide) hg); have n1_ := Aside0.mk (IsS93.grown (by repeat (first | (with_reducible first | exact HI0.out | apply IsS93.alloc | apply IsS93.drewN | apply IsS93.drew | apply IsS93.set_1 | apply IsS93.set_2) | exact HI0.out)) hg (IsS93.own_ne HI0.out HO_3.out (by decide))); have n2_ := Aside0.mk (below_weaken (by repeat (first | (with_reducible first | exact HB.out | apply below_alloc | apply pw_below_drewN | apply below_drew1 | refine below_set ?_ (IsS93.ge HI0.out)) | exact HB.out)) HL.out hb); have n3_ := Aside0.mk (KeepBut.trans (by repeat (first | (with_reducible first | exact HK.out | apply KeepBut.set_ | apply keep_drewN | apply keep_drew | apply keep_alloc) | exact HK.out)) (KeepBut.of_grown hg g) (Kd.R_base2 HO_3.out)); have n4_ := Aside0.mk (ho); clear HO_4; clear HI0; clear HB; clear HK; clear HO_3; have HO_4 := n0_; have HI0 := n1_; have HB := n2_; have HK := n3_; have HO667 := n4_; clear n0_ n1_ n2_ n3_ n4_; clear ho hb hg hat))
      go_ret
      exact ⟨_, rr_, kr_ HO667.out, by repeat (first | (with_reducible first | exact HI0.out | apply IsS93.alloc | apply IsS93.drewN | apply IsS93.drew | apply IsS93.set_1 | apply IsS93.set_2) | exact HI0.out), by repeat (first | (with_reducible first | exact HB.out | apply below_alloc | apply pw_below_drewN | apply below_drew1 | refine below_set ?_ (IsS93.ge HI0.out)) | exact HB.out), by repeat (first | (with_reducible first | exact HK.out | apply KeepBut.set_ | apply keep_drewN | apply keep_drew | apply keep_alloc) | exact HK.out)⟩
     ·
      rw [if_neg c21] at H
      exact absurd H (by simp)
    ·
     rw [if_neg c19] at H
     have c19b0 : (t656 == 0) = false := beq_eq_false_iff_ne.mpr c19
     have c19b1 : (t656 != 0) = true := bne_iff_ne.mpr c19
     by_cases c26 : t656 = 1
     ·
      rw [if_pos c26] at H
      have c26b0 : (t656 == 1) = true := beq_iff_eq.mpr c26
      have c26b1 : (t656 != 1) = false := bne_eq_false_iff_eq.mpr c26
      clear c26
      obtain ⟨y668, hy668⟩ : ∃ y_ : List (S26), y_ = (([] : List (S26))) := ⟨_, rfl⟩
      replace H : (spec_l1Cur_caves26.l1 k1 y668 0 s0_0 t657 t658) = some (r1, r2, r3) := by first | (rw [hy668]; with_reducible exact H) | (have H2_ := (Option.bind_some _ _).symm.trans H; rw [hy668]; with_reducible exact H2_) | (have H2_ := (Option.bind_some _ _).symm.trans H; with_reducible exact H2_) | with_reducible exact H | (rw [hy668]; exact H) | exact H
      have Ny668 := Aside0.mk hy668
      clear hy668
      have H' := Aside0.mk H
      clear H
      obtain ⟨Ao27, co27, eo27⟩ := Kd.R_slice HO_4.out
      subst eo27
      go_wp2_with (first | ((with_reducible refine gate_callee (f := 82) rfl ?_); refine ga_ (some 27) Tryd.func82 #[.pointer (some ⟨g, 0, none⟩), .int .i64 30] ?_; (with_reducible refine (spec_l1Cur_pick.calls g s0_0 x1001_1 x1002_1 30 t656 t657 t658 w0 _ ?side1 ?side2 A18.out).mono ?_); (case side1 => repeat (first | (with_reducible first | exact HI0.out | apply IsS93.alloc | apply IsS93.drewN | apply IsS93.drew | apply IsS93.set_1 | apply IsS93.set_2) | exact HI0.out)); (case side2 => repeat (first | (with_reducible first | exact HB.out | apply below_alloc | apply pw_below_drewN | apply below_drew1 | refine below_set ?_ (IsS93.ge HI0.out)) | exact HB.out)); rintro e w28 ⟨rfl, hi, hb, hk⟩; refine ⟨_, rfl, ?_⟩; have n0_ := Aside0.mk (Kd.R_mono (Kd.R_keep (IsS93.apart (show IsS93 w0 _ g s0_0 x1001_1 x1002_1 from by repeat (first | (with_reducible first | exact HI0.out | apply IsS93.alloc | apply IsS93.drewN | apply IsS93.drew | apply IsS93.set_1 | apply IsS93.set_2) | exact HI0.out)) (kr_ HO_3.out) (by decide)) hk (fun _ h => h.2)) (fun _ h => h.1)); have n1_ := Aside0.mk (Kd.R_mono (Kd.R_keep (IsS93.apart (show IsS93 w0 _ g s0_0 x1001_1 x1002_1 from by repeat (first | (with_reducible first | exact HI0.out | apply IsS93.alloc | apply IsS93.drewN | apply IsS93.drew | apply IsS93.set_1 | apply IsS93.set_2) | exact HI0.out)) (kr_ HO_4.out) (by decide)) hk (fun _ h => h.2)) (fun _ h => h.1)); have n2_ := Aside0.mk (KeepBut.trans (by repeat (first | (with_reducible first | exact HK.out | apply KeepBut.set_ | apply keep_drewN | apply keep_drew | apply keep_alloc) | exact HK.out)) hk (.inl rfl)); have n3_ := Aside0.mk (hb); have n4_ := Aside0.mk (hi); clear HO_3; clear HO_4; clear HK; clear HB; clear HI0; have HO_3 := n0_; have HO_4 := n1_; have HK := n2_; have HB := n3_; have HI0 := n4_; clear n0_ n1_ n2_ n3_ n4_; (try clear hb); (try clear hb2); (try clear hk); (try clear hi)) | ((with_reducible refine gate_dst (N := 37) rfl ?_); refine Kd.R_lit k26 _ 26 ?hg (N := 37) ?hd (xs := ([] : List (S26))) (inner := []) (ok := fun _ => True) (okp := fun _ => True) ?hr ?hp (fun _ hk => hk) trivial (Below.refl _ _) (Nat.le_refl _) (by simp) ?_; (case hd => rfl); (case hg => rfl); (case hr => first | (go_simp; done) | (go_simp; rfl)); (case hp => exact (Reps.none _ _)); intro v669 w29 ho30 hb hg_ hnew_; clear hg_ hnew_; (first | rw [← Ny668.out] at ho30 | (simp only [Int.reduceToNat] at ho30; rw [← Ny668.out] at ho30)); have n0_ := Aside0.mk (Kd.R_elder' (kr_ HO_3.out) (Kd.R_base ho30) hb); have n1_ := Aside0.mk (Kd.R_below (kr_ HO_4.out) hb); have n2_ := Aside0.mk (Kd.R_lower (Kd.R_new' ho30 (Kd.R_lt (kr_ HO_3.out))) (keep_size (w := w) (g := g) (row := none) (by repeat (first | (with_reducible first | exact HK.out | apply KeepBut.set_ | apply keep_drewN | apply keep_drew | apply keep_alloc) | exact HK.out)))); have n3_ := Aside0.mk (IsS93.below (by repeat (first | (with_reducible first | exact HI0.out | apply IsS93.alloc | apply IsS93.drewN | apply IsS93.drew | apply IsS93.set_1 | apply IsS93.set_2) | exact HI0.out)) hb); have n4_ := Aside0.mk (KeepBut.trans (by repeat (first | (with_reducible first | exact HK.out | apply KeepBut.set_ | apply keep_drewN | apply keep_drew | apply keep_alloc) | exact HK.out)) (KeepBut.of_below hb g none) (.inl rfl)); have n5_ := Aside0.mk (below_step (by repeat (first | (with_reducible first | exact HB.out | apply below_alloc | apply pw_below_drewN | apply below_drew1 | refine below_set ?_ (IsS93.ge HI0.out)) | exact HB.out)) hb); clear HO_3; clear HO_4; clear HI0; clear HK; clear HB; have HO_3 := n0_; have HO_4 := n1_; have HO670 := n2_; have HI0 := n3_; have HK := n4_; have HB := n5_; clear n0_ n1_ n2_ n3_ n4_ n5_; clear hb ho30))
      go_loopg [3, 6] k1 (fun kq v3 v6 w' => ∃ (x3_2 : List (S26)) (x6_2 : Int) (x1001_2 : Int) (x1002_2 : Int), v6 = .int .i64 x6_2 ∧ Aside0 (spec_l1Cur_caves26.l1 kq x3_2 x6_2 s0_0 x1001_2 x1002_2 = some (r1, r2, r3)) ∧ Aside0 (kq ≤ k1) ∧ Aside0 (Kd.R k26 26 w' w.heap.size (fun _ => True) v3 x3_2) ∧ Aside0 (IsS93 w0 w' g s0_0 x1001_2 x1002_2) ∧ Aside0 (KeepBut w w' g none) ∧ Aside0 (Below w0.heap.size w0 w'))
      case atStart => exact ⟨(y668), (0), (t657), (t658), (by first | rfl | (simp; done) | (simp [*]; done)), H', ⟨Nat.le_refl _⟩, ⟨by (with_reducible repeat (first | apply Kd.R_alloc | apply Kd.R_drewN | apply Kd.R_drew)); exact Kd.R_mono HO670.out (fun _ hk => trivial)⟩, ⟨by repeat (first | (with_reducible first | exact HI0.out | apply IsS93.alloc | apply IsS93.drewN | apply IsS93.drew | apply IsS93.set_1 | apply IsS93.set_2) | exact HI0.out)⟩, ⟨by repeat (first | (with_reducible first | exact HK.out | apply KeepBut.set_ | apply keep_drewN | apply keep_drew | apply keep_alloc) | exact HK.out)⟩, ⟨by repeat (first | (with_reducible first | exact HB.out | apply below_alloc | apply pw_below_drewN | apply below_drew1 | refine below_set ?_ (IsS93.ge HI0.out)) | exact HB.out)⟩⟩
      case round =>
       clear H'
       try clear c1
       try clear c2
       try clear p2
       try clear c6
       try clear c6b0
       try clear p6
       try clear q6
       try clear hx6
       try clear c8
       try clear c9
       try clear c9b0
       try clear c11
       try clear c19
       try clear c19b0
       try clear c19b1
       try clear c21
       try clear c26
       try clear c26b0
       try clear c26b1
       try clear hx646_0
       try clear p2
       try clear p646
       try clear q646
       obtain ⟨x3_2, x6_2, x1001_2, x1002_2, rfl, HA, HK2, HO_3, HI0, HK, HB⟩ := hrel
       cases gk with
       | zero => exact absurd HA.out (by simp [spec_l1Cur_caves26.l1])
       | succ k2 =>
        have H := HA.out
        clear HA
        simp only [spec_l1Cur_caves26.l1] at H
        replace H := Option.bind_eq_some_iff.mp H
        obtain ⟨⟨t671, t672, t673⟩, A310, H⟩ := H
        replace H : (if x6_2 < (wrap64 (10 + t671)) then (if x3_2.length < 3518437208883 then (spec_l1Cur_caves26.l1 k2 (x3_2 ++ [(⟨strOfNums (([(wrap64 (97 + x6_2)) % 256] : List Int)), 0, 0, 0⟩ : S26)]) (wrap64 (x6_2 + 1)) s0_0 t672 t673) else (none)) else (some (x3_2, t672, t673))) = some (r1, r2, r3) := H
        have A31 := Aside0.mk A310
        clear A310
        by_cases c32 : x6_2 < (wrap64 (10 + t671))
        ·
         rw [if_pos c32] at H
         have c32b0 : decide (x6_2 < (wrap64 (10 + t671))) = true := decide_eq_true c32
         clear c32
         obtain ⟨y674, hy674⟩ : ∃ y_ : List Int, y_ = (([(wrap64 (97 + x6_2)) % 256] : List Int)) := ⟨_, rfl⟩
         replace H : (if x3_2.length < 3518437208883 then (spec_l1Cur_caves26.l1 k2 (x3_2 ++ [(⟨strOfNums y674, 0, 0, 0⟩ : S26)]) (wrap64 (x6_2 + 1)) s0_0 t672 t673) else (none)) = some (r1, r2, r3) := by first | (rw [hy674]; with_reducible exact H) | (have H2_ := (Option.bind_some _ _).symm.trans H; rw [hy674]; with_reducible exact H2_) | (have H2_ := (Option.bind_some _ _).symm.trans H; with_reducible exact H2_) | with_reducible exact H | (rw [hy674]; exact H) | exact H
         have Ny674 := Aside0.mk hy674
         clear hy674
         by_cases c33 : x3_2.length < 3518437208883
         ·
          rw [if_pos c33] at H
          have LMc33 := Aside0.mk c33
          clear c33
          obtain ⟨y677, hy677⟩ : ∃ y_ : List (S26), y_ = (x3_2 ++ [(⟨strOfNums y674, 0, 0, 0⟩ : S26)]) := ⟨_, rfl⟩
          replace H : (spec_l1Cur_caves26.l1 k2 y677 (wrap64 (x6_2 + 1)) s0_0 t672 t673) = some (r1, r2, r3) := by first | (rw [hy677]; with_reducible exact H) | (have H2_ := (Option.bind_some _ _).symm.trans H; rw [hy677]; with_reducible exact H2_) | (have H2_ := (Option.bind_some _ _).symm.trans H; with_reducible exact H2_) | with_reducible exact H | (rw [hy677]; exact H) | exact H
          have Ny677 := Aside0.mk hy677
          clear hy677
          have H' := Aside0.mk H
          clear H
          go_wp2_with (first | ((with_reducible refine gate_callee (f := 82) rfl ?_); refine ga_ (some 40) Tryd.func82 #[.pointer (some ⟨g, 0, none⟩), .int .i64 2] ?_; (with_reducible refine (spec_l1Cur_pick.calls g s0_0 x1001_2 x1002_2 2 t671 t672 t673 w0 _ ?side1 ?side2 A31.out).mono ?_); (case side1 => repeat (first | (with_reducible first | exact HI0.out | apply IsS93.alloc | apply IsS93.drewN | apply IsS93.drew | apply IsS93.set_1 | apply IsS93.set_2) | exact HI0.out)); (case side2 => repeat (first | (with_reducible first | exact HB.out | apply below_alloc | apply pw_below_drewN | apply below_drew1 | refine below_set ?_ (IsS93.ge HI0.out)) | exact HB.out)); rintro e w34 ⟨rfl, hi, hb, hk⟩; refine ⟨_, rfl, ?_⟩; have n0_ := Aside0.mk (Kd.R_mono (Kd.R_keep (IsS93.apart (show IsS93 w0 _ g s0_0 x1001_2 x1002_2 from by repeat (first | (with_reducible first | exact HI0.out | apply IsS93.alloc | apply IsS93.drewN | apply IsS93.drew | apply IsS93.set_1 | apply IsS93.set_2) | exact HI0.out)) (kr_ HO_3.out) (by decide)) hk (fun _ h => h.2)) (fun _ h => h.1)); have n1_ := Aside0.mk (KeepBut.trans (by repeat (first | (with_reducible first | exact HK.out | apply KeepBut.set_ | apply keep_drewN | apply keep_drew | apply keep_alloc) | exact HK.out)) hk (.inl rfl)); have n2_ := Aside0.mk (hb); have n3_ := Aside0.mk (hi); clear HO_3; clear HK; clear HB; clear HI0; have HO_3 := n0_; have HK := n1_; have HB := n2_; have HI0 := n3_; clear n0_ n1_ n2_ n3_; (try clear hb); (try clear hb2); (try clear hk); (try clear hi)) | ((with_reducible refine gate_dst (N := 49) rfl ?_); refine Kd.R_lit (Kd.int .u8) _ 5 ?hg (N := 49) ?hd (xs := ([(wrap64 (97 + x6_2)) % 256] : List Int)) (inner := [.int .u8 ((wrap64 (97 + x6_2)) % 256)]) (ok := fun _ => True) (okp := fun _ => True) ?hr ?hp (fun _ hk => hk) trivial (Below.refl _ _) (Nat.le_refl _) (by simp) ?_; (case hd => rfl); (case hg => rfl); (case hr => first | (go_simp; done) | (go_simp; rfl)); (case hp => exact (Reps.one (show Kd.M (Kd.int .u8) _ _ _ ((wrap64 (97 + x6_2)) % 256) [.int .u8 ((wrap64 (97 + x6_2)) % 256)] from rfl) (Reps.none _ _))); intro v675 w35 ho36 hb hg_ hnew_; clear hg_ hnew_; (first | rw [← Ny674.out] at ho36 | (simp only [Int.reduceToNat] at ho36; rw [← Ny674.out] at ho36)); have n0_ := Aside0.mk (Kd.R_below (kr_ HO_3.out) hb); have n1_ := Aside0.mk (Kd.R_lower ho36 (keep_size (w := w) (g := g) (row := none) (by repeat (first | (with_reducible first | exact HK.out | apply KeepBut.set_ | apply keep_drewN | apply keep_drew | apply keep_alloc) | exact HK.out)))); have n2_ := Aside0.mk (IsS93.below (by repeat (first | (with_reducible first | exact HI0.out | apply IsS93.alloc | apply IsS93.drewN | apply IsS93.drew | apply IsS93.set_1 | apply IsS93.set_2) | exact HI0.out)) hb); have n3_ := Aside0.mk (KeepBut.trans (by repeat (first | (with_reducible first | exact HK.out | apply KeepBut.set_ | apply keep_drewN | apply keep_drew | apply keep_alloc) | exact HK.out)) (KeepBut.of_below hb g none) (.inl rfl)); have n4_ := Aside0.mk (below_step (by repeat (first | (with_reducible first | exact HB.out | apply below_alloc | apply pw_below_drewN | apply below_drew1 | refine below_set ?_ (IsS93.ge HI0.out)) | exact HB.out)) hb); clear HO_3; clear HI0; clear HK; clear HB; have HO_3 := n0_; have HO676 := n1_; have HI0 := n2_; have HK := n3_; have HB := n4_; clear n0_ n1_ n2_ n3_ n4_; clear hb ho36; have hcv37 := own_string (P := Tryd.prog) Tryd.underlying54 Tryd.underlying5 Tryd.underlying9 (Kd.own_of_R HO676.out)) | ((with_reducible refine gate_builtin (b := .append) (xs := #[.tmp 45, .tmp 52]) rfl ?_); at_builtin; refine Kd.R_append k26 w.heap.size rfl (.tmp 45) (.tmp 52) 32 26 (.agg #[(.string ⟨#[]⟩), (.int .i64 0), (.int .i64 0), (.int .i64 0)]) 40 rfl Tryd.underlying32 info26 rfl (by decide) (by omega) u3 x3_2 (⟨strOfNums y674, 0, 0, 0⟩ : S26) [.string (strOfNums y674), .int .i64 0, .int .i64 0, .int .i64 0] (fun _ => True) (fun _ => False) rfl rfl ?aP (fun _ hk => hk.elim) ?aF ?aO (Below.refl _ _) ?aS ?aL ?_; (case aP => exact k26_mkM _ _ _ (⟨strOfNums y674, 0, 0, 0⟩ : S26)); (case aF => exact (fun _ _ => trivial)); (case aO => exact (kr_ HO_3.out)); (case aS => exact (keep_size (w := w) (g := g) (row := none) (by repeat (first | (with_reducible first | exact HK.out | apply KeepBut.set_ | apply keep_drewN | apply keep_drew | apply keep_alloc) | exact HK.out)))); (case aL => have := LMc33.out; omega); intro v678 w38 ho hb hg hat; rw [← Ny677.out] at ho; have n0_ := Aside0.mk (IsS93.grown (by repeat (first | (with_reducible first | exact HI0.out | apply IsS93.alloc | apply IsS93.drewN | apply IsS93.drew | apply IsS93.set_1 | apply IsS93.set_2) | exact HI0.out)) hg (IsS93.own_ne HI0.out HO_3.out (by decide))); have n1_ := Aside0.mk (Kd.R_over' (kr_ HO676.out) (Kd.R_typed (kr_ HO_3.out)) (by decide) hg); have n2_ := Aside0.mk (below_weaken (by repeat (first | (with_reducible first | exact HB.out | apply below_alloc | apply pw_below_drewN | apply below_drew1 | refine below_set ?_ (IsS93.ge HI0.out)) | exact HB.out)) HL.out hb); have n3_ := Aside0.mk (KeepBut.trans (by repeat (first | (with_reducible first | exact HK.out | apply KeepBut.set_ | apply keep_drewN | apply keep_drew | apply keep_alloc) | exact HK.out)) (KeepBut.of_grown hg g) (Kd.R_base2 HO_3.out)); have n4_ := Aside0.mk (ho); clear HI0; clear HO676; clear HB; clear HK; clear HO_3; have HI0 := n0_; have HO676 := n1_; have HB := n2_; have HK := n3_; have HO679 := n4_; clear n0_ n1_ n2_ n3_ n4_; clear ho hb hg hat))
          go_roundg k2
          case measure => have := HK1.out; have := HK2.out; omega
          case rel => exact ⟨(y677), (wrap64 (x6_2 + 1)), (t672), (t673), (by first | rfl | (simp; done) | (simp [*]; done)), H', ⟨by have := HK1.out; have := HK2.out; omega⟩, ⟨kr_ HO679.out⟩, ⟨by repeat (first | (with_reducible first | exact HI0.out | apply IsS93.alloc | apply IsS93.drewN | apply IsS93.drew | apply IsS93.set_1 | apply IsS93.set_2) | exact HI0.out)⟩, ⟨by repeat (first | (with_reducible first | exact HK.out | apply KeepBut.set_ | apply keep_drewN | apply keep_drew | apply keep_alloc) | exact HK.out)⟩, ⟨by repeat (first | (with_reducible first | exact HB.out | apply below_alloc | apply pw_below_drewN | apply below_drew1 | refine below_set ?_ (IsS93.ge HI0.out)) | exact HB.out)⟩⟩
         ·
          rw [if_neg c33] at H
          exact absurd H (by simp)
        ·
         rw [if_neg c32] at H
         have c32b0 : decide (x6_2 < (wrap64 (10 + t671))) = false := decide_eq_false c32
         clear c32
         simp only [Option.some.injEq, Prod.mk.injEq] at H
         obtain ⟨rfl, rfl, rfl⟩ := H
         go_wp2_with (first | ((with_reducible refine gate_callee (f := 82) rfl ?_); refine ga_ (some 40) Tryd.func82 #[.pointer (some ⟨g, 0, none⟩), .int .i64 2] ?_; (with_reducible refine (spec_l1Cur_pick.calls g s0_0 x1001_2 x1002_2 2 t671 t672 t673 w0 _ ?side1 ?side2 A31.out).mono ?_); (case side1 => repeat (first | (with_reducible first | exact HI0.out | apply IsS93.alloc | apply IsS93.drewN | apply IsS93.drew | apply IsS93.set_1 | apply IsS93.set_2) | exact HI0.out)); (case side2 => repeat (first | (with_reducible first | exact HB.out | apply below_alloc | apply pw_below_drewN | apply below_drew1 | refine below_set ?_ (IsS93.ge HI0.out)) | exact HB.out)); rintro e w39 ⟨rfl, hi, hb, hk⟩; refine ⟨_, rfl, ?_⟩; have n0_ := Aside0.mk (Kd.R_mono (Kd.R_keep (IsS93.apart (show IsS93 w0 _ g s0_0 x1001_2 x1002_2 from by repeat (first | (with_reducible first | exact HI0.out | apply IsS93.alloc | apply IsS93.drewN | apply IsS93.drew | apply IsS93.set_1 | apply IsS93.set_2) | exact HI0.out)) (kr_ HO_3.out) (by decide)) hk (fun _ h => h.2)) (fun _ h => h.1)); have n1_ := Aside0.mk (KeepBut.trans (by repeat (first | (with_reducible first | exact HK.out | apply KeepBut.set_ | apply keep_drewN | apply keep_drew | apply keep_alloc) | exact HK.out)) hk (.inl rfl)); have n2_ := Aside0.mk (hb); have n3_ := Aside0.mk (hi); clear HO_3; clear HK; clear HB; clear HI0; have HO_3 := n0_; have HK := n1_; have HB := n2_; have HI0 := n3_; clear n0_ n1_ n2_ n3_; (try clear hb); (try clear hb2); (try clear hk); (try clear hi)))
         go_ret
         exact ⟨_, rr_, kr_ HO_3.out, by repeat (first | (with_reducible first | exact HI0.out | apply IsS93.alloc | apply IsS93.drewN | apply IsS93.drew | apply IsS93.set_1 | apply IsS93.set_2) | exact HI0.out), by repeat (first | (with_reducible first | exact HB.out | apply below_alloc | apply pw_below_drewN | apply below_drew1 | refine below_set ?_ (IsS93.ge HI0.out)) | exact HB.out), by repeat (first | (with_reducible first | exact HK.out | apply KeepBut.set_ | apply keep_drewN | apply keep_drew | apply keep_alloc) | exact HK.out)⟩
     ·
      rw [if_neg c26] at H
      have c26b0 : (t656 == 1) = false := beq_eq_false_iff_ne.mpr c26
      have c26b1 : (t656 != 1) = true := bne_iff_ne.mpr c26
      simp only [Option.some.injEq, Prod.mk.injEq] at H
      obtain ⟨rfl, rfl, rfl⟩ := H
      obtain ⟨Ao40, co40, eo40⟩ := Kd.R_slice HO_4.out
      subst eo40
      go_wp2_with (first | ((with_reducible refine gate_callee (f := 82) rfl ?_); refine ga_ (some 27) Tryd.func82 #[.pointer (some ⟨g, 0, none⟩), .int .i64 30] ?_; (with_reducible refine (spec_l1Cur_pick.calls g s0_0 x1001_1 x1002_1 30 t656 t657 t658 w0 _ ?side1 ?side2 A18.out).mono ?_); (case side1 => repeat (first | (with_reducible first | exact HI0.out | apply IsS93.alloc | apply IsS93.drewN | apply IsS93.drew | apply IsS93.set_1 | apply IsS93.set_2) | exact HI0.out)); (case side2 => repeat (first | (with_reducible first | exact HB.out | apply below_alloc | apply pw_below_drewN | apply below_drew1 | refine below_set ?_ (IsS93.ge HI0.out)) | exact HB.out)); rintro e w41 ⟨rfl, hi, hb, hk⟩; refine ⟨_, rfl, ?_⟩; have n0_ := Aside0.mk (Kd.R_mono (Kd.R_keep (IsS93.apart (show IsS93 w0 _ g s0_0 x1001_1 x1002_1 from by repeat (first | (with_reducible first | exact HI0.out | apply IsS93.alloc | apply IsS93.drewN | apply IsS93.drew | apply IsS93.set_1 | apply IsS93.set_2) | exact HI0.out)) (kr_ HO_3.out) (by decide)) hk (fun _ h => h.2)) (fun _ h => h.1)); have n1_ := Aside0.mk (Kd.R_mono (Kd.R_keep (IsS93.apart (show IsS93 w0 _ g s0_0 x1001_1 x1002_1 from by repeat (first | (with_reducible first | exact HI0.out | apply IsS93.alloc | apply IsS93.drewN | apply IsS93.drew | apply IsS93.set_1 | apply IsS93.set_2) | exact HI0.out)) (kr_ HO_4.out) (by decide)) hk (fun _ h => h.2)) (fun _ h => h.1)); have n2_ := Aside0.mk (KeepBut.trans (by repeat (first | (with_reducible first | exact HK.out | apply KeepBut.set_ | apply keep_drewN | apply keep_drew | apply keep_alloc) | exact HK.out)) hk (.inl rfl)); have n3_ := Aside0.mk (hb); have n4_ := Aside0.mk (hi); clear HO_3; clear HO_4; clear HK; clear HB; clear HI0; have HO_3 := n0_; have HO_4 := n1_; have HK := n2_; have HB := n3_; have HI0 := n4_; clear n0_ n1_ n2_ n3_ n4_; (try clear hb); (try clear hb2); (try clear hk); (try clear hi)))
      go_ret
      exact ⟨_, rr_, kr_ HO_3.out, by repeat (first | (with_reducible first | exact HI0.out | apply IsS93.alloc | apply IsS93.drewN | apply IsS93.drew | apply IsS93.set_1 | apply IsS93.set_2) | exact HI0.out), by repeat (first | (with_reducible first | exact HB.out | apply below_alloc | apply pw_below_drewN | apply below_drew1 | refine below_set ?_ (IsS93.ge HI0.out)) | exact HB.out), by repeat (first | (with_reducible first | exact HK.out | apply KeepBut.set_ | apply keep_drewN | apply keep_drew | apply keep_alloc) | exact HK.out)⟩
def spec_DrawAreCaves.f (k : Nat) (l0 : List Int) : Option ((List (S26))) := (spec_newCur.f l0).bind fun bt726 => ((spec_l1Cur_caves26.f k bt726.1 bt726.2.1 bt726.2.2).bind fun bt730 => (some bt730.1))
set_option maxHeartbeats 8000000 in
set_option maxRecDepth 100000 in
theorem spec_DrawAreCaves.calls (k : Nat) (A0 : Option Addr) (c0 : Nat) (l0 : List Int) (r : List (S26)) (w : World) (hr0 : Kd.C (Kd.int .u8) w A0 l0.length l0) (hc0 : l0.length ≤ c0) (h : spec_DrawAreCaves.f k l0 = some r) :
  Calls Tryd.prog 85 #[.slice A0 l0.length c0] w fun e w' => ∃ v0_ : Value, e = .returned (v0_) ∧ Kd.R k26 26 w' w.heap.size (fun _ => True) v0_ r ∧ Below w.heap.size w w' := by
 have hu93 := Tryd.underlying93
 have HR0 := Aside0.mk hr0
 have HC0 := Aside0.mk hc0
 clear hr0 hc0
 have HB := Aside0.mk (Below.refl w.heap.size w)
 have H : ((spec_newCur.f l0).bind fun bt726 => ((spec_l1Cur_caves26.f k bt726.1 bt726.2.1 bt726.2.2).bind fun bt730 => (some bt730.1))) = some r := h
 clear h
 replace H := Option.bind_eq_some_iff.mp H
 obtain ⟨⟨t726, t727, t728⟩, A20, H⟩ := H
 replace H : ((spec_l1Cur_caves26.f k t726 t727 t728).bind fun bt730 => (some bt730.1)) = some r := H
 have A2 := Aside0.mk A20
 clear A20
 replace H := Option.bind_eq_some_iff.mp H
 obtain ⟨⟨t730, t733, t734⟩, A30, H⟩ := H
 replace H : (some t730) = some r := H
 have A3 := Aside0.mk A30
 clear A30
 obtain rfl := Option.some.inj H
 go_enter Tryd.func85, Tryd.ntmps85
 go_wp2_with (first | ((with_reducible refine gate_dst (N := 6) rfl ?_); refine box_event ?hg (N := 6) ?hd (cs := #[.slice A0 l0.length c0, .int .i64 0, .int .u64 0]) (t := 93) ?hr ?_; (case hd => rfl); (case hg => rfl); (case hr => first | (go_simp; done) | (go_simp; rfl)); intro g729 hg w4 hbx hb2; have hb := below_step (lb0_ HB.out) hb2; have hi : IsS93 w w4 g729 t726 t727 t728 := (by have hz_ := A2.out; simp only [spec_newCur.f, Option.some.injEq, Prod.mk.injEq] at hz_; rw [← hz_.1, ← hz_.2.1, ← hz_.2.2]; exact ⟨_, _, hbx, (by rw [hg]; exact (below_size (lb0_ HB.out)) : w.heap.size ≤ g729), HR0.out⟩); clear hg hbx; have n0_ := Aside0.mk (hb); have n1_ := Aside0.mk (hi); clear HB; have HB := n0_; have HI729 := n1_; clear n0_ n1_; (try clear hb); (try clear hb2); (try clear hk); (try clear hi)) | ((with_reducible refine gate_callee (f := 80) rfl ?_); refine ga_ (some 8) Tryd.func80 #[.pointer (some ⟨g729, 0, none⟩)] ?_; (with_reducible refine (spec_l1Cur_caves26.calls k g729 t726 t727 t728 t730 t733 t734 w _ ?side1 ?side2 A3.out).mono ?_); (case side1 => repeat (first | (with_reducible first | exact HI729.out | apply IsS93.alloc | apply IsS93.drewN | apply IsS93.drew | apply IsS93.set_1 | apply IsS93.set_2) | exact HI729.out)); (case side2 => repeat (first | (with_reducible first | exact HB.out | apply below_alloc | apply pw_below_drewN | apply below_drew1 | refine below_set ?_ (IsS93.ge HI729.out)) | exact HB.out)); rintro e w5 ⟨v731, rfl, ho0, hi, hb, hk⟩; refine ⟨_, rfl, ?_⟩; have n0_ := Aside0.mk (Kd.R_lower ho0 (below_size (by repeat (first | (with_reducible first | exact HB.out | apply below_alloc | apply pw_below_drewN | apply below_drew1 | refine below_set ?_ (IsS93.ge HI729.out)) | exact HB.out)))); have n1_ := Aside0.mk (hb); have n2_ := Aside0.mk (hi); clear HB; clear HI729; have HO732 := n0_; have HB := n1_; have HI729 := n2_; clear n0_ n1_ n2_; (try clear hb); (try clear hb2); (try clear hk); (try clear hi); (try clear ho0)))
 go_ret
 exact ⟨_, rr_, kr_ HO732.out, by repeat (first | (with_reducible first | exact HB.out | apply below_alloc | apply pw_below_drewN | apply below_drew1 | refine below_set ?_ (IsS93.ge HI729.out)) | exact HB.out)⟩
def spec_DrawCavesText.f (k : Nat) (l0 : List Int) : Option ((List (S26))) := (spec_DrawAreCaves.f k l0).bind fun t873 => (some t873)
set_option maxHeartbeats 8000000 in
set_option maxRecDepth 100000 in
theorem spec_DrawCavesText.calls (k : Nat) (A0 : Option Addr) (c0 : Nat) (l0 : List Int) (r : List (S26)) (w : World) (hr0 : Kd.C (Kd.int .u8) w A0 l0.length l0) (hc0 : l0.length ≤ c0) (h : spec_DrawCavesText.f k l0 = some r) :
  Calls Tryd.prog 53 #[.slice A0 l0.length c0] w fun e w' => ∃ v0_ : Value, e = .returned (v0_) ∧ Kd.R k26 26 w' w.heap.size (fun _ => True) v0_ r ∧ Below w.heap.size w w' := by
 have HR0 := Aside0.mk hr0
 have HC0 := Aside0.mk hc0
 clear hr0 hc0
 have HB := Aside0.mk (Below.refl w.heap.size w)
 have H : ((spec_DrawAreCaves.f k l0).bind fun t873 => (some t873)) = some r := h
 clear h
 replace H := Option.bind_eq_some_iff.mp H
 obtain ⟨t873, A20, H⟩ := H
 replace H : (some t873) = some r := H
 have A2 := Aside0.mk A20
 clear A20
 obtain rfl := Option.some.inj H
 go_enter Tryd.func53, Tryd.ntmps53
 go_wp2_with (first | ((with_reducible refine gate_callee (f := 85) rfl ?_); refine ga_ (some 4) Tryd.func85 #[.slice A0 l0.length c0] ?_; (with_reducible refine (spec_DrawAreCaves.calls k _ _ l0 t873 _ ?side1 ?side2 A2.out).mono ?_); (case side1 => exact kc_ HR0.out); (case side2 => exact HC0.out); rintro e w3 ⟨v874, rfl, ho0, hb⟩; refine ⟨_, rfl, ?_⟩; have n0_ := Aside0.mk (Kd.R_lower ho0 (below_size (lb0_ HB.out))); have n1_ := Aside0.mk (below_step (lb0_ HB.out) hb); clear HB; have HO875 := n0_; have HB := n1_; clear n0_ n1_; (try clear hb); (try clear hb2); (try clear hk); (try clear hi); (try clear ho0)))
 go_ret
 exact ⟨_, rr_, kr_ HO875.out, lb0_ HB.out⟩
def drawLong_ : List Int := [0, 104, 105, 12030, 1000000, (-1), 1000001]
def spec_DrawCavesLongerThan.f (k : Nat) (l0 : List Int) : Option (List S26 × Int) :=
 (spec_newCur.f l0).bind fun b0 => (spec_l1Cur_caves26.f k b0.1 b0.2.1 b0.2.2).bind fun b1 => (spec_l1Cur_pick.f b0.1 b1.2.1 b1.2.2 24).bind fun b2 =>
  if 0 ≤ b2.1 ∧ b2.1 < 24 then (spec_l1Cur_among.f b0.1 b2.2.1 b2.2.2 (drawLong_.take (5 + b2.1 / 11).toNat)).bind fun b3 => some (b1.1, b3.1) else none
set_option maxHeartbeats 8000000 in
set_option maxRecDepth 100000 in
theorem spec_DrawCavesLongerThan.calls (k : Nat) (A0 : Option Addr) (c0 : Nat) (l0 : List Int) (r1 : List S26) (r2 : Int) (w : World) (hr0 : Kd.C (Kd.int .u8) w A0 l0.length l0) (hc0 : l0.length ≤ c0) (h : spec_DrawCavesLongerThan.f k l0 = some (r1, r2)) :
  Calls Tryd.prog 54 #[.slice A0 l0.length c0] w fun e w' => ∃ v0_ : Value, e = .returned (.tuple #[v0_, .int .i64 r2]) ∧ Kd.R k26 26 w' w.heap.size (fun _ => True) v0_ r1 ∧ Below w.heap.size w w' := by
 have hu := Tryd.underlying93
 have HR0 := Aside0.mk hr0
 have HC0 := Aside0.mk hc0
 clear hr0 hc0
 have HB := Aside0.mk (Below.refl w.heap.size w)
 unfold spec_DrawCavesLongerThan.f at h
 obtain ⟨⟨x, p0, s0⟩, e0, h⟩ := Option.bind_eq_some_iff.mp h
 obtain ⟨⟨l, p1, s1⟩, e1, h⟩ := Option.bind_eq_some_iff.mp h
 obtain ⟨⟨t, p2, s2⟩, e2, h⟩ := Option.bind_eq_some_iff.mp h
 by_cases hb : 0 ≤ t ∧ t < 24
 ·
  rw [if_pos hb] at h
  obtain ⟨⟨y, p3, s3⟩, e3, h⟩ := Option.bind_eq_some_iff.mp h
  simp only [Option.some.injEq, Prod.mk.injEq] at h
  obtain ⟨rfl, rfl⟩ := h
  simp only at e1 e2 e3
  have A0_ := Aside0.mk e0
  have A1_ := Aside0.mk e1
  have A2_ := Aside0.mk e2
  obtain ⟨q, hq⟩ : ∃ q, q = drawLong_.take (5 + t / 11).toNat := ⟨_, rfl⟩
  have hql : (5 + t / 11).toNat = q.length := by rw [hq, List.length_take]; show _ = min _ 7; omega
  have hqt : (q.length : Int) = 5 + t / 11 := by omega
  have hq7 : q.length ≤ 7 := by omega
  rw [← hq] at e3
  have A3_ := Aside0.mk e3
  have HQ := Aside0.mk hq
  have HQL := Aside0.mk hql
  have d1 : wrap64 (Int.tdiv t 11) = t / 11 := by rw [Int.tdiv_eq_ediv_of_nonneg hb.1]; unfold wrap64; omega
  have d2 : wrap64 (5 + t / 11) = 5 + t / 11 := by unfold wrap64; omega
  have d3 : decide (0 ≤ 5 + t / 11) = true := decide_eq_true (by omega)
  clear h e0 e1 e2 e3 hq hql
  go_enter Tryd.func54, Tryd.ntmps54
  go_wp2_with (first
   | ((with_reducible refine gate_dst (N := 8) rfl ?_); refine box_event ?hg (N := 8) ?hd (cs := #[.slice A0 l0.length c0, .int .i64 0, .int .u64 0]) (t := 93) ?hr ?_; (case hd => rfl); (case hg => rfl); (case hr => first | (go_simp; done) | (go_simp; rfl)); intro g hg w5 hbx hb2; have hb3 := below_step HB.out hb2; have hi : IsS93 w w5 g x p0 s0 := (by have hz_ := A0_.out; simp only [spec_newCur.f, Option.some.injEq, Prod.mk.injEq] at hz_; rw [← hz_.1, ← hz_.2.1, ← hz_.2.2]; exact ⟨_, _, hbx, (by rw [hg]; exact HB.out.size : w.heap.size ≤ g), HR0.out⟩); clear hg hbx hb2 HB; have HB := Aside0.mk hb3; have HI := Aside0.mk hi; clear hb3 hi)
   | (go_at_call 80; (with_reducible refine (spec_l1Cur_caves26.calls k g x p0 s0 l p1 s1 w _ HI.out HB.out A1_.out).mono ?_); rintro e w6 ⟨v, rfl, hR, hi, hb3, hk⟩; have HO := Aside0.mk (Kd.R_lower hR HB.out.size); clear HI HB; have HB := Aside0.mk hb3; have HI := Aside0.mk hi; clear hb3 hi hk hR; obtain ⟨Ao, co, eo⟩ := Kd.R_slice HO.out; subst eo)
   | ((with_reducible refine gate_dst (N := 13) rfl ?_); refine Kd.R_lit (Kd.int .i64) _ 3 ?hg (N := 13) ?hd (xs := drawLong_) (inner := [.int .i64 0, .int .i64 104, .int .i64 105, .int .i64 12030, .int .i64 1000000, .int .i64 (-1), .int .i64 1000001]) (ok := fun _ => True) (okp := fun _ => True) ?hr ?hp (fun _ hk => hk) trivial (Below.refl _ _) (Nat.le_refl _) (by decide) ?_; (case hd => rfl); (case hg => rfl); (case hr => first | (go_simp; done) | (go_simp; rfl)); (case hp => exact (Reps.one (show Kd.M (Kd.int .i64) _ _ _ 0 [.int .i64 0] from rfl) (Reps.one (show Kd.M (Kd.int .i64) _ _ _ 104 [.int .i64 104] from rfl) (Reps.one (show Kd.M (Kd.int .i64) _ _ _ 105 [.int .i64 105] from rfl) (Reps.one (show Kd.M (Kd.int .i64) _ _ _ 12030 [.int .i64 12030] from rfl) (Reps.one (show Kd.M (Kd.int .i64) _ _ _ 1000000 [.int .i64 1000000] from rfl) (Reps.one (show Kd.M (Kd.int .i64) _ _ _ (-1) [.int .i64 (-1)] from rfl) (Reps.one (show Kd.M (Kd.int .i64) _ _ _ 1000001 [.int .i64 1000001] from rfl) (Reps.none _ _))))))))); intro v7 w7 ho hb3 hg_ hnew_; clear hg_ hnew_; have HO7 := Aside0.mk (Kd.R_lower ho HB.out.size); have n0 := Aside0.mk (Kd.R_below HO.out hb3); have n1 := Aside0.mk (IsS93.below HI.out hb3); have n2 := Aside0.mk (below_step HB.out hb3); clear HO HI HB hb3 ho; have HO := n0; have HI := n1; have HB := n2; clear n0 n1 n2; obtain ⟨A7, c7, e7⟩ := Kd.R_slice HO7.out; subst e7; have hc7 : drawLong_.length ≤ c7 := (Kd.R_reads' HO7.out).2.1; have hc7n : 0 ≤ 5 + t / 11 ∧ 5 + t / 11 ≤ (c7 : Int) := (by have : drawLong_.length = 7 := rfl; omega))
   | (go_at_call 82; (with_reducible refine (spec_l1Cur_pick.calls g x p1 s1 24 t p2 s2 w _ HI.out HB.out A2_.out).mono ?_); rintro e w8 ⟨rfl, hi, hb3, hk⟩; have n0 := Aside0.mk (Kd.R_mono (Kd.R_keep (IsS93.apart HI.out HO.out (by decide)) hk (fun _ h => h.2)) (fun _ h => h.1)); have n1 := Aside0.mk (Kd.R_mono (Kd.R_keep (IsS93.apart HI.out HO7.out (by decide)) hk (fun _ h => h.2)) (fun _ h => h.1)); clear HO HO7 HI HB; have HO := n0; have HO7 := n1; have HI := Aside0.mk hi; have HB := Aside0.mk hb3; clear n0 n1 hi hb3 hk)
   | (rw [HQL.out]; go_at_call 83; (with_reducible refine (spec_l1Cur_among.calls g x p2 s2 _ _ q y p3 s3 w _ HI.out HB.out ?q1 ?q2 ?q3 A3_.out).mono ?_); (case q1 => rw [HQ.out]; exact Kd.C_take (Kd.R_reads' HO7.out).2.2 (by show _ ≤ 7; omega)); (case q2 => have := (Kd.R_reads' HO7.out).2.1; have h7 : drawLong_.length = 7 := rfl; omega); (case q3 => exact fun ad e1 e2 => far_slice (IsS93.own_ne HI.out HO7.out (by decide)) ad e1 (by show 0 < 7; decide)); rintro e w9 ⟨rfl, hi, hb3, hk⟩; have n0 := Aside0.mk (Kd.R_mono (Kd.R_keep (IsS93.apart HI.out HO.out (by decide)) hk (fun _ h => h.2)) (fun _ h => h.1)); clear HO HO7 HI HB; have HO := n0; have HB := Aside0.mk hb3; clear n0 hi hb3 hk))
  go_ret2
  exact ⟨_, rfl, HO.out, HB.out⟩
 ·
  rw [if_neg hb] at h
  cases h
mutual
def laws_FnCaveLines.j0 : Nat → List Int → Bool → Option (Bool)
 | 0, _, _ => none
 | k + 1, x0, x56 => if x56 = true then (none) else ((spec_DrawCavesText.f k x0).bind fun t887 => ((impl_CavesText.f k t887).bind fun bt890 => ((spec_CavesText.f k t887).bind fun bt892 => (if bt890.1.toList = bt892.1.toList then (laws_FnCaveLines.j1 k x0 t887 bt890.1 bt890.2 (bt890.2 != bt892.2)) else (laws_FnCaveLines.j1 k x0 t887 bt890.1 bt890.2 true)))))
def laws_FnCaveLines.j1 : Nat → List Int → List (S26) → ByteArray → Bool → Bool → Option (Bool)
 | 0, _, _, _, _, _ => none
 | k + 1, x0, x8, x9, x10, x76 => if x76 = true then (none) else (laws_FnCaveLines.l0 k x0 x8 x9 x10 0 0)
def laws_FnCaveLines.l0 : Nat → List Int → List (S26) → ByteArray → Bool → Int → Int → Option (Bool)
 | 0, _, _, _, _, _, _ => none
 | k + 1, x0, x8, x9, x10, x13, x14 => if x14 < (x9.size : Int) then (if 0 ≤ x14 then (if (bt x9 x14) = 10 then (laws_FnCaveLines.l0 k x0 x8 x9 x10 (wrap64 (x13 + 1)) (wrap64 (x14 + 1))) else (laws_FnCaveLines.l0 k x0 x8 x9 x10 x13 (wrap64 (x14 + 1)))) else (none)) else (if x10 = true then (laws_FnCaveLines.j3 k x0 x8 (x13 != (x8.length : Int))) else (laws_FnCaveLines.j3 k x0 x8 false))
def laws_FnCaveLines.j3 : Nat → List Int → List (S26) → Bool → Option (Bool)
 | 0, _, _, _ => none
 | k + 1, x0, x8, x95 => if x95 = true then (none) else ((impl_MeanLeg.f k x8).bind fun bt894 => ((spec_MeanLeg.f k x8).bind fun bt897 => (if bt894.1 = bt897.1 then (if bt894.2.1 = bt897.2.1 then (if (bt894.2.2 != bt897.2.2) = true then (laws_FnCaveLines.j4 k x0 true) else (if bt894.2.2 = true then (laws_FnCaveLines.j4 k x0 (decide (bt894.1 ≤ 0))) else (laws_FnCaveLines.j4 k x0 false))) else (laws_FnCaveLines.j4 k x0 true)) else (laws_FnCaveLines.j4 k x0 true))))
def laws_FnCaveLines.j4 : Nat → List Int → Bool → Option (Bool)
 | 0, _, _ => none
 | k + 1, x0, x127 => if x127 = true then (none) else ((spec_DrawCavesLongerThan.f k x0).bind fun bt900 => ((impl_CavesLongerThan.f k bt900.1 bt900.2).bind fun bt904 => ((spec_CavesLongerThan.f k bt900.1 bt900.2).bind fun bt908 => (if (bt904.2 != bt908.2) = true then (laws_FnCaveLines.j5 k bt900.1 bt900.2 bt904.1 bt904.2 true) else ((laws_rTexts.f k bt904.1 bt908.1).bind fun t912 => (laws_FnCaveLines.j5 k bt900.1 bt900.2 bt904.1 bt904.2 (!t912)))))))
def laws_FnCaveLines.j5 : Nat → List (S26) → Int → List ByteArray → Bool → Bool → Option (Bool)
 | 0, _, _, _, _, _ => none
 | k + 1, x21, x22, x23, x24, x153 => if x153 = true then (none) else ((impl_CavesLongerThan.f k x21 (wrap64 (x22 + 1))).bind fun bt913 => (if x24 = true then (if bt913.2 = true then (if (bt913.1.length : Int) > (x23.length : Int) then (none) else (some true)) else (some true)) else (some true)))
end
def laws_FnCaveLines.f (k : Nat) (l0 : List Int) : Option (Bool) := (laws_rBig.f l0).bind fun t876 => (if t876 = true then (some true) else ((spec_DrawCaveLine.f k l0).bind fun bt877 => ((impl_CaveLine.f bt877.1 bt877.2.1 bt877.2.2.1 bt877.2.2.2).bind fun bt882 => ((spec_CaveLine.f k bt877.1 bt877.2.1 bt877.2.2.1 bt877.2.2.2).bind fun bt884 => (if bt882.1.toList = bt884.1.toList then (if (bt882.2 != bt884.2) = true then (laws_FnCaveLines.j0 k l0 true) else ((impl_IsCaveRow.f bt877.1 bt877.2.1 bt877.2.2.1 bt877.2.2.2).bind fun t886 => (laws_FnCaveLines.j0 k l0 (bt882.2 != t886)))) else (laws_FnCaveLines.j0 k l0 true))))))
set_option maxHeartbeats 8000000 in
set_option maxRecDepth 100000 in
theorem laws_FnCaveLines.calls (k : Nat) (A0 : Option Addr) (c0 : Nat) (l0 : List Int) (r : Bool) (w : World) (hr0 : Kd.C (Kd.int .u8) w A0 l0.length l0) (hc0 : l0.length ≤ c0) (h : laws_FnCaveLines.f k l0 = some r) (hT : Tb w) :
  Calls Tryd.prog 14 #[.slice A0 l0.length c0] w fun e w' => e = .returned (.bool r) ∧ Below w.heap.size w w' := by
 have HT := Aside0.mk hT
 clear hT
 have hu26 := Tryd.underlying26
 have HR0 := Aside0.mk hr0
 have HC0 := Aside0.mk hc0
 clear hr0 hc0
 have HB := Aside0.mk (Below.refl w.heap.size w)
 have H : ((laws_rBig.f l0).bind fun t876 => (if t876 = true then (some true) else ((spec_DrawCaveLine.f k l0).bind fun bt877 => ((impl_CaveLine.f bt877.1 bt877.2.1 bt877.2.2.1 bt877.2.2.2).bind fun bt882 => ((spec_CaveLine.f k bt877.1 bt877.2.1 bt877.2.2.1 bt877.2.2.2).bind fun bt884 => (if bt882.1.toList = bt884.1.toList then (if (bt882.2 != bt884.2) = true then (laws_FnCaveLines.j0 k l0 true) else ((impl_IsCaveRow.f bt877.1 bt877.2.1 bt877.2.2.1 bt877.2.2.2).bind fun t886 => (laws_FnCaveLines.j0 k l0 (bt882.2 != t886)))) else (laws_FnCaveLines.j0 k l0 true))))))) = some r := h
 clear h
 replace H := Option.bind_eq_some_iff.mp H
 obtain ⟨t876, A20, H⟩ := H
 replace H : (if t876 = true then (some true) else ((spec_DrawCaveLine.f k l0).bind fun bt877 => ((impl_CaveLine.f bt877.1 bt877.2.1 bt877.2.2.1 bt877.2.2.2).bind fun bt882 => ((spec_CaveLine.f k bt877.1 bt877.2.1 bt877.2.2.1 bt877.2.2.2).bind fun bt884 => (if bt882.1.toList = bt884.1.toList then (if (bt882.2 != bt884.2) = true then (laws_FnCaveLines.j0 k l0 true) else ((impl_IsCaveRow.f bt877.1 bt877.2.1 bt877.2.2.1 bt877.2.2.2).bind fun t886 => (laws_FnCaveLines.j0 k l0 (bt882.2 != t886)))) else (laws_FnCaveLines.j0 k l0 true)))))) = some r := H
 have A2 := Aside0.mk A20
 clear A20
 by_cases c3 : t876 = true
 ·
  subst c3
  have H1 : (some true) = some r := by rw [if_pos rfl] at H; exact H
  clear H
  have H := H1
  clear H1
  obtain rfl := Option.some.inj H
  go_enter Tryd.func14, Tryd.ntmps14
  go_wp2_with (first | ((with_reducible refine gate_callee (f := 45) rfl ?_); refine ga_ (some 30) Tryd.func45 #[.slice A0 l0.length c0] ?_; (with_reducible refine (laws_rBig.calls _ _ l0 true _ ?side1 ?side2 A2.out).mono ?_); (case side1 => exact kc_ HR0.out); (case side2 => exact HC0.out); rintro e w' ⟨rfl, ⟨nd, rfl⟩⟩; refine ⟨_, rfl, ?_⟩))
  go_ret
  exact ⟨rr_, lb0_ HB.out⟩
 ·
  replace c3 := Bool.eq_false_iff.mpr c3
  subst c3
  have H1 : ((spec_DrawCaveLine.f k l0).bind fun bt877 => ((impl_CaveLine.f bt877.1 bt877.2.1 bt877.2.2.1 bt877.2.2.2).bind fun bt882 => ((spec_CaveLine.f k bt877.1 bt877.2.1 bt877.2.2.1 bt877.2.2.2).bind fun bt884 => (if bt882.1.toList = bt884.1.toList then (if (bt882.2 != bt884.2) = true then (laws_FnCaveLines.j0 k l0 true) else ((impl_IsCaveRow.f bt877.1 bt877.2.1 bt877.2.2.1 bt877.2.2.2).bind fun t886 => (laws_FnCaveLines.j0 k l0 (bt882.2 != t886)))) else (laws_FnCaveLines.j0 k l0 true))))) = some r := by rw [if_neg (show ¬ (false = true) by decide)] at H; exact H
  clear H
  have H := H1
  clear H1
  replace H := Option.bind_eq_some_iff.mp H
  obtain ⟨⟨t877, t878, t879, t880⟩, A40, H⟩ := H
  replace H : ((impl_CaveLine.f t877 t878 t879 t880).bind fun bt882 => ((spec_CaveLine.f k t877 t878 t879 t880).bind fun bt884 => (if bt882.1.toList = bt884.1.toList then (if (bt882.2 != bt884.2) = true then (laws_FnCaveLines.j0 k l0 true) else ((impl_IsCaveRow.f t877 t878 t879 t880).bind fun t886 => (laws_FnCaveLines.j0 k l0 (bt882.2 != t886)))) else (laws_FnCaveLines.j0 k l0 true)))) = some r := H
  have A4 := Aside0.mk A40
  clear A40
  replace H := Option.bind_eq_some_iff.mp H
  obtain ⟨⟨t882, t883⟩, A50, H⟩ := H
  replace H : ((spec_CaveLine.f k t877 t878 t879 t880).bind fun bt884 => (if t882.toList = bt884.1.toList then (if (t883 != bt884.2) = true then (laws_FnCaveLines.j0 k l0 true) else ((impl_IsCaveRow.f t877 t878 t879 t880).bind fun t886 => (laws_FnCaveLines.j0 k l0 (t883 != t886)))) else (laws_FnCaveLines.j0 k l0 true))) = some r := H
  have A5 := Aside0.mk A50
  clear A50
  replace H := Option.bind_eq_some_iff.mp H
  obtain ⟨⟨t884, t885⟩, A60, H⟩ := H
  replace H : (if t882.toList = t884.toList then (if (t883 != t885) = true then (laws_FnCaveLines.j0 k l0 true) else ((impl_IsCaveRow.f t877 t878 t879 t880).bind fun t886 => (laws_FnCaveLines.j0 k l0 (t883 != t886)))) else (laws_FnCaveLines.j0 k l0 true)) = some r := H
  have A6 := Aside0.mk A60
  clear A60
  have HC7 := Aside0.mk H
  clear H
  go_enter Tryd.func14, Tryd.ntmps14
  go_upto_region 6 with (first | ((with_reducible refine gate_callee (f := 45) rfl ?_); refine ga_ (some 30) Tryd.func45 #[.slice A0 l0.length c0] ?_; (with_reducible refine (laws_rBig.calls _ _ l0 false _ ?side1 ?side2 A2.out).mono ?_); (case side1 => exact kc_ HR0.out); (case side2 => exact HC0.out); rintro e w' ⟨rfl, ⟨nd, rfl⟩⟩; refine ⟨_, rfl, ?_⟩) | ((with_reducible refine gate_callee (f := 52) rfl ?_); refine ga_ (some 32) Tryd.func52 #[.slice A0 l0.length c0] ?_; (with_reducible refine (spec_DrawCaveLine.calls k _ _ l0 t877 t878 t879 t880 _ ?side1 ?side2 A4.out).mono ?_); (case side1 => exact kc_ HR0.out); (case side2 => exact HC0.out); rintro e w8 ⟨rfl, hb⟩; refine ⟨_, rfl, ?_⟩; have n0_ := Aside0.mk (below_step (lb0_ HB.out) hb); clear HB; have HB := n0_; clear n0_; (try clear hb); (try clear hb2); (try clear hk); (try clear hi)) | ((with_reducible refine gate_dst (N := 3) rfl ?_); (try (refine gate_guard (by rfl) ?_; dsimp only)); refine box_event ?hg (N := 3) ?hd (cs := #[.string (⟨#[]⟩ : ByteArray), .int .i64 0, .int .i64 0, .int .i64 0]) (t := 26) ?hr ?_; (case hd => rfl); (case hg => rfl); (case hr => first | (go_simp; done) | (go_simp; rfl)); intro gb881 hg w9 hbox hb; have n0_ := Aside0.mk (below_step (lb0_ HB.out) hb); have n1_ := Aside0.mk (hbox); have n2_ := Aside0.mk ((by rw [hg]; exact (below_size (lb0_ HB.out)) : w.heap.size ≤ gb881)); have n3_ := Aside0.mk ((by rw [hg]; exact (below_size (lb0_ HB.out)) : w.heap.size ≤ gb881)); clear HB; have HB := n0_; have BK881 := n1_; have GW881 := n2_; have GE881 := n3_; clear n0_ n1_ n2_ n3_; clear hb hbox hg; have hcz10_0 : w9.cell? ⟨gb881, 0, none⟩ = some (.string (⟨#[]⟩ : ByteArray)) := (blk_cell BK881.out 0).trans rfl; have hcz10_1 : w9.cell? ⟨gb881, 1, none⟩ = some (.int .i64 0) := (blk_cell BK881.out 1).trans rfl; have hcz10_2 : w9.cell? ⟨gb881, 2, none⟩ = some (.int .i64 0) := (blk_cell BK881.out 2).trans rfl; have hcz10_3 : w9.cell? ⟨gb881, 3, none⟩ = some (.int .i64 0) := (blk_cell BK881.out 3).trans rfl; have hfz10_0 := blk_frozen BK881.out 0; have hfz10_1 := blk_frozen BK881.out 1; have hfz10_2 := blk_frozen BK881.out 2; have hfz10_3 := blk_frozen BK881.out 3) | ((with_reducible refine gate_callee (f := 38) rfl ?_); refine ga_ (some 35) Tryd.func38 #[.agg #[.string t877, .int .i64 t878, .int .i64 t879, .int .i64 t880]] ?_; (with_reducible refine (impl_CaveLine.calls t877 t878 t879 t880 t882 t883 _ A5.out ?sideT).mono ?_); (case sideT => first | exact HT.out | exact Tb.step HT.out HB.out | exact Tb.step HT.out (by repeat (first | (with_reducible first | exact HB.out | apply below_alloc | apply pw_below_drewN | apply below_drew1 | refine below_set ?_ GE881.out) | exact HB.out | exact Below.refl _ _))); rintro e w11 ⟨rfl, hb⟩; refine ⟨_, rfl, ?_⟩; have n0_ := Aside0.mk (blk_below (g := gb881) (o := .cells #[.string t877, .int .i64 t878, .int .i64 t879, .int .i64 t880] 26 (0, 0)) (by (with_reducible repeat (first | refine blk_drewN ?_ _ | refine blk_drew ?_ | refine blk_alloc ?_ _)); refine blk_put (cs := #[.string t877, .int .i64 t878, .int .i64 t879, .int .i64 0]) ?_ 3 _ rfl; (with_reducible repeat (first | refine blk_drewN ?_ _ | refine blk_drew ?_ | refine blk_alloc ?_ _)); refine blk_put (cs := #[.string t877, .int .i64 t878, .int .i64 0, .int .i64 0]) ?_ 2 _ rfl; (with_reducible repeat (first | refine blk_drewN ?_ _ | refine blk_drew ?_ | refine blk_alloc ?_ _)); refine blk_put (cs := #[.string t877, .int .i64 0, .int .i64 0, .int .i64 0]) ?_ 1 _ rfl; (with_reducible repeat (first | refine blk_drewN ?_ _ | refine blk_drew ?_ | refine blk_alloc ?_ _)); refine blk_put (cs := #[.string (⟨#[]⟩ : ByteArray), .int .i64 0, .int .i64 0, .int .i64 0]) ?_ 0 _ rfl; (with_reducible repeat (first | refine blk_drewN ?_ _ | refine blk_drew ?_ | refine blk_alloc ?_ _)); exact BK881.out) hb); have n1_ := Aside0.mk (below_step (lb1_ HB.out GE881.out) hb); clear BK881; clear HB; have BK881 := n0_; have HB := n1_; clear n0_ n1_; (try clear hb); (try clear hb2); (try clear hk); (try clear hi); have hcz12_0 : w11.cell? ⟨gb881, 0, none⟩ = some (.string t877) := (blk_cell BK881.out 0).trans rfl; have hcz12_1 : w11.cell? ⟨gb881, 1, none⟩ = some (.int .i64 t878) := (blk_cell BK881.out 1).trans rfl; have hcz12_2 : w11.cell? ⟨gb881, 2, none⟩ = some (.int .i64 t879) := (blk_cell BK881.out 2).trans rfl; have hcz12_3 : w11.cell? ⟨gb881, 3, none⟩ = some (.int .i64 t880) := (blk_cell BK881.out 3).trans rfl; have hfz12_0 := blk_frozen BK881.out 0; have hfz12_1 := blk_frozen BK881.out 1; have hfz12_2 := blk_frozen BK881.out 2; have hfz12_3 := blk_frozen BK881.out 3) | ((with_reducible refine gate_callee (f := 37) rfl ?_); refine ga_ (some 40) Tryd.func37 #[.agg #[.string t877, .int .i64 t878, .int .i64 t879, .int .i64 t880]] ?_; (with_reducible refine (spec_CaveLine.calls k t877 t878 t879 t880 t884 t885 _ A6.out).mono ?_); rintro e w13 ⟨rfl, hb⟩; refine ⟨_, rfl, ?_⟩; have n0_ := Aside0.mk (blk_below (g := gb881) (o := .cells #[.string t877, .int .i64 t878, .int .i64 t879, .int .i64 t880] 26 (0, 0)) (bk_ BK881.out) hb); have n1_ := Aside0.mk (below_step (lb1_ HB.out GE881.out) hb); clear BK881; clear HB; have BK881 := n0_; have HB := n1_; clear n0_ n1_; (try clear hb); (try clear hb2); (try clear hk); (try clear hi)))
  (try simp only [Act.put, List.setIfInBounds_toArray, List.set_cons_zero, List.set_cons_succ])
  go_cut [56] (fun v56 wc => ∃ (kq : Nat) (x56_6 : Bool), v56 = .bool x56_6 ∧ Aside0 (laws_FnCaveLines.j0 kq l0 x56_6 = some r) ∧ Aside0 (kq ≤ k) ∧ Aside0 (wc.heap[gb881]? = some (.cells #[.string t877, .int .i64 t878, .int .i64 t879, .int .i64 t880] 26 (0, 0))) ∧ Aside0 (Below w.heap.size w wc))
  case first =>
   have H := HC7.out
   clear HC7
   by_cases c14 : t882.toList = t884.toList
   ·
    rw [if_pos c14] at H
    have c14b0 : (t882.toList == t884.toList) = true := beq_iff_eq.mpr c14
    have c14b1 : (t882.toList != t884.toList) = false := bne_eq_false_iff_eq.mpr c14
    clear c14
    (first | rw [c14b0] | (simp only [i64_w, i32_w]; rw [c14b0]) | skip)
    by_cases c15 : (t883 != t885) = true
    ·
     rw [if_pos c15] at H
     have c15b0 : (t883 != t885) = true := c15
     (try (have c15b1 : decide (t883 = t885) = false := by simpa using c15))
     (try (have c15b2 : (t883 == t885) = false := by simpa using c15))
     (try (have c15b3 : ¬ (t883 = t885) := by simpa using c15))
     clear c15
     have H' := Aside0.mk H
     clear H
     go_wp2
     go_meet
     case rel => exact ⟨_, (true), (by first | rfl | (simp; done) | (simp [*]; done)), H', ⟨by first | omega | exact Nat.le_refl _⟩, ⟨bk_ BK881.out⟩, ⟨lb1_ HB.out GE881.out⟩⟩
    ·
     rw [if_neg c15] at H
     have c15b0 : (t883 != t885) = false := by simpa using c15
     (try (have c15b1 : decide (t883 = t885) = true := by simpa using c15))
     (try (have c15b2 : (t883 == t885) = true := by simpa using c15))
     clear c15
     replace H := Option.bind_eq_some_iff.mp H
     obtain ⟨t886, A160, H⟩ := H
     replace H : (laws_FnCaveLines.j0 k l0 (t883 != t886)) = some r := H
     have A16 := Aside0.mk A160
     clear A160
     have H' := Aside0.mk H
     clear H
     have hcz17_0 : w13.cell? ⟨gb881, 0, none⟩ = some (.string t877) := (blk_cell BK881.out 0).trans rfl
     have hcz17_1 : w13.cell? ⟨gb881, 1, none⟩ = some (.int .i64 t878) := (blk_cell BK881.out 1).trans rfl
     have hcz17_2 : w13.cell? ⟨gb881, 2, none⟩ = some (.int .i64 t879) := (blk_cell BK881.out 2).trans rfl
     have hcz17_3 : w13.cell? ⟨gb881, 3, none⟩ = some (.int .i64 t880) := (blk_cell BK881.out 3).trans rfl
     have hfz17_0 := blk_frozen BK881.out 0
     have hfz17_1 := blk_frozen BK881.out 1
     have hfz17_2 := blk_frozen BK881.out 2
     have hfz17_3 := blk_frozen BK881.out 3
     go_wp2_with (first | (go_at_call 18; (with_reducible refine (impl_IsCaveRow.calls t877 t878 t879 t880 t886 _ A16.out).mono ?_); rintro e w18 ⟨rfl, hb⟩; have n0_ := Aside0.mk (blk_below (g := gb881) (o := .cells #[.string t877, .int .i64 t878, .int .i64 t879, .int .i64 t880] 26 (0, 0)) (bk_ BK881.out) hb); have n1_ := Aside0.mk (below_step (lb1_ HB.out GE881.out) hb); clear BK881; clear HB; have BK881 := n0_; have HB := n1_; clear n0_ n1_; (try clear hb); (try clear hb2); (try clear hk); (try clear hi)))
     go_meet
     case rel => exact ⟨_, ((t883 != t886)), (by first | rfl | (simp; done) | (simp [*]; done)), H', ⟨by first | omega | exact Nat.le_refl _⟩, ⟨bk_ BK881.out⟩, ⟨lb1_ HB.out GE881.out⟩⟩
   ·
    rw [if_neg c14] at H
    have c14b0 : (t882.toList == t884.toList) = false := beq_eq_false_iff_ne.mpr c14
    have c14b1 : (t882.toList != t884.toList) = true := bne_iff_ne.mpr c14
    (first | rw [c14b0] | (simp only [i64_w, i32_w]; rw [c14b0]) | skip)
    have H' := Aside0.mk H
    clear H
    go_wp2
    go_meet
    case rel => exact ⟨_, (true), (by first | rfl | (simp; done) | (simp [*]; done)), H', ⟨by first | omega | exact Nat.le_refl _⟩, ⟨bk_ BK881.out⟩, ⟨lb1_ HB.out GE881.out⟩⟩
  case rest =>
   clear HC7
   try clear c1
   try clear p2
   try clear c3
   try clear c4
   try clear c5
   try clear c14
   try clear c14b0
   try clear c14b1
   try clear c15
   try clear c15b0
   try clear c15b1
   try clear c15b2
   try clear hcz10_0
   try clear hcz10_1
   try clear hcz10_2
   try clear hcz10_3
   try clear hcz12_0
   try clear hcz12_1
   try clear hcz12_2
   try clear hcz12_3
   try clear hcz17_0
   try clear hcz17_1
   try clear hcz17_2
   try clear hcz17_3
   try clear hfz10_0
   try clear hfz10_1
   try clear hfz10_2
   try clear hfz10_3
   try clear hfz12_0
   try clear hfz12_1
   try clear hfz12_2
   try clear hfz12_3
   try clear hfz17_0
   try clear hfz17_1
   try clear hfz17_2
   try clear hfz17_3
   obtain ⟨kq, x56_6, rfl, HA, HJ6, BK881, HB⟩ := hcut
   cases kq with
   | zero => exact absurd HA.out (by simp [laws_FnCaveLines.j0])
   | succ kj6 =>
    have H := HA.out
    clear HA
    simp only [laws_FnCaveLines.j0] at H
    by_cases c19 : x56_6 = true
    ·
     subst c19
     have H1 : (none) = some r := by rw [if_pos rfl] at H; exact H
     clear H
     have H := H1
     clear H1
     exact absurd H (by simp)
    ·
     replace c19 := Bool.eq_false_iff.mpr c19
     subst c19
     have H1 : ((spec_DrawCavesText.f kj6 l0).bind fun t887 => ((impl_CavesText.f kj6 t887).bind fun bt890 => ((spec_CavesText.f kj6 t887).bind fun bt892 => (if bt890.1.toList = bt892.1.toList then (laws_FnCaveLines.j1 kj6 l0 t887 bt890.1 bt890.2 (bt890.2 != bt892.2)) else (laws_FnCaveLines.j1 kj6 l0 t887 bt890.1 bt890.2 true))))) = some r := by rw [if_neg (show ¬ (false = true) by decide)] at H; exact H
     clear H
     have H := H1
     clear H1
     replace H := Option.bind_eq_some_iff.mp H
     obtain ⟨t887, A200, H⟩ := H
     replace H : ((impl_CavesText.f kj6 t887).bind fun bt890 => ((spec_CavesText.f kj6 t887).bind fun bt892 => (if bt890.1.toList = bt892.1.toList then (laws_FnCaveLines.j1 kj6 l0 t887 bt890.1 bt890.2 (bt890.2 != bt892.2)) else (laws_FnCaveLines.j1 kj6 l0 t887 bt890.1 bt890.2 true)))) = some r := H
     have A20 := Aside0.mk A200
     clear A200
     replace H := Option.bind_eq_some_iff.mp H
     obtain ⟨⟨t890, t891⟩, A210, H⟩ := H
     replace H : ((spec_CavesText.f kj6 t887).bind fun bt892 => (if t890.toList = bt892.1.toList then (laws_FnCaveLines.j1 kj6 l0 t887 t890 t891 (t891 != bt892.2)) else (laws_FnCaveLines.j1 kj6 l0 t887 t890 t891 true))) = some r := H
     have A21 := Aside0.mk A210
     clear A210
     replace H := Option.bind_eq_some_iff.mp H
     obtain ⟨⟨t892, t893⟩, A220, H⟩ := H
     replace H : (if t890.toList = t892.toList then (laws_FnCaveLines.j1 kj6 l0 t887 t890 t891 (t891 != t893)) else (laws_FnCaveLines.j1 kj6 l0 t887 t890 t891 true)) = some r := H
     have A22 := Aside0.mk A220
     clear A220
     have HC23 := Aside0.mk H
     clear H
     go_upto_region 11 with (first | ((with_reducible refine gate_callee (f := 53) rfl ?_); refine ga_ (some 58) Tryd.func53 #[.slice A0 l0.length c0] ?_; (with_reducible refine (spec_DrawCavesText.calls kj6 _ _ l0 t887 _ ?side1 ?side2 A20.out).mono ?_); (case side1 => exact kc_ (Kd.C_below HR0.out HB.out)); (case side2 => exact HC0.out); rintro e w24 ⟨v888, rfl, ho0, hb⟩; refine ⟨_, rfl, ?_⟩; have n0_ := Aside0.mk (Kd.R_lower (Kd.R_newB ho0 (g := gb881) (o := .cells #[.string t877, .int .i64 t878, .int .i64 t879, .int .i64 t880] 26 (0, 0)) (bk_ BK881.out)) (below_size (lb1_ HB.out GE881.out))); have n1_ := Aside0.mk (blk_below (g := gb881) (o := .cells #[.string t877, .int .i64 t878, .int .i64 t879, .int .i64 t880] 26 (0, 0)) (bk_ BK881.out) hb); have n2_ := Aside0.mk (below_step (lb1_ HB.out GE881.out) hb); clear BK881; clear HB; have HO889 := n0_; have BK881 := n1_; have HB := n2_; clear n0_ n1_ n2_; (try clear hb); (try clear hb2); (try clear hk); (try clear hi); (try clear ho0); obtain ⟨Ao25, co25, eo25⟩ := Kd.R_slice HO889.out; subst eo25) | ((with_reducible refine gate_callee (f := 42) rfl ?_); refine ga_ (some 61) Tryd.func42 #[.slice Ao25 t887.length co25] ?_; (with_reducible refine (impl_CavesText.calls kj6 _ _ t887 t890 t891 _ ?side1 ?side2 A21.out ?sideT).mono ?_); (case sideT => first | exact HT.out | exact Tb.step HT.out HB.out | exact Tb.step HT.out (by repeat (first | (with_reducible first | exact HB.out | apply below_alloc | apply pw_below_drewN | apply below_drew1 | refine below_set ?_ GE881.out) | exact HB.out | exact Below.refl _ _))); (case side1 => exact kc_ (Kd.R_reads' HO889.out).2.2); (case side2 => exact (Kd.R_reads' HO889.out).2.1); rintro e w26 ⟨rfl, hb⟩; refine ⟨_, rfl, ?_⟩; have n0_ := Aside0.mk (Kd.R_below (kr_ HO889.out) hb); have n1_ := Aside0.mk (blk_below (g := gb881) (o := .cells #[.string t877, .int .i64 t878, .int .i64 t879, .int .i64 t880] 26 (0, 0)) (bk_ BK881.out) hb); have n2_ := Aside0.mk (below_step (lb1_ HB.out GE881.out) hb); clear HO889; clear BK881; clear HB; have HO889 := n0_; have BK881 := n1_; have HB := n2_; clear n0_ n1_ n2_; (try clear hb); (try clear hb2); (try clear hk); (try clear hi)) | ((with_reducible refine gate_callee (f := 41) rfl ?_); refine ga_ (some 66) Tryd.func41 #[.slice Ao25 t887.length co25] ?_; (with_reducible refine (spec_CavesText.calls kj6 _ _ t887 t892 t893 _ ?side1 ?side2 A22.out).mono ?_); (case side1 => exact kc_ (Kd.R_reads' HO889.out).2.2); (case side2 => exact (Kd.R_reads' HO889.out).2.1); rintro e w27 ⟨rfl, hb⟩; refine ⟨_, rfl, ?_⟩; have n0_ := Aside0.mk (Kd.R_below (kr_ HO889.out) hb); have n1_ := Aside0.mk (blk_below (g := gb881) (o := .cells #[.string t877, .int .i64 t878, .int .i64 t879, .int .i64 t880] 26 (0, 0)) (bk_ BK881.out) hb); have n2_ := Aside0.mk (below_step (lb1_ HB.out GE881.out) hb); clear HO889; clear BK881; clear HB; have HO889 := n0_; have BK881 := n1_; have HB := n2_; clear n0_ n1_ n2_; (try clear hb); (try clear hb2); (try clear hk); (try clear hi)))
     (try simp only [Act.put, List.setIfInBounds_toArray, List.set_cons_zero, List.set_cons_succ])
     go_cut [76] (fun v76 wc => ∃ (kq : Nat) (x76_22 : Bool), v76 = .bool x76_22 ∧ Aside0 (laws_FnCaveLines.j1 kq l0 t887 t890 t891 x76_22 = some r) ∧ Aside0 (kq ≤ kj6) ∧ Aside0 (Kd.R k26 26 wc w.heap.size (fun k_ => k_ ≠ gb881) (.slice Ao25 t887.length co25) t887) ∧ Aside0 (wc.heap[gb881]? = some (.cells #[.string t877, .int .i64 t878, .int .i64 t879, .int .i64 t880] 26 (0, 0))) ∧ Aside0 (Below w.heap.size w wc))
     case first =>
      have H := HC23.out
      clear HC23
      by_cases c28 : t890.toList = t892.toList
      ·
       rw [if_pos c28] at H
       have c28b0 : (t890.toList == t892.toList) = true := beq_iff_eq.mpr c28
       have c28b1 : (t890.toList != t892.toList) = false := bne_eq_false_iff_eq.mpr c28
       clear c28
       (first | rw [c28b0] | (simp only [i64_w, i32_w]; rw [c28b0]) | skip)
       have H' := Aside0.mk H
       clear H
       go_wp2
       go_meet
       case rel => exact ⟨_, ((t891 != t893)), (by first | rfl | (simp; done) | (simp [*]; done)), H', ⟨by have := HJ6.out; first | omega | exact Nat.le_refl _⟩, ⟨by (with_reducible repeat (first | apply Kd.R_alloc | apply Kd.R_drewN | apply Kd.R_drew)); exact Kd.R_mono HO889.out (fun _ hk => hk.2)⟩, ⟨bk_ BK881.out⟩, ⟨lb1_ HB.out GE881.out⟩⟩
      ·
       rw [if_neg c28] at H
       have c28b0 : (t890.toList == t892.toList) = false := beq_eq_false_iff_ne.mpr c28
       have c28b1 : (t890.toList != t892.toList) = true := bne_iff_ne.mpr c28
       (first | rw [c28b0] | (simp only [i64_w, i32_w]; rw [c28b0]) | skip)
       have H' := Aside0.mk H
       clear H
       go_wp2
       go_meet
       case rel => exact ⟨_, (true), (by first | rfl | (simp; done) | (simp [*]; done)), H', ⟨by have := HJ6.out; first | omega | exact Nat.le_refl _⟩, ⟨by (with_reducible repeat (first | apply Kd.R_alloc | apply Kd.R_drewN | apply Kd.R_drew)); exact Kd.R_mono HO889.out (fun _ hk => hk.2)⟩, ⟨bk_ BK881.out⟩, ⟨lb1_ HB.out GE881.out⟩⟩
     case rest =>
      clear HC23
      try clear c1
      try clear c2
      try clear p2
      try clear c3
      try clear c4
      try clear c5
      try clear c14
      try clear c14b0
      try clear c14b1
      try clear c15
      try clear c15b0
      try clear c15b1
      try clear c15b2
      try clear c19
      try clear c28
      try clear c28b0
      try clear c28b1
      try clear hcz10_0
      try clear hcz10_1
      try clear hcz10_2
      try clear hcz10_3
      try clear hcz12_0
      try clear hcz12_1
      try clear hcz12_2
      try clear hcz12_3
      try clear hcz17_0
      try clear hcz17_1
      try clear hcz17_2
      try clear hcz17_3
      try clear hfz10_0
      try clear hfz10_1
      try clear hfz10_2
      try clear hfz10_3
      try clear hfz12_0
      try clear hfz12_1
      try clear hfz12_2
      try clear hfz12_3
      try clear hfz17_0
      try clear hfz17_1
      try clear hfz17_2
      try clear hfz17_3
      try clear p2
      obtain ⟨kq, x76_22, rfl, HA, HJ22, HO_8, BK881, HB⟩ := hcut
      cases kq with
      | zero => exact absurd HA.out (by simp [laws_FnCaveLines.j1])
      | succ kj22 =>
       have H := HA.out
       clear HA
       simp only [laws_FnCaveLines.j1] at H
       by_cases c29 : x76_22 = true
       ·
        subst c29
        have H1 : (none) = some r := by rw [if_pos rfl] at H; exact H
        clear H
        have H := H1
        clear H1
        exact absurd H (by simp)
       ·
        replace c29 := Bool.eq_false_iff.mpr c29
        subst c29
        have H1 : (laws_FnCaveLines.l0 kj22 l0 t887 t890 t891 0 0) = some r := by rw [if_neg (show ¬ (false = true) by decide)] at H; exact H
        clear H
        have H := H1
        clear H1
        have H' := Aside0.mk H
        clear H
        go_wp2
        go_loopg [13, 14] kj22 (fun kq v13 v14 w' => ∃ (x13_3 : Int) (x14_3 : Int), v13 = .int .i64 x13_3 ∧ v14 = .int .i64 x14_3 ∧ Aside0 (laws_FnCaveLines.l0 kq l0 t887 t890 t891 x13_3 x14_3 = some r) ∧ Aside0 (kq ≤ kj22) ∧ Aside0 (Kd.R k26 26 w' w.heap.size (fun k_ => k_ ≠ gb881) (.slice Ao25 t887.length co25) t887) ∧ Aside0 (w'.heap[gb881]? = some (.cells #[.string t877, .int .i64 t878, .int .i64 t879, .int .i64 t880] 26 (0, 0))) ∧ Aside0 (Below w.heap.size w w'))
        case atStart => exact ⟨(0), (0), (by first | rfl | (simp; done) | (simp [*]; done)), (by first | rfl | (simp; done) | (simp [*]; done)), H', ⟨Nat.le_refl _⟩, ⟨kr_ HO_8.out⟩, ⟨bk_ BK881.out⟩, ⟨lb1_ HB.out GE881.out⟩⟩
        case round =>
         clear H'
         try clear c1
         try clear c2
         try clear p2
         try clear c3
         try clear c4
         try clear c5
         try clear c14
         try clear c14b0
         try clear c14b1
         try clear c15
         try clear c15b0
         try clear c15b1
         try clear c15b2
         try clear c19
         try clear c28
         try clear c28b0
         try clear c28b1
         try clear c29
         try clear hcz10_0
         try clear hcz10_1
         try clear hcz10_2
         try clear hcz10_3
         try clear hcz12_0
         try clear hcz12_1
         try clear hcz12_2
         try clear hcz12_3
         try clear hcz17_0
         try clear hcz17_1
         try clear hcz17_2
         try clear hcz17_3
         try clear hfz10_0
         try clear hfz10_1
         try clear hfz10_2
         try clear hfz10_3
         try clear hfz12_0
         try clear hfz12_1
         try clear hfz12_2
         try clear hfz12_3
         try clear hfz17_0
         try clear hfz17_1
         try clear hfz17_2
         try clear hfz17_3
         try clear p2
         obtain ⟨x13_3, x14_3, rfl, rfl, HA, HK3, HO_8, BK881, HB⟩ := hrel
         cases gk with
         | zero => exact absurd HA.out (by simp [laws_FnCaveLines.l0])
         | succ k3 =>
          have H := HA.out
          clear HA
          simp only [laws_FnCaveLines.l0] at H
          by_cases c30 : x14_3 < (t890.size : Int)
          ·
           rw [if_pos c30] at H
           have c30b0 : decide (x14_3 < (t890.size : Int)) = true := decide_eq_true c30
           clear c30
           by_cases c31 : 0 ≤ x14_3
           ·
            rw [if_pos c31] at H
            have c31b0 : decide (0 ≤ x14_3) = true := decide_eq_true c31
            clear c31
            by_cases c33 : (bt t890 x14_3) = 10
            ·
             rw [if_pos c33] at H
             have c33b0 : ((bt t890 x14_3) == 10) = true := beq_iff_eq.mpr c33
             have c33b1 : ((bt t890 x14_3) != 10) = false := bne_eq_false_iff_eq.mpr c33
             clear c33
             have H' := Aside0.mk H
             clear H
             have p32 : 0 ≤ (x14_3 : Int) := dt_
             have q32 : x14_3 < (t890.size : Int) := dt_
             have hx32 := bt_at t890 x14_3
             replace p32 := eq_true p32
             replace q32 := eq_true q32
             go_wp2
             go_roundg k3
             case measure => have := HJ6.out; have := HJ22.out; have := HK3.out; omega
             case rel => exact ⟨(wrap64 (x13_3 + 1)), (wrap64 (x14_3 + 1)), (by first | rfl | (simp; done) | (simp [*]; done)), (by first | rfl | (simp; done) | (simp [*]; done)), H', ⟨by have := HJ6.out; have := HJ22.out; have := HK3.out; omega⟩, ⟨kr_ HO_8.out⟩, ⟨bk_ BK881.out⟩, ⟨lb1_ HB.out GE881.out⟩⟩
            ·
             rw [if_neg c33] at H
             have c33b0 : ((bt t890 x14_3) == 10) = false := beq_eq_false_iff_ne.mpr c33
             have c33b1 : ((bt t890 x14_3) != 10) = true := bne_iff_ne.mpr c33
             have H' := Aside0.mk H
             clear H
             have p32 : 0 ≤ (x14_3 : Int) := dt_
             have q32 : x14_3 < (t890.size : Int) := dt_
             have hx32 := bt_at t890 x14_3
             replace p32 := eq_true p32
             replace q32 := eq_true q32
             go_wp2
             go_roundg k3
             case measure => have := HJ6.out; have := HJ22.out; have := HK3.out; omega
             case rel => exact ⟨(x13_3), (wrap64 (x14_3 + 1)), (by first | rfl | (simp; done) | (simp [*]; done)), (by first | rfl | (simp; done) | (simp [*]; done)), H', ⟨by have := HJ6.out; have := HJ22.out; have := HK3.out; omega⟩, ⟨kr_ HO_8.out⟩, ⟨bk_ BK881.out⟩, ⟨lb1_ HB.out GE881.out⟩⟩
           ·
            rw [if_neg c31] at H
            exact absurd H (by simp)
          ·
           rw [if_neg c30] at H
           have c30b0 : decide (x14_3 < (t890.size : Int)) = false := decide_eq_false c30
           clear c30
           have HC34 := Aside0.mk H
           clear H
           go_upto_region 19 with (fail)
           go_cut [95] (fun v95 wc => ∃ (kq : Nat) (x95_33 : Bool), v95 = .bool x95_33 ∧ Aside0 (laws_FnCaveLines.j3 kq l0 t887 x95_33 = some r) ∧ Aside0 (kq ≤ k3) ∧ Aside0 (Kd.R k26 26 wc w.heap.size (fun k_ => k_ ≠ gb881) (.slice Ao25 t887.length co25) t887) ∧ Aside0 (wc.heap[gb881]? = some (.cells #[.string t877, .int .i64 t878, .int .i64 t879, .int .i64 t880] 26 (0, 0))) ∧ Aside0 (Below w.heap.size w wc))
           case first =>
            have H := HC34.out
            clear HC34
            by_cases c35 : t891 = true
            ·
             subst c35
             have H1 : (laws_FnCaveLines.j3 k3 l0 t887 (x13_3 != (t887.length : Int))) = some r := by rw [if_pos rfl] at H; exact H
             clear H
             have H := H1
             clear H1
             have H' := Aside0.mk H
             clear H
             go_wp2
             go_meet
             case rel => exact ⟨_, ((x13_3 != (t887.length : Int))), (by first | rfl | (simp; done) | (simp [*]; done)), H', ⟨by have := HJ6.out; have := HJ22.out; have := HK3.out; first | omega | exact Nat.le_refl _⟩, ⟨kr_ HO_8.out⟩, ⟨bk_ BK881.out⟩, ⟨lb1_ HB.out GE881.out⟩⟩
            ·
             replace c35 := Bool.eq_false_iff.mpr c35
             subst c35
             have H1 : (laws_FnCaveLines.j3 k3 l0 t887 false) = some r := by rw [if_neg (show ¬ (false = true) by decide)] at H; exact H
             clear H
             have H := H1
             clear H1
             have H' := Aside0.mk H
             clear H
             go_wp2
             go_meet
             case rel => exact ⟨_, (false), (by first | rfl | (simp; done) | (simp [*]; done)), H', ⟨by have := HJ6.out; have := HJ22.out; have := HK3.out; first | omega | exact Nat.le_refl _⟩, ⟨kr_ HO_8.out⟩, ⟨bk_ BK881.out⟩, ⟨lb1_ HB.out GE881.out⟩⟩
           case rest =>
            clear HC34
            try clear c1
            try clear c2
            try clear p2
            try clear c3
            try clear p3
            try clear q3
            try clear hx3
            try clear c4
            try clear c5
            try clear p6
            try clear c14
            try clear c14b0
            try clear c14b1
            try clear c15
            try clear c15b0
            try clear c15b1
            try clear c15b2
            try clear c19
            try clear c28
            try clear c28b0
            try clear c28b1
            try clear c29
            try clear c30
            try clear c30b0
            try clear c31
            try clear c31b0
            try clear p32
            try clear q32
            try clear hx32
            try clear c33
            try clear c33b0
            try clear c33b1
            try clear c35
            try clear hcz10_0
            try clear hcz10_1
            try clear hcz10_2
            try clear hcz10_3
            try clear hcz12_0
            try clear hcz12_1
            try clear hcz12_2
            try clear hcz12_3
            try clear hcz17_0
            try clear hcz17_1
            try clear hcz17_2
            try clear hcz17_3
            try clear hfz10_0
            try clear hfz10_1
            try clear hfz10_2
            try clear hfz10_3
            try clear hfz12_0
            try clear hfz12_1
            try clear hfz12_2
            try clear hfz12_3
            try clear hfz17_0
            try clear hfz17_1
            try clear hfz17_2
            try clear hfz17_3
            try clear p2
            try clear p32
            try clear q32
            obtain ⟨kq, x95_33, rfl, HA, HJ33, HO_8, BK881, HB⟩ := hcut
            cases kq with
            | zero => exact absurd HA.out (by simp [laws_FnCaveLines.j3])
            | succ kj33 =>
             have H := HA.out
             clear HA
             simp only [laws_FnCaveLines.j3] at H
             by_cases c36 : x95_33 = true
             ·
              subst c36
              have H1 : (none) = some r := by rw [if_pos rfl] at H; exact H
              clear H
              have H := H1
              clear H1
              exact absurd H (by simp)
             ·
              replace c36 := Bool.eq_false_iff.mpr c36
              subst c36
              have H1 : ((impl_MeanLeg.f kj33 t887).bind fun bt894 => ((spec_MeanLeg.f kj33 t887).bind fun bt897 => (if bt894.1 = bt897.1 then (if bt894.2.1 = bt897.2.1 then (if (bt894.2.2 != bt897.2.2) = true then (laws_FnCaveLines.j4 kj33 l0 true) else (if bt894.2.2 = true then (laws_FnCaveLines.j4 kj33 l0 (decide (bt894.1 ≤ 0))) else (laws_FnCaveLines.j4 kj33 l0 false))) else (laws_FnCaveLines.j4 kj33 l0 true)) else (laws_FnCaveLines.j4 kj33 l0 true)))) = some r := by rw [if_neg (show ¬ (false = true) by decide)] at H; exact H
              clear H
              have H := H1
              clear H1
              replace H := Option.bind_eq_some_iff.mp H
              obtain ⟨⟨t894, t895, t896⟩, A370, H⟩ := H
              replace H : ((spec_MeanLeg.f kj33 t887).bind fun bt897 => (if t894 = bt897.1 then (if t895 = bt897.2.1 then (if (t896 != bt897.2.2) = true then (laws_FnCaveLines.j4 kj33 l0 true) else (if t896 = true then (laws_FnCaveLines.j4 kj33 l0 (decide (t894 ≤ 0))) else (laws_FnCaveLines.j4 kj33 l0 false))) else (laws_FnCaveLines.j4 kj33 l0 true)) else (laws_FnCaveLines.j4 kj33 l0 true))) = some r := H
              have A37 := Aside0.mk A370
              clear A370
              replace H := Option.bind_eq_some_iff.mp H
              obtain ⟨⟨t897, t898, t899⟩, A380, H⟩ := H
              replace H : (if t894 = t897 then (if t895 = t898 then (if (t896 != t899) = true then (laws_FnCaveLines.j4 kj33 l0 true) else (if t896 = true then (laws_FnCaveLines.j4 kj33 l0 (decide (t894 ≤ 0))) else (laws_FnCaveLines.j4 kj33 l0 false))) else (laws_FnCaveLines.j4 kj33 l0 true)) else (laws_FnCaveLines.j4 kj33 l0 true)) = some r := H
              have A38 := Aside0.mk A380
              clear A380
              have HC39 := Aside0.mk H
              clear H
              go_upto_region 23 with (first | ((with_reducible refine gate_callee (f := 25) rfl ?_); refine ga_ (some 98) Tryd.func25 #[.slice Ao25 t887.length co25] ?_; (with_reducible refine (impl_MeanLeg.calls kj33 _ _ t887 t894 t895 t896 _ ?side1 ?side2 A37.out).mono ?_); (case side1 => exact kc_ (Kd.R_reads' HO_8.out).2.2); (case side2 => exact (Kd.R_reads' HO_8.out).2.1); rintro e w40 ⟨rfl, hb⟩; refine ⟨_, rfl, ?_⟩; have n0_ := Aside0.mk (Kd.R_below (kr_ HO_8.out) hb); have n1_ := Aside0.mk (blk_below (g := gb881) (o := .cells #[.string t877, .int .i64 t878, .int .i64 t879, .int .i64 t880] 26 (0, 0)) (bk_ BK881.out) hb); have n2_ := Aside0.mk (below_step (lb1_ HB.out GE881.out) hb); clear HO_8; clear BK881; clear HB; have HO_8 := n0_; have BK881 := n1_; have HB := n2_; clear n0_ n1_ n2_; (try clear hb); (try clear hb2); (try clear hk); (try clear hi)) | ((with_reducible refine gate_callee (f := 24) rfl ?_); refine ga_ (some 104) Tryd.func24 #[.slice Ao25 t887.length co25] ?_; (with_reducible refine (spec_MeanLeg.calls kj33 _ _ t887 t897 t898 t899 _ ?side1 ?side2 A38.out).mono ?_); (case side1 => exact kc_ (Kd.R_reads' HO_8.out).2.2); (case side2 => exact (Kd.R_reads' HO_8.out).2.1); rintro e w41 ⟨rfl, hb⟩; refine ⟨_, rfl, ?_⟩; have n0_ := Aside0.mk (Kd.R_below (kr_ HO_8.out) hb); have n1_ := Aside0.mk (blk_below (g := gb881) (o := .cells #[.string t877, .int .i64 t878, .int .i64 t879, .int .i64 t880] 26 (0, 0)) (bk_ BK881.out) hb); have n2_ := Aside0.mk (below_step (lb1_ HB.out GE881.out) hb); clear HO_8; clear BK881; clear HB; have HO_8 := n0_; have BK881 := n1_; have HB := n2_; clear n0_ n1_ n2_; (try clear hb); (try clear hb2); (try clear hk); (try clear hi)))
              (try simp only [Act.put, List.setIfInBounds_toArray, List.set_cons_zero, List.set_cons_succ])
              go_cut [127] (fun v127 wc => ∃ (kq : Nat) (x127_38 : Bool), v127 = .bool x127_38 ∧ Aside0 (laws_FnCaveLines.j4 kq l0 x127_38 = some r) ∧ Aside0 (kq ≤ kj33) ∧ Aside0 (wc.heap[gb881]? = some (.cells #[.string t877, .int .i64 t878, .int .i64 t879, .int .i64 t880] 26 (0, 0))) ∧ Aside0 (Below w.heap.size w wc))
              case first =>
               have H := HC39.out
               clear HC39
               by_cases c42 : t894 = t897
               ·
                rw [if_pos c42] at H
                have c42b0 : (t894 == t897) = true := beq_iff_eq.mpr c42
                have c42b1 : (t894 != t897) = false := bne_eq_false_iff_eq.mpr c42
                clear c42
                (first | rw [c42b0] | (simp only [i64_w, i32_w]; rw [c42b0]) | skip)
                by_cases c43 : t895 = t898
                ·
                 rw [if_pos c43] at H
                 have c43b0 : (t895 == t898) = true := beq_iff_eq.mpr c43
                 have c43b1 : (t895 != t898) = false := bne_eq_false_iff_eq.mpr c43
                 clear c43
                 by_cases c44 : (t896 != t899) = true
                 ·
                  rw [if_pos c44] at H
                  have c44b0 : (t896 != t899) = true := c44
                  (try (have c44b1 : decide (t896 = t899) = false := by simpa using c44))
                  (try (have c44b2 : (t896 == t899) = false := by simpa using c44))
                  (try (have c44b3 : ¬ (t896 = t899) := by simpa using c44))
                  clear c44
                  have H' := Aside0.mk H
                  clear H
                  go_wp2
                  go_meet
                  case rel => exact ⟨_, (true), (by first | rfl | (simp; done) | (simp [*]; done)), H', ⟨by have := HJ6.out; have := HJ22.out; have := HK3.out; have := HJ33.out; first | omega | exact Nat.le_refl _⟩, ⟨bk_ BK881.out⟩, ⟨lb1_ HB.out GE881.out⟩⟩
                 ·
                  rw [if_neg c44] at H
                  have c44b0 : (t896 != t899) = false := by simpa using c44
                  (try (have c44b1 : decide (t896 = t899) = true := by simpa using c44))
                  (try (have c44b2 : (t896 == t899) = true := by simpa using c44))
                  clear c44
                  by_cases c45 : t896 = true
                  ·
                   subst c45
                   have H1 : (laws_FnCaveLines.j4 kj33 l0 (decide (t894 ≤ 0))) = some r := by rw [if_pos rfl] at H; exact H
                   clear H
                   have H := H1
                   clear H1
                   have H' := Aside0.mk H
                   clear H
                   go_wp2
                   go_meet
                   case rel => exact ⟨_, (decide (t894 ≤ 0)), (by first | rfl | (simp; done) | (simp [*]; done)), H', ⟨by have := HJ6.out; have := HJ22.out; have := HK3.out; have := HJ33.out; first | omega | exact Nat.le_refl _⟩, ⟨bk_ BK881.out⟩, ⟨lb1_ HB.out GE881.out⟩⟩
                  ·
                   replace c45 := Bool.eq_false_iff.mpr c45
                   subst c45
                   have H1 : (laws_FnCaveLines.j4 kj33 l0 false) = some r := by rw [if_neg (show ¬ (false = true) by decide)] at H; exact H
                   clear H
                   have H := H1
                   clear H1
                   have H' := Aside0.mk H
                   clear H
                   go_wp2
                   go_meet
                   case rel => exact ⟨_, (false), (by first | rfl | (simp; done) | (simp [*]; done)), H', ⟨by have := HJ6.out; have := HJ22.out; have := HK3.out; have := HJ33.out; first | omega | exact Nat.le_refl _⟩, ⟨bk_ BK881.out⟩, ⟨lb1_ HB.out GE881.out⟩⟩
                ·
                 rw [if_neg c43] at H
                 have c43b0 : (t895 == t898) = false := beq_eq_false_iff_ne.mpr c43
                 have c43b1 : (t895 != t898) = true := bne_iff_ne.mpr c43
                 have H' := Aside0.mk H
                 clear H
                 go_wp2
                 go_meet
                 case rel => exact ⟨_, (true), (by first | rfl | (simp; done) | (simp [*]; done)), H', ⟨by have := HJ6.out; have := HJ22.out; have := HK3.out; have := HJ33.out; first | omega | exact Nat.le_refl _⟩, ⟨bk_ BK881.out⟩, ⟨lb1_ HB.out GE881.out⟩⟩
               ·
                rw [if_neg c42] at H
                have c42b0 : (t894 == t897) = false := beq_eq_false_iff_ne.mpr c42
                have c42b1 : (t894 != t897) = true := bne_iff_ne.mpr c42
                (first | rw [c42b0] | (simp only [i64_w, i32_w]; rw [c42b0]) | skip)
                have H' := Aside0.mk H
                clear H
                go_wp2
                go_meet
                case rel => exact ⟨_, (true), (by first | rfl | (simp; done) | (simp [*]; done)), H', ⟨by have := HJ6.out; have := HJ22.out; have := HK3.out; have := HJ33.out; first | omega | exact Nat.le_refl _⟩, ⟨bk_ BK881.out⟩, ⟨lb1_ HB.out GE881.out⟩⟩
              case rest =>
               clear HC39
               try clear c1
               try clear c2
               try clear p2
               try clear c3
               try clear p3
               try clear q3
               try clear hx3
               try clear c4
               try clear c5
               try clear p6
               try clear c14
               try clear c14b0
               try clear c14b1
               try clear c15
               try clear c15b0
               try clear c15b1
               try clear c15b2
               try clear c19
               try clear c24
               try clear c25
               try clear c28
               try clear c28b0
               try clear c28b1
               try clear c29
               try clear c30
               try clear c30b0
               try clear c31
               try clear c31b0
               try clear p32
               try clear q32
               try clear hx32
               try clear c33
               try clear c33b0
               try clear c33b1
               try clear c35
               try clear c36
               try clear c37
               try clear c38
               try clear c41
               try clear c42
               try clear c42b0
               try clear c42b1
               try clear c43
               try clear c43b0
               try clear c43b1
               try clear c44
               try clear c44b0
               try clear c44b1
               try clear c44b2
               try clear c45
               try clear hcz10_0
               try clear hcz10_1
               try clear hcz10_2
               try clear hcz10_3
               try clear hcz12_0
               try clear hcz12_1
               try clear hcz12_2
               try clear hcz12_3
               try clear hcz17_0
               try clear hcz17_1
               try clear hcz17_2
               try clear hcz17_3
               try clear hfz10_0
               try clear hfz10_1
               try clear hfz10_2
               try clear hfz10_3
               try clear hfz12_0
               try clear hfz12_1
               try clear hfz12_2
               try clear hfz12_3
               try clear hfz17_0
               try clear hfz17_1
               try clear hfz17_2
               try clear hfz17_3
               try clear p2
               try clear p3
               try clear p32
               try clear p6
               try clear q3
               try clear q32
               obtain ⟨kq, x127_38, rfl, HA, HJ38, BK881, HB⟩ := hcut
               cases kq with
               | zero => exact absurd HA.out (by simp [laws_FnCaveLines.j4])
               | succ kj38 =>
                have H := HA.out
                clear HA
                simp only [laws_FnCaveLines.j4] at H
                by_cases c46 : x127_38 = true
                ·
                 subst c46
                 have H1 : (none) = some r := by rw [if_pos rfl] at H; exact H
                 clear H
                 have H := H1
                 clear H1
                 exact absurd H (by simp)
                ·
                 replace c46 := Bool.eq_false_iff.mpr c46
                 subst c46
                 have H1 : ((spec_DrawCavesLongerThan.f kj38 l0).bind fun bt900 => ((impl_CavesLongerThan.f kj38 bt900.1 bt900.2).bind fun bt904 => ((spec_CavesLongerThan.f kj38 bt900.1 bt900.2).bind fun bt908 => (if (bt904.2 != bt908.2) = true then (laws_FnCaveLines.j5 kj38 bt900.1 bt900.2 bt904.1 bt904.2 true) else ((laws_rTexts.f kj38 bt904.1 bt908.1).bind fun t912 => (laws_FnCaveLines.j5 kj38 bt900.1 bt900.2 bt904.1 bt904.2 (!t912))))))) = some r := by rw [if_neg (show ¬ (false = true) by decide)] at H; exact H
                 clear H
                 have H := H1
                 clear H1
                 replace H := Option.bind_eq_some_iff.mp H
                 obtain ⟨⟨t900, t901⟩, A470, H⟩ := H
                 replace H : ((impl_CavesLongerThan.f kj38 t900 t901).bind fun bt904 => ((spec_CavesLongerThan.f kj38 t900 t901).bind fun bt908 => (if (bt904.2 != bt908.2) = true then (laws_FnCaveLines.j5 kj38 t900 t901 bt904.1 bt904.2 true) else ((laws_rTexts.f kj38 bt904.1 bt908.1).bind fun t912 => (laws_FnCaveLines.j5 kj38 t900 t901 bt904.1 bt904.2 (!t912)))))) = some r := H
                 have A47 := Aside0.mk A470
                 clear A470
                 replace H := Option.bind_eq_some_iff.mp H
                 obtain ⟨⟨t904, t905⟩, A480, H⟩ := H
                 replace H : ((spec_CavesLongerThan.f kj38 t900 t901).bind fun bt908 => (if (t905 != bt908.2) = true then (laws_FnCaveLines.j5 kj38 t900 t901 t904 t905 true) else ((laws_rTexts.f kj38 t904 bt908.1).bind fun t912 => (laws_FnCaveLines.j5 kj38 t900 t901 t904 t905 (!t912))))) = some r := H
                 have A48 := Aside0.mk A480
                 clear A480
                 replace H := Option.bind_eq_some_iff.mp H
                 obtain ⟨⟨t908, t909⟩, A490, H⟩ := H
                 replace H : (if (t905 != t909) = true then (laws_FnCaveLines.j5 kj38 t900 t901 t904 t905 true) else ((laws_rTexts.f kj38 t904 t908).bind fun t912 => (laws_FnCaveLines.j5 kj38 t900 t901 t904 t905 (!t912)))) = some r := H
                 have A49 := Aside0.mk A490
                 clear A490
                 have HC50 := Aside0.mk H
                 clear H
                 go_upto_region 28 with (first | ((with_reducible refine gate_callee (f := 54) rfl ?_); refine ga_ (some 130) Tryd.func54 #[.slice A0 l0.length c0] ?_; (with_reducible refine (spec_DrawCavesLongerThan.calls kj38 _ _ l0 t900 t901 _ ?side1 ?side2 A47.out).mono ?_); (case side1 => exact kc_ (Kd.C_below HR0.out HB.out)); (case side2 => exact HC0.out); rintro e w51 ⟨v902, rfl, ho0, hb⟩; refine ⟨_, rfl, ?_⟩; have n0_ := Aside0.mk (Kd.R_lower (Kd.R_newB ho0 (g := gb881) (o := .cells #[.string t877, .int .i64 t878, .int .i64 t879, .int .i64 t880] 26 (0, 0)) (bk_ BK881.out)) (below_size (lb1_ HB.out GE881.out))); have n1_ := Aside0.mk (blk_below (g := gb881) (o := .cells #[.string t877, .int .i64 t878, .int .i64 t879, .int .i64 t880] 26 (0, 0)) (bk_ BK881.out) hb); have n2_ := Aside0.mk (below_step (lb1_ HB.out GE881.out) hb); clear BK881; clear HB; have HO903 := n0_; have BK881 := n1_; have HB := n2_; clear n0_ n1_ n2_; (try clear hb); (try clear hb2); (try clear hk); (try clear hi); (try clear ho0); obtain ⟨Ao52, co52, eo52⟩ := Kd.R_slice HO903.out; subst eo52) | ((with_reducible refine gate_callee (f := 27) rfl ?_); refine ga_ (some 136) Tryd.func27 #[.slice Ao52 t900.length co52, .int .i64 t901] ?_; (with_reducible refine (impl_CavesLongerThan.calls kj38 _ _ t900 t901 t904 t905 _ ?side1 ?side2 A48.out).mono ?_); (case side1 => exact kc_ (Kd.R_reads' HO903.out).2.2); (case side2 => exact (Kd.R_reads' HO903.out).2.1); rintro e w53 ⟨v906, rfl, ho0, hb⟩; refine ⟨_, rfl, ?_⟩; have n0_ := Aside0.mk (Kd.R_below (kr_ HO903.out) hb); have n1_ := Aside0.mk (Kd.R_lower ho0 (below_size (lb1_ HB.out GE881.out))); have n2_ := Aside0.mk (blk_below (g := gb881) (o := .cells #[.string t877, .int .i64 t878, .int .i64 t879, .int .i64 t880] 26 (0, 0)) (bk_ BK881.out) hb); have n3_ := Aside0.mk (below_step (lb1_ HB.out GE881.out) hb); clear HO903; clear BK881; clear HB; have HO903 := n0_; have HO907 := n1_; have BK881 := n2_; have HB := n3_; clear n0_ n1_ n2_ n3_; (try clear hb); (try clear hb2); (try clear hk); (try clear hi); (try clear ho0)) | ((with_reducible refine gate_callee (f := 26) rfl ?_); refine ga_ (some 142) Tryd.func26 #[.slice Ao52 t900.length co52, .int .i64 t901] ?_; (with_reducible refine (spec_CavesLongerThan.calls kj38 _ _ t900 t901 t908 t909 _ ?side1 ?side2 A49.out).mono ?_); (case side1 => exact kc_ (Kd.R_reads' HO903.out).2.2); (case side2 => exact (Kd.R_reads' HO903.out).2.1); rintro e w54 ⟨v910, rfl, ho0, hb⟩; refine ⟨_, rfl, ?_⟩; have n0_ := Aside0.mk (Kd.R_below (kr_ HO903.out) hb); have n1_ := Aside0.mk (Kd.R_elder' (kr_ HO907.out) (Kd.R_base ho0) hb); have n2_ := Aside0.mk (Kd.R_lower (Kd.R_new' ho0 (Kd.R_lt (kr_ HO907.out))) (below_size (lb1_ HB.out GE881.out))); have n3_ := Aside0.mk (blk_below (g := gb881) (o := .cells #[.string t877, .int .i64 t878, .int .i64 t879, .int .i64 t880] 26 (0, 0)) (bk_ BK881.out) hb); have n4_ := Aside0.mk (below_step (lb1_ HB.out GE881.out) hb); clear HO903; clear HO907; clear BK881; clear HB; have HO903 := n0_; have HO907 := n1_; have HO911 := n2_; have BK881 := n3_; have HB := n4_; clear n0_ n1_ n2_ n3_ n4_; (try clear hb); (try clear hb2); (try clear hk); (try clear hi); (try clear ho0)))
                 (try simp only [Act.put, List.setIfInBounds_toArray, List.set_cons_zero, List.set_cons_succ])
                 go_cut [153] (fun v153 wc => ∃ (kq : Nat) (x153_49 : Bool), v153 = .bool x153_49 ∧ Aside0 (laws_FnCaveLines.j5 kq t900 t901 t904 t905 x153_49 = some r) ∧ Aside0 (kq ≤ kj38) ∧ Aside0 (Kd.R k26 26 wc w.heap.size (fun k_ => k_ ≠ gb881) (.slice Ao52 t900.length co52) t900) ∧ Aside0 (Kd.R Kd.string 9 wc w.heap.size (fun _ => True) v906 t904) ∧ Aside0 (wc.heap[gb881]? = some (.cells #[.string t877, .int .i64 t878, .int .i64 t879, .int .i64 t880] 26 (0, 0))) ∧ Aside0 (Below w.heap.size w wc))
                 case first =>
                  have H := HC50.out
                  clear HC50
                  by_cases c55 : (t905 != t909) = true
                  ·
                   rw [if_pos c55] at H
                   have c55b0 : (t905 != t909) = true := c55
                   (try (have c55b1 : decide (t905 = t909) = false := by simpa using c55))
                   (try (have c55b2 : (t905 == t909) = false := by simpa using c55))
                   (try (have c55b3 : ¬ (t905 = t909) := by simpa using c55))
                   clear c55
                   (first | rw [c55b0] | (simp only [i64_w, i32_w]; rw [c55b0]) | skip)
                   have H' := Aside0.mk H
                   clear H
                   go_wp2
                   go_meet
                   case rel => exact ⟨_, (true), (by first | rfl | (simp; done) | (simp [*]; done)), H', ⟨by have := HJ6.out; have := HJ22.out; have := HK3.out; have := HJ33.out; have := HJ38.out; first | omega | exact Nat.le_refl _⟩, ⟨by (with_reducible repeat (first | apply Kd.R_alloc | apply Kd.R_drewN | apply Kd.R_drew)); exact Kd.R_mono HO903.out (fun _ hk => hk.2)⟩, ⟨by (with_reducible repeat (first | apply Kd.R_alloc | apply Kd.R_drewN | apply Kd.R_drew)); exact Kd.R_mono HO907.out (fun _ hk => trivial)⟩, ⟨bk_ BK881.out⟩, ⟨lb1_ HB.out GE881.out⟩⟩
                  ·
                   rw [if_neg c55] at H
                   have c55b0 : (t905 != t909) = false := by simpa using c55
                   (try (have c55b1 : decide (t905 = t909) = true := by simpa using c55))
                   (try (have c55b2 : (t905 == t909) = true := by simpa using c55))
                   clear c55
                   (first | rw [c55b0] | (simp only [i64_w, i32_w]; rw [c55b0]) | skip)
                   replace H := Option.bind_eq_some_iff.mp H
                   obtain ⟨t912, A560, H⟩ := H
                   replace H : (laws_FnCaveLines.j5 kj38 t900 t901 t904 t905 (!t912)) = some r := H
                   have A56 := Aside0.mk A560
                   clear A560
                   have H' := Aside0.mk H
                   clear H
                   obtain ⟨Ao57, co57, eo57⟩ := Kd.R_slice HO907.out
                   subst eo57
                   obtain ⟨Ao58, co58, eo58⟩ := Kd.R_slice HO911.out
                   subst eo58
                   go_wp2_with (first | (go_at_call 49; (with_reducible refine (laws_rTexts.calls kj38 _ _ t904 _ _ t908 t912 _ ?side1 ?side2 ?side3 ?side4 A56.out).mono ?_); (case side1 => exact kc_ (Kd.R_reads' HO907.out).2.2); (case side2 => exact (Kd.R_reads' HO907.out).2.1); (case side3 => exact kc_ (Kd.R_reads' HO911.out).2.2); (case side4 => exact (Kd.R_reads' HO911.out).2.1); rintro e w' ⟨rfl, ⟨nd, rfl⟩⟩))
                   go_meet
                   case rel => exact ⟨_, (!t912), (by first | rfl | (simp; done) | (simp [*]; done)), H', ⟨by have := HJ6.out; have := HJ22.out; have := HK3.out; have := HJ33.out; have := HJ38.out; first | omega | exact Nat.le_refl _⟩, ⟨by (with_reducible repeat (first | apply Kd.R_alloc | apply Kd.R_drewN | apply Kd.R_drew)); exact Kd.R_mono HO903.out (fun _ hk => hk.2)⟩, ⟨by (with_reducible repeat (first | apply Kd.R_alloc | apply Kd.R_drewN | apply Kd.R_drew)); exact Kd.R_mono HO907.out (fun _ hk => trivial)⟩, ⟨bk_ BK881.out⟩, ⟨lb1_ HB.out GE881.out⟩⟩
                 case rest =>
                  clear HC50
                  try clear c1
                  try clear c2
                  try clear p2
                  try clear c3
                  try clear p3
                  try clear q3
                  try clear hx3
                  try clear c4
                  try clear c5
                  try clear p6
                  try clear c14
                  try clear c14b0
                  try clear c14b1
                  try clear c15
                  try clear c15b0
                  try clear c15b1
                  try clear c15b2
                  try clear c19
                  try clear c24
                  try clear c25
                  try clear c26
                  try clear c27
                  try clear c28
                  try clear c28b0
                  try clear c28b1
                  try clear c29
                  try clear c30
                  try clear c30b0
                  try clear c31
                  try clear c31b0
                  try clear p32
                  try clear q32
                  try clear hx32
                  try clear c33
                  try clear c33b0
                  try clear c33b1
                  try clear c35
                  try clear c36
                  try clear c37
                  try clear c38
                  try clear c41
                  try clear c42
                  try clear c42b0
                  try clear c42b1
                  try clear c43
                  try clear c43b0
                  try clear c43b1
                  try clear c44
                  try clear c44b0
                  try clear c44b1
                  try clear c44b2
                  try clear c45
                  try clear c46
                  try clear c53
                  try clear c54
                  try clear c55
                  try clear c55b0
                  try clear c55b1
                  try clear c55b2
                  try clear hcz10_0
                  try clear hcz10_1
                  try clear hcz10_2
                  try clear hcz10_3
                  try clear hcz12_0
                  try clear hcz12_1
                  try clear hcz12_2
                  try clear hcz12_3
                  try clear hcz17_0
                  try clear hcz17_1
                  try clear hcz17_2
                  try clear hcz17_3
                  try clear hfz10_0
                  try clear hfz10_1
                  try clear hfz10_2
                  try clear hfz10_3
                  try clear hfz12_0
                  try clear hfz12_1
                  try clear hfz12_2
                  try clear hfz12_3
                  try clear hfz17_0
                  try clear hfz17_1
                  try clear hfz17_2
                  try clear hfz17_3
                  try clear p2
                  try clear p3
                  try clear p32
                  try clear p6
                  try clear q3
                  try clear q32
                  obtain ⟨kq, x153_49, rfl, HA, HJ49, HO_21, HO_23, BK881, HB⟩ := hcut
                  cases kq with
                  | zero => exact absurd HA.out (by simp [laws_FnCaveLines.j5])
                  | succ kj49 =>
                   have H := HA.out
                   clear HA
                   simp only [laws_FnCaveLines.j5] at H
                   by_cases c59 : x153_49 = true
                   ·
                    subst c59
                    have H1 : (none) = some r := by rw [if_pos rfl] at H; exact H
                    clear H
                    have H := H1
                    clear H1
                    exact absurd H (by simp)
                   ·
                    replace c59 := Bool.eq_false_iff.mpr c59
                    subst c59
                    have H1 : ((impl_CavesLongerThan.f kj49 t900 (wrap64 (t901 + 1))).bind fun bt913 => (if t905 = true then (if bt913.2 = true then (if (bt913.1.length : Int) > (t904.length : Int) then (none) else (some true)) else (some true)) else (some true))) = some r := by rw [if_neg (show ¬ (false = true) by decide)] at H; exact H
                    clear H
                    have H := H1
                    clear H1
                    replace H := Option.bind_eq_some_iff.mp H
                    obtain ⟨⟨t913, t914⟩, A600, H⟩ := H
                    replace H : (if t905 = true then (if t914 = true then (if (t913.length : Int) > (t904.length : Int) then (none) else (some true)) else (some true)) else (some true)) = some r := H
                    have A60 := Aside0.mk A600
                    clear A600
                    by_cases c61 : t905 = true
                    ·
                     subst c61
                     have H1 : (if t914 = true then (if (t913.length : Int) > (t904.length : Int) then (none) else (some true)) else (some true)) = some r := by rw [if_pos rfl] at H; exact H
                     clear H
                     have H := H1
                     clear H1
                     by_cases c62 : t914 = true
                     ·
                      subst c62
                      have H1 : (if (t913.length : Int) > (t904.length : Int) then (none) else (some true)) = some r := by rw [if_pos rfl] at H; exact H
                      clear H
                      have H := H1
                      clear H1
                      by_cases c63 : (t913.length : Int) > (t904.length : Int)
                      ·
                       rw [if_pos c63] at H
                       exact absurd H (by simp)
                      ·
                       rw [if_neg c63] at H
                       have c63b0 : decide ((t904.length : Int) < (t913.length : Int)) = false := decide_eq_false c63
                       have c63b1 : decide (t904.length < t913.length) = false := decide_eq_false (fun h => c63 (Int.ofNat_lt.mpr h))
                       clear c63
                       obtain rfl := Option.some.inj H
                       go_wp2_with (first | ((with_reducible refine gate_callee (f := 27) rfl ?_); refine ga_ (some 158) Tryd.func27 #[.slice Ao52 t900.length co52, .int .i64 (wrap64 (t901 + 1))] ?_; (with_reducible refine (impl_CavesLongerThan.calls kj49 _ _ t900 (wrap64 (t901 + 1)) t913 true _ ?side1 ?side2 A60.out).mono ?_); (case side1 => exact kc_ (Kd.R_reads' HO_21.out).2.2); (case side2 => exact (Kd.R_reads' HO_21.out).2.1); rintro e w64 ⟨v915, rfl, ho0, hb⟩; refine ⟨_, rfl, ?_⟩; have n0_ := Aside0.mk (Kd.R_below (kr_ HO_21.out) hb); have n1_ := Aside0.mk (Kd.R_elder' (kr_ HO_23.out) (Kd.R_base ho0) hb); have n2_ := Aside0.mk (Kd.R_lower (Kd.R_new' ho0 (Kd.R_lt (kr_ HO_23.out))) (below_size (lb1_ HB.out GE881.out))); have n3_ := Aside0.mk (blk_below (g := gb881) (o := .cells #[.string t877, .int .i64 t878, .int .i64 t879, .int .i64 t880] 26 (0, 0)) (bk_ BK881.out) hb); have n4_ := Aside0.mk (below_step (lb1_ HB.out GE881.out) hb); clear HO_21; clear HO_23; clear BK881; clear HB; have HO_21 := n0_; have HO_23 := n1_; have HO916 := n2_; have BK881 := n3_; have HB := n4_; clear n0_ n1_ n2_ n3_ n4_; (try clear hb); (try clear hb2); (try clear hk); (try clear hi); (try clear ho0); obtain ⟨Ao65, co65, eo65⟩ := Kd.R_slice HO916.out; subst eo65; obtain ⟨Ao66, co66, eo66⟩ := Kd.R_slice HO_23.out; subst eo66))
                       go_ret
                       exact ⟨rr_, lb1_ HB.out GE881.out⟩
                     ·
                      replace c62 := Bool.eq_false_iff.mpr c62
                      subst c62
                      have H1 : (some true) = some r := by rw [if_neg (show ¬ (false = true) by decide)] at H; exact H
                      clear H
                      have H := H1
                      clear H1
                      obtain rfl := Option.some.inj H
                      go_wp2_with (first | ((with_reducible refine gate_callee (f := 27) rfl ?_); refine ga_ (some 158) Tryd.func27 #[.slice Ao52 t900.length co52, .int .i64 (wrap64 (t901 + 1))] ?_; (with_reducible refine (impl_CavesLongerThan.calls kj49 _ _ t900 (wrap64 (t901 + 1)) t913 false _ ?side1 ?side2 A60.out).mono ?_); (case side1 => exact kc_ (Kd.R_reads' HO_21.out).2.2); (case side2 => exact (Kd.R_reads' HO_21.out).2.1); rintro e w67 ⟨v915, rfl, ho0, hb⟩; refine ⟨_, rfl, ?_⟩; have n0_ := Aside0.mk (Kd.R_below (kr_ HO_21.out) hb); have n1_ := Aside0.mk (Kd.R_elder' (kr_ HO_23.out) (Kd.R_base ho0) hb); have n2_ := Aside0.mk (Kd.R_lower (Kd.R_new' ho0 (Kd.R_lt (kr_ HO_23.out))) (below_size (lb1_ HB.out GE881.out))); have n3_ := Aside0.mk (blk_below (g := gb881) (o := .cells #[.string t877, .int .i64 t878, .int .i64 t879, .int .i64 t880] 26 (0, 0)) (bk_ BK881.out) hb); have n4_ := Aside0.mk (below_step (lb1_ HB.out GE881.out) hb); clear HO_21; clear HO_23; clear BK881; clear HB; have HO_21 := n0_; have HO_23 := n1_; have HO916 := n2_; have BK881 := n3_; have HB := n4_; clear n0_ n1_ n2_ n3_ n4_; (try clear hb); (try clear hb2); (try clear hk); (try clear hi); (try clear ho0)))
                      go_ret
                      exact ⟨rr_, lb1_ HB.out GE881.out⟩
                    ·
                     replace c61 := Bool.eq_false_iff.mpr c61
                     subst c61
                     have H1 : (some true) = some r := by rw [if_neg (show ¬ (false = true) by decide)] at H; exact H
                     clear H
                     have H := H1
                     clear H1
                     obtain rfl := Option.some.inj H
                     go_wp2_with (first | ((with_reducible refine gate_callee (f := 27) rfl ?_); refine ga_ (some 158) Tryd.func27 #[.slice Ao52 t900.length co52, .int .i64 (wrap64 (t901 + 1))] ?_; (with_reducible refine (impl_CavesLongerThan.calls kj49 _ _ t900 (wrap64 (t901 + 1)) t913 t914 _ ?side1 ?side2 A60.out).mono ?_); (case side1 => exact kc_ (Kd.R_reads' HO_21.out).2.2); (case side2 => exact (Kd.R_reads' HO_21.out).2.1); rintro e w68 ⟨v915, rfl, ho0, hb⟩; refine ⟨_, rfl, ?_⟩; have n0_ := Aside0.mk (Kd.R_below (kr_ HO_21.out) hb); have n1_ := Aside0.mk (Kd.R_elder' (kr_ HO_23.out) (Kd.R_base ho0) hb); have n2_ := Aside0.mk (Kd.R_lower (Kd.R_new' ho0 (Kd.R_lt (kr_ HO_23.out))) (below_size (lb1_ HB.out GE881.out))); have n3_ := Aside0.mk (blk_below (g := gb881) (o := .cells #[.string t877, .int .i64 t878, .int .i64 t879, .int .i64 t880] 26 (0, 0)) (bk_ BK881.out) hb); have n4_ := Aside0.mk (below_step (lb1_ HB.out GE881.out) hb); clear HO_21; clear HO_23; clear BK881; clear HB; have HO_21 := n0_; have HO_23 := n1_; have HO916 := n2_; have BK881 := n3_; have HB := n4_; clear n0_ n1_ n2_ n3_ n4_; (try clear hb); (try clear hb2); (try clear hk); (try clear hi); (try clear ho0)))
                     go_ret
                     exact ⟨rr_, lb1_ HB.out GE881.out⟩
end Go.Proofs.YteepnlofbfccgaaDoor.Pr

namespace Go.Proofs.YteepnlofbfccgaaDoorW.Opens
open Go.ChangeShapes Go.WideShapes Go.RowKit
open Go.Deep (open_slice choose_lt)
open Go.Proofs.YteepnlofbfccgaaDoorW.PrintWords
set_option linter.unusedVariables false
set_option linter.unusedSimpArgs false
def Opn {α : Type} (P : Program) (t : TypeId) (d : Kd α) (wf : α → Prop) : Prop :=
 P.cellsOf t = d.sz ∧ ∀ (H : Type) (enc : TypeId × Value → H) (W : World) (fuel : Nat) (cs : List Value) (x : DataW H × List MemPlace),
  DataW.trod enc P W 0 (fun _ => true) true fuel t cs = some x → (∀ n ∈ x.1.weights P t, n ≤ reachBytes) → ∃ y, d.K W y cs ∧ wf y
theorem Opn.int {P : Program} {t : TypeId} {k : IntKind} (hc : P.cellsOf t = 1) (ht : P.underlying t = some (.int k)) : Opn P t (Kd.int k) (fun n => (Lit.int k n).wf = true) :=
 ⟨hc, fun H enc W fuel cs x h _ => by
  obtain ⟨m, rfl, rfl, hw⟩ := DataW.trod_int ht h
  exact ⟨m, rfl, hw⟩⟩
theorem Opn.bool {P : Program} {t : TypeId} (hc : P.cellsOf t = 1) (ht : P.underlying t = some .bool) : Opn P t Kd.bool (fun _ => True) :=
 ⟨hc, fun H enc W fuel cs x h _ => by
  obtain ⟨m, rfl, rfl⟩ := DataW.trod_bool ht h
  exact ⟨m, rfl, trivial⟩⟩
theorem Opn.string {P : Program} {t : TypeId} (hc : P.cellsOf t = 1) (ht : P.underlying t = some .string) : Opn P t Kd.string (fun s => s.size ≤ 140737488351232) :=
 ⟨hc, fun H enc W fuel cs x h hw => by
  obtain ⟨m, rfl, rfl, hm⟩ := DataW.trod_string ht h
  have := hw m.data.toList.length (by simp [DataW.weights])
  rw [Array.length_toList] at this
  exact ⟨m, rfl, this⟩⟩
theorem weightsAll_mem {H : Type} {P : Program} {e : TypeId} : ∀ {l : List (DataW H)} {d : DataW H}, d ∈ l → ∀ n ∈ d.weights P e, n ∈ DataW.weightsAll P e l
 | _ :: r, d, h, n, hn => by
  simp only [DataW.weightsAll, List.mem_append]
  rcases List.mem_cons.1 h with rfl | h
  ·
   exact .inl hn
  ·
   exact .inr (weightsAll_mem h n hn)
theorem Opn.slice {α : Type} (z : α) {P : Program} {t e : TypeId} {d : Kd α} {wf : α → Prop} {B : Nat} (hc : P.cellsOf t = 1) (ht : P.underlying t = some (.slice e)) (hB : P.bytesOf e = B) (h : Opn P e d wf) :
  Opn P t (Kd.slice e d) (fun xs => xs.length ≤ maxLen ∧ xs.length * B ≤ 140737488351232 ∧ ∀ y ∈ xs, wf y) :=
 ⟨hc, fun H enc W fuel cs x hf hw => by
  haveI : Inhabited α := ⟨z⟩
  rcases open_slice ht hf with ⟨rfl, rfl⟩ | ⟨a, len, cap, m, n, D, Pl, rfl, _, hl, hm, hmm, rfl, each⟩
  ·
   exact ⟨[], ⟨none, 0, rfl, Nat.le_refl _, rfl, by simp, fun h => absurd h (Nat.lt_irrefl 0)⟩, by simp, by simp, by simp⟩
  ·
   rw [if_pos rfl] at hmm
   subst hmm
   have hw0 : ∀ n ∈ DataW.weights P t (DataW.slice (H := H) ((List.range len).map D) ((List.range (m - len)).map fun j => D (len + j))), n ≤ reachBytes := hw
   have hww : ∀ i, i < len → ∀ n ∈ (D i).weights P e, n ≤ reachBytes := by
    intro i hi n hn
    refine hw0 n ?_
    simp only [DataW.weights, ht, List.mem_cons, List.mem_append]
    exact .inr (.inl (weightsAll_mem (List.mem_map.2 ⟨i, List.mem_range.2 hi, rfl⟩) n hn))
   have hB2 : len * B ≤ 140737488351232 := by
    have := hw0 ((len + (m - len)) * B) (by simp [DataW.weights, ht, hB])
    refine Nat.le_trans (Nat.mul_le_mul_right _ (by omega)) this
   have hx : ∀ i, i < len → ∃ y, ∃ c : List Value, c.length = d.sz ∧ d.K W y c ∧ wf y ∧ ∀ j u, c[j]? = some u → W.cell? (a.add (i * d.sz + j)) = some u := by
    intro i hi
    obtain ⟨cs', h1, h2⟩ := each i (by omega)
    obtain ⟨y, hy, hwy⟩ := h.2 H enc W n cs' _ h2 (hww i hi)
    obtain ⟨_, hlen, hcell⟩ := World.cells?_some h1
    rw [h.1] at hlen hcell
    refine ⟨y, cs', hlen, hy, hwy, fun j u hu => ?_⟩
    have hj : j < d.sz := by
     have := (List.getElem?_eq_some_iff.1 hu).1
     omega
    have := hcell j hj
    rw [add_add] at this
    exact this.trans hu
   obtain ⟨f, hf'⟩ := choose_lt hx
   refine ⟨(List.range len).map f, ⟨some a, m, by simp, by simpa using hl, by simp, by simp only [maxLen] at hm; simp; omega, fun _ => ⟨a, rfl, fun j p hj => ?_⟩⟩, ?_, ?_, ?_⟩
   ·
    rw [List.getElem?_map] at hj
    have hj' : j < len := by
     by_cases hjl : j < len
     ·
      exact hjl
     ·
      rw [List.getElem?_eq_none (by simp; omega)] at hj
      cases hj
    rw [List.getElem?_range hj'] at hj
    obtain rfl := Option.some.inj hj
    obtain ⟨c, h1, h2, _, h3⟩ := hf' j hj'
    exact ⟨c, h1, h2, h3⟩
   ·
    simp; omega
   ·
    simpa using hB2
   ·
    intro y hy
    obtain ⟨i, hi, rfl⟩ := List.mem_map.1 hy
    obtain ⟨c, _, _, h2, _⟩ := hf' i (List.mem_range.1 hi)
    exact h2⟩
def FOpn {α : Type} (P : Program) (fs : List Field) (off : Nat) (d : Kd α) (wf : α → Prop) : Prop :=
 ∀ (H : Type) (enc : TypeId × Value → H) (W : World) (fuel : Nat) (cs : List Value) (xs : List (DataW H × List MemPlace)),
  xs.length = fs.length → (∀ (i : Nat) (f : Field), fs[i]? = some f → DataW.trod enc P W 0 (fun _ => true) true fuel f.type ((cs.drop f.offset).take (P.cellsOf f.type)) = xs[i]?) →
  (∀ n ∈ DataW.weightsEach P (fs.map (·.type)) (xs.map (·.1)), n ≤ reachBytes) → ∃ y, d.K W y ((cs.drop off).take d.sz) ∧ wf y
theorem FOpn.one {α : Type} {P : Program} {f : Field} {off : Nat} {d : Kd α} {wf : α → Prop} (ho : f.offset = off) (h : Opn P f.type d wf) : FOpn P [f] off d wf := by
 intro H enc W fuel cs xs hl hx hw
 match xs, hl with
 | [x], _ =>
  have h0 := hx 0 f rfl
  rw [ho, h.1] at h0
  exact h.2 H enc W fuel _ x h0 (fun n hn => hw n (by simp only [List.map, DataW.weightsEach, List.mem_append]; exact .inl hn))
theorem FOpn.cons {α β : Type} {P : Program} {f : Field} {fs : List Field} {off : Nat} {d : Kd α} {d' : Kd β} {wf : α → Prop} {wf' : β → Prop} (ho : f.offset = off) (h : Opn P f.type d wf) (h' : FOpn P fs (off + d.sz) d' wf') :
  FOpn P (f :: fs) off (Kd.pair d d') (fun x => wf x.1 ∧ wf' x.2) := by
 intro H enc W fuel cs xs hl hx hw
 match xs, hl with
 | x :: xs, hl =>
  have h0 := hx 0 f rfl
  rw [ho, h.1] at h0
  have hw' : ∀ n ∈ x.1.weights P f.type ++ DataW.weightsEach P (fs.map (·.type)) (xs.map (·.1)), n ≤ reachBytes := hw
  obtain ⟨y, hy, hwy⟩ := h.2 H enc W fuel _ x h0 (fun n hn => hw' n (List.mem_append_left _ hn))
  obtain ⟨y', hy', hwy'⟩ := h' H enc W fuel cs xs (by simpa using hl) (fun i f' hf' => hx (i + 1) f' (by simpa using hf')) (fun n hn => hw' n (List.mem_append_right _ hn))
  refine ⟨(y, y'), ⟨_, _, ?_, hy, hy'⟩, hwy, hwy'⟩
  show (cs.drop off).take (d.sz + d'.sz) = _
  rw [List.take_add, List.drop_drop]
theorem par_weights {H : Type} {P : Program} {ts : List TypeId} {ds : List (DataW H)} {j : Nat} {t : TypeId} {d : DataW H} (h : (DataW.weightsEach P ts ds).all (· ≤ reachBytes) = true) (ht : ts[j]? = some t) (hd : ds[j]? = some d) :
  ∀ n ∈ d.weights P t, n ≤ reachBytes := fun n hn => of_decide_eq_true (List.all_eq_true.1 h n (DataW.weights_mem_each ht hd n hn))
theorem par_slice {α : Type} {H : Type} {enc : TypeId × Value → H} {P : Program} {W : World} {r : Reach} {b0 : Nat} {t e : TypeId} {d : Kd α} {wf : List α → Prop} {v : Value} {D : DataW H} {ps : List MemPlace}
  (ht : P.underlying t = some (.slice e)) (ho : Opn P t (Kd.slice e d) wf) (hv : Value.okWide P W r b0 t v) (hd : DataW.Trod enc P W 0 (fun _ => true) true t v D ps) (hw : ∀ n ∈ D.weights P t, n ≤ reachBytes) :
  ∃ (A : Option Addr) (l : List α) (c : Nat), v = .slice A l.length c ∧ l.length ≤ c ∧ d.C W A l.length l ∧ wf l := by
 obtain ⟨A, len, cap, rfl⟩ := okWide_slice ht hv
 obtain ⟨fuel, hf⟩ := hd
 obtain ⟨l, ⟨A', c, he, hl, hC⟩, hwl⟩ := ho.2 H enc W fuel _ _ hf hw
 have he' : [Value.slice A len cap] = [.slice A' l.length c] := he
 simp only [List.cons.injEq, Value.slice.injEq, and_true] at he'
 obtain ⟨rfl, rfl, rfl⟩ := he'
 exact ⟨_, l, _, rfl, hl, hC, hwl⟩
end Go.Proofs.YteepnlofbfccgaaDoorW.Opens

namespace Go.Proofs.YteepnlofbfccgaaDoor.Pr
open Go.RowKit Go.Proofs.YteepnlofbfccgaaDoorW.PrintWords Go.Proofs.YteepnlofbfccgaaDoorW.PrintLast Go.Proofs.YteepnlofbfccgaaDoorW.Opens
set_option linter.unusedVariables false
def wfL5 (l : List Int) : Prop := l.length ≤ maxLen ∧ l.length * 1 ≤ 140737488351232 ∧ ∀ y ∈ l, (Lit.int .u8 y).wf = true
theorem opnL54 : Opn Tryd.prog 54 (Kd.slice 5 (Kd.int .u8)) wfL5 := Opn.slice (0 : Int) (by kernel_rfl) Tryd.underlying54 (by kernel_rfl) (Opn.int (by kernel_rfl) Tryd.underlying5)
def FnCaveLines.Pure : Prop := ∀ (x0 : (List Int)), wfL5 x0 → ∃ k, laws_FnCaveLines.f k x0 = some true
end Go.Proofs.YteepnlofbfccgaaDoor.Pr

namespace Go.Proofs.YteepnlofbfccgaaDoor.Pr.Pure
open Go.RowKit Go.Proofs.YteepnlofbfccgaaDoorW.PrintWords Go.Proofs.YteepnlofbfccgaaDoorW.PrintLast Go.Proofs.YteepnlofbfccgaaDoorW.PrintMore  Go.Lib
set_option linter.unusedVariables false
set_option linter.unusedSimpArgs false
theorem w64 {x : Int} (h1 : -9223372036854775808 ≤ x) (h2 : x ≤ 9223372036854775807) : wrap64 x = x := by
 unfold wrap64
 omega
theorem obs {α β : Type} (a : α) (f : α → Option β) : (some a).bind f = f a := id (Option.bind_some a f)
def M (l : List UInt8) : ByteArray := ⟨l.toArray⟩
theorem ex_M (b : ByteArray) : ∃ l, b = M l := ⟨b.data.toList, by unfold M; rw [Array.toArray_toList]⟩
theorem M_size (l : List UInt8) : (M l).size = l.length := by simp [M, ByteArray.size]
theorem M_data (l : List UInt8) : (M l).data.toList = l := by simp [M]
theorem M_toList (l : List UInt8) : (M l).toList = l := by rw [ByteArray.toList_eq, M_data]
theorem sc_M (a b : List UInt8) : sc (M a) (M b) = M (a ++ b) := by
 apply ByteArray.ext
 unfold sc M
 rw [ByteArray.data_append]
 simp
theorem sx_M (a : List UInt8) (i j : Nat) : sx (M a) i j = M ((a.drop i).take (j - i)) := by
 apply ByteArray.ext
 unfold sx M
 rw [ByteArray.data_extract]
 simp [List.extract_eq_take_drop]
theorem bt_M (l : List UInt8) (i : Nat) : bt (M l) (i : Int) = ((l.getD i 0).toNat : Int) := by
 have hb := rd_bytesOf (M l) (i : Int)
 rw [← hb]
 unfold rd bytesOf
 rw [M_data, Int.toNat_natCast, List.getD_eq_getElem?_getD, List.getD_eq_getElem?_getD, List.getElem?_map]
 cases l[i]? <;> rfl
theorem drop_at (l : List UInt8) (i : Nat) (h : i < l.length) : l.drop i = l.getD i 0 :: l.drop (i + 1) := by
 rw [List.drop_eq_getElem_cons h, List.getD_eq_getElem?_getD, List.getElem?_eq_getElem h]
 rfl
theorem byte_eq (x : UInt8) (c : Nat) (hc : c < 256) : ((x.toNat : Int) = (c : Int)) ↔ x = UInt8.ofNat c := by
 constructor
 ·
  intro h
  apply UInt8.toNat_inj.1
  rw [UInt8.toNat_ofNat']
  omega
 ·
  rintro rfl
  rw [UInt8.toNat_ofNat']
  omega
theorem l1In_eq (a b c : Int) : spec_l1In.f a b c = some (decide (b ≤ a ∧ a ≤ c)) := by
 unfold spec_l1In.f
 by_cases h : b ≤ a
 ·
  rw [if_pos h]; simp [h]
 ·
  rw [if_neg (by omega)]; simp [h]
theorem within_eq (a b c : Int) : impl_within.f a b c = some (decide (b ≤ a ∧ a ≤ c)) := by
 unfold impl_within.f
 by_cases h : b ≤ a
 ·
  rw [if_pos h]; simp [h]
 ·
  rw [if_neg (by omega)]; simp [h]
end Go.Proofs.YteepnlofbfccgaaDoor.Pr.Pure

namespace Go.Proofs.YteepnlofbfccgaaDoor.Pr.Pure
open Go.RowKit Go.Proofs.YteepnlofbfccgaaDoorW.PrintWords Go.Proofs.YteepnlofbfccgaaDoorW.PrintLast Go.Proofs.YteepnlofbfccgaaDoorW.PrintMore Go.Lib
set_option linter.unusedVariables false
set_option linter.unusedSimpArgs false
def small (x : UInt8) : Bool := decide (97 ≤ x.toNat) && decide (x.toNat ≤ 122)
def isW (l : List UInt8) : Bool := decide (1 ≤ l.length) && decide (l.length ≤ 10) && l.all small
theorem word_l0 (l : List UInt8) (hl : l.length ≤ 4611686018427387904) (d : Nat) : ∀ (k i : Nat), i + d = l.length → d < k → spec_l2Word.l0 k (M l) i = some (decide (1 ≤ l.length) && decide (l.length ≤ 10) && (l.drop i).all small) := by
 induction d with
 | zero =>
  intro k i hd hk
  obtain ⟨k, rfl⟩ : ∃ m, k = m + 1 := ⟨k - 1, by omega⟩
  simp only [spec_l2Word.l0]
  rw [M_size, if_neg (by omega), List.drop_of_length_le (by omega), l1In_eq, obs]
  simp only [List.all_nil, Bool.and_true]
  congr 1
  rw [Bool.eq_iff_iff]
  simp
  omega
 | succ d ih =>
  intro k i hd hk
  obtain ⟨k, rfl⟩ : ∃ m, k = m + 1 := ⟨k - 1, by omega⟩
  simp only [spec_l2Word.l0]
  rw [M_size, if_pos (by omega), if_pos (by omega), bt_M, drop_at l i (by omega)]
  generalize l.getD i 0 = x
  rw [w64 (by omega) (by omega)]
  have ih' := ih k (i + 1) (by omega) (by omega)
  rw [show ((i + 1 : Nat) : Int) = (i : Int) + 1 by omega] at ih'
  rw [List.all_cons]
  by_cases h1 : (x.toNat : Int) < 97
  ·
   have : small x = false := by
    unfold small
    have : ¬ 97 ≤ x.toNat := by omega
    simp [this]
   rw [if_pos h1, this]
   simp
  ·
   rw [if_neg h1]
   by_cases h2 : (x.toNat : Int) > 122
   ·
    have : small x = false := by
     unfold small
     have : ¬ x.toNat ≤ 122 := by omega
     simp [this]
    rw [if_pos h2, this]
    simp
   ·
    have : small x = true := by
     unfold small
     have a : 97 ≤ x.toNat := by omega
     have b : x.toNat ≤ 122 := by omega
     simp [a, b]
    rw [if_neg h2, ih', this, Bool.true_and]
theorem word_spec (l : List UInt8) (hl : l.length ≤ 4611686018427387904) {k : Nat} (hk : l.length < k) : spec_l2Word.f k (M l) = some (isW l) := by
 unfold spec_l2Word.f isW
 simpa using word_l0 l hl l.length k 0 (by omega) hk
def letters : List UInt8 := [97, 98, 99, 100, 101, 102, 103, 104, 105, 106, 107, 108, 109, 110, 111, 112, 113, 114, 115, 116, 117, 118, 119, 120, 121, 122]
set_option maxRecDepth 100000 in
theorem letters_small (x : UInt8) : letters.contains x = small x := by
 have : ∀ n : Nat, n < 256 → letters.contains (UInt8.ofNat n) = small (UInt8.ofNat n) := by decide
 have h := this x.toNat x.toNat_lt
 rwa [show UInt8.ofNat x.toNat = x from UInt8.ofNat_toNat] at h
theorem drop_all {p : UInt8 → Bool} : ∀ l : List UInt8, l.dropWhile p = [] ↔ l.all p = true
 | [] => by simp
 | x :: l => by
  by_cases h : p x = true
  ·
   rw [List.dropWhile_cons_of_pos h, drop_all l]
   simp [h]
  ·
   rw [List.dropWhile_cons_of_neg h]
   simp [h]
theorem trim_nil (l : List UInt8) : trimS l letters = [] ↔ l.all small = true := by
 have hp : (fun x => letters.contains x) = small := funext letters_small
 unfold trimS trimLeftS trimRightS
 rw [hp, drop_all]
 constructor
 ·
  intro h
  rw [List.all_reverse] at h
  have h2 : (l.reverse.dropWhile small).all small = true := h
  have h3 : l.reverse.all small = true := by
   rw [← drop_all]
   have h4 := (drop_all _).2 h2
   have : ∀ m : List UInt8, (m.dropWhile small).dropWhile small = m.dropWhile small := by
    intro m
    induction m with
    | nil => rfl
    | cons x m ih =>
     by_cases h : small x = true
     ·
      rw [List.dropWhile_cons_of_pos h, ih]
     ·
      rw [List.dropWhile_cons_of_neg h, List.dropWhile_cons_of_neg h]
   rw [this] at h4
   exact h4
  rwa [List.all_reverse] at h3
 ·
  intro h
  have h3 : l.reverse.all small = true := by rwa [List.all_reverse]
  rw [(drop_all _).2 h3]
  rfl
theorem word_impl (l : List UInt8) (hl : l.length ≤ 4611686018427387904) : impl_isWord.f (M l) = some (isW l) := by
 unfold impl_isWord.f isW
 rw [M_size]
 by_cases h1 : (l.length : Int) ≥ 1
 ·
  rw [if_pos h1]
  by_cases h2 : (l.length : Int) ≤ 10
  ·
   have ht : strings_Trim.f (M l) (M letters) = some (M (trimS l letters)) := by
    unfold strings_Trim.f
    rw [M_size, M_size, M_data, M_data, if_pos (by omega), if_pos (by decide), if_pos (by decide)]
    rfl
   rw [if_pos h2, show (⟨#[97, 98, 99, 100, 101, 102, 103, 104, 105, 106, 107, 108, 109, 110, 111, 112, 113, 114, 115, 116, 117, 118, 119, 120, 121, 122]⟩ : ByteArray) = M letters from rfl, ht, obs, M_toList]
   congr 1
   rw [Bool.eq_iff_iff]
   have a : 1 ≤ l.length := by omega
   have b : l.length ≤ 10 := by omega
   simp only [a, b, decide_true, Bool.true_and, beq_iff_eq]
   exact trim_nil l
  ·
   rw [if_neg h2]
   have b : ¬ l.length ≤ 10 := by omega
   simp [b]
 ·
  rw [if_neg h1]
  have b : ¬ 1 ≤ l.length := by omega
  simp only [b, decide_false, Bool.false_and]
def row (l : List UInt8) (L D G : Int) : Bool := isW l && decide (0 ≤ L ∧ L ≤ 1000000) && decide (0 ≤ D ∧ D ≤ mn 20000 L) && decide (0 ≤ G ∧ G ≤ 9999) && ((G == 0) == (L == 0))
theorem row_facts {l : List UInt8} {L D G : Int} (h : row l L D G = true) : isW l = true ∧ 0 ≤ L ∧ L ≤ 1000000 ∧ 0 ≤ D ∧ D ≤ mn 20000 L ∧ 0 ≤ G ∧ G ≤ 9999 := by
 unfold row at h
 simp only [Bool.and_eq_true, decide_eq_true_eq] at h
 obtain ⟨⟨⟨⟨a, b, c⟩, d, e⟩, f, g⟩, _⟩ := h
 exact ⟨a, b, c, d, e, f, g⟩
theorem row_eq (l : List UInt8) (L D G : Int) (hl : l.length ≤ 4611686018427387904) : impl_IsCaveRow.f (M l) L D G = some (row l L D G) := by
 unfold impl_IsCaveRow.f row
 rw [word_impl l hl, obs]
 cases isW l with
 | false => rfl
 | true =>
  rw [if_pos rfl, within_eq, obs]
  cases decide (0 ≤ L ∧ L ≤ 1000000) with
  | false => rfl
  | true =>
   rw [if_pos rfl, within_eq, obs]
   cases decide (0 ≤ D ∧ D ≤ mn 20000 L) with
   | false => rfl
   | true =>
    rw [if_pos rfl, within_eq, obs]
    cases decide (0 ≤ G ∧ G ≤ 9999) with
    | false => rfl
    | true => rfl
theorem least_eq (a b : Int) : spec_l1Least.f a b = some (mn a b) := by
 unfold spec_l1Least.f mn
 split <;> split <;> first | rfl | (congr 1; omega)
theorem one_eq (l : List UInt8) (L D G : Int) (hl : l.length ≤ 4611686018427387904) {k : Nat} (hk : l.length < k) : spec_l26One.f k (M l) L D G = some (row l L D G) := by
 unfold spec_l26One.f row
 rw [word_spec l hl hk, obs]
 cases isW l with
 | false => rfl
 | true =>
  rw [if_pos rfl, l1In_eq, obs]
  cases decide (0 ≤ L ∧ L ≤ 1000000) with
  | false => rfl
  | true =>
   rw [if_pos rfl, least_eq, obs, l1In_eq, obs]
   cases decide (0 ≤ D ∧ D ≤ mn 20000 L) with
   | false => rfl
   | true =>
    rw [if_pos rfl, l1In_eq, obs]
    cases decide (0 ≤ G ∧ G ≤ 9999) with
    | false => rfl
    | true => rfl
def rowB (x : S26) : Bool := row x.f0.data.toList x.f1 x.f2 x.f3
theorem rowB_spec (x : S26) (hx : x.f0.size ≤ 1048576) {k : Nat} (hk : 1048576 < k) : spec_l26One.f k x.f0 x.f1 x.f2 x.f3 = some (rowB x) := by
 obtain ⟨l, hl⟩ := ex_M x.f0
 unfold rowB
 rw [hl] at hx ⊢
 rw [M_size] at hx
 rw [M_data]
 exact one_eq l _ _ _ (by omega) (by omega)
theorem rowB_impl (x : S26) (hx : x.f0.size ≤ 1048576) : impl_IsCaveRow.f x.f0 x.f1 x.f2 x.f3 = some (rowB x) := by
 obtain ⟨l, hl⟩ := ex_M x.f0
 unfold rowB
 rw [hl] at hx ⊢
 rw [M_size] at hx
 rw [M_data]
 exact row_eq l _ _ _ (by omega)
theorem rdRow_mem (l : List S26) {i : Int} (h0 : 0 ≤ i) (h1 : i < l.length) : rd_T26 l i ∈ l := by
 show l.getD i.toNat _ ∈ l
 rw [List.getD_eq_getElem?_getD, List.getElem?_eq_getElem (by omega)]
 exact List.getElem_mem _
def rowsF (l : List S26) : Nat → Int → Bool
 | 0, _ => decide ((l.length : Int) ≤ 10)
 | d + 1, i => if rowB (rd_T26 l i) = true then (if i > 0 then (if Op.bytesLess ((rd_T26 l (i - 1)).f0).toList ((rd_T26 l i).f0).toList = true then rowsF l d (i + 1) else false) else rowsF l d (i + 1)) else false
theorem rowsF_succ (l : List S26) (d : Nat) (i : Int) : rowsF l (d + 1) i = if rowB (rd_T26 l i) = true then (if i > 0 then (if Op.bytesLess ((rd_T26 l (i - 1)).f0).toList ((rd_T26 l i).f0).toList = true then rowsF l d (i + 1) else false) else rowsF l d (i + 1)) else false := rfl
theorem goodC_l0 (l : List S26) (hs : ∀ x, x ∈ l → x.f0.size ≤ 1048576) (hl : l.length ≤ 1048576) (d : Nat) : ∀ (k : Nat) (i : Int), 0 ≤ i → i + d = l.length → 1048577 + d < k →
  spec_l26Good.l0 k l i = some (rowsF l d i) := by
 induction d with
 | zero =>
  intro k i h0 hd hk
  obtain ⟨k, rfl⟩ : ∃ m, k = m + 1 := ⟨k - 1, by omega⟩
  simp only [spec_l26Good.l0]
  rw [if_neg (by omega)]
  rfl
 | succ d ih =>
  intro k i h0 hd hk
  obtain ⟨k, rfl⟩ : ∃ m, k = m + 1 := ⟨k - 1, by omega⟩
  simp only [spec_l26Good.l0]
  rw [if_pos (by omega), if_pos h0, rowB_spec _ (hs _ (rdRow_mem l h0 (by omega))) (by omega), obs, w64 (x := i + 1) (by omega) (by omega), w64 (x := i - 1) (by omega) (by omega), ih k (i + 1) (by omega) (by omega) (by omega)]
  rw [rowsF_succ]
  cases rowB (rd_T26 l i) with
  | false => rfl
  | true =>
   rw [if_pos rfl, if_pos rfl]
   by_cases c : i > 0
   ·
    rw [if_pos c, if_pos c, if_pos (by omega), if_pos (by omega)]
    cases Op.bytesLess ((rd_T26 l (i - 1)).f0).toList ((rd_T26 l i).f0).toList <;> rfl
   ·
    rw [if_neg c, if_neg c]
theorem areC_l0 (l : List S26) (hs : ∀ x, x ∈ l → x.f0.size ≤ 1048576) (hl : l.length ≤ 1048576) (d : Nat) : ∀ (k : Nat) (i : Int), 0 ≤ i → i + d = l.length → d < k →
  impl_AreCaves.l0 k l l (l.length : Int) i = some (rowsF l d i) := by
 induction d with
 | zero =>
  intro k i h0 hd hk
  obtain ⟨k, rfl⟩ : ∃ m, k = m + 1 := ⟨k - 1, by omega⟩
  simp only [impl_AreCaves.l0]
  rw [if_neg (by omega)]
  rfl
 | succ d ih =>
  intro k i h0 hd hk
  obtain ⟨k, rfl⟩ : ∃ m, k = m + 1 := ⟨k - 1, by omega⟩
  simp only [impl_AreCaves.l0]
  rw [if_pos (by omega), if_pos h0, if_pos (by omega), rowB_impl _ (hs _ (rdRow_mem l h0 (by omega))), obs, w64 (x := i + 1) (by omega) (by omega), w64 (x := i - 1) (by omega) (by omega), ih k (i + 1) (by omega) (by omega) (by omega)]
  rw [rowsF_succ]
  cases rowB (rd_T26 l i) with
  | false => rfl
  | true =>
   rw [if_pos rfl, if_pos rfl]
   by_cases c : i > 0
   ·
    rw [if_pos c, if_pos c, if_pos (by omega), if_pos (by omega)]
    cases Op.bytesLess ((rd_T26 l (i - 1)).f0).toList ((rd_T26 l i).f0).toList <;> rfl
   ·
    rw [if_neg c, if_neg c]
def caves (l : List S26) : Bool := rowsF l l.length 0
theorem goodC_eq {l : List S26} (hs : ∀ x, x ∈ l → x.f0.size ≤ 1048576) (hl : l.length ≤ 1048576) {k : Nat} (hk : 1048577 + l.length < k) : spec_l26Good.f k l = some (caves l) := by
 unfold spec_l26Good.f caves
 exact goodC_l0 l hs hl l.length k 0 (by omega) (by omega) hk
theorem areC_eq {l : List S26} (hs : ∀ x, x ∈ l → x.f0.size ≤ 1048576) (hl : l.length ≤ 1048576) {k : Nat} (hk : l.length < k) : impl_AreCaves.f k l = some (caves l) := by
 unfold impl_AreCaves.f caves
 exact areC_l0 l hs hl l.length k 0 (by omega) (by omega) hk
end Go.Proofs.YteepnlofbfccgaaDoor.Pr.Pure

namespace Go.Proofs.YteepnlofbfccgaaDoor.Log
open Go.Lib
set_option linter.unusedVariables false
theorem digit_mem (u : Nat) : ∀ b ∈ decDigits u, 48 ≤ b.toNat ∧ b.toNat ≤ 57 := by
 induction u using Nat.strongRecOn with
 | _ u ih =>
  intro b hb
  by_cases h : u < 10
  ·
   rw [decDigits, dif_pos h] at hb
   obtain rfl := List.mem_singleton.1 hb
   simp
   omega
  ·
   rw [decDigits, dif_neg h] at hb
   rcases List.mem_append.1 hb with hb | hb
   ·
    exact ih _ (by omega) b hb
   ·
    obtain rfl := List.mem_singleton.1 hb
    simp
    omega
theorem digits_len_aux (j : Nat) : ∀ u : Nat, u < 10 ^ (j + 1) → (decDigits u).length ≤ j + 1 := by
 induction j with
 | zero =>
  intro u h
  rw [decDigits, dif_pos (by omega)]
  simp
 | succ j ih =>
  intro u h
  by_cases h1 : u < 10
  ·
   rw [decDigits, dif_pos h1]
   simp
  ·
   rw [decDigits, dif_neg h1]
   have : u / 10 < 10 ^ (j + 1) := by
    rw [Nat.pow_succ] at h
    omega
   have := ih _ this
   simp
   omega
end Go.Proofs.YteepnlofbfccgaaDoor.Log

namespace Go.Proofs.YteepnlofbfccgaaDoor.Pr.Pure
open Go.RowKit Go.Proofs.YteepnlofbfccgaaDoorW.PrintWords Go.Proofs.YteepnlofbfccgaaDoorW.PrintLast Go.Proofs.YteepnlofbfccgaaDoorW.PrintMore Go.Proofs.YteepnlofbfccgaaDoor.Log Go.Lib
set_option linter.unusedVariables false
set_option linter.unusedSimpArgs false
theorem itoa_nat (n : Nat) : itoa (n : Int) = decDigits n := by
 unfold itoa
 rw [if_neg (by omega), Int.toNat_natCast]
theorem decimal_eq {a : Int} (h0 : -9223372036854775808 ≤ a) (h1 : a ≤ 9223372036854775807) : impl_decimal.f a = some (M (itoa a)) := by
 unfold impl_decimal.f strconv_Itoa_110.f
 rw [if_pos h0, if_pos h1]
 rfl
theorem dig_at (n : Nat) (h : n < 10) : (([48, 49, 50, 51, 52, 53, 54, 55, 56, 57] : List UInt8).drop n).take 1 = [UInt8.ofNat (48 + n)] := by
 match n, h with
 | 0, _ => rfl
 | 1, _ => rfl
 | 2, _ => rfl
 | 3, _ => rfl
 | 4, _ => rfl
 | 5, _ => rfl
 | 6, _ => rfl
 | 7, _ => rfl
 | 8, _ => rfl
 | 9, _ => rfl
theorem num_small (k n : Nat) (h : n < 10) : spec_l1Num.f (k + 1) (n : Int) = some (M (decDigits n)) := by
 rw [spec_l1Num.f, if_neg (by omega), if_pos (by omega), if_pos (by omega), w64 (by omega) (by omega), if_pos (by omega), if_pos (by omega), show (⟨#[48, 49, 50, 51, 52, 53, 54, 55, 56, 57]⟩ : ByteArray) = M [48, 49, 50, 51, 52, 53, 54, 55, 56, 57] from rfl, sx_M, show ((n : Int) + 1).toNat - (n : Int).toNat = 1 by omega, Int.toNat_natCast, dig_at n h, decDigits, dif_pos h]
theorem num_div (n : Nat) (hn : n ≤ 1000000000000000000) : wrap64 (Int.tdiv (n : Int) 10) = ((n / 10 : Nat) : Int) := by
  rw [Int.tdiv_eq_ediv_of_nonneg (by omega)]
  unfold wrap64
  omega
theorem num_mod (n : Nat) : Int.tmod (n : Int) 10 = ((n % 10 : Nat) : Int) := by
  rw [Int.tmod_eq_emod_of_nonneg (by omega)]
  omega
theorem num_app (n : Nat) (h10 : ¬ n < 10) : decDigits n = decDigits (n / 10) ++ [UInt8.ofNat (48 + n % 10)] := by
  conv => lhs; rw [decDigits, dif_neg h10]
theorem num_dig (q : Nat) (hm : q < 10) : sx (⟨#[48, 49, 50, 51, 52, 53, 54, 55, 56, 57]⟩ : ByteArray) ((q : Int).toNat) ((wrap64 ((q : Int) + 1) : Int).toNat) = M [UInt8.ofNat (48 + q)] := by
 rw [w64 (by omega) (by omega), show (⟨#[48, 49, 50, 51, 52, 53, 54, 55, 56, 57]⟩ : ByteArray) = M [48, 49, 50, 51, 52, 53, 54, 55, 56, 57] from rfl, sx_M, show ((q : Int) + 1).toNat - (q : Int).toNat = 1 by omega, Int.toNat_natCast, dig_at q hm]
theorem num_unf (k : Nat) (a0 : Int) (D d : ByteArray) (q : Int) (h : ¬ a0 < 0) (h2 : ¬ a0 < 10) (hq : Int.tmod a0 10 = q) (hb : spec_l1Num.f k (wrap64 (Int.tdiv a0 10)) = some D) (c1 : 0 ≤ q) (c2 : q ≤ wrap64 (q + 1)) (c3 : wrap64 (q + 1) ≤ 10)
  (hd : sx (⟨#[48, 49, 50, 51, 52, 53, 54, 55, 56, 57]⟩ : ByteArray) ((q : Int).toNat) ((wrap64 (q + 1) : Int).toNat) = d) (c4 : D.size + d.size ≤ 9223372036854775807) : spec_l1Num.f (k + 1) a0 = some (sc D d) := by
 subst hd
 subst hq
 rw [spec_l1Num.f, if_neg h, if_neg h2, hb, Option.bind_some, if_pos c1, if_pos c2, if_pos c3, if_pos c4]
theorem num_step (k n : Nat) (h10 : ¬ n < 10) (hn : n ≤ 1000000000000000000) (ih : spec_l1Num.f k ((n / 10 : Nat) : Int) = some (M (decDigits (n / 10)))) (hl : (decDigits (n / 10)).length ≤ 40) : spec_l1Num.f (k + 1) (n : Int) = some (M (decDigits n)) := by
 have hq : n % 10 < 10 := Nat.mod_lt _ (by omega)
 have hw : wrap64 (((n % 10 : Nat) : Int) + 1) = ((n % 10 : Nat) : Int) + 1 := w64 (by omega) (by omega)
 have := num_unf k n (M (decDigits (n / 10))) (M [UInt8.ofNat (48 + n % 10)]) ((n % 10 : Nat) : Int) (by omega) (by omega) (num_mod n) (by rw [num_div n hn]; exact ih) (by omega) (by rw [hw]; omega) (by rw [hw]; omega) (num_dig _ hq) (by rw [M_size, M_size]; simp only [List.length_cons, List.length_nil]; omega)
 rw [this, sc_M, ← num_app n h10]
theorem num_of {n k : Nat} (h : n ≤ 1000000000000000000) (hk : 20 ≤ k) : spec_l1Num.f k (n : Int) = some (M (decDigits n)) := by
 have all : ∀ (j k n : Nat), n ≤ 1000000000000000000 → n < 10 ^ (j + 1) → j ≤ 19 → j < k → spec_l1Num.f k (n : Int) = some (M (decDigits n)) := by
  intro j
  induction j with
  | zero =>
   intro k n h hj h19 hk
   obtain ⟨k, rfl⟩ : ∃ m, k = m + 1 := ⟨k - 1, by omega⟩
   exact num_small k n (by omega)
  | succ j ih =>
   intro k n h hj h19 hk
   obtain ⟨k, rfl⟩ : ∃ m, k = m + 1 := ⟨k - 1, by omega⟩
   by_cases h10 : n < 10
   ·
    exact num_small k n h10
   ·
    have hd : n / 10 < 10 ^ (j + 1) := by
     rw [Nat.pow_succ] at hj
     omega
    exact num_step k n h10 h (ih k (n / 10) (by omega) hd (by omega) (by omega)) (Nat.le_trans (digits_len_aux j (n / 10) hd) (by omega))
 exact all 19 k n h (Nat.lt_of_le_of_lt h (by decide)) (by omega) (by omega)
end Go.Proofs.YteepnlofbfccgaaDoor.Pr.Pure

