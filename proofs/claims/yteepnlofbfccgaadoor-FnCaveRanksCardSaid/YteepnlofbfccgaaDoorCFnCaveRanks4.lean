/-
What is proved: parts of the law FnCaveRanks: what the functions that it reaches compute, and the plain law.
Conditions: those of each theorem.
-/
import Derived.ChangeArms
import Derived.ChangeSlices
import Derived.Deep.Slices
import Derived.RowKit
import Derived.SizedLaws
import Derived.WideShapes
import Derived.Test.YteepnlofbfccgaaDoorCFnCaveRanks3
namespace Go.Proofs.YteepnlofbfccgaaDoor.Pr
open Go.RowKit Go.Proofs.YteepnlofbfccgaaDoorW.PrintWords Go.Proofs.YteepnlofbfccgaaDoorW.PrintLast Go.Proofs.YteepnlofbfccgaaDoorW.PrintMore
attribute [local go_sem] max2_int min2_int max_two min_two max_three min_three max_four min_four   -- for this text's walks alone
set_option linter.unusedVariables false
set_option linter.unusedSimpArgs false
def spec_l1Cur_name26.f (s0_0 : List Int) (s0_1 : Int) (s0_2 : Int) : Option (ByteArray × Int × Int) := (spec_l1Cur_of.f s0_0 s0_1 s0_2 (([(⟨#[97, 114, 99, 104]⟩ : ByteArray), (⟨#[98, 108, 117, 102, 102]⟩ : ByteArray), (⟨#[99, 108, 101, 102, 116]⟩ : ByteArray), (⟨#[100, 101, 110]⟩ : ByteArray), (⟨#[107, 97, 114, 115, 116]⟩ : ByteArray), (⟨#[109, 97, 122, 101]⟩ : ByteArray), (⟨#[110, 111, 110, 101]⟩ : ByteArray)] : List ByteArray))).bind fun bt683 => (some (bt683.1, bt683.2.1, bt683.2.2))
set_option maxHeartbeats 8000000 in
set_option maxRecDepth 100000 in
theorem spec_l1Cur_name26.calls (g : Nat) (s0_0 : List Int) (s0_1 : Int) (s0_2 : Int) (r1 : ByteArray) (r2 : Int) (r3 : Int) (w0 w : World) (hI : IsS93 w0 w g s0_0 s0_1 s0_2) (hB : Below w0.heap.size w0 w) (h : spec_l1Cur_name26.f s0_0 s0_1 s0_2 = some (r1, r2, r3)) :
  Calls Tryd.prog 84 #[.pointer (some ⟨g, 0, none⟩)] w fun e w' => e = .returned (.string r1) ∧ IsS93 w0 w' g s0_0 r2 r3 ∧ Below w0.heap.size w0 w' ∧ KeepBut w w' g none := by
 have HI0 := Aside0.mk hI
 have HK := Aside0.mk (KeepBut.refl w g none)
 have HL := Aside0.mk hB.size
 clear hI
 have HW0 := Aside0.mk hB.size
 have HB := Aside0.mk hB
 clear hB
 have H : ((spec_l1Cur_of.f s0_0 s0_1 s0_2 (([(⟨#[97, 114, 99, 104]⟩ : ByteArray), (⟨#[98, 108, 117, 102, 102]⟩ : ByteArray), (⟨#[99, 108, 101, 102, 116]⟩ : ByteArray), (⟨#[100, 101, 110]⟩ : ByteArray), (⟨#[107, 97, 114, 115, 116]⟩ : ByteArray), (⟨#[109, 97, 122, 101]⟩ : ByteArray), (⟨#[110, 111, 110, 101]⟩ : ByteArray)] : List ByteArray))).bind fun bt683 => (some (bt683.1, bt683.2.1, bt683.2.2))) = some (r1, r2, r3) := h
 clear h
 obtain ⟨y680, hy680⟩ : ∃ y_ : List ByteArray, y_ = (([(⟨#[97, 114, 99, 104]⟩ : ByteArray), (⟨#[98, 108, 117, 102, 102]⟩ : ByteArray), (⟨#[99, 108, 101, 102, 116]⟩ : ByteArray), (⟨#[100, 101, 110]⟩ : ByteArray), (⟨#[107, 97, 114, 115, 116]⟩ : ByteArray), (⟨#[109, 97, 122, 101]⟩ : ByteArray), (⟨#[110, 111, 110, 101]⟩ : ByteArray)] : List ByteArray)) := ⟨_, rfl⟩
 replace H : ((spec_l1Cur_of.f s0_0 s0_1 s0_2 y680).bind fun bt683 => (some (bt683.1, bt683.2.1, bt683.2.2))) = some (r1, r2, r3) := by first | (rw [hy680]; with_reducible exact H) | (have H2_ := (Option.bind_some _ _).symm.trans H; rw [hy680]; with_reducible exact H2_) | (have H2_ := (Option.bind_some _ _).symm.trans H; with_reducible exact H2_) | with_reducible exact H | (rw [hy680]; exact H) | exact H
 have Ny680 := Aside0.mk hy680
 clear hy680
 replace H := Option.bind_eq_some_iff.mp H
 obtain ⟨⟨t683, t684, t685⟩, A20, H⟩ := H
 replace H : (some (t683, t684, t685)) = some (r1, r2, r3) := H
 have A2 := Aside0.mk A20
 clear A20
 simp only [Option.some.injEq, Prod.mk.injEq] at H
 obtain ⟨rfl, rfl, rfl⟩ := H
 go_enter Tryd.func84, Tryd.ntmps84
 go_wp2_with (first | ((with_reducible refine gate_dst (N := 4) rfl ?_); refine Kd.R_lit Kd.string _ 9 ?hg (N := 4) ?hd (xs := ([(⟨#[97, 114, 99, 104]⟩ : ByteArray), (⟨#[98, 108, 117, 102, 102]⟩ : ByteArray), (⟨#[99, 108, 101, 102, 116]⟩ : ByteArray), (⟨#[100, 101, 110]⟩ : ByteArray), (⟨#[107, 97, 114, 115, 116]⟩ : ByteArray), (⟨#[109, 97, 122, 101]⟩ : ByteArray), (⟨#[110, 111, 110, 101]⟩ : ByteArray)] : List ByteArray)) (inner := [.string (⟨#[97, 114, 99, 104]⟩ : ByteArray), .string (⟨#[98, 108, 117, 102, 102]⟩ : ByteArray), .string (⟨#[99, 108, 101, 102, 116]⟩ : ByteArray), .string (⟨#[100, 101, 110]⟩ : ByteArray), .string (⟨#[107, 97, 114, 115, 116]⟩ : ByteArray), .string (⟨#[109, 97, 122, 101]⟩ : ByteArray), .string (⟨#[110, 111, 110, 101]⟩ : ByteArray)]) (ok := fun _ => True) (okp := fun _ => True) ?hr ?hp (fun _ hk => hk) trivial (Below.refl _ _) (Nat.le_refl _) (by simp) ?_; (case hd => rfl); (case hg => rfl); (case hr => first | (go_simp; done) | (go_simp; rfl)); (case hp => exact (Reps.one (show Kd.M Kd.string _ _ _ (⟨#[97, 114, 99, 104]⟩ : ByteArray) [.string (⟨#[97, 114, 99, 104]⟩ : ByteArray)] from rfl) (Reps.one (show Kd.M Kd.string _ _ _ (⟨#[98, 108, 117, 102, 102]⟩ : ByteArray) [.string (⟨#[98, 108, 117, 102, 102]⟩ : ByteArray)] from rfl) (Reps.one (show Kd.M Kd.string _ _ _ (⟨#[99, 108, 101, 102, 116]⟩ : ByteArray) [.string (⟨#[99, 108, 101, 102, 116]⟩ : ByteArray)] from rfl) (Reps.one (show Kd.M Kd.string _ _ _ (⟨#[100, 101, 110]⟩ : ByteArray) [.string (⟨#[100, 101, 110]⟩ : ByteArray)] from rfl) (Reps.one (show Kd.M Kd.string _ _ _ (⟨#[107, 97, 114, 115, 116]⟩ : ByteArray) [.string (⟨#[107, 97, 114, 115, 116]⟩ : ByteArray)] from rfl) (Reps.one (show Kd.M Kd.string _ _ _ (⟨#[109, 97, 122, 101]⟩ : ByteArray) [.string (⟨#[109, 97, 122, 101]⟩ : ByteArray)] from rfl) (Reps.one (show Kd.M Kd.string _ _ _ (⟨#[110, 111, 110, 101]⟩ : ByteArray) [.string (⟨#[110, 111, 110, 101]⟩ : ByteArray)] from rfl) (Reps.none _ _))))))))); intro v681 w3 ho4 hb hg_ hnew_; clear hg_ hnew_; (first | rw [← Ny680.out] at ho4 | (simp only [Int.reduceToNat] at ho4; rw [← Ny680.out] at ho4)); have n0_ := Aside0.mk (Kd.R_lower ho4 (keep_size (w := w) (g := g) (row := none) (by repeat (first | (with_reducible first | exact HK.out | apply KeepBut.set_ | apply keep_drewN | apply keep_drew | apply keep_alloc) | exact HK.out)))); have n1_ := Aside0.mk (IsS93.below (by repeat (first | (with_reducible first | exact HI0.out | apply IsS93.alloc | apply IsS93.drewN | apply IsS93.drew | apply IsS93.set_1 | apply IsS93.set_2) | exact HI0.out)) hb); have n2_ := Aside0.mk (KeepBut.trans (by repeat (first | (with_reducible first | exact HK.out | apply KeepBut.set_ | apply keep_drewN | apply keep_drew | apply keep_alloc) | exact HK.out)) (KeepBut.of_below hb g none) (.inl rfl)); have n3_ := Aside0.mk (below_step (by repeat (first | (with_reducible first | exact HB.out | apply below_alloc | apply pw_below_drewN | apply below_drew1 | refine below_set ?_ (IsS93.ge HI0.out)) | exact HB.out)) hb); clear HI0; clear HK; clear HB; have HO682 := n0_; have HI0 := n1_; have HK := n2_; have HB := n3_; clear n0_ n1_ n2_ n3_; clear hb ho4; obtain ⟨Ao5, co5, eo5⟩ := Kd.R_slice HO682.out; subst eo5) | ((with_reducible refine gate_callee (f := 101) rfl ?_); refine ga_ (some 5) Tryd.func101 #[.pointer (some ⟨g, 0, none⟩), .slice Ao5 y680.length co5] ?_; (with_reducible refine (spec_l1Cur_of.calls g s0_0 s0_1 s0_2 _ _ y680 t683 t684 t685 w0 _ ?side1 ?side2 ?side3 ?side4 ?side5 A2.out).mono ?_); (case side1 => repeat (first | (with_reducible first | exact HI0.out | apply IsS93.alloc | apply IsS93.drewN | apply IsS93.drew | apply IsS93.set_1 | apply IsS93.set_2) | exact HI0.out)); (case side2 => repeat (first | (with_reducible first | exact HB.out | apply below_alloc | apply pw_below_drewN | apply below_drew1 | refine below_set ?_ (IsS93.ge HI0.out)) | exact HB.out)); (case side3 => exact kc_ (Kd.R_reads' HO682.out).2.2); (case side4 => exact (Kd.R_reads' HO682.out).2.1); (case side5 => exact far_slice (IsS93.own_ne HI0.out HO682.out (by decide))); rintro e w6 ⟨rfl, hi, hb, hk⟩; refine ⟨_, rfl, ?_⟩; have n0_ := Aside0.mk (Kd.R_mono (Kd.R_keep (IsS93.apart (show IsS93 w0 _ g s0_0 s0_1 s0_2 from by repeat (first | (with_reducible first | exact HI0.out | apply IsS93.alloc | apply IsS93.drewN | apply IsS93.drew | apply IsS93.set_1 | apply IsS93.set_2) | exact HI0.out)) (kr_ HO682.out) (by decide)) hk (fun _ h => h.2)) (fun _ h => h.1)); have n1_ := Aside0.mk (KeepBut.trans (by repeat (first | (with_reducible first | exact HK.out | apply KeepBut.set_ | apply keep_drewN | apply keep_drew | apply keep_alloc) | exact HK.out)) hk (.inl rfl)); have n2_ := Aside0.mk (hb); have n3_ := Aside0.mk (hi); clear HO682; clear HK; clear HB; clear HI0; have HO682 := n0_; have HK := n1_; have HB := n2_; have HI0 := n3_; clear n0_ n1_ n2_ n3_; (try clear hb); (try clear hb2); (try clear hk); (try clear hi)))
 go_ret
 exact ⟨rr_, by repeat (first | (with_reducible first | exact HI0.out | apply IsS93.alloc | apply IsS93.drewN | apply IsS93.drew | apply IsS93.set_1 | apply IsS93.set_2) | exact HI0.out), by repeat (first | (with_reducible first | exact HB.out | apply below_alloc | apply pw_below_drewN | apply below_drew1 | refine below_set ?_ (IsS93.ge HI0.out)) | exact HB.out), by repeat (first | (with_reducible first | exact HK.out | apply KeepBut.set_ | apply keep_drewN | apply keep_drew | apply keep_alloc) | exact HK.out)⟩
def spec_DrawConnectCaves.j0 : Nat → List (S26) → Bool → List Int → Int → Int → Option ((List (S26)) × ByteArray × ByteArray × Int)
 | 0, _, _, _, _, _ => none
 | k + 1, x7, x20, x690000, x690001, x690002 => if x20 = true then ((spec_l1Cur_pick.f x690000 x690001 x690002 (x7.length : Int)).bind fun bt698 => (if 0 ≤ bt698.1 then (if bt698.1 < (x7.length : Int) then ((spec_l1Cur_pick.f x690000 bt698.2.1 bt698.2.2 (x7.length : Int)).bind fun bt702 => (if 0 ≤ bt702.1 then (if bt702.1 < (x7.length : Int) then ((spec_l1Cur_among.f x690000 bt702.2.1 bt702.2.2 (([1, 40, 500] : List Int))).bind fun bt709 => (some (x7, (rd_T26 x7 bt698.1).f0, (rd_T26 x7 bt702.1).f0, bt709.1))) else (none)) else (none))) else (none)) else (none))) else ((spec_l1Cur_name26.f x690000 x690001 x690002).bind fun bt712 => ((spec_l1Cur_name26.f x690000 bt712.2.1 bt712.2.2).bind fun bt715 => ((spec_l1Cur_among.f x690000 bt715.2.1 bt715.2.2 (([1, 40, 500, 0, 501] : List Int))).bind fun bt721 => (some (x7, bt712.1, bt715.1, bt721.1)))))
def spec_DrawConnectCaves.f (k : Nat) (l0 : List Int) : Option ((List (S26)) × ByteArray × ByteArray × Int) := (spec_newCur.f l0).bind fun bt686 => ((spec_l1Cur_caves26.f k bt686.1 bt686.2.1 bt686.2.2).bind fun bt690 => (if (bt690.1.length : Int) > 1 then ((spec_l1Cur_one.f bt686.1 bt690.2.1 bt690.2.2 4).bind fun bt695 => (spec_DrawConnectCaves.j0 k bt690.1 (!bt695.1) bt686.1 bt695.2.1 bt695.2.2)) else (spec_DrawConnectCaves.j0 k bt690.1 false bt686.1 bt690.2.1 bt690.2.2)))
def spec_DrawConnectCaves.T4 : Bool × List (List Nat × List Nat) := (true, [([], []), ([], []), ([], []), ([], []), ([3], [3]), ([2, 4], [2, 4]), ([1, 5], [1, 5]), ([6], [6]), ([7], [7]), ([], []), ([], []), ([], []), ([11], [11]), ([10, 12, 5], [10, 12]), ([9, 13], [9, 13]), ([14], [14]), ([15], [15]), ([], []), ([], []), ([17, 18, 13], [17, 18]), ([0, 19, 0], [0]), ([8, 20, 0, 1, 2, 3, 4, 5, 6, 7, 8, 20], [8]), ([16, 21, 0, 1, 2, 3, 4, 5, 6, 7, 8, 9, 10, 11, 12, 13, 14, 15, 16, 20, 21], [16]), ([19, 22, 0, 1, 2, 3, 4, 5, 6, 7, 8, 9, 10, 11, 12, 13, 14, 15, 16, 17, 18, 19, 20, 21, 22], [19])])
def spec_DrawConnectCaves.B4 : List Nat := [0, 0, 0, 0, 8, 28, 62, 126, 254, 0, 0, 0, 2048, 7228, 15932, 32316, 65084, 0, 0, 408636, 932925, 1981951, 4194303, 8388607]
theorem spec_DrawConnectCaves.tab4 : rtab .any (opsOf Tryd.f46 4) = spec_DrawConnectCaves.T4 := by kernel_rfl
theorem spec_DrawConnectCaves.bits4 : waitsOk spec_DrawConnectCaves.T4.2 spec_DrawConnectCaves.B4 = true := by kernel_rfl
abbrev spec_DrawConnectCaves.mk0 : Array Bool := #[false, false, false, false, false, false, false, false, false, false, false, false, false, false, false, false, false, false, false, false, false, false, false, false]
abbrev spec_DrawConnectCaves.mk1 : Array Bool := #[true, false, false, false, false, false, false, false, false, false, false, false, false, false, false, false, false, false, false, false, false, false, false, false]
abbrev spec_DrawConnectCaves.mk2 : Array Bool := #[true, true, false, false, false, false, false, false, false, false, false, false, false, false, false, false, false, false, false, false, false, false, false, false]
abbrev spec_DrawConnectCaves.mk3 : Array Bool := #[true, true, true, false, false, false, false, false, false, false, false, false, false, false, false, false, false, false, false, false, false, false, false, false]
abbrev spec_DrawConnectCaves.mk4 : Array Bool := #[true, true, true, true, false, false, false, false, false, false, false, false, false, false, false, false, false, false, false, false, false, false, false, false]
abbrev spec_DrawConnectCaves.mk5 : Array Bool := #[true, true, true, true, false, false, false, false, false, true, false, false, false, false, false, false, false, false, false, false, false, false, false, false]
abbrev spec_DrawConnectCaves.mk6 : Array Bool := #[true, true, true, true, false, false, false, false, false, true, true, false, false, false, false, false, false, false, false, false, false, false, false, false]
abbrev spec_DrawConnectCaves.mk7 : Array Bool := #[true, true, true, true, false, false, false, false, false, true, true, true, false, false, false, false, false, false, false, false, false, false, false, false]
abbrev spec_DrawConnectCaves.mk8 : Array Bool := #[true, true, true, true, false, false, false, false, false, true, true, true, false, false, false, false, false, true, false, false, false, false, false, false]
set_option maxHeartbeats 8000000 in
set_option maxRecDepth 100000 in
theorem spec_DrawConnectCaves.calls (k : Nat) (A0 : Option Addr) (c0 : Nat) (l0 : List Int) (r1 : List (S26)) (r2 : ByteArray) (r3 : ByteArray) (r4 : Int) (w : World) (hr0 : Kd.C (Kd.int .u8) w A0 l0.length l0) (hc0 : l0.length ≤ c0) (h : spec_DrawConnectCaves.f k l0 = some (r1, r2, r3, r4)) :
  Calls Tryd.prog 46 #[.slice A0 l0.length c0] w fun e w' => ∃ v0_ : Value, e = .returned (.tuple #[v0_, .string r2, .string r3, .int .i64 r4]) ∧ Kd.R k26 26 w' w.heap.size (fun _ => True) v0_ r1 ∧ Below w.heap.size w w' := by
 have hu93 := Tryd.underlying93
 have HR0 := Aside0.mk hr0
 have HC0 := Aside0.mk hc0
 clear hr0 hc0
 have HB := Aside0.mk (Below.refl w.heap.size w)
 have H : ((spec_newCur.f l0).bind fun bt686 => ((spec_l1Cur_caves26.f k bt686.1 bt686.2.1 bt686.2.2).bind fun bt690 => (if (bt690.1.length : Int) > 1 then ((spec_l1Cur_one.f bt686.1 bt690.2.1 bt690.2.2 4).bind fun bt695 => (spec_DrawConnectCaves.j0 k bt690.1 (!bt695.1) bt686.1 bt695.2.1 bt695.2.2)) else (spec_DrawConnectCaves.j0 k bt690.1 false bt686.1 bt690.2.1 bt690.2.2)))) = some (r1, r2, r3, r4) := h
 clear h
 replace H := Option.bind_eq_some_iff.mp H
 obtain ⟨⟨t686, t687, t688⟩, A20, H⟩ := H
 replace H : ((spec_l1Cur_caves26.f k t686 t687 t688).bind fun bt690 => (if (bt690.1.length : Int) > 1 then ((spec_l1Cur_one.f t686 bt690.2.1 bt690.2.2 4).bind fun bt695 => (spec_DrawConnectCaves.j0 k bt690.1 (!bt695.1) t686 bt695.2.1 bt695.2.2)) else (spec_DrawConnectCaves.j0 k bt690.1 false t686 bt690.2.1 bt690.2.2))) = some (r1, r2, r3, r4) := H
 have A2 := Aside0.mk A20
 clear A20
 replace H := Option.bind_eq_some_iff.mp H
 obtain ⟨⟨t690, t693, t694⟩, A30, H⟩ := H
 replace H : (if (t690.length : Int) > 1 then ((spec_l1Cur_one.f t686 t693 t694 4).bind fun bt695 => (spec_DrawConnectCaves.j0 k t690 (!bt695.1) t686 bt695.2.1 bt695.2.2)) else (spec_DrawConnectCaves.j0 k t690 false t686 t693 t694)) = some (r1, r2, r3, r4) := H
 have A3 := Aside0.mk A30
 clear A30
 have HC4 := Aside0.mk H
 clear H
 go_enter Tryd.func46, Tryd.ntmps46
 go_upto_region 3 with (first | ((with_reducible refine gate_dst (N := 10) rfl ?_); refine box_event ?hg (N := 10) ?hd (cs := #[.slice A0 l0.length c0, .int .i64 0, .int .u64 0]) (t := 93) ?hr ?_; (case hd => rfl); (case hg => rfl); (case hr => first | (go_simp; done) | (go_simp; rfl)); intro g689 hg w5 hbx hb2; have hb := below_step (lb0_ HB.out) hb2; have hi : IsS93 w w5 g689 t686 t687 t688 := (by have hz_ := A2.out; simp only [spec_newCur.f, Option.some.injEq, Prod.mk.injEq] at hz_; rw [← hz_.1, ← hz_.2.1, ← hz_.2.2]; exact ⟨_, _, hbx, (by rw [hg]; exact (below_size (lb0_ HB.out)) : w.heap.size ≤ g689), HR0.out⟩); clear hg hbx; have n0_ := Aside0.mk (hb); have n1_ := Aside0.mk (hi); clear HB; have HB := n0_; have HI689 := n1_; clear n0_ n1_; (try clear hb); (try clear hb2); (try clear hk); (try clear hi)) | ((with_reducible refine gate_callee (f := 80) rfl ?_); refine ga_ (some 12) Tryd.func80 #[.pointer (some ⟨g689, 0, none⟩)] ?_; (with_reducible refine (spec_l1Cur_caves26.calls k g689 t686 t687 t688 t690 t693 t694 w _ ?side1 ?side2 A3.out).mono ?_); (case side1 => repeat (first | (with_reducible first | exact HI689.out | apply IsS93.alloc | apply IsS93.drewN | apply IsS93.drew | apply IsS93.set_1 | apply IsS93.set_2) | exact HI689.out)); (case side2 => repeat (first | (with_reducible first | exact HB.out | apply below_alloc | apply pw_below_drewN | apply below_drew1 | refine below_set ?_ (IsS93.ge HI689.out)) | exact HB.out)); rintro e w6 ⟨v691, rfl, ho0, hi, hb, hk⟩; refine ⟨_, rfl, ?_⟩; have n0_ := Aside0.mk (Kd.R_lower ho0 (below_size (by repeat (first | (with_reducible first | exact HB.out | apply below_alloc | apply pw_below_drewN | apply below_drew1 | refine below_set ?_ (IsS93.ge HI689.out)) | exact HB.out)))); have n1_ := Aside0.mk (hb); have n2_ := Aside0.mk (hi); clear HB; clear HI689; have HO692 := n0_; have HB := n1_; have HI689 := n2_; clear n0_ n1_ n2_; (try clear hb); (try clear hb2); (try clear hk); (try clear hi); (try clear ho0)))
 (try simp only [Act.put, List.setIfInBounds_toArray, List.set_cons_zero, List.set_cons_succ])
 go_cut [20] (fun v20 wc => ∃ (kq : Nat) (x20_3 : Bool) (x690001_3 : Int) (x690002_3 : Int), v20 = .bool x20_3 ∧ Aside0 (spec_DrawConnectCaves.j0 kq t690 x20_3 t686 x690001_3 x690002_3 = some (r1, r2, r3, r4)) ∧ Aside0 (kq ≤ k) ∧ Aside0 (Kd.R k26 26 wc w.heap.size (fun _ => True) v691 t690) ∧ Aside0 (IsS93 w wc g689 t686 x690001_3 x690002_3) ∧ Aside0 (Below w.heap.size w wc))
 case first =>
  have H := HC4.out
  clear HC4
  by_cases c7 : (t690.length : Int) > 1
  ·
   rw [if_pos c7] at H
   have c7b0 : decide (1 < (t690.length : Int)) = true := decide_eq_true c7
   have c7b1 : decide (1 < t690.length) = true := decide_eq_true (by omega)
   clear c7
   (first | rw [c7b0] | (simp only [i64_w, i32_w]; rw [c7b0]) | skip)
   replace H := Option.bind_eq_some_iff.mp H
   obtain ⟨⟨t695, t696, t697⟩, A80, H⟩ := H
   replace H : (spec_DrawConnectCaves.j0 k t690 (!t695) t686 t696 t697) = some (r1, r2, r3, r4) := H
   have A8 := Aside0.mk A80
   clear A80
   have H' := Aside0.mk H
   clear H
   obtain ⟨Ao9, co9, eo9⟩ := Kd.R_slice HO692.out
   subst eo9
   go_wp2_with (first | (go_at_call 81; (with_reducible refine (spec_l1Cur_one.calls g689 t686 t693 t694 4 t695 t696 t697 w _ ?side1 ?side2 A8.out).mono ?_); (case side1 => repeat (first | (with_reducible first | exact HI689.out | apply IsS93.alloc | apply IsS93.drewN | apply IsS93.drew | apply IsS93.set_1 | apply IsS93.set_2) | exact HI689.out)); (case side2 => repeat (first | (with_reducible first | exact HB.out | apply below_alloc | apply pw_below_drewN | apply below_drew1 | refine below_set ?_ (IsS93.ge HI689.out)) | exact HB.out)); rintro e w10 ⟨rfl, hi, hb, hk⟩; have n0_ := Aside0.mk (Kd.R_mono (Kd.R_keep (IsS93.apart (show IsS93 w _ g689 t686 t693 t694 from by repeat (first | (with_reducible first | exact HI689.out | apply IsS93.alloc | apply IsS93.drewN | apply IsS93.drew | apply IsS93.set_1 | apply IsS93.set_2) | exact HI689.out)) (kr_ HO692.out) (by decide)) hk (fun _ h => h.2)) (fun _ h => h.1)); have n1_ := Aside0.mk (hb); have n2_ := Aside0.mk (hi); clear HO692; clear HB; clear HI689; have HO692 := n0_; have HB := n1_; have HI689 := n2_; clear n0_ n1_ n2_; (try clear hb); (try clear hb2); (try clear hk); (try clear hi)))
   go_meet
   case rel => exact ⟨_, (!t695), (t696), (t697), (by first | rfl | (simp; done) | (simp [*]; done)), H', ⟨by first | omega | exact Nat.le_refl _⟩, ⟨kr_ HO692.out⟩, ⟨by repeat (first | (with_reducible first | exact HI689.out | apply IsS93.alloc | apply IsS93.drewN | apply IsS93.drew | apply IsS93.set_1 | apply IsS93.set_2) | exact HI689.out)⟩, ⟨by repeat (first | (with_reducible first | exact HB.out | apply below_alloc | apply pw_below_drewN | apply below_drew1 | refine below_set ?_ (IsS93.ge HI689.out)) | exact HB.out)⟩⟩
  ·
   rw [if_neg c7] at H
   have c7b0 : decide (1 < (t690.length : Int)) = false := decide_eq_false c7
   have c7b1 : decide (1 < t690.length) = false := decide_eq_false (by omega)
   clear c7
   (first | rw [c7b0] | (simp only [i64_w, i32_w]; rw [c7b0]) | skip)
   have H' := Aside0.mk H
   clear H
   obtain ⟨Ao11, co11, eo11⟩ := Kd.R_slice HO692.out
   subst eo11
   go_wp2
   go_meet
   case rel => exact ⟨_, (false), (t693), (t694), (by first | rfl | (simp; done) | (simp [*]; done)), H', ⟨by first | omega | exact Nat.le_refl _⟩, ⟨kr_ HO692.out⟩, ⟨by repeat (first | (with_reducible first | exact HI689.out | apply IsS93.alloc | apply IsS93.drewN | apply IsS93.drew | apply IsS93.set_1 | apply IsS93.set_2) | exact HI689.out)⟩, ⟨by repeat (first | (with_reducible first | exact HB.out | apply below_alloc | apply pw_below_drewN | apply below_drew1 | refine below_set ?_ (IsS93.ge HI689.out)) | exact HB.out)⟩⟩
 case rest =>
  clear HC4
  try clear p2
  try clear c4
  try clear c7
  try clear c7b0
  try clear c7b1
  try clear c8
  obtain ⟨kq, x20_3, x690001_3, x690002_3, rfl, HA, HJ3, HO_7, HI689, HB⟩ := hcut
  cases kq with
  | zero => exact absurd HA.out (by simp [spec_DrawConnectCaves.j0])
  | succ kj3 =>
   have H := HA.out
   clear HA
   simp only [spec_DrawConnectCaves.j0] at H
   by_cases c12 : x20_3 = true
   ·
    subst c12
    have H1 : ((spec_l1Cur_pick.f t686 x690001_3 x690002_3 (t690.length : Int)).bind fun bt698 => (if 0 ≤ bt698.1 then (if bt698.1 < (t690.length : Int) then ((spec_l1Cur_pick.f t686 bt698.2.1 bt698.2.2 (t690.length : Int)).bind fun bt702 => (if 0 ≤ bt702.1 then (if bt702.1 < (t690.length : Int) then ((spec_l1Cur_among.f t686 bt702.2.1 bt702.2.2 (([1, 40, 500] : List Int))).bind fun bt709 => (some (t690, (rd_T26 t690 bt698.1).f0, (rd_T26 t690 bt702.1).f0, bt709.1))) else (none)) else (none))) else (none)) else (none))) = some (r1, r2, r3, r4) := by rw [if_pos rfl] at H; exact H
    clear H
    have H := H1
    clear H1
    replace H := Option.bind_eq_some_iff.mp H
    obtain ⟨⟨t698, t699, t700⟩, A130, H⟩ := H
    replace H : (if 0 ≤ t698 then (if t698 < (t690.length : Int) then ((spec_l1Cur_pick.f t686 t699 t700 (t690.length : Int)).bind fun bt702 => (if 0 ≤ bt702.1 then (if bt702.1 < (t690.length : Int) then ((spec_l1Cur_among.f t686 bt702.2.1 bt702.2.2 (([1, 40, 500] : List Int))).bind fun bt709 => (some (t690, (rd_T26 t690 t698).f0, (rd_T26 t690 bt702.1).f0, bt709.1))) else (none)) else (none))) else (none)) else (none)) = some (r1, r2, r3, r4) := H
    have A13 := Aside0.mk A130
    clear A130
    by_cases c14 : 0 ≤ t698
    ·
     rw [if_pos c14] at H
     have c14b0 : decide (0 ≤ t698) = true := decide_eq_true c14
     clear c14
     by_cases c15 : t698 < (t690.length : Int)
     ·
      rw [if_pos c15] at H
      have c15b0 : decide (t698 < (t690.length : Int)) = true := decide_eq_true c15
      clear c15
      replace H := Option.bind_eq_some_iff.mp H
      obtain ⟨⟨t702, t703, t704⟩, A160, H⟩ := H
      replace H : (if 0 ≤ t702 then (if t702 < (t690.length : Int) then ((spec_l1Cur_among.f t686 t703 t704 (([1, 40, 500] : List Int))).bind fun bt709 => (some (t690, (rd_T26 t690 t698).f0, (rd_T26 t690 t702).f0, bt709.1))) else (none)) else (none)) = some (r1, r2, r3, r4) := H
      have A16 := Aside0.mk A160
      clear A160
      by_cases c17 : 0 ≤ t702
      ·
       rw [if_pos c17] at H
       have c17b0 : decide (0 ≤ t702) = true := decide_eq_true c17
       clear c17
       by_cases c18 : t702 < (t690.length : Int)
       ·
        rw [if_pos c18] at H
        have c18b0 : decide (t702 < (t690.length : Int)) = true := decide_eq_true c18
        clear c18
        obtain ⟨y706, hy706⟩ : ∃ y_ : List Int, y_ = (([1, 40, 500] : List Int)) := ⟨_, rfl⟩
        replace H : ((spec_l1Cur_among.f t686 t703 t704 y706).bind fun bt709 => (some (t690, (rd_T26 t690 t698).f0, (rd_T26 t690 t702).f0, bt709.1))) = some (r1, r2, r3, r4) := by first | (rw [hy706]; with_reducible exact H) | (have H2_ := (Option.bind_some _ _).symm.trans H; rw [hy706]; with_reducible exact H2_) | (have H2_ := (Option.bind_some _ _).symm.trans H; with_reducible exact H2_) | with_reducible exact H | (rw [hy706]; exact H) | exact H
        have Ny706 := Aside0.mk hy706
        clear hy706
        replace H := Option.bind_eq_some_iff.mp H
        obtain ⟨⟨t709, t710, t711⟩, A190, H⟩ := H
        replace H : (some (t690, (rd_T26 t690 t698).f0, (rd_T26 t690 t702).f0, t709)) = some (r1, r2, r3, r4) := H
        have A19 := Aside0.mk A190
        clear A190
        simp only [Option.some.injEq, Prod.mk.injEq] at H
        obtain ⟨rfl, rfl, rfl, rfl⟩ := H
        try go_wp2
        have n0_ := Aside0.mk (Kd.R_drew HO_7.out)
        have n1_ := Aside0.mk (IsS93.drew HI689.out)
        have n2_ := Aside0.mk (below_drew1 HB.out)
        clear HO_7
        clear HI689
        clear HB
        have HO_7 := n0_
        have HI689 := n1_
        have HB := n2_
        clear n0_ n1_ n2_
        obtain ⟨Ao21, co21, eo21⟩ := Kd.R_slice HO_7.out
        (first | subst eo21 | (injection eo21 with f1_ f2_ f3_; have f4_ := f1_.symm; have f5_ := f3_.symm; clear f1_ f2_ f3_; subst f4_; subst f5_))
        have p701 : 0 ≤ (t698 : Int) := dt_
        have q701 : t698 < (t690.length : Int) := dt_
        obtain ⟨ad701, e701, hx701_0, hx701_1, hx701_2, hx701_3⟩ := at_T26 (Kd.R_reads' HO_7.out).2.2 t698 p701 q701
        cases e701
        replace p701 := eq_true p701
        replace q701 := eq_true q701
        have p705 : 0 ≤ (t702 : Int) := dt_
        have q705 : t702 < (t690.length : Int) := dt_
        obtain ⟨ad705, e705, hx705_0, hx705_1, hx705_2, hx705_3⟩ := at_T26 (Kd.R_reads' HO_7.out).2.2 t702 p705 q705
        obtain rfl : ad701 = ad705 := (by injection e705)
        replace p705 := eq_true p705
        replace q705 := eq_true q705
        refine start_ (n := 24) (S := fun w' => True) (ds := []) spec_DrawConnectCaves.mk0 (by kernel_rfl) rfl rfl trivial (fun hHeld => ?_); refine with_tabW spec_DrawConnectCaves.tab4 spec_DrawConnectCaves.bits4 (fun HT_ HW_ => ?_)
        generalize wc.drew = w20 at HO_7 HI689 HB hx701_0 hx701_1 hx701_2 hx701_3 hx705_0 hx705_1 hx705_2 hx705_3 hHeld ⊢
        refine pz_ HT_ 0 (some 21) spec_DrawConnectCaves.mk1 ?_
        refine pz_ HT_ 1 (some 22) spec_DrawConnectCaves.mk2 ?_
        refine pz_ HT_ 2 (some 23) spec_DrawConnectCaves.mk3 ?_
        refine pz_ HT_ 3 (some 24) spec_DrawConnectCaves.mk4 ?_
        refine pz_ HT_ 9 (some 30) spec_DrawConnectCaves.mk5 ?_
        refine pz_ HT_ 10 (some 31) spec_DrawConnectCaves.mk6 ?_
        refine pz_ HT_ 11 (some 32) spec_DrawConnectCaves.mk7 ?_
        refine pz_ HT_ 17 (some 38) spec_DrawConnectCaves.mk8 ?_
        refine inv_at [4, 5, 6, 7, 8, 12, 13, 14, 15, 16, 18, 19, 20, 21, 22, 23] (fun a0_ b a w' => ∃ (v707 : Value), a = putSel a0_ b [(4, 25, .int .i64 (t690.length : Int)), (5, 26, .int .i64 t698), (6, 27, .pointer (some (ad701.add ((t698).toNat * 4)))), (7, 28, .pointer (some (ad701.add ((t698).toNat * 4)))), (8, 29, .string ((rd_T26 t690 t698).f0)), (12, 33, .int .i64 (t690.length : Int)), (13, 34, .int .i64 t702), (14, 35, .pointer (some (ad701.add ((t702).toNat * 4)))), (15, 36, .pointer (some (ad701.add ((t702).toNat * 4)))), (16, 37, .string ((rd_T26 t690 t702).f0)), (18, 39, v707), (19, 40, .int .i64 t709), (20, 2, .slice (some ad701) t690.length co21), (21, 3, .string ((rd_T26 t690 t698).f0)), (22, 4, .string ((rd_T26 t690 t702).f0)), (23, 5, .int .i64 t709)] ∧ (Kd.R k26 26 w' w.heap.size (fun _ => True) (.slice (some ad701) t690.length co21) t690) ∧ (b 5 = false → IsS93 w w' g689 t686 x690001_3 x690002_3) ∧ (Below w.heap.size w w') ∧ (b 5 = true → b 13 = false → IsS93 w w' g689 t686 t699 t700) ∧ (b 13 = true → b 19 = false → IsS93 w w' g689 t686 t703 t704) ∧ (b 18 = true → Kd.R (Kd.int .i64) 3 w' w.heap.size (fun _ => True) v707 y706) ∧ (b 19 = true → IsS93 w w' g689 t686 t710 t711)) HT_.out HW_.out (by kernel_rfl) (by kernel_rfl) ?_ ?_ ?_
        ·
         exact ⟨.bool false, by simp only [putSel, Bool.false_eq_true, if_false], HO_7.out, fun _ => HI689.out, HB.out, fun h_ => absurd h_ (by decide), fun h_ => absurd h_ (by decide), fun h_ => absurd h_ (by decide), fun h_ => absurd h_ (by decide)⟩
        ·
         skip
         clear HB HI689 HO_7
         refine steps_cons ?_ ?_
         ·
          rintro b a w' ⟨v707, ha, Q_HO_7, Q_HI689, Q_HB, Q_HI689_e5, Q_HI689_e13, Q_HO708, Q_HI689_e19⟩ hb_ hon hoff
          refine ⟨_, rfl, fun K hK => ?_⟩
          have e24 : a.tmps[24]? = some (.slice (some ad701) t690.length co21) := by rw [ha]; exact (putSel_off rfl).trans rfl
          replace ha := Aside0.mk ha
          have HO_7 := Aside0.mk Q_HO_7
          have HI689 := Aside0.mk (Q_HI689 (hoff 5 (by kernel_rfl)))
          have HB := Aside0.mk Q_HB
          refine value_ (w1 := w') (v := .int .i64 (t690.length : Int)) (by rfl) rfl ?_ ?_
          ·
           go_simp
           (try simp only [i64_w])
           try rfl
          refine hK.out _ _ ⟨v707, (by rw [ha.out]; exact putSel_upk 0 hb_ rfl rfl rfl), Q_HO_7, Q_HI689, Q_HB, fun h0_ _ => absurd ((hoff 5 (by kernel_rfl)).symm.trans h0_) (by decide), fun h0_ _ => absurd ((hoff 13 (by kernel_rfl)).symm.trans h0_) (by decide), Q_HO708, fun h0_ => absurd ((hoff 19 (by kernel_rfl)).symm.trans h0_) (by decide)⟩
         refine steps_cons ?_ ?_
         ·
          rintro b a w' ⟨v707, ha, Q_HO_7, Q_HI689, Q_HB, Q_HI689_e5, Q_HI689_e13, Q_HO708, Q_HI689_e19⟩ hb_ hon hoff
          refine ⟨_, rfl, fun K hK => ?_⟩
          have e23 : a.tmps[23]? = some (.pointer (some ⟨g689, 0, none⟩)) := by rw [ha]; exact (putSel_off rfl).trans rfl
          have e25 : a.tmps[25]? = some (.int .i64 (t690.length : Int)) := by rw [ha]; exact putSel_on (e := (4, 25, .int .i64 (t690.length : Int))) 0 rfl rfl (hon 4 (by kernel_rfl)) rfl
          replace ha := Aside0.mk ha
          have HO_7 := Aside0.mk Q_HO_7
          have HI689 := Aside0.mk (Q_HI689 hb_)
          have HB := Aside0.mk Q_HB
          refine goes_ Tryd.func82 (by kernel_rfl) rfl #[.pointer (some ⟨g689, 0, none⟩), .int .i64 (t690.length : Int)] (by rfl) rfl rfl (by first | (simp only [List.map_toArray, List.map_cons, List.map_nil, Act.eval, Array.getD_eq_getD_getElem?, Option.getD_some, e23, e25]; done) | (simp only [List.map_toArray, List.map_cons, List.map_nil, Act.eval, Array.getD_eq_getD_getElem?, Option.getD_some, e23, e25]; rfl)) ?_
          with_reducible refine (spec_l1Cur_pick.calls g689 t686 x690001_3 x690002_3 (t690.length : Int) t698 t699 t700 w _ ?side1 ?side2 A13.out).mono ?_
          (case side1 => repeat (first | (with_reducible first | exact HI689.out | apply IsS93.alloc | apply IsS93.drewN | apply IsS93.drew | apply IsS93.set_1 | apply IsS93.set_2) | exact HI689.out))
          (case side2 => repeat (first | (with_reducible first | exact HB.out | apply below_alloc | apply pw_below_drewN | apply below_drew1 | refine below_set ?_ (IsS93.ge HI689.out)) | exact HB.out))
          rintro e w22 ⟨rfl, hi, hb, hk⟩
          refine ⟨_, rfl, ?_⟩
          have n0_ := Aside0.mk (Kd.R_mono (Kd.R_keep (IsS93.apart (show IsS93 w _ g689 t686 x690001_3 x690002_3 from by repeat (first | (with_reducible first | exact HI689.out | apply IsS93.alloc | apply IsS93.drewN | apply IsS93.drew | apply IsS93.set_1 | apply IsS93.set_2) | exact HI689.out)) (kr_ HO_7.out) (by decide)) hk (fun _ h => h.2)) (fun _ h => h.1))
          have n1_ := Aside0.mk (hb)
          have n2_ := Aside0.mk (hi)
          have z_HO708 := fun (h0_ : b 18 = true) => (show Kd.R (Kd.int .i64) 3 w22 w.heap.size (fun _ => True) v707 y706 from by first | exact (Kd.R_mono (Kd.R_keep (IsS93.apart (show IsS93 w _ g689 t686 x690001_3 x690002_3 from by repeat (first | (with_reducible first | exact HI689.out | apply IsS93.alloc | apply IsS93.drewN | apply IsS93.drew | apply IsS93.set_1 | apply IsS93.set_2) | exact HI689.out)) (by (with_reducible repeat (first | apply Kd.R_alloc | apply Kd.R_drewN | apply Kd.R_drew)); exact (Q_HO708 h0_)) (by decide)) hk (fun _ h => h.2)) (fun _ h => h.1)) | exact Kd.R_mono (Kd.R_mono (Kd.R_keep (IsS93.apart (show IsS93 w _ g689 t686 x690001_3 x690002_3 from by repeat (first | (with_reducible first | exact HI689.out | apply IsS93.alloc | apply IsS93.drewN | apply IsS93.drew | apply IsS93.set_1 | apply IsS93.set_2) | exact HI689.out)) (by (with_reducible repeat (first | apply Kd.R_alloc | apply Kd.R_drewN | apply Kd.R_drew)); exact (Q_HO708 h0_)) (by decide)) hk (fun _ h => h.2)) (fun _ h => h.1)) (fun _ h_ => by first | trivial | exact h_ | exact h_.1))
          clear HO_7
          clear HB
          clear HI689
          have HO_7 := n0_
          have HB := n1_
          have HI689 := n2_
          clear n0_ n1_ n2_
          (try clear hb)
          (try clear hb2)
          (try clear hk)
          (try clear hi)
          refine hK.out _ _ ⟨v707, (by rw [ha.out]; exact putSel_upk 1 hb_ rfl rfl rfl), (kr_ HO_7.out), fun h0_ => absurd ((up_self b 5).symm.trans h0_) (by decide), (by repeat (first | (with_reducible first | exact HB.out | apply below_alloc | apply pw_below_drewN | apply below_drew1 | refine below_set ?_ (IsS93.ge HI689.out)) | exact HB.out)), fun _ _ => (by repeat (first | (with_reducible first | exact HI689.out | apply IsS93.alloc | apply IsS93.drewN | apply IsS93.drew | apply IsS93.set_1 | apply IsS93.set_2) | exact HI689.out)), fun h0_ _ => absurd ((hoff 13 (by kernel_rfl)).symm.trans h0_) (by decide), z_HO708, fun h0_ => absurd ((hoff 19 (by kernel_rfl)).symm.trans h0_) (by decide)⟩
         refine steps_cons ?_ ?_
         ·
          rintro b a w' ⟨v707, ha, Q_HO_7, Q_HI689, Q_HB, Q_HI689_e5, Q_HI689_e13, Q_HO708, Q_HI689_e19⟩ hb_ hon hoff
          refine ⟨_, rfl, fun K hK => ?_⟩
          have e22 : a.tmps[22]? = some (.slice (some ad701) t690.length co21) := by rw [ha]; exact (putSel_off rfl).trans rfl
          have e26 : a.tmps[26]? = some (.int .i64 t698) := by rw [ha]; exact putSel_on (e := (5, 26, .int .i64 t698)) 1 rfl rfl (hon 5 (by kernel_rfl)) rfl
          replace ha := Aside0.mk ha
          have HO_7 := Aside0.mk Q_HO_7
          have HB := Aside0.mk Q_HB
          refine value_ (w1 := w') (v := .pointer (some (ad701.add ((t698).toNat * 4)))) (by rfl) rfl ?_ ?_
          ·
           go_simp
           (try simp only [i64_w])
           try rfl
          refine hK.out _ _ ⟨v707, (by rw [ha.out]; exact putSel_upk 2 hb_ rfl rfl rfl), Q_HO_7, fun h0_ => absurd ((hon 5 (by kernel_rfl)).symm.trans h0_) (by decide), Q_HB, Q_HI689_e5, Q_HI689_e13, Q_HO708, Q_HI689_e19⟩
         refine steps_cons ?_ ?_
         ·
          rintro b a w' ⟨v707, ha, Q_HO_7, Q_HI689, Q_HB, Q_HI689_e5, Q_HI689_e13, Q_HO708, Q_HI689_e19⟩ hb_ hon hoff
          refine ⟨_, rfl, fun K hK => ?_⟩
          have e27 : a.tmps[27]? = some (.pointer (some (ad701.add ((t698).toNat * 4)))) := by rw [ha]; exact putSel_on (e := (6, 27, .pointer (some (ad701.add ((t698).toNat * 4))))) 2 rfl rfl (hon 6 (by kernel_rfl)) rfl
          replace ha := Aside0.mk ha
          have HO_7 := Aside0.mk Q_HO_7
          have HB := Aside0.mk Q_HB
          refine value_ (w1 := w') (v := .pointer (some (ad701.add ((t698).toNat * 4)))) (by rfl) rfl ?_ ?_
          ·
           go_simp
           (try simp only [i64_w])
           try rfl
          refine hK.out _ _ ⟨v707, (by rw [ha.out]; exact putSel_upk 3 hb_ rfl rfl rfl), Q_HO_7, fun h0_ => absurd ((hon 5 (by kernel_rfl)).symm.trans h0_) (by decide), Q_HB, Q_HI689_e5, Q_HI689_e13, Q_HO708, Q_HI689_e19⟩
         refine steps_cons ?_ ?_
         ·
          rintro b a w' ⟨v707, ha, Q_HO_7, Q_HI689, Q_HB, Q_HI689_e5, Q_HI689_e13, Q_HO708, Q_HI689_e19⟩ hb_ hon hoff
          refine ⟨_, rfl, fun K hK => ?_⟩
          have e28 : a.tmps[28]? = some (.pointer (some (ad701.add ((t698).toNat * 4)))) := by rw [ha]; exact putSel_on (e := (7, 28, .pointer (some (ad701.add ((t698).toNat * 4))))) 3 rfl rfl (hon 7 (by kernel_rfl)) rfl
          replace ha := Aside0.mk ha
          have HO_7 := Aside0.mk Q_HO_7
          have HB := Aside0.mk Q_HB
          obtain ⟨ad701_z, e701_z, hx701_0_z, hx701_1_z, hx701_2_z, hx701_3_z⟩ := at_T26 (Kd.R_reads' HO_7.out).2.2 t698 (of_eq_true p701) (of_eq_true q701)
          cases e701_z
          have hs0_ : w'.cell? (ad701.add ((t698).toNat * 4)) = some (.string ((rd_T26 t690 t698).f0)) := (by first | exact hx701_0_z | (have h_ := hx701_0_z; (try simp only [Int.reduceToNat, Nat.zero_mul, Nat.reduceMul, Nat.reduceEqDiff, Go.Addr.add, ↓reduceIte, Addr.add_zero'] at h_); exact h_))
          have hs1_ : w'.cell? ⟨(ad701.add ((t698).toNat * 4)).block, (ad701.add ((t698).toNat * 4)).off + 1, none⟩ = some (.int .i64 ((rd_T26 t690 t698).f1)) := (by first | exact hx701_1_z | (have h_ := hx701_1_z; (try simp only [Int.reduceToNat, Nat.zero_mul, Nat.reduceMul, Nat.reduceEqDiff, Go.Addr.add, ↓reduceIte, Addr.add_zero'] at h_); exact h_))
          have hs2_ : w'.cell? ⟨(ad701.add ((t698).toNat * 4)).block, (ad701.add ((t698).toNat * 4)).off + 2, none⟩ = some (.int .i64 ((rd_T26 t690 t698).f2)) := (by first | exact hx701_2_z | (have h_ := hx701_2_z; (try simp only [Int.reduceToNat, Nat.zero_mul, Nat.reduceMul, Nat.reduceEqDiff, Go.Addr.add, ↓reduceIte, Addr.add_zero'] at h_); exact h_))
          have hs3_ : w'.cell? ⟨(ad701.add ((t698).toNat * 4)).block, (ad701.add ((t698).toNat * 4)).off + 3, none⟩ = some (.int .i64 ((rd_T26 t690 t698).f3)) := (by first | exact hx701_3_z | (have h_ := hx701_3_z; (try simp only [Int.reduceToNat, Nat.zero_mul, Nat.reduceMul, Nat.reduceEqDiff, Go.Addr.add, ↓reduceIte, Addr.add_zero'] at h_); exact h_))
          refine value_ (w1 := w') (v := .string ((rd_T26 t690 t698).f0)) (by rfl) rfl ?_ ?_
          ·
           go_simp
           (try simp only [i64_w])
           try rfl
          refine hK.out _ _ ⟨v707, (by rw [ha.out]; exact putSel_upk 4 hb_ rfl rfl rfl), Q_HO_7, fun h0_ => absurd ((hon 5 (by kernel_rfl)).symm.trans h0_) (by decide), Q_HB, Q_HI689_e5, Q_HI689_e13, Q_HO708, Q_HI689_e19⟩
         refine steps_cons ?_ ?_
         ·
          rintro b a w' ⟨v707, ha, Q_HO_7, Q_HI689, Q_HB, Q_HI689_e5, Q_HI689_e13, Q_HO708, Q_HI689_e19⟩ hb_ hon hoff
          refine ⟨_, rfl, fun K hK => ?_⟩
          have e32 : a.tmps[32]? = some (.slice (some ad701) t690.length co21) := by rw [ha]; exact (putSel_off rfl).trans rfl
          replace ha := Aside0.mk ha
          have HO_7 := Aside0.mk Q_HO_7
          have HB := Aside0.mk Q_HB
          refine value_ (w1 := w') (v := .int .i64 (t690.length : Int)) (by rfl) rfl ?_ ?_
          ·
           go_simp
           (try simp only [i64_w])
           try rfl
          refine hK.out _ _ ⟨v707, (by rw [ha.out]; exact putSel_upk 5 hb_ rfl rfl rfl), Q_HO_7, Q_HI689, Q_HB, Q_HI689_e5, fun h0_ _ => absurd ((hoff 13 (by kernel_rfl)).symm.trans h0_) (by decide), Q_HO708, fun h0_ => absurd ((hoff 19 (by kernel_rfl)).symm.trans h0_) (by decide)⟩
         refine steps_cons ?_ ?_
         ·
          rintro b a w' ⟨v707, ha, Q_HO_7, Q_HI689, Q_HB, Q_HI689_e5, Q_HI689_e13, Q_HO708, Q_HI689_e19⟩ hb_ hon hoff
          refine ⟨_, rfl, fun K hK => ?_⟩
          have e31 : a.tmps[31]? = some (.pointer (some ⟨g689, 0, none⟩)) := by rw [ha]; exact (putSel_off rfl).trans rfl
          have e33 : a.tmps[33]? = some (.int .i64 (t690.length : Int)) := by rw [ha]; exact putSel_on (e := (12, 33, .int .i64 (t690.length : Int))) 5 rfl rfl (hon 12 (by kernel_rfl)) rfl
          replace ha := Aside0.mk ha
          have HO_7 := Aside0.mk Q_HO_7
          have HB := Aside0.mk Q_HB
          have HI689 := Aside0.mk (Q_HI689_e5 (hon 5 (by kernel_rfl)) hb_)
          refine goes_ Tryd.func82 (by kernel_rfl) rfl #[.pointer (some ⟨g689, 0, none⟩), .int .i64 (t690.length : Int)] (by rfl) rfl rfl (by first | (simp only [List.map_toArray, List.map_cons, List.map_nil, Act.eval, Array.getD_eq_getD_getElem?, Option.getD_some, e31, e33]; done) | (simp only [List.map_toArray, List.map_cons, List.map_nil, Act.eval, Array.getD_eq_getD_getElem?, Option.getD_some, e31, e33]; rfl)) ?_
          with_reducible refine (spec_l1Cur_pick.calls g689 t686 t699 t700 (t690.length : Int) t702 t703 t704 w _ ?side1 ?side2 A16.out).mono ?_
          (case side1 => repeat (first | (with_reducible first | exact HI689.out | apply IsS93.alloc | apply IsS93.drewN | apply IsS93.drew | apply IsS93.set_1 | apply IsS93.set_2) | exact HI689.out))
          (case side2 => repeat (first | (with_reducible first | exact HB.out | apply below_alloc | apply pw_below_drewN | apply below_drew1 | refine below_set ?_ (IsS93.ge HI689.out)) | exact HB.out))
          rintro e w24 ⟨rfl, hi, hb, hk⟩
          refine ⟨_, rfl, ?_⟩
          have n0_ := Aside0.mk (Kd.R_mono (Kd.R_keep (IsS93.apart (show IsS93 w _ g689 t686 t699 t700 from by repeat (first | (with_reducible first | exact HI689.out | apply IsS93.alloc | apply IsS93.drewN | apply IsS93.drew | apply IsS93.set_1 | apply IsS93.set_2) | exact HI689.out)) (kr_ HO_7.out) (by decide)) hk (fun _ h => h.2)) (fun _ h => h.1))
          have n1_ := Aside0.mk (hb)
          have n2_ := Aside0.mk (hi)
          have z_HO708 := fun (h0_ : b 18 = true) => (show Kd.R (Kd.int .i64) 3 w24 w.heap.size (fun _ => True) v707 y706 from by first | exact (Kd.R_mono (Kd.R_keep (IsS93.apart (show IsS93 w _ g689 t686 t699 t700 from by repeat (first | (with_reducible first | exact HI689.out | apply IsS93.alloc | apply IsS93.drewN | apply IsS93.drew | apply IsS93.set_1 | apply IsS93.set_2) | exact HI689.out)) (by (with_reducible repeat (first | apply Kd.R_alloc | apply Kd.R_drewN | apply Kd.R_drew)); exact (Q_HO708 h0_)) (by decide)) hk (fun _ h => h.2)) (fun _ h => h.1)) | exact Kd.R_mono (Kd.R_mono (Kd.R_keep (IsS93.apart (show IsS93 w _ g689 t686 t699 t700 from by repeat (first | (with_reducible first | exact HI689.out | apply IsS93.alloc | apply IsS93.drewN | apply IsS93.drew | apply IsS93.set_1 | apply IsS93.set_2) | exact HI689.out)) (by (with_reducible repeat (first | apply Kd.R_alloc | apply Kd.R_drewN | apply Kd.R_drew)); exact (Q_HO708 h0_)) (by decide)) hk (fun _ h => h.2)) (fun _ h => h.1)) (fun _ h_ => by first | trivial | exact h_ | exact h_.1))
          clear HO_7
          clear HB
          clear HI689
          have HO_7 := n0_
          have HB := n1_
          have HI689 := n2_
          clear n0_ n1_ n2_
          (try clear hb)
          (try clear hb2)
          (try clear hk)
          (try clear hi)
          refine hK.out _ _ ⟨v707, (by rw [ha.out]; exact putSel_upk 6 hb_ rfl rfl rfl), (kr_ HO_7.out), fun h0_ => absurd ((hon 5 (by kernel_rfl)).symm.trans h0_) (by decide), (by repeat (first | (with_reducible first | exact HB.out | apply below_alloc | apply pw_below_drewN | apply below_drew1 | refine below_set ?_ (IsS93.ge HI689.out)) | exact HB.out)), fun _ h1_ => absurd ((up_self b 13).symm.trans h1_) (by decide), fun _ _ => (by repeat (first | (with_reducible first | exact HI689.out | apply IsS93.alloc | apply IsS93.drewN | apply IsS93.drew | apply IsS93.set_1 | apply IsS93.set_2) | exact HI689.out)), z_HO708, fun h0_ => absurd ((hoff 19 (by kernel_rfl)).symm.trans h0_) (by decide)⟩
         refine steps_cons ?_ ?_
         ·
          rintro b a w' ⟨v707, ha, Q_HO_7, Q_HI689, Q_HB, Q_HI689_e5, Q_HI689_e13, Q_HO708, Q_HI689_e19⟩ hb_ hon hoff
          refine ⟨_, rfl, fun K hK => ?_⟩
          have e30 : a.tmps[30]? = some (.slice (some ad701) t690.length co21) := by rw [ha]; exact (putSel_off rfl).trans rfl
          have e34 : a.tmps[34]? = some (.int .i64 t702) := by rw [ha]; exact putSel_on (e := (13, 34, .int .i64 t702)) 6 rfl rfl (hon 13 (by kernel_rfl)) rfl
          replace ha := Aside0.mk ha
          have HO_7 := Aside0.mk Q_HO_7
          have HB := Aside0.mk Q_HB
          refine value_ (w1 := w') (v := .pointer (some (ad701.add ((t702).toNat * 4)))) (by rfl) rfl ?_ ?_
          ·
           go_simp
           (try simp only [i64_w])
           try rfl
          refine hK.out _ _ ⟨v707, (by rw [ha.out]; exact putSel_upk 7 hb_ rfl rfl rfl), Q_HO_7, fun h0_ => absurd ((hon 5 (by kernel_rfl)).symm.trans h0_) (by decide), Q_HB, fun _ h1_ => absurd ((hon 13 (by kernel_rfl)).symm.trans h1_) (by decide), Q_HI689_e13, Q_HO708, Q_HI689_e19⟩
         refine steps_cons ?_ ?_
         ·
          rintro b a w' ⟨v707, ha, Q_HO_7, Q_HI689, Q_HB, Q_HI689_e5, Q_HI689_e13, Q_HO708, Q_HI689_e19⟩ hb_ hon hoff
          refine ⟨_, rfl, fun K hK => ?_⟩
          have e35 : a.tmps[35]? = some (.pointer (some (ad701.add ((t702).toNat * 4)))) := by rw [ha]; exact putSel_on (e := (14, 35, .pointer (some (ad701.add ((t702).toNat * 4))))) 7 rfl rfl (hon 14 (by kernel_rfl)) rfl
          replace ha := Aside0.mk ha
          have HO_7 := Aside0.mk Q_HO_7
          have HB := Aside0.mk Q_HB
          refine value_ (w1 := w') (v := .pointer (some (ad701.add ((t702).toNat * 4)))) (by rfl) rfl ?_ ?_
          ·
           go_simp
           (try simp only [i64_w])
           try rfl
          refine hK.out _ _ ⟨v707, (by rw [ha.out]; exact putSel_upk 8 hb_ rfl rfl rfl), Q_HO_7, fun h0_ => absurd ((hon 5 (by kernel_rfl)).symm.trans h0_) (by decide), Q_HB, fun _ h1_ => absurd ((hon 13 (by kernel_rfl)).symm.trans h1_) (by decide), Q_HI689_e13, Q_HO708, Q_HI689_e19⟩
         refine steps_cons ?_ ?_
         ·
          rintro b a w' ⟨v707, ha, Q_HO_7, Q_HI689, Q_HB, Q_HI689_e5, Q_HI689_e13, Q_HO708, Q_HI689_e19⟩ hb_ hon hoff
          refine ⟨_, rfl, fun K hK => ?_⟩
          have e36 : a.tmps[36]? = some (.pointer (some (ad701.add ((t702).toNat * 4)))) := by rw [ha]; exact putSel_on (e := (15, 36, .pointer (some (ad701.add ((t702).toNat * 4))))) 8 rfl rfl (hon 15 (by kernel_rfl)) rfl
          replace ha := Aside0.mk ha
          have HO_7 := Aside0.mk Q_HO_7
          have HB := Aside0.mk Q_HB
          obtain ⟨ad705_z, e705_z, hx705_0_z, hx705_1_z, hx705_2_z, hx705_3_z⟩ := at_T26 (Kd.R_reads' HO_7.out).2.2 t702 (of_eq_true p705) (of_eq_true q705)
          cases e705_z
          have hs4_ : w'.cell? (ad701.add ((t702).toNat * 4)) = some (.string ((rd_T26 t690 t702).f0)) := (by first | exact hx705_0_z | (have h_ := hx705_0_z; (try simp only [Int.reduceToNat, Nat.zero_mul, Nat.reduceMul, Nat.reduceEqDiff, Go.Addr.add, ↓reduceIte, Addr.add_zero'] at h_); exact h_))
          have hs5_ : w'.cell? ⟨(ad701.add ((t702).toNat * 4)).block, (ad701.add ((t702).toNat * 4)).off + 1, none⟩ = some (.int .i64 ((rd_T26 t690 t702).f1)) := (by first | exact hx705_1_z | (have h_ := hx705_1_z; (try simp only [Int.reduceToNat, Nat.zero_mul, Nat.reduceMul, Nat.reduceEqDiff, Go.Addr.add, ↓reduceIte, Addr.add_zero'] at h_); exact h_))
          have hs6_ : w'.cell? ⟨(ad701.add ((t702).toNat * 4)).block, (ad701.add ((t702).toNat * 4)).off + 2, none⟩ = some (.int .i64 ((rd_T26 t690 t702).f2)) := (by first | exact hx705_2_z | (have h_ := hx705_2_z; (try simp only [Int.reduceToNat, Nat.zero_mul, Nat.reduceMul, Nat.reduceEqDiff, Go.Addr.add, ↓reduceIte, Addr.add_zero'] at h_); exact h_))
          have hs7_ : w'.cell? ⟨(ad701.add ((t702).toNat * 4)).block, (ad701.add ((t702).toNat * 4)).off + 3, none⟩ = some (.int .i64 ((rd_T26 t690 t702).f3)) := (by first | exact hx705_3_z | (have h_ := hx705_3_z; (try simp only [Int.reduceToNat, Nat.zero_mul, Nat.reduceMul, Nat.reduceEqDiff, Go.Addr.add, ↓reduceIte, Addr.add_zero'] at h_); exact h_))
          refine value_ (w1 := w') (v := .string ((rd_T26 t690 t702).f0)) (by rfl) rfl ?_ ?_
          ·
           go_simp
           (try simp only [i64_w])
           try rfl
          refine hK.out _ _ ⟨v707, (by rw [ha.out]; exact putSel_upk 9 hb_ rfl rfl rfl), Q_HO_7, fun h0_ => absurd ((hon 5 (by kernel_rfl)).symm.trans h0_) (by decide), Q_HB, fun _ h1_ => absurd ((hon 13 (by kernel_rfl)).symm.trans h1_) (by decide), Q_HI689_e13, Q_HO708, Q_HI689_e19⟩
         refine steps_cons ?_ ?_
         ·
          rintro b a w' ⟨v707, ha, Q_HO_7, Q_HI689, Q_HB, Q_HI689_e5, Q_HI689_e13, Q_HO708, Q_HI689_e19⟩ hb_ hon hoff
          refine ⟨_, rfl, fun K hK => ?_⟩
          replace ha := Aside0.mk ha
          have HO_7 := Aside0.mk Q_HO_7
          have HB := Aside0.mk Q_HB
          refine Kd.R_lit_step (Kd.int .i64) _ 3 ?hg (N := 39) ?hd (xs := ([1, 40, 500] : List Int)) (inner := [.int .i64 1, .int .i64 40, .int .i64 500]) (ok := fun _ => True) (okp := fun _ => True) ?hr ?hp (fun _ hk => hk) trivial (Below.refl _ _) (Nat.le_refl _) (by simp) ?_; (case hd => rfl); (case hg => rfl); (case hr => first | (go_simp; done) | (go_simp; rfl)); (case hp => exact (Reps.one (show Kd.M (Kd.int .i64) _ _ _ 1 [.int .i64 1] from rfl) (Reps.one (show Kd.M (Kd.int .i64) _ _ _ 40 [.int .i64 40] from rfl) (Reps.one (show Kd.M (Kd.int .i64) _ _ _ 500 [.int .i64 500] from rfl) (Reps.none _ _)))))
          intro v707 w22 ho23 hb hg_ hnew_
          clear hg_ hnew_
          (first | rw [← Ny706.out] at ho23 | (simp only [Int.reduceToNat] at ho23; rw [← Ny706.out] at ho23))
          have n0_ := Aside0.mk (Kd.R_below (kr_ HO_7.out) hb)
          have n1_ := Aside0.mk (Kd.R_lower ho23 (below_size (lb0_ HB.out)))
          have n3_ := Aside0.mk (below_step (lb0_ HB.out) hb)
          have z_HI689 := fun (h0_ : b 5 = false) => (show IsS93 w w22 g689 t686 x690001_3 x690002_3 from by first | exact (IsS93.below (by repeat (first | (with_reducible first | exact (Q_HI689 h0_) | apply IsS93.alloc | apply IsS93.drewN | apply IsS93.drew | apply IsS93.set_1 | apply IsS93.set_2) | exact (Q_HI689 h0_))) hb))
          have z_HI689_e5 := fun (h0_ : b 5 = true) (h1_ : b 13 = false) => (show IsS93 w w22 g689 t686 t699 t700 from by first | exact (IsS93.below (by repeat (first | (with_reducible first | exact (Q_HI689_e5 h0_ h1_) | apply IsS93.alloc | apply IsS93.drewN | apply IsS93.drew | apply IsS93.set_1 | apply IsS93.set_2) | exact (Q_HI689_e5 h0_ h1_))) hb))
          have z_HI689_e13 := fun (h0_ : b 13 = true) (h1_ : b 19 = false) => (show IsS93 w w22 g689 t686 t703 t704 from by first | exact (IsS93.below (by repeat (first | (with_reducible first | exact (Q_HI689_e13 h0_ h1_) | apply IsS93.alloc | apply IsS93.drewN | apply IsS93.drew | apply IsS93.set_1 | apply IsS93.set_2) | exact (Q_HI689_e13 h0_ h1_))) hb))
          clear HO_7
          clear HB
          have HO_7 := n0_
          have HO708 := n1_
          have HB := n3_
          clear n0_ n1_ n3_
          clear hb ho23
          refine hK.out _ _ ⟨v707, (by rw [ha.out]; exact putSel_upk 10 hb_ rfl rfl rfl), (kr_ HO_7.out), z_HI689, (lb0_ HB.out), z_HI689_e5, z_HI689_e13, fun _ => (kr_ HO708.out), fun h0_ => absurd ((hoff 19 (by kernel_rfl)).symm.trans h0_) (by decide)⟩
         refine steps_cons ?_ ?_
         ·
          rintro b a w' ⟨v707, ha, Q_HO_7, Q_HI689, Q_HB, Q_HI689_e5, Q_HI689_e13, Q_HO708, Q_HI689_e19⟩ hb_ hon hoff
          refine ⟨_, rfl, fun K hK => ?_⟩
          have e38 : a.tmps[38]? = some (.pointer (some ⟨g689, 0, none⟩)) := by rw [ha]; exact (putSel_off rfl).trans rfl
          have e39 : a.tmps[39]? = some (v707) := by rw [ha]; exact putSel_on (e := (18, 39, v707)) 10 rfl rfl (hon 18 (by kernel_rfl)) rfl
          replace ha := Aside0.mk ha
          have HO_7 := Aside0.mk Q_HO_7
          have HB := Aside0.mk Q_HB
          have HI689 := Aside0.mk (Q_HI689_e13 (hon 13 (by kernel_rfl)) hb_)
          have HO708 := Aside0.mk (Q_HO708 (hon 18 (by kernel_rfl)))
          obtain ⟨Ao27, co27, eo27⟩ := Kd.R_slice HO708.out
          (first | subst eo27 | (injection eo27 with f1_ f2_ f3_; have f4_ := f1_.symm; have f5_ := f3_.symm; clear f1_ f2_ f3_; subst f4_; subst f5_))
          refine goes_ Tryd.func83 (by kernel_rfl) rfl #[.pointer (some ⟨g689, 0, none⟩), .slice Ao27 y706.length co27] (by rfl) rfl rfl (by first | (simp only [List.map_toArray, List.map_cons, List.map_nil, Act.eval, Array.getD_eq_getD_getElem?, Option.getD_some, e38, e39]; done) | (simp only [List.map_toArray, List.map_cons, List.map_nil, Act.eval, Array.getD_eq_getD_getElem?, Option.getD_some, e38, e39]; rfl)) ?_
          with_reducible refine (spec_l1Cur_among.calls g689 t686 t703 t704 _ _ y706 t709 t710 t711 w _ ?side1 ?side2 ?side3 ?side4 ?side5 A19.out).mono ?_
          (case side1 => repeat (first | (with_reducible first | exact HI689.out | apply IsS93.alloc | apply IsS93.drewN | apply IsS93.drew | apply IsS93.set_1 | apply IsS93.set_2) | exact HI689.out))
          (case side2 => repeat (first | (with_reducible first | exact HB.out | apply below_alloc | apply pw_below_drewN | apply below_drew1 | refine below_set ?_ (IsS93.ge HI689.out)) | exact HB.out))
          (case side3 => exact kc_ (Kd.R_reads' HO708.out).2.2)
          (case side4 => exact (Kd.R_reads' HO708.out).2.1)
          (case side5 => exact far_slice (IsS93.own_ne HI689.out HO708.out (by decide)))
          rintro e w28 ⟨rfl, hi, hb, hk⟩
          refine ⟨_, rfl, ?_⟩
          have n0_ := Aside0.mk (Kd.R_mono (Kd.R_keep (IsS93.apart (show IsS93 w _ g689 t686 t703 t704 from by repeat (first | (with_reducible first | exact HI689.out | apply IsS93.alloc | apply IsS93.drewN | apply IsS93.drew | apply IsS93.set_1 | apply IsS93.set_2) | exact HI689.out)) (kr_ HO_7.out) (by decide)) hk (fun _ h => h.2)) (fun _ h => h.1))
          have n1_ := Aside0.mk (Kd.R_mono (Kd.R_keep (IsS93.apart (show IsS93 w _ g689 t686 t703 t704 from by repeat (first | (with_reducible first | exact HI689.out | apply IsS93.alloc | apply IsS93.drewN | apply IsS93.drew | apply IsS93.set_1 | apply IsS93.set_2) | exact HI689.out)) (kr_ HO708.out) (by decide)) hk (fun _ h => h.2)) (fun _ h => h.1))
          have n2_ := Aside0.mk (hb)
          have n3_ := Aside0.mk (hi)
          clear HO_7
          clear HO708
          clear HB
          clear HI689
          have HO_7 := n0_
          have HO708 := n1_
          have HB := n2_
          have HI689 := n3_
          clear n0_ n1_ n2_ n3_
          (try clear hb)
          (try clear hb2)
          (try clear hk)
          (try clear hi)
          refine hK.out _ _ ⟨.slice Ao27 y706.length co27, (by rw [ha.out]; exact putSel_upk 11 hb_ rfl rfl rfl), (kr_ HO_7.out), fun h0_ => absurd ((hon 5 (by kernel_rfl)).symm.trans h0_) (by decide), (by repeat (first | (with_reducible first | exact HB.out | apply below_alloc | apply pw_below_drewN | apply below_drew1 | refine below_set ?_ (IsS93.ge HI689.out)) | exact HB.out)), fun _ h1_ => absurd ((hon 13 (by kernel_rfl)).symm.trans h1_) (by decide), fun _ h1_ => absurd ((up_self b 19).symm.trans h1_) (by decide), fun _ => (kr_ HO708.out), fun _ => (by repeat (first | (with_reducible first | exact HI689.out | apply IsS93.alloc | apply IsS93.drewN | apply IsS93.drew | apply IsS93.set_1 | apply IsS93.set_2) | exact HI689.out))⟩
         refine steps_cons ?_ ?_
         ·
          rintro b a w' ⟨v707, ha, Q_HO_7, Q_HI689, Q_HB, Q_HI689_e5, Q_HI689_e13, Q_HO708, Q_HI689_e19⟩ hb_ hon hoff
          refine ⟨_, rfl, fun K hK => ?_⟩
          have e21 : a.tmps[21]? = some (.slice (some ad701) t690.length co21) := by rw [ha]; exact (putSel_off rfl).trans rfl
          replace ha := Aside0.mk ha
          have HO_7 := Aside0.mk Q_HO_7
          have HB := Aside0.mk Q_HB
          have HO708 := Aside0.mk (Q_HO708 (hon 18 (by kernel_rfl)))
          have HI689 := Aside0.mk (Q_HI689_e19 (hon 19 (by kernel_rfl)))
          refine value_ (w1 := w') (v := .slice (some ad701) t690.length co21) (by rfl) rfl ?_ ?_
          ·
           go_simp
           (try simp only [i64_w])
           try rfl
          refine hK.out _ _ ⟨v707, (by rw [ha.out]; exact putSel_upk 12 hb_ rfl rfl rfl), Q_HO_7, fun h0_ => absurd ((hon 5 (by kernel_rfl)).symm.trans h0_) (by decide), Q_HB, fun _ h1_ => absurd ((hon 13 (by kernel_rfl)).symm.trans h1_) (by decide), fun _ h1_ => absurd ((hon 19 (by kernel_rfl)).symm.trans h1_) (by decide), Q_HO708, Q_HI689_e19⟩
         refine steps_cons ?_ ?_
         ·
          rintro b a w' ⟨v707, ha, Q_HO_7, Q_HI689, Q_HB, Q_HI689_e5, Q_HI689_e13, Q_HO708, Q_HI689_e19⟩ hb_ hon hoff
          refine ⟨_, rfl, fun K hK => ?_⟩
          have e29 : a.tmps[29]? = some (.string ((rd_T26 t690 t698).f0)) := by rw [ha]; exact putSel_on (e := (8, 29, .string ((rd_T26 t690 t698).f0))) 4 rfl rfl (hon 8 (by kernel_rfl)) rfl
          replace ha := Aside0.mk ha
          have HO_7 := Aside0.mk Q_HO_7
          have HB := Aside0.mk Q_HB
          have HO708 := Aside0.mk (Q_HO708 (hon 18 (by kernel_rfl)))
          have HI689 := Aside0.mk (Q_HI689_e19 (hon 19 (by kernel_rfl)))
          refine value_ (w1 := w') (v := .string ((rd_T26 t690 t698).f0)) (by rfl) rfl ?_ ?_
          ·
           go_simp
           (try simp only [i64_w])
           try rfl
          refine hK.out _ _ ⟨v707, (by rw [ha.out]; exact putSel_upk 13 hb_ rfl rfl rfl), Q_HO_7, fun h0_ => absurd ((hon 5 (by kernel_rfl)).symm.trans h0_) (by decide), Q_HB, fun _ h1_ => absurd ((hon 13 (by kernel_rfl)).symm.trans h1_) (by decide), fun _ h1_ => absurd ((hon 19 (by kernel_rfl)).symm.trans h1_) (by decide), Q_HO708, Q_HI689_e19⟩
         refine steps_cons ?_ ?_
         ·
          rintro b a w' ⟨v707, ha, Q_HO_7, Q_HI689, Q_HB, Q_HI689_e5, Q_HI689_e13, Q_HO708, Q_HI689_e19⟩ hb_ hon hoff
          refine ⟨_, rfl, fun K hK => ?_⟩
          have e37 : a.tmps[37]? = some (.string ((rd_T26 t690 t702).f0)) := by rw [ha]; exact putSel_on (e := (16, 37, .string ((rd_T26 t690 t702).f0))) 9 rfl rfl (hon 16 (by kernel_rfl)) rfl
          replace ha := Aside0.mk ha
          have HO_7 := Aside0.mk Q_HO_7
          have HB := Aside0.mk Q_HB
          have HO708 := Aside0.mk (Q_HO708 (hon 18 (by kernel_rfl)))
          have HI689 := Aside0.mk (Q_HI689_e19 (hon 19 (by kernel_rfl)))
          refine value_ (w1 := w') (v := .string ((rd_T26 t690 t702).f0)) (by rfl) rfl ?_ ?_
          ·
           go_simp
           (try simp only [i64_w])
           try rfl
          refine hK.out _ _ ⟨v707, (by rw [ha.out]; exact putSel_upk 14 hb_ rfl rfl rfl), Q_HO_7, fun h0_ => absurd ((hon 5 (by kernel_rfl)).symm.trans h0_) (by decide), Q_HB, fun _ h1_ => absurd ((hon 13 (by kernel_rfl)).symm.trans h1_) (by decide), fun _ h1_ => absurd ((hon 19 (by kernel_rfl)).symm.trans h1_) (by decide), Q_HO708, Q_HI689_e19⟩
         refine steps_cons ?_ ?_
         ·
          rintro b a w' ⟨v707, ha, Q_HO_7, Q_HI689, Q_HB, Q_HI689_e5, Q_HI689_e13, Q_HO708, Q_HI689_e19⟩ hb_ hon hoff
          refine ⟨_, rfl, fun K hK => ?_⟩
          have e40 : a.tmps[40]? = some (.int .i64 t709) := by rw [ha]; exact putSel_on (e := (19, 40, .int .i64 t709)) 11 rfl rfl (hon 19 (by kernel_rfl)) rfl
          replace ha := Aside0.mk ha
          have HO_7 := Aside0.mk Q_HO_7
          have HB := Aside0.mk Q_HB
          have HO708 := Aside0.mk (Q_HO708 (hon 18 (by kernel_rfl)))
          have HI689 := Aside0.mk (Q_HI689_e19 (hon 19 (by kernel_rfl)))
          refine value_ (w1 := w') (v := .int .i64 t709) (by rfl) rfl ?_ ?_
          ·
           go_simp
           (try simp only [i64_w])
           try rfl
          refine hK.out _ _ ⟨v707, (by rw [ha.out]; exact putSel_upk 15 hb_ rfl rfl rfl), Q_HO_7, fun h0_ => absurd ((hon 5 (by kernel_rfl)).symm.trans h0_) (by decide), Q_HB, fun _ h1_ => absurd ((hon 13 (by kernel_rfl)).symm.trans h1_) (by decide), fun _ h1_ => absurd ((hon 19 (by kernel_rfl)).symm.trans h1_) (by decide), Q_HO708, Q_HI689_e19⟩
         exact steps_nil
        rintro b a w28 hall ⟨v707, ha, Q_HO_7, Q_HI689, Q_HB, Q_HI689_e5, Q_HI689_e13, Q_HO708, Q_HI689_e19⟩
        clear HB HI689 HO_7
        have hb4_ := hall 4 (by kernel_rfl)
        have hb5_ := hall 5 (by kernel_rfl)
        have hb6_ := hall 6 (by kernel_rfl)
        have hb7_ := hall 7 (by kernel_rfl)
        have hb8_ := hall 8 (by kernel_rfl)
        have hb12_ := hall 12 (by kernel_rfl)
        have hb13_ := hall 13 (by kernel_rfl)
        have hb14_ := hall 14 (by kernel_rfl)
        have hb15_ := hall 15 (by kernel_rfl)
        have hb16_ := hall 16 (by kernel_rfl)
        have hb18_ := hall 18 (by kernel_rfl)
        have hb19_ := hall 19 (by kernel_rfl)
        have hb20_ := hall 20 (by kernel_rfl)
        have hb21_ := hall 21 (by kernel_rfl)
        have hb22_ := hall 22 (by kernel_rfl)
        have hb23_ := hall 23 (by kernel_rfl)
        subst ha
        simp only [putSel, hb4_, hb5_, hb6_, hb7_, hb8_, hb12_, hb13_, hb14_, hb15_, hb16_, hb18_, hb19_, hb20_, hb21_, hb22_, hb23_, if_true, Act.put, List.setIfInBounds_toArray, List.set_cons_zero, List.set_cons_succ]
        have HO_7 := Aside0.mk Q_HO_7
        clear Q_HO_7
        clear Q_HI689
        have HB := Aside0.mk Q_HB
        clear Q_HB
        clear Q_HI689_e5
        clear Q_HI689_e13
        have HO708 := Aside0.mk (Q_HO708 hb18_)
        clear Q_HO708
        have HI689 := Aside0.mk (Q_HI689_e19 hb19_)
        clear Q_HI689_e19
        clear hall hb4_ hb5_ hb6_ hb7_ hb8_ hb12_ hb13_ hb14_ hb15_ hb16_ hb18_ hb19_ hb20_ hb21_ hb22_ hb23_
        try go_wp2
        refine bodyPost_ret (results_list (rs := [.tmp 2, .tmp 3, .tmp 4, .tmp 5]) rfl (by simp) (.tmp (.tmp (.tmp (.tmp .nil))))) rfl ?_
        exact ⟨_, rr_, kr_ HO_7.out, by repeat (first | (with_reducible first | exact HB.out | apply below_alloc | apply pw_below_drewN | apply below_drew1 | refine below_set ?_ (IsS93.ge HI689.out)) | exact HB.out)⟩
       ·
        rw [if_neg c18] at H
        exact absurd H (by simp)
      ·
       rw [if_neg c17] at H
       exact absurd H (by simp)
     ·
      rw [if_neg c15] at H
      exact absurd H (by simp)
    ·
     rw [if_neg c14] at H
     exact absurd H (by simp)
   ·
    replace c12 := Bool.eq_false_iff.mpr c12
    subst c12
    have H1 : ((spec_l1Cur_name26.f t686 x690001_3 x690002_3).bind fun bt712 => ((spec_l1Cur_name26.f t686 bt712.2.1 bt712.2.2).bind fun bt715 => ((spec_l1Cur_among.f t686 bt715.2.1 bt715.2.2 (([1, 40, 500, 0, 501] : List Int))).bind fun bt721 => (some (t690, bt712.1, bt715.1, bt721.1))))) = some (r1, r2, r3, r4) := by rw [if_neg (show ¬ (false = true) by decide)] at H; exact H
    clear H
    have H := H1
    clear H1
    replace H := Option.bind_eq_some_iff.mp H
    obtain ⟨⟨t712, t713, t714⟩, A290, H⟩ := H
    replace H : ((spec_l1Cur_name26.f t686 t713 t714).bind fun bt715 => ((spec_l1Cur_among.f t686 bt715.2.1 bt715.2.2 (([1, 40, 500, 0, 501] : List Int))).bind fun bt721 => (some (t690, t712, bt715.1, bt721.1)))) = some (r1, r2, r3, r4) := H
    have A29 := Aside0.mk A290
    clear A290
    replace H := Option.bind_eq_some_iff.mp H
    obtain ⟨⟨t715, t716, t717⟩, A300, H⟩ := H
    replace H : ((spec_l1Cur_among.f t686 t716 t717 (([1, 40, 500, 0, 501] : List Int))).bind fun bt721 => (some (t690, t712, t715, bt721.1))) = some (r1, r2, r3, r4) := H
    have A30 := Aside0.mk A300
    clear A300
    obtain ⟨y718, hy718⟩ : ∃ y_ : List Int, y_ = (([1, 40, 500, 0, 501] : List Int)) := ⟨_, rfl⟩
    replace H : ((spec_l1Cur_among.f t686 t716 t717 y718).bind fun bt721 => (some (t690, t712, t715, bt721.1))) = some (r1, r2, r3, r4) := by first | (rw [hy718]; with_reducible exact H) | (have H2_ := (Option.bind_some _ _).symm.trans H; rw [hy718]; with_reducible exact H2_) | (have H2_ := (Option.bind_some _ _).symm.trans H; with_reducible exact H2_) | with_reducible exact H | (rw [hy718]; exact H) | exact H
    have Ny718 := Aside0.mk hy718
    clear hy718
    replace H := Option.bind_eq_some_iff.mp H
    obtain ⟨⟨t721, t722, t723⟩, A310, H⟩ := H
    replace H : (some (t690, t712, t715, t721)) = some (r1, r2, r3, r4) := H
    have A31 := Aside0.mk A310
    clear A310
    simp only [Option.some.injEq, Prod.mk.injEq] at H
    obtain ⟨rfl, rfl, rfl, rfl⟩ := H
    go_wp2_with (first | ((with_reducible refine gate_callee (f := 84) rfl ?_); refine ga_ (some 43) Tryd.func84 #[.pointer (some ⟨g689, 0, none⟩)] ?_; (with_reducible refine (spec_l1Cur_name26.calls g689 t686 x690001_3 x690002_3 t712 t713 t714 w _ ?side1 ?side2 A29.out).mono ?_); (case side1 => repeat (first | (with_reducible first | exact HI689.out | apply IsS93.alloc | apply IsS93.drewN | apply IsS93.drew | apply IsS93.set_1 | apply IsS93.set_2) | exact HI689.out)); (case side2 => repeat (first | (with_reducible first | exact HB.out | apply below_alloc | apply pw_below_drewN | apply below_drew1 | refine below_set ?_ (IsS93.ge HI689.out)) | exact HB.out)); rintro e w32 ⟨rfl, hi, hb, hk⟩; refine ⟨_, rfl, ?_⟩; have n0_ := Aside0.mk (Kd.R_mono (Kd.R_keep (IsS93.apart (show IsS93 w _ g689 t686 x690001_3 x690002_3 from by repeat (first | (with_reducible first | exact HI689.out | apply IsS93.alloc | apply IsS93.drewN | apply IsS93.drew | apply IsS93.set_1 | apply IsS93.set_2) | exact HI689.out)) (kr_ HO_7.out) (by decide)) hk (fun _ h => h.2)) (fun _ h => h.1)); have n1_ := Aside0.mk (hb); have n2_ := Aside0.mk (hi); clear HO_7; clear HB; clear HI689; have HO_7 := n0_; have HB := n1_; have HI689 := n2_; clear n0_ n1_ n2_; (try clear hb); (try clear hb2); (try clear hk); (try clear hi)) | ((with_reducible refine gate_callee (f := 84) rfl ?_); refine ga_ (some 45) Tryd.func84 #[.pointer (some ⟨g689, 0, none⟩)] ?_; (with_reducible refine (spec_l1Cur_name26.calls g689 t686 t713 t714 t715 t716 t717 w _ ?side1 ?side2 A30.out).mono ?_); (case side1 => repeat (first | (with_reducible first | exact HI689.out | apply IsS93.alloc | apply IsS93.drewN | apply IsS93.drew | apply IsS93.set_1 | apply IsS93.set_2) | exact HI689.out)); (case side2 => repeat (first | (with_reducible first | exact HB.out | apply below_alloc | apply pw_below_drewN | apply below_drew1 | refine below_set ?_ (IsS93.ge HI689.out)) | exact HB.out)); rintro e w33 ⟨rfl, hi, hb, hk⟩; refine ⟨_, rfl, ?_⟩; have n0_ := Aside0.mk (Kd.R_mono (Kd.R_keep (IsS93.apart (show IsS93 w _ g689 t686 t713 t714 from by repeat (first | (with_reducible first | exact HI689.out | apply IsS93.alloc | apply IsS93.drewN | apply IsS93.drew | apply IsS93.set_1 | apply IsS93.set_2) | exact HI689.out)) (kr_ HO_7.out) (by decide)) hk (fun _ h => h.2)) (fun _ h => h.1)); have n1_ := Aside0.mk (hb); have n2_ := Aside0.mk (hi); clear HO_7; clear HB; clear HI689; have HO_7 := n0_; have HB := n1_; have HI689 := n2_; clear n0_ n1_ n2_; (try clear hb); (try clear hb2); (try clear hk); (try clear hi)) | ((with_reducible refine gate_dst (N := 47) rfl ?_); refine Kd.R_lit (Kd.int .i64) _ 3 ?hg (N := 47) ?hd (xs := ([1, 40, 500, 0, 501] : List Int)) (inner := [.int .i64 1, .int .i64 40, .int .i64 500, .int .i64 0, .int .i64 501]) (ok := fun _ => True) (okp := fun _ => True) ?hr ?hp (fun _ hk => hk) trivial (Below.refl _ _) (Nat.le_refl _) (by simp) ?_; (case hd => rfl); (case hg => rfl); (case hr => first | (go_simp; done) | (go_simp; rfl)); (case hp => exact (Reps.one (show Kd.M (Kd.int .i64) _ _ _ 1 [.int .i64 1] from rfl) (Reps.one (show Kd.M (Kd.int .i64) _ _ _ 40 [.int .i64 40] from rfl) (Reps.one (show Kd.M (Kd.int .i64) _ _ _ 500 [.int .i64 500] from rfl) (Reps.one (show Kd.M (Kd.int .i64) _ _ _ 0 [.int .i64 0] from rfl) (Reps.one (show Kd.M (Kd.int .i64) _ _ _ 501 [.int .i64 501] from rfl) (Reps.none _ _))))))); intro v719 w34 ho35 hb hg_ hnew_; clear hg_ hnew_; (first | rw [← Ny718.out] at ho35 | (simp only [Int.reduceToNat] at ho35; rw [← Ny718.out] at ho35)); have n0_ := Aside0.mk (Kd.R_below (kr_ HO_7.out) hb); have n1_ := Aside0.mk (Kd.R_lower ho35 (below_size (by repeat (first | (with_reducible first | exact HB.out | apply below_alloc | apply pw_below_drewN | apply below_drew1 | refine below_set ?_ (IsS93.ge HI689.out)) | exact HB.out)))); have n2_ := Aside0.mk (IsS93.below (by repeat (first | (with_reducible first | exact HI689.out | apply IsS93.alloc | apply IsS93.drewN | apply IsS93.drew | apply IsS93.set_1 | apply IsS93.set_2) | exact HI689.out)) hb); have n3_ := Aside0.mk (below_step (by repeat (first | (with_reducible first | exact HB.out | apply below_alloc | apply pw_below_drewN | apply below_drew1 | refine below_set ?_ (IsS93.ge HI689.out)) | exact HB.out)) hb); clear HO_7; clear HI689; clear HB; have HO_7 := n0_; have HO720 := n1_; have HI689 := n2_; have HB := n3_; clear n0_ n1_ n2_ n3_; clear hb ho35; obtain ⟨Ao36, co36, eo36⟩ := Kd.R_slice HO720.out; subst eo36) | ((with_reducible refine gate_callee (f := 83) rfl ?_); refine ga_ (some 48) Tryd.func83 #[.pointer (some ⟨g689, 0, none⟩), .slice Ao36 y718.length co36] ?_; (with_reducible refine (spec_l1Cur_among.calls g689 t686 t716 t717 _ _ y718 t721 t722 t723 w _ ?side1 ?side2 ?side3 ?side4 ?side5 A31.out).mono ?_); (case side1 => repeat (first | (with_reducible first | exact HI689.out | apply IsS93.alloc | apply IsS93.drewN | apply IsS93.drew | apply IsS93.set_1 | apply IsS93.set_2) | exact HI689.out)); (case side2 => repeat (first | (with_reducible first | exact HB.out | apply below_alloc | apply pw_below_drewN | apply below_drew1 | refine below_set ?_ (IsS93.ge HI689.out)) | exact HB.out)); (case side3 => exact kc_ (Kd.R_reads' HO720.out).2.2); (case side4 => exact (Kd.R_reads' HO720.out).2.1); (case side5 => exact far_slice (IsS93.own_ne HI689.out HO720.out (by decide))); rintro e w37 ⟨rfl, hi, hb, hk⟩; refine ⟨_, rfl, ?_⟩; have n0_ := Aside0.mk (Kd.R_mono (Kd.R_keep (IsS93.apart (show IsS93 w _ g689 t686 t716 t717 from by repeat (first | (with_reducible first | exact HI689.out | apply IsS93.alloc | apply IsS93.drewN | apply IsS93.drew | apply IsS93.set_1 | apply IsS93.set_2) | exact HI689.out)) (kr_ HO_7.out) (by decide)) hk (fun _ h => h.2)) (fun _ h => h.1)); have n1_ := Aside0.mk (Kd.R_mono (Kd.R_keep (IsS93.apart (show IsS93 w _ g689 t686 t716 t717 from by repeat (first | (with_reducible first | exact HI689.out | apply IsS93.alloc | apply IsS93.drewN | apply IsS93.drew | apply IsS93.set_1 | apply IsS93.set_2) | exact HI689.out)) (kr_ HO720.out) (by decide)) hk (fun _ h => h.2)) (fun _ h => h.1)); have n2_ := Aside0.mk (hb); have n3_ := Aside0.mk (hi); clear HO_7; clear HO720; clear HB; clear HI689; have HO_7 := n0_; have HO720 := n1_; have HB := n2_; have HI689 := n3_; clear n0_ n1_ n2_ n3_; (try clear hb); (try clear hb2); (try clear hk); (try clear hi)))
    refine bodyPost_ret (results_list (rs := [.tmp 2, .tmp 3, .tmp 4, .tmp 5]) rfl (by simp) (.tmp (.tmp (.tmp (.tmp .nil))))) rfl ?_
    exact ⟨_, rr_, kr_ HO_7.out, by repeat (first | (with_reducible first | exact HB.out | apply below_alloc | apply pw_below_drewN | apply below_drew1 | refine below_set ?_ (IsS93.ge HI689.out)) | exact HB.out)⟩
theorem eqA26 (d : Nat) (w : World) (x0 y0 : ByteArray) (x1 y1 : Int) (x2 y2 : Int) (x3 y3 : Int) :
  (Op.equalIn (d + 2) 26 (.agg #[.string x0, .int .i64 x1, .int .i64 x2, .int .i64 x3]) (.agg #[.string y0, .int .i64 y1, .int .i64 y2, .int .i64 y3])).run Tryd.prog w = .ok (x0.toList == y0.toList && (x1 == y1 && (x2 == y2 && (x3 == y3)))) w := by
 refine eqA_of Tryd.underlying26 (by kernel_rfl) ?_
 refine eqf_cons (by rfl) (by go_simp; rfl) (by go_simp; rfl) (by go_simp) ?_
 refine eqf_cons (by rfl) (by go_simp; rfl) (by go_simp; rfl) (by go_simp) ?_
 refine eqf_cons (by rfl) (by go_simp; rfl) (by go_simp; rfl) (by go_simp) ?_
 exact eqf_last (by rfl) (by go_simp; rfl) (by go_simp; rfl) (by go_simp)
end Go.Proofs.YteepnlofbfccgaaDoor.Pr

namespace Go.Proofs.YteepnlofbfccgaaDoor.Pr
open Go.RowKit Go.Proofs.YteepnlofbfccgaaDoorW.PrintWords Go.Proofs.YteepnlofbfccgaaDoorW.PrintLast Go.Proofs.YteepnlofbfccgaaDoorW.PrintMore
attribute [local go_sem] max2_int min2_int max_two min_two max_three min_three max_four min_four   -- for this text's walks alone
set_option linter.unusedVariables false
set_option linter.unusedSimpArgs false
attribute [local go_sem high] eqA26
def laws_rCaves.l0 : Nat → List (S26) → List (S26) → Int → Option (Bool)
 | 0, _, _, _ => none
 | k + 1, x0, x1, x5 => if x5 < (x0.length : Int) then (if 0 ≤ x5 then (if x5 < (x1.length : Int) then (if (!((((rd_T26 x0 x5).f0).toList) == (((rd_T26 x1 x5).f0).toList)) || (!(((rd_T26 x0 x5).f1) == ((rd_T26 x1 x5).f1)) || (!(((rd_T26 x0 x5).f2) == ((rd_T26 x1 x5).f2)) || (!(((rd_T26 x0 x5).f3) == ((rd_T26 x1 x5).f3)))))) = true then (some false) else (laws_rCaves.l0 k x0 x1 (wrap64 (x5 + 1)))) else (none)) else (none)) else (some true)
def laws_rCaves.f (k : Nat) (l0 : List (S26)) (l1 : List (S26)) : Option (Bool) := if (l0.length : Int) = (l1.length : Int) then (laws_rCaves.l0 k l0 l1 0) else (some false)
set_option maxHeartbeats 8000000 in
set_option maxRecDepth 100000 in
theorem laws_rCaves.calls (k : Nat) (A0 : Option Addr) (c0 : Nat) (l0 : List (S26)) (A1 : Option Addr) (c1 : Nat) (l1 : List (S26)) (r : Bool) (w : World) (hr0 : Kd.C k26 w A0 l0.length l0) (hc0 : l0.length ≤ c0) (hr1 : Kd.C k26 w A1 l1.length l1) (hc1 : l1.length ≤ c1) (h : laws_rCaves.f k l0 l1 = some r) :
  Calls Tryd.prog 47 #[.slice A0 l0.length c0, .slice A1 l1.length c1] w fun e w' => e = .returned (.bool r) ∧ Drawn0 w w' := by
 have hu26 := Tryd.underlying26
 have HR0 := Aside0.mk hr0
 have HC0 := Aside0.mk hc0
 clear hr0 hc0
 have HR1 := Aside0.mk hr1
 have HC1 := Aside0.mk hc1
 clear hr1 hc1
 have H : (if (l0.length : Int) = (l1.length : Int) then (laws_rCaves.l0 k l0 l1 0) else (some false)) = some r := h
 clear h
 by_cases c3 : (l0.length : Int) = (l1.length : Int)
 ·
  rw [if_pos c3] at H
  have c3b0 : ((l0.length : Int) == (l1.length : Int)) = true := beq_iff_eq.mpr c3
  have c3b1 : ((l0.length : Int) != (l1.length : Int)) = false := bne_eq_false_iff_eq.mpr c3
  have c3b2 : (l0.length == l1.length) = true := by first | simpa using c3 | (simp at c3 ⊢; omega)
  clear c3
  have H' := Aside0.mk H
  clear H
  go_enter Tryd.func47, Tryd.ntmps47
  go_wp2
  repeat (go_quiet (fail); try go_wp2)
  go_loopg [5] k (fun kq v5 w' => ∃ (x5_1 : Int), v5 = .int .i64 x5_1 ∧ Aside0 (laws_rCaves.l0 kq l0 l1 x5_1 = some r) ∧ Aside0 (kq ≤ k) ∧ Drawn0 w w')
  case atStart => exact ⟨(0), (by first | rfl | (simp; done) | (simp [*]; done)), H', ⟨Nat.le_refl _⟩, by repeat (first | exact Drawn0.refl _ | apply Drawn0.step)⟩
  case round =>
   clear H'
   try clear c1
   try clear p2
   try clear c3
   try clear c3b0
   try clear c3b1
   try clear c3b2
   obtain ⟨x5_1, rfl, HA, HK1, ⟨m1, rfl⟩⟩ := hrel
   cases gk with
   | zero => exact absurd HA.out (by simp [laws_rCaves.l0])
   | succ k1 =>
    have H := HA.out
    clear HA
    simp only [laws_rCaves.l0] at H
    by_cases c4 : x5_1 < (l0.length : Int)
    ·
     rw [if_pos c4] at H
     have c4b0 : decide (x5_1 < (l0.length : Int)) = true := decide_eq_true c4
     clear c4
     by_cases c5 : 0 ≤ x5_1
     ·
      rw [if_pos c5] at H
      have c5b0 : decide (0 ≤ x5_1) = true := decide_eq_true c5
      clear c5
      by_cases c6 : x5_1 < (l1.length : Int)
      ·
       rw [if_pos c6] at H
       have c6b0 : decide (x5_1 < (l1.length : Int)) = true := decide_eq_true c6
       clear c6
       by_cases c7 : (!((((rd_T26 l0 x5_1).f0).toList) == (((rd_T26 l1 x5_1).f0).toList)) || (!(((rd_T26 l0 x5_1).f1) == ((rd_T26 l1 x5_1).f1)) || (!(((rd_T26 l0 x5_1).f2) == ((rd_T26 l1 x5_1).f2)) || (!(((rd_T26 l0 x5_1).f3) == ((rd_T26 l1 x5_1).f3)))))) = true
       ·
        rw [if_pos c7] at H
        have c7b0 : (!((((rd_T26 l0 x5_1).f0).toList) == (((rd_T26 l1 x5_1).f0).toList)) || (!(((rd_T26 l0 x5_1).f1) == ((rd_T26 l1 x5_1).f1)) || (!(((rd_T26 l0 x5_1).f2) == ((rd_T26 l1 x5_1).f2)) || (!(((rd_T26 l0 x5_1).f3) == ((rd_T26 l1 x5_1).f3)))))) = true := c7
        clear c7
        obtain rfl := Option.some.inj H
        have p724 : 0 ≤ (x5_1 : Int) := dt_
        have q724 : x5_1 < (l0.length : Int) := dt_
        obtain ⟨ad724, e724, hx724_0, hx724_1, hx724_2, hx724_3⟩ := at_T26 HR0.out x5_1 p724 q724
        cases e724
        replace p724 := eq_true p724
        replace q724 := eq_true q724
        have p725 : 0 ≤ (x5_1 : Int) := dt_
        have q725 : x5_1 < (l1.length : Int) := dt_
        obtain ⟨ad725, e725, hx725_0, hx725_1, hx725_2, hx725_3⟩ := at_T26 HR1.out x5_1 p725 q725
        cases e725
        replace p725 := eq_true p725
        replace q725 := eq_true q725
        go_wp2
        repeat (go_quiet (fail); try go_wp2)
        go_ret
        exact ⟨by first | rfl | (simp; done) | (simp [*]; done), by repeat (first | exact Drawn0.refl _ | apply Drawn0.step)⟩
       ·
        rw [if_neg c7] at H
        have c7b0 : (!((((rd_T26 l0 x5_1).f0).toList) == (((rd_T26 l1 x5_1).f0).toList)) || (!(((rd_T26 l0 x5_1).f1) == ((rd_T26 l1 x5_1).f1)) || (!(((rd_T26 l0 x5_1).f2) == ((rd_T26 l1 x5_1).f2)) || (!(((rd_T26 l0 x5_1).f3) == ((rd_T26 l1 x5_1).f3)))))) = false := by simpa using c7
        clear c7
        have H' := Aside0.mk H
        clear H
        have p724 : 0 ≤ (x5_1 : Int) := dt_
        have q724 : x5_1 < (l0.length : Int) := dt_
        obtain ⟨ad724, e724, hx724_0, hx724_1, hx724_2, hx724_3⟩ := at_T26 HR0.out x5_1 p724 q724
        cases e724
        replace p724 := eq_true p724
        replace q724 := eq_true q724
        have p725 : 0 ≤ (x5_1 : Int) := dt_
        have q725 : x5_1 < (l1.length : Int) := dt_
        obtain ⟨ad725, e725, hx725_0, hx725_1, hx725_2, hx725_3⟩ := at_T26 HR1.out x5_1 p725 q725
        cases e725
        replace p725 := eq_true p725
        replace q725 := eq_true q725
        go_wp2
        repeat (go_quiet (fail); try go_wp2)
        go_roundg k1
        case measure => have := HK1.out; omega
        case rel => exact ⟨(wrap64 (x5_1 + 1)), (by first | rfl | (simp; done) | (simp [*]; done)), H', ⟨by have := HK1.out; omega⟩, by repeat (first | exact Drawn0.refl _ | apply Drawn0.step)⟩
      ·
       rw [if_neg c6] at H
       exact absurd H (by simp)
     ·
      rw [if_neg c5] at H
      exact absurd H (by simp)
    ·
     rw [if_neg c4] at H
     have c4b0 : decide (x5_1 < (l0.length : Int)) = false := decide_eq_false c4
     clear c4
     obtain rfl := Option.some.inj H
     go_wp2
     repeat (go_quiet (fail); try go_wp2)
     go_ret
     exact ⟨by first | rfl | (simp; done) | (simp [*]; done), by repeat (first | exact Drawn0.refl _ | apply Drawn0.step)⟩
 ·
  rw [if_neg c3] at H
  have c3b0 : ((l0.length : Int) == (l1.length : Int)) = false := beq_eq_false_iff_ne.mpr c3
  have c3b1 : ((l0.length : Int) != (l1.length : Int)) = true := bne_iff_ne.mpr c3
  have c3b2 : (l0.length == l1.length) = false := by first | simpa using c3 | (simp at c3 ⊢; omega)
  obtain rfl := Option.some.inj H
  go_enter Tryd.func47, Tryd.ntmps47
  go_wp2
  repeat (go_quiet (fail); try go_wp2)
  go_ret
  exact ⟨by first | rfl | (simp; done) | (simp [*]; done), by repeat (first | exact Drawn0.refl _ | apply Drawn0.step)⟩
end Go.Proofs.YteepnlofbfccgaaDoor.Pr

namespace Go.Proofs.YteepnlofbfccgaaDoor.Pr
open Go.RowKit Go.Proofs.YteepnlofbfccgaaDoorW.PrintWords Go.Proofs.YteepnlofbfccgaaDoorW.PrintLast Go.Proofs.YteepnlofbfccgaaDoorW.PrintMore
attribute [local go_sem] max2_int min2_int max_two min_two max_three min_three max_four min_four   -- for this text's walks alone
set_option linter.unusedVariables false
set_option linter.unusedSimpArgs false
def spec_DrawAreCaves.f (k : Nat) (l0 : List Int) : Option ((List (S26))) := (spec_newCur.f l0).bind fun bt726 => ((spec_l1Cur_caves26.f k bt726.1 bt726.2.1 bt726.2.2).bind fun bt730 => (some bt730.1))
set_option maxHeartbeats 8000000 in
set_option maxRecDepth 100000 in
theorem spec_DrawAreCaves.calls (k : Nat) (A0 : Option Addr) (c0 : Nat) (l0 : List Int) (r : List (S26)) (w : World) (hr0 : Kd.C (Kd.int .u8) w A0 l0.length l0) (hc0 : l0.length ≤ c0) (h : spec_DrawAreCaves.f k l0 = some r) :
  Calls Tryd.prog 85 #[.slice A0 l0.length c0] w fun e w' => ∃ v0_ : Value, e = .returned (v0_) ∧ Kd.R k26 26 w' w.heap.size (fun _ => True) v0_ r ∧ Below w.heap.size w w' := by
 have hu93 := Tryd.underlying93
 have HR0 := Aside0.mk hr0
 have HC0 := Aside0.mk hc0
 clear hr0 hc0
 have HB := Aside0.mk (Below.refl w.heap.size w)
 have H : ((spec_newCur.f l0).bind fun bt726 => ((spec_l1Cur_caves26.f k bt726.1 bt726.2.1 bt726.2.2).bind fun bt730 => (some bt730.1))) = some r := h
 clear h
 replace H := Option.bind_eq_some_iff.mp H
 obtain ⟨⟨t726, t727, t728⟩, A20, H⟩ := H
 replace H : ((spec_l1Cur_caves26.f k t726 t727 t728).bind fun bt730 => (some bt730.1)) = some r := H
 have A2 := Aside0.mk A20
 clear A20
 replace H := Option.bind_eq_some_iff.mp H
 obtain ⟨⟨t730, t733, t734⟩, A30, H⟩ := H
 replace H : (some t730) = some r := H
 have A3 := Aside0.mk A30
 clear A30
 obtain rfl := Option.some.inj H
 go_enter Tryd.func85, Tryd.ntmps85
 go_wp2_with (first | ((with_reducible refine gate_dst (N := 6) rfl ?_); refine box_event ?hg (N := 6) ?hd (cs := #[.slice A0 l0.length c0, .int .i64 0, .int .u64 0]) (t := 93) ?hr ?_; (case hd => rfl); (case hg => rfl); (case hr => first | (go_simp; done) | (go_simp; rfl)); intro g729 hg w4 hbx hb2; have hb := below_step (lb0_ HB.out) hb2; have hi : IsS93 w w4 g729 t726 t727 t728 := (by have hz_ := A2.out; simp only [spec_newCur.f, Option.some.injEq, Prod.mk.injEq] at hz_; rw [← hz_.1, ← hz_.2.1, ← hz_.2.2]; exact ⟨_, _, hbx, (by rw [hg]; exact (below_size (lb0_ HB.out)) : w.heap.size ≤ g729), HR0.out⟩); clear hg hbx; have n0_ := Aside0.mk (hb); have n1_ := Aside0.mk (hi); clear HB; have HB := n0_; have HI729 := n1_; clear n0_ n1_; (try clear hb); (try clear hb2); (try clear hk); (try clear hi)) | ((with_reducible refine gate_callee (f := 80) rfl ?_); refine ga_ (some 8) Tryd.func80 #[.pointer (some ⟨g729, 0, none⟩)] ?_; (with_reducible refine (spec_l1Cur_caves26.calls k g729 t726 t727 t728 t730 t733 t734 w _ ?side1 ?side2 A3.out).mono ?_); (case side1 => repeat (first | (with_reducible first | exact HI729.out | apply IsS93.alloc | apply IsS93.drewN | apply IsS93.drew | apply IsS93.set_1 | apply IsS93.set_2) | exact HI729.out)); (case side2 => repeat (first | (with_reducible first | exact HB.out | apply below_alloc | apply pw_below_drewN | apply below_drew1 | refine below_set ?_ (IsS93.ge HI729.out)) | exact HB.out)); rintro e w5 ⟨v731, rfl, ho0, hi, hb, hk⟩; refine ⟨_, rfl, ?_⟩; have n0_ := Aside0.mk (Kd.R_lower ho0 (below_size (by repeat (first | (with_reducible first | exact HB.out | apply below_alloc | apply pw_below_drewN | apply below_drew1 | refine below_set ?_ (IsS93.ge HI729.out)) | exact HB.out)))); have n1_ := Aside0.mk (hb); have n2_ := Aside0.mk (hi); clear HB; clear HI729; have HO732 := n0_; have HB := n1_; have HI729 := n2_; clear n0_ n1_ n2_; (try clear hb); (try clear hb2); (try clear hk); (try clear hi); (try clear ho0)))
 go_ret
 exact ⟨_, rr_, kr_ HO732.out, by repeat (first | (with_reducible first | exact HB.out | apply below_alloc | apply pw_below_drewN | apply below_drew1 | refine below_set ?_ (IsS93.ge HI729.out)) | exact HB.out)⟩
def spec_DrawRankByDepth.f (k : Nat) (l0 : List Int) : Option ((List (S26))) := (spec_DrawAreCaves.f k l0).bind fun t735 => (some t735)
set_option maxHeartbeats 8000000 in
set_option maxRecDepth 100000 in
theorem spec_DrawRankByDepth.calls (k : Nat) (A0 : Option Addr) (c0 : Nat) (l0 : List Int) (r : List (S26)) (w : World) (hr0 : Kd.C (Kd.int .u8) w A0 l0.length l0) (hc0 : l0.length ≤ c0) (h : spec_DrawRankByDepth.f k l0 = some r) :
  Calls Tryd.prog 48 #[.slice A0 l0.length c0] w fun e w' => ∃ v0_ : Value, e = .returned (v0_) ∧ Kd.R k26 26 w' w.heap.size (fun _ => True) v0_ r ∧ Below w.heap.size w w' := by
 have HR0 := Aside0.mk hr0
 have HC0 := Aside0.mk hc0
 clear hr0 hc0
 have HB := Aside0.mk (Below.refl w.heap.size w)
 have H : ((spec_DrawAreCaves.f k l0).bind fun t735 => (some t735)) = some r := h
 clear h
 replace H := Option.bind_eq_some_iff.mp H
 obtain ⟨t735, A20, H⟩ := H
 replace H : (some t735) = some r := H
 have A2 := Aside0.mk A20
 clear A20
 obtain rfl := Option.some.inj H
 go_enter Tryd.func48, Tryd.ntmps48
 go_wp2_with (first | ((with_reducible refine gate_callee (f := 85) rfl ?_); refine ga_ (some 4) Tryd.func85 #[.slice A0 l0.length c0] ?_; (with_reducible refine (spec_DrawAreCaves.calls k _ _ l0 t735 _ ?side1 ?side2 A2.out).mono ?_); (case side1 => exact kc_ HR0.out); (case side2 => exact HC0.out); rintro e w3 ⟨v736, rfl, ho0, hb⟩; refine ⟨_, rfl, ?_⟩; have n0_ := Aside0.mk (Kd.R_lower ho0 (below_size (lb0_ HB.out))); have n1_ := Aside0.mk (below_step (lb0_ HB.out) hb); clear HB; have HO737 := n0_; have HB := n1_; clear n0_ n1_; (try clear hb); (try clear hb2); (try clear hk); (try clear hi); (try clear ho0)))
 go_ret
 exact ⟨_, rr_, kr_ HO737.out, lb0_ HB.out⟩
def laws_rTexts.l0 : Nat → List ByteArray → List ByteArray → Int → Option (Bool)
 | 0, _, _, _ => none
 | k + 1, x0, x1, x5 => if x5 < (x0.length : Int) then (if 0 ≤ x5 then (if x5 < (x1.length : Int) then (if (rdOf ByteArray.empty x0 x5).toList = (rdOf ByteArray.empty x1 x5).toList then (laws_rTexts.l0 k x0 x1 (wrap64 (x5 + 1))) else (some false)) else (none)) else (none)) else (some true)
def laws_rTexts.f (k : Nat) (l0 : List ByteArray) (l1 : List ByteArray) : Option (Bool) := if (l0.length : Int) = (l1.length : Int) then (laws_rTexts.l0 k l0 l1 0) else (some false)
set_option maxHeartbeats 8000000 in
set_option maxRecDepth 100000 in
theorem laws_rTexts.calls (k : Nat) (A0 : Option Addr) (c0 : Nat) (l0 : List ByteArray) (A1 : Option Addr) (c1 : Nat) (l1 : List ByteArray) (r : Bool) (w : World) (hr0 : Kd.C Kd.string w A0 l0.length l0) (hc0 : l0.length ≤ c0) (hr1 : Kd.C Kd.string w A1 l1.length l1) (hc1 : l1.length ≤ c1) (h : laws_rTexts.f k l0 l1 = some r) :
  Calls Tryd.prog 49 #[.slice A0 l0.length c0, .slice A1 l1.length c1] w fun e w' => e = .returned (.bool r) ∧ Drawn0 w w' := by
 have HR0 := Aside0.mk hr0
 have HC0 := Aside0.mk hc0
 clear hr0 hc0
 have HR1 := Aside0.mk hr1
 have HC1 := Aside0.mk hc1
 clear hr1 hc1
 have H : (if (l0.length : Int) = (l1.length : Int) then (laws_rTexts.l0 k l0 l1 0) else (some false)) = some r := h
 clear h
 by_cases c3 : (l0.length : Int) = (l1.length : Int)
 ·
  rw [if_pos c3] at H
  have c3b0 : ((l0.length : Int) == (l1.length : Int)) = true := beq_iff_eq.mpr c3
  have c3b1 : ((l0.length : Int) != (l1.length : Int)) = false := bne_eq_false_iff_eq.mpr c3
  have c3b2 : (l0.length == l1.length) = true := by first | simpa using c3 | (simp at c3 ⊢; omega)
  clear c3
  have H' := Aside0.mk H
  clear H
  go_enter Tryd.func49, Tryd.ntmps49
  go_wp2
  repeat (go_quiet (fail); try go_wp2)
  go_loopg [5] k (fun kq v5 w' => ∃ (x5_1 : Int), v5 = .int .i64 x5_1 ∧ Aside0 (laws_rTexts.l0 kq l0 l1 x5_1 = some r) ∧ Aside0 (kq ≤ k) ∧ Drawn0 w w')
  case atStart => exact ⟨(0), (by first | rfl | (simp; done) | (simp [*]; done)), H', ⟨Nat.le_refl _⟩, by repeat (first | exact Drawn0.refl _ | apply Drawn0.step)⟩
  case round =>
   clear H'
   try clear c1
   try clear p2
   try clear c3
   try clear c3b0
   try clear c3b1
   try clear c3b2
   obtain ⟨x5_1, rfl, HA, HK1, ⟨m1, rfl⟩⟩ := hrel
   cases gk with
   | zero => exact absurd HA.out (by simp [laws_rTexts.l0])
   | succ k1 =>
    have H := HA.out
    clear HA
    simp only [laws_rTexts.l0] at H
    by_cases c4 : x5_1 < (l0.length : Int)
    ·
     rw [if_pos c4] at H
     have c4b0 : decide (x5_1 < (l0.length : Int)) = true := decide_eq_true c4
     clear c4
     by_cases c5 : 0 ≤ x5_1
     ·
      rw [if_pos c5] at H
      have c5b0 : decide (0 ≤ x5_1) = true := decide_eq_true c5
      clear c5
      by_cases c6 : x5_1 < (l1.length : Int)
      ·
       rw [if_pos c6] at H
       have c6b0 : decide (x5_1 < (l1.length : Int)) = true := decide_eq_true c6
       clear c6
       by_cases c7 : (rdOf ByteArray.empty l0 x5_1).toList = (rdOf ByteArray.empty l1 x5_1).toList
       ·
        rw [if_pos c7] at H
        have c7b0 : ((rdOf ByteArray.empty l0 x5_1).toList == (rdOf ByteArray.empty l1 x5_1).toList) = true := beq_iff_eq.mpr c7
        have c7b1 : ((rdOf ByteArray.empty l0 x5_1).toList != (rdOf ByteArray.empty l1 x5_1).toList) = false := bne_eq_false_iff_eq.mpr c7
        clear c7
        have H' := Aside0.mk H
        clear H
        have p738 : 0 ≤ (x5_1 : Int) := dt_
        have q738 : x5_1 < (l0.length : Int) := dt_
        obtain ⟨ad738, e738, hx738_0⟩ := Kd.at_string HR0.out x5_1 p738 q738
        cases e738
        replace p738 := eq_true p738
        replace q738 := eq_true q738
        have p739 : 0 ≤ (x5_1 : Int) := dt_
        have q739 : x5_1 < (l1.length : Int) := dt_
        obtain ⟨ad739, e739, hx739_0⟩ := Kd.at_string HR1.out x5_1 p739 q739
        cases e739
        replace p739 := eq_true p739
        replace q739 := eq_true q739
        go_wp2
        repeat (go_quiet (fail); try go_wp2)
        go_roundg k1
        case measure => have := HK1.out; omega
        case rel => exact ⟨(wrap64 (x5_1 + 1)), (by first | rfl | (simp; done) | (simp [*]; done)), H', ⟨by have := HK1.out; omega⟩, by repeat (first | exact Drawn0.refl _ | apply Drawn0.step)⟩
       ·
        rw [if_neg c7] at H
        have c7b0 : ((rdOf ByteArray.empty l0 x5_1).toList == (rdOf ByteArray.empty l1 x5_1).toList) = false := beq_eq_false_iff_ne.mpr c7
        have c7b1 : ((rdOf ByteArray.empty l0 x5_1).toList != (rdOf ByteArray.empty l1 x5_1).toList) = true := bne_iff_ne.mpr c7
        obtain rfl := Option.some.inj H
        have p738 : 0 ≤ (x5_1 : Int) := dt_
        have q738 : x5_1 < (l0.length : Int) := dt_
        obtain ⟨ad738, e738, hx738_0⟩ := Kd.at_string HR0.out x5_1 p738 q738
        cases e738
        replace p738 := eq_true p738
        replace q738 := eq_true q738
        have p739 : 0 ≤ (x5_1 : Int) := dt_
        have q739 : x5_1 < (l1.length : Int) := dt_
        obtain ⟨ad739, e739, hx739_0⟩ := Kd.at_string HR1.out x5_1 p739 q739
        cases e739
        replace p739 := eq_true p739
        replace q739 := eq_true q739
        go_wp2
        repeat (go_quiet (fail); try go_wp2)
        go_ret
        exact ⟨by first | rfl | (simp; done) | (simp [*]; done), by repeat (first | exact Drawn0.refl _ | apply Drawn0.step)⟩
      ·
       rw [if_neg c6] at H
       exact absurd H (by simp)
     ·
      rw [if_neg c5] at H
      exact absurd H (by simp)
    ·
     rw [if_neg c4] at H
     have c4b0 : decide (x5_1 < (l0.length : Int)) = false := decide_eq_false c4
     clear c4
     obtain rfl := Option.some.inj H
     go_wp2
     repeat (go_quiet (fail); try go_wp2)
     go_ret
     exact ⟨by first | rfl | (simp; done) | (simp [*]; done), by repeat (first | exact Drawn0.refl _ | apply Drawn0.step)⟩
 ·
  rw [if_neg c3] at H
  have c3b0 : ((l0.length : Int) == (l1.length : Int)) = false := beq_eq_false_iff_ne.mpr c3
  have c3b1 : ((l0.length : Int) != (l1.length : Int)) = true := bne_iff_ne.mpr c3
  have c3b2 : (l0.length == l1.length) = false := by first | simpa using c3 | (simp at c3 ⊢; omega)
  obtain rfl := Option.some.inj H
  go_enter Tryd.func49, Tryd.ntmps49
  go_wp2
  repeat (go_quiet (fail); try go_wp2)
  go_ret
  exact ⟨by first | rfl | (simp; done) | (simp [*]; done), by repeat (first | exact Drawn0.refl _ | apply Drawn0.step)⟩
def laws_rHasText.l0 : Nat → List ByteArray → ByteArray → Int → Option (Bool)
 | 0, _, _, _ => none
 | k + 1, x0, x1, x5 => if x5 < (x0.length : Int) then (if 0 ≤ x5 then (if (rdOf ByteArray.empty x0 x5).toList = x1.toList then (some true) else (laws_rHasText.l0 k x0 x1 (wrap64 (x5 + 1)))) else (none)) else (some false)
def laws_rHasText.f (k : Nat) (l0 : List ByteArray) (a1 : ByteArray) : Option (Bool) := laws_rHasText.l0 k l0 a1 0
set_option maxHeartbeats 8000000 in
set_option maxRecDepth 100000 in
theorem laws_rHasText.calls (k : Nat) (A0 : Option Addr) (c0 : Nat) (l0 : List ByteArray) (a1 : ByteArray) (r : Bool) (w : World) (hr0 : Kd.C Kd.string w A0 l0.length l0) (hc0 : l0.length ≤ c0) (h : laws_rHasText.f k l0 a1 = some r) :
  Calls Tryd.prog 50 #[.slice A0 l0.length c0, .string a1] w fun e w' => e = .returned (.bool r) ∧ Drawn0 w w' := by
 have HR0 := Aside0.mk hr0
 have HC0 := Aside0.mk hc0
 clear hr0 hc0
 have H : (laws_rHasText.l0 k l0 a1 0) = some r := h
 clear h
 have H' := Aside0.mk H
 clear H
 go_enter Tryd.func50, Tryd.ntmps50
 go_wp2
 go_loopg [5] k (fun kq v5 w' => ∃ (x5_1 : Int), v5 = .int .i64 x5_1 ∧ Aside0 (laws_rHasText.l0 kq l0 a1 x5_1 = some r) ∧ Aside0 (kq ≤ k) ∧ Drawn0 w w')
 case atStart => exact ⟨(0), (by first | rfl | (simp; done) | (simp [*]; done)), H', ⟨Nat.le_refl _⟩, by repeat (first | exact Drawn0.refl _ | apply Drawn0.step)⟩
 case round =>
  clear H'
  try clear p2
  obtain ⟨x5_1, rfl, HA, HK1, ⟨m1, rfl⟩⟩ := hrel
  cases gk with
  | zero => exact absurd HA.out (by simp [laws_rHasText.l0])
  | succ k1 =>
   have H := HA.out
   clear HA
   simp only [laws_rHasText.l0] at H
   by_cases c3 : x5_1 < (l0.length : Int)
   ·
    rw [if_pos c3] at H
    have c3b0 : decide (x5_1 < (l0.length : Int)) = true := decide_eq_true c3
    clear c3
    by_cases c4 : 0 ≤ x5_1
    ·
     rw [if_pos c4] at H
     have c4b0 : decide (0 ≤ x5_1) = true := decide_eq_true c4
     clear c4
     by_cases c5 : (rdOf ByteArray.empty l0 x5_1).toList = a1.toList
     ·
      rw [if_pos c5] at H
      have c5b0 : ((rdOf ByteArray.empty l0 x5_1).toList == a1.toList) = true := beq_iff_eq.mpr c5
      have c5b1 : ((rdOf ByteArray.empty l0 x5_1).toList != a1.toList) = false := bne_eq_false_iff_eq.mpr c5
      clear c5
      obtain rfl := Option.some.inj H
      have p740 : 0 ≤ (x5_1 : Int) := dt_
      have q740 : x5_1 < (l0.length : Int) := dt_
      obtain ⟨ad740, e740, hx740_0⟩ := Kd.at_string HR0.out x5_1 p740 q740
      cases e740
      replace p740 := eq_true p740
      replace q740 := eq_true q740
      go_wp2
      go_ret
      exact ⟨by first | rfl | (simp; done) | (simp [*]; done), by repeat (first | exact Drawn0.refl _ | apply Drawn0.step)⟩
     ·
      rw [if_neg c5] at H
      have c5b0 : ((rdOf ByteArray.empty l0 x5_1).toList == a1.toList) = false := beq_eq_false_iff_ne.mpr c5
      have c5b1 : ((rdOf ByteArray.empty l0 x5_1).toList != a1.toList) = true := bne_iff_ne.mpr c5
      have H' := Aside0.mk H
      clear H
      have p740 : 0 ≤ (x5_1 : Int) := dt_
      have q740 : x5_1 < (l0.length : Int) := dt_
      obtain ⟨ad740, e740, hx740_0⟩ := Kd.at_string HR0.out x5_1 p740 q740
      cases e740
      replace p740 := eq_true p740
      replace q740 := eq_true q740
      go_wp2
      go_roundg k1
      case measure => have := HK1.out; omega
      case rel => exact ⟨(wrap64 (x5_1 + 1)), (by first | rfl | (simp; done) | (simp [*]; done)), H', ⟨by have := HK1.out; omega⟩, by repeat (first | exact Drawn0.refl _ | apply Drawn0.step)⟩
    ·
     rw [if_neg c4] at H
     exact absurd H (by simp)
   ·
    rw [if_neg c3] at H
    have c3b0 : decide (x5_1 < (l0.length : Int)) = false := decide_eq_false c3
    clear c3
    obtain rfl := Option.some.inj H
    go_wp2
    go_ret
    exact ⟨by first | rfl | (simp; done) | (simp [*]; done), by repeat (first | exact Drawn0.refl _ | apply Drawn0.step)⟩
def spec_DrawAddSurvey.j0 : Nat → List (S26) → ByteArray → Bool → List Int → Int → Int → Option ((List (S26)) × ByteArray × Int × Int × Int)
 | 0, _, _, _, _, _, _ => none
 | k + 1, x8, x9, x24, x745000, x745001, x745002 => if x24 = true then ((spec_l1Cur_pick.f x745000 x745001 x745002 (x8.length : Int)).bind fun bt756 => (if 0 ≤ bt756.1 then (if bt756.1 < (x8.length : Int) then ((spec_l1Cur_among.f x745000 bt756.2.1 bt756.2.2 (([1, 100, 900000, 0] : List Int))).bind fun bt763 => ((spec_l1Cur_among.f x745000 bt763.2.1 bt763.2.2 (([1, 5, 9999, 0] : List Int))).bind fun bt769 => ((spec_l1Cur_among.f x745000 bt769.2.1 bt769.2.2 (([0, 50, 20000, (-1), 20001] : List Int))).bind fun bt775 => (some (x8, (rd_T26 x8 bt756.1).f0, bt763.1, bt769.1, bt775.1))))) else (none)) else (none))) else ((spec_l1Cur_among.f x745000 x745001 x745002 (([1, 100, 900000, 0] : List Int))).bind fun bt781 => ((spec_l1Cur_among.f x745000 bt781.2.1 bt781.2.2 (([1, 5, 9999, 0] : List Int))).bind fun bt787 => ((spec_l1Cur_among.f x745000 bt787.2.1 bt787.2.2 (([0, 50, 20000, (-1), 20001] : List Int))).bind fun bt793 => (some (x8, x9, bt781.1, bt787.1, bt793.1)))))
def spec_DrawAddSurvey.f (k : Nat) (l0 : List Int) : Option ((List (S26)) × ByteArray × Int × Int × Int) := (spec_newCur.f l0).bind fun bt741 => ((spec_l1Cur_caves26.f k bt741.1 bt741.2.1 bt741.2.2).bind fun bt745 => ((spec_l1Cur_name26.f bt741.1 bt745.2.1 bt745.2.2).bind fun bt750 => (if (bt745.1.length : Int) > 0 then ((spec_l1Cur_one.f bt741.1 bt750.2.1 bt750.2.2 4).bind fun bt753 => (spec_DrawAddSurvey.j0 k bt745.1 bt750.1 (!bt753.1) bt741.1 bt753.2.1 bt753.2.2)) else (spec_DrawAddSurvey.j0 k bt745.1 bt750.1 false bt741.1 bt750.2.1 bt750.2.2))))
set_option maxHeartbeats 8000000 in
set_option maxRecDepth 100000 in
theorem spec_DrawAddSurvey.calls (k : Nat) (A0 : Option Addr) (c0 : Nat) (l0 : List Int) (r1 : List (S26)) (r2 : ByteArray) (r3 : Int) (r4 : Int) (r5 : Int) (w : World) (hr0 : Kd.C (Kd.int .u8) w A0 l0.length l0) (hc0 : l0.length ≤ c0) (h : spec_DrawAddSurvey.f k l0 = some (r1, r2, r3, r4, r5)) :
  Calls Tryd.prog 51 #[.slice A0 l0.length c0] w fun e w' => ∃ v0_ : Value, e = .returned (.tuple #[v0_, .string r2, .int .i64 r3, .int .i64 r4, .int .i64 r5]) ∧ Kd.R k26 26 w' w.heap.size (fun _ => True) v0_ r1 ∧ Below w.heap.size w w' := by
 have hu93 := Tryd.underlying93
 have HR0 := Aside0.mk hr0
 have HC0 := Aside0.mk hc0
 clear hr0 hc0
 have HB := Aside0.mk (Below.refl w.heap.size w)
 have H : ((spec_newCur.f l0).bind fun bt741 => ((spec_l1Cur_caves26.f k bt741.1 bt741.2.1 bt741.2.2).bind fun bt745 => ((spec_l1Cur_name26.f bt741.1 bt745.2.1 bt745.2.2).bind fun bt750 => (if (bt745.1.length : Int) > 0 then ((spec_l1Cur_one.f bt741.1 bt750.2.1 bt750.2.2 4).bind fun bt753 => (spec_DrawAddSurvey.j0 k bt745.1 bt750.1 (!bt753.1) bt741.1 bt753.2.1 bt753.2.2)) else (spec_DrawAddSurvey.j0 k bt745.1 bt750.1 false bt741.1 bt750.2.1 bt750.2.2))))) = some (r1, r2, r3, r4, r5) := h
 clear h
 replace H := Option.bind_eq_some_iff.mp H
 obtain ⟨⟨t741, t742, t743⟩, A20, H⟩ := H
 replace H : ((spec_l1Cur_caves26.f k t741 t742 t743).bind fun bt745 => ((spec_l1Cur_name26.f t741 bt745.2.1 bt745.2.2).bind fun bt750 => (if (bt745.1.length : Int) > 0 then ((spec_l1Cur_one.f t741 bt750.2.1 bt750.2.2 4).bind fun bt753 => (spec_DrawAddSurvey.j0 k bt745.1 bt750.1 (!bt753.1) t741 bt753.2.1 bt753.2.2)) else (spec_DrawAddSurvey.j0 k bt745.1 bt750.1 false t741 bt750.2.1 bt750.2.2)))) = some (r1, r2, r3, r4, r5) := H
 have A2 := Aside0.mk A20
 clear A20
 replace H := Option.bind_eq_some_iff.mp H
 obtain ⟨⟨t745, t748, t749⟩, A30, H⟩ := H
 replace H : ((spec_l1Cur_name26.f t741 t748 t749).bind fun bt750 => (if (t745.length : Int) > 0 then ((spec_l1Cur_one.f t741 bt750.2.1 bt750.2.2 4).bind fun bt753 => (spec_DrawAddSurvey.j0 k t745 bt750.1 (!bt753.1) t741 bt753.2.1 bt753.2.2)) else (spec_DrawAddSurvey.j0 k t745 bt750.1 false t741 bt750.2.1 bt750.2.2))) = some (r1, r2, r3, r4, r5) := H
 have A3 := Aside0.mk A30
 clear A30
 replace H := Option.bind_eq_some_iff.mp H
 obtain ⟨⟨t750, t751, t752⟩, A40, H⟩ := H
 replace H : (if (t745.length : Int) > 0 then ((spec_l1Cur_one.f t741 t751 t752 4).bind fun bt753 => (spec_DrawAddSurvey.j0 k t745 t750 (!bt753.1) t741 bt753.2.1 bt753.2.2)) else (spec_DrawAddSurvey.j0 k t745 t750 false t741 t751 t752)) = some (r1, r2, r3, r4, r5) := H
 have A4 := Aside0.mk A40
 clear A40
 have HC5 := Aside0.mk H
 clear H
 go_enter Tryd.func51, Tryd.ntmps51
 go_upto_region 4 with (first | ((with_reducible refine gate_dst (N := 12) rfl ?_); refine box_event ?hg (N := 12) ?hd (cs := #[.slice A0 l0.length c0, .int .i64 0, .int .u64 0]) (t := 93) ?hr ?_; (case hd => rfl); (case hg => rfl); (case hr => first | (go_simp; done) | (go_simp; rfl)); intro g744 hg w6 hbx hb2; have hb := below_step (lb0_ HB.out) hb2; have hi : IsS93 w w6 g744 t741 t742 t743 := (by have hz_ := A2.out; simp only [spec_newCur.f, Option.some.injEq, Prod.mk.injEq] at hz_; rw [← hz_.1, ← hz_.2.1, ← hz_.2.2]; exact ⟨_, _, hbx, (by rw [hg]; exact (below_size (lb0_ HB.out)) : w.heap.size ≤ g744), HR0.out⟩); clear hg hbx; have n0_ := Aside0.mk (hb); have n1_ := Aside0.mk (hi); clear HB; have HB := n0_; have HI744 := n1_; clear n0_ n1_; (try clear hb); (try clear hb2); (try clear hk); (try clear hi)) | ((with_reducible refine gate_callee (f := 80) rfl ?_); refine ga_ (some 14) Tryd.func80 #[.pointer (some ⟨g744, 0, none⟩)] ?_; (with_reducible refine (spec_l1Cur_caves26.calls k g744 t741 t742 t743 t745 t748 t749 w _ ?side1 ?side2 A3.out).mono ?_); (case side1 => repeat (first | (with_reducible first | exact HI744.out | apply IsS93.alloc | apply IsS93.drewN | apply IsS93.drew | apply IsS93.set_1 | apply IsS93.set_2) | exact HI744.out)); (case side2 => repeat (first | (with_reducible first | exact HB.out | apply below_alloc | apply pw_below_drewN | apply below_drew1 | refine below_set ?_ (IsS93.ge HI744.out)) | exact HB.out)); rintro e w7 ⟨v746, rfl, ho0, hi, hb, hk⟩; refine ⟨_, rfl, ?_⟩; have n0_ := Aside0.mk (Kd.R_lower ho0 (below_size (by repeat (first | (with_reducible first | exact HB.out | apply below_alloc | apply pw_below_drewN | apply below_drew1 | refine below_set ?_ (IsS93.ge HI744.out)) | exact HB.out)))); have n1_ := Aside0.mk (hb); have n2_ := Aside0.mk (hi); clear HB; clear HI744; have HO747 := n0_; have HB := n1_; have HI744 := n2_; clear n0_ n1_ n2_; (try clear hb); (try clear hb2); (try clear hk); (try clear hi); (try clear ho0)) | ((with_reducible refine gate_callee (f := 84) rfl ?_); refine ga_ (some 16) Tryd.func84 #[.pointer (some ⟨g744, 0, none⟩)] ?_; (with_reducible refine (spec_l1Cur_name26.calls g744 t741 t748 t749 t750 t751 t752 w _ ?side1 ?side2 A4.out).mono ?_); (case side1 => repeat (first | (with_reducible first | exact HI744.out | apply IsS93.alloc | apply IsS93.drewN | apply IsS93.drew | apply IsS93.set_1 | apply IsS93.set_2) | exact HI744.out)); (case side2 => repeat (first | (with_reducible first | exact HB.out | apply below_alloc | apply pw_below_drewN | apply below_drew1 | refine below_set ?_ (IsS93.ge HI744.out)) | exact HB.out)); rintro e w8 ⟨rfl, hi, hb, hk⟩; refine ⟨_, rfl, ?_⟩; have n0_ := Aside0.mk (Kd.R_mono (Kd.R_keep (IsS93.apart (show IsS93 w _ g744 t741 t748 t749 from by repeat (first | (with_reducible first | exact HI744.out | apply IsS93.alloc | apply IsS93.drewN | apply IsS93.drew | apply IsS93.set_1 | apply IsS93.set_2) | exact HI744.out)) (kr_ HO747.out) (by decide)) hk (fun _ h => h.2)) (fun _ h => h.1)); have n1_ := Aside0.mk (hb); have n2_ := Aside0.mk (hi); clear HO747; clear HB; clear HI744; have HO747 := n0_; have HB := n1_; have HI744 := n2_; clear n0_ n1_ n2_; (try clear hb); (try clear hb2); (try clear hk); (try clear hi)))
 (try simp only [Act.put, List.setIfInBounds_toArray, List.set_cons_zero, List.set_cons_succ])
 go_cut [24] (fun v24 wc => ∃ (kq : Nat) (x24_4 : Bool) (x745001_4 : Int) (x745002_4 : Int), v24 = .bool x24_4 ∧ Aside0 (spec_DrawAddSurvey.j0 kq t745 t750 x24_4 t741 x745001_4 x745002_4 = some (r1, r2, r3, r4, r5)) ∧ Aside0 (kq ≤ k) ∧ Aside0 (Kd.R k26 26 wc w.heap.size (fun _ => True) v746 t745) ∧ Aside0 (IsS93 w wc g744 t741 x745001_4 x745002_4) ∧ Aside0 (Below w.heap.size w wc))
 case first =>
  have H := HC5.out
  clear HC5
  by_cases c9 : (t745.length : Int) > 0
  ·
   rw [if_pos c9] at H
   have c9b0 : decide (0 < (t745.length : Int)) = true := decide_eq_true c9
   have c9b1 : decide (0 < t745.length) = true := decide_eq_true (by omega)
   clear c9
   (first | rw [c9b0] | (simp only [i64_w, i32_w]; rw [c9b0]) | skip)
   replace H := Option.bind_eq_some_iff.mp H
   obtain ⟨⟨t753, t754, t755⟩, A100, H⟩ := H
   replace H : (spec_DrawAddSurvey.j0 k t745 t750 (!t753) t741 t754 t755) = some (r1, r2, r3, r4, r5) := H
   have A10 := Aside0.mk A100
   clear A100
   have H' := Aside0.mk H
   clear H
   obtain ⟨Ao11, co11, eo11⟩ := Kd.R_slice HO747.out
   subst eo11
   go_wp2_with (first | (go_at_call 81; (with_reducible refine (spec_l1Cur_one.calls g744 t741 t751 t752 4 t753 t754 t755 w _ ?side1 ?side2 A10.out).mono ?_); (case side1 => repeat (first | (with_reducible first | exact HI744.out | apply IsS93.alloc | apply IsS93.drewN | apply IsS93.drew | apply IsS93.set_1 | apply IsS93.set_2) | exact HI744.out)); (case side2 => repeat (first | (with_reducible first | exact HB.out | apply below_alloc | apply pw_below_drewN | apply below_drew1 | refine below_set ?_ (IsS93.ge HI744.out)) | exact HB.out)); rintro e w12 ⟨rfl, hi, hb, hk⟩; have n0_ := Aside0.mk (Kd.R_mono (Kd.R_keep (IsS93.apart (show IsS93 w _ g744 t741 t751 t752 from by repeat (first | (with_reducible first | exact HI744.out | apply IsS93.alloc | apply IsS93.drewN | apply IsS93.drew | apply IsS93.set_1 | apply IsS93.set_2) | exact HI744.out)) (kr_ HO747.out) (by decide)) hk (fun _ h => h.2)) (fun _ h => h.1)); have n1_ := Aside0.mk (hb); have n2_ := Aside0.mk (hi); clear HO747; clear HB; clear HI744; have HO747 := n0_; have HB := n1_; have HI744 := n2_; clear n0_ n1_ n2_; (try clear hb); (try clear hb2); (try clear hk); (try clear hi)))
   go_meet
   case rel => exact ⟨_, (!t753), (t754), (t755), (by first | rfl | (simp; done) | (simp [*]; done)), H', ⟨by first | omega | exact Nat.le_refl _⟩, ⟨kr_ HO747.out⟩, ⟨by repeat (first | (with_reducible first | exact HI744.out | apply IsS93.alloc | apply IsS93.drewN | apply IsS93.drew | apply IsS93.set_1 | apply IsS93.set_2) | exact HI744.out)⟩, ⟨by repeat (first | (with_reducible first | exact HB.out | apply below_alloc | apply pw_below_drewN | apply below_drew1 | refine below_set ?_ (IsS93.ge HI744.out)) | exact HB.out)⟩⟩
  ·
   rw [if_neg c9] at H
   have c9b0 : decide (0 < (t745.length : Int)) = false := decide_eq_false c9
   have c9b1 : decide (0 < t745.length) = false := decide_eq_false (by omega)
   clear c9
   (first | rw [c9b0] | (simp only [i64_w, i32_w]; rw [c9b0]) | skip)
   have H' := Aside0.mk H
   clear H
   obtain ⟨Ao13, co13, eo13⟩ := Kd.R_slice HO747.out
   subst eo13
   go_wp2
   go_meet
   case rel => exact ⟨_, (false), (t751), (t752), (by first | rfl | (simp; done) | (simp [*]; done)), H', ⟨by first | omega | exact Nat.le_refl _⟩, ⟨kr_ HO747.out⟩, ⟨by repeat (first | (with_reducible first | exact HI744.out | apply IsS93.alloc | apply IsS93.drewN | apply IsS93.drew | apply IsS93.set_1 | apply IsS93.set_2) | exact HI744.out)⟩, ⟨by repeat (first | (with_reducible first | exact HB.out | apply below_alloc | apply pw_below_drewN | apply below_drew1 | refine below_set ?_ (IsS93.ge HI744.out)) | exact HB.out)⟩⟩
 case rest =>
  clear HC5
  try clear p2
  try clear c5
  try clear c8
  try clear c9
  try clear c9b0
  try clear c9b1
  obtain ⟨kq, x24_4, x745001_4, x745002_4, rfl, HA, HJ4, HO_8, HI744, HB⟩ := hcut
  cases kq with
  | zero => exact absurd HA.out (by simp [spec_DrawAddSurvey.j0])
  | succ kj4 =>
   have H := HA.out
   clear HA
   simp only [spec_DrawAddSurvey.j0] at H
   by_cases c14 : x24_4 = true
   ·
    subst c14
    have H1 : ((spec_l1Cur_pick.f t741 x745001_4 x745002_4 (t745.length : Int)).bind fun bt756 => (if 0 ≤ bt756.1 then (if bt756.1 < (t745.length : Int) then ((spec_l1Cur_among.f t741 bt756.2.1 bt756.2.2 (([1, 100, 900000, 0] : List Int))).bind fun bt763 => ((spec_l1Cur_among.f t741 bt763.2.1 bt763.2.2 (([1, 5, 9999, 0] : List Int))).bind fun bt769 => ((spec_l1Cur_among.f t741 bt769.2.1 bt769.2.2 (([0, 50, 20000, (-1), 20001] : List Int))).bind fun bt775 => (some (t745, (rd_T26 t745 bt756.1).f0, bt763.1, bt769.1, bt775.1))))) else (none)) else (none))) = some (r1, r2, r3, r4, r5) := by rw [if_pos rfl] at H; exact H
    clear H
    have H := H1
    clear H1
    replace H := Option.bind_eq_some_iff.mp H
    obtain ⟨⟨t756, t757, t758⟩, A150, H⟩ := H
    replace H : (if 0 ≤ t756 then (if t756 < (t745.length : Int) then ((spec_l1Cur_among.f t741 t757 t758 (([1, 100, 900000, 0] : List Int))).bind fun bt763 => ((spec_l1Cur_among.f t741 bt763.2.1 bt763.2.2 (([1, 5, 9999, 0] : List Int))).bind fun bt769 => ((spec_l1Cur_among.f t741 bt769.2.1 bt769.2.2 (([0, 50, 20000, (-1), 20001] : List Int))).bind fun bt775 => (some (t745, (rd_T26 t745 t756).f0, bt763.1, bt769.1, bt775.1))))) else (none)) else (none)) = some (r1, r2, r3, r4, r5) := H
    have A15 := Aside0.mk A150
    clear A150
    by_cases c16 : 0 ≤ t756
    ·
     rw [if_pos c16] at H
     have c16b0 : decide (0 ≤ t756) = true := decide_eq_true c16
     clear c16
     by_cases c17 : t756 < (t745.length : Int)
     ·
      rw [if_pos c17] at H
      have c17b0 : decide (t756 < (t745.length : Int)) = true := decide_eq_true c17
      clear c17
      obtain ⟨y760, hy760⟩ : ∃ y_ : List Int, y_ = (([1, 100, 900000, 0] : List Int)) := ⟨_, rfl⟩
      replace H : ((spec_l1Cur_among.f t741 t757 t758 y760).bind fun bt763 => ((spec_l1Cur_among.f t741 bt763.2.1 bt763.2.2 (([1, 5, 9999, 0] : List Int))).bind fun bt769 => ((spec_l1Cur_among.f t741 bt769.2.1 bt769.2.2 (([0, 50, 20000, (-1), 20001] : List Int))).bind fun bt775 => (some (t745, (rd_T26 t745 t756).f0, bt763.1, bt769.1, bt775.1))))) = some (r1, r2, r3, r4, r5) := by first | (rw [hy760]; with_reducible exact H) | (have H2_ := (Option.bind_some _ _).symm.trans H; rw [hy760]; with_reducible exact H2_) | (have H2_ := (Option.bind_some _ _).symm.trans H; with_reducible exact H2_) | with_reducible exact H | (rw [hy760]; exact H) | exact H
      have Ny760 := Aside0.mk hy760
      clear hy760
      replace H := Option.bind_eq_some_iff.mp H
      obtain ⟨⟨t763, t764, t765⟩, A180, H⟩ := H
      replace H : ((spec_l1Cur_among.f t741 t764 t765 (([1, 5, 9999, 0] : List Int))).bind fun bt769 => ((spec_l1Cur_among.f t741 bt769.2.1 bt769.2.2 (([0, 50, 20000, (-1), 20001] : List Int))).bind fun bt775 => (some (t745, (rd_T26 t745 t756).f0, t763, bt769.1, bt775.1)))) = some (r1, r2, r3, r4, r5) := H
      have A18 := Aside0.mk A180
      clear A180
      obtain ⟨y766, hy766⟩ : ∃ y_ : List Int, y_ = (([1, 5, 9999, 0] : List Int)) := ⟨_, rfl⟩
      replace H : ((spec_l1Cur_among.f t741 t764 t765 y766).bind fun bt769 => ((spec_l1Cur_among.f t741 bt769.2.1 bt769.2.2 (([0, 50, 20000, (-1), 20001] : List Int))).bind fun bt775 => (some (t745, (rd_T26 t745 t756).f0, t763, bt769.1, bt775.1)))) = some (r1, r2, r3, r4, r5) := by first | (rw [hy766]; with_reducible exact H) | (have H2_ := (Option.bind_some _ _).symm.trans H; rw [hy766]; with_reducible exact H2_) | (have H2_ := (Option.bind_some _ _).symm.trans H; with_reducible exact H2_) | with_reducible exact H | (rw [hy766]; exact H) | exact H
      have Ny766 := Aside0.mk hy766
      clear hy766
      replace H := Option.bind_eq_some_iff.mp H
      obtain ⟨⟨t769, t770, t771⟩, A190, H⟩ := H
      replace H : ((spec_l1Cur_among.f t741 t770 t771 (([0, 50, 20000, (-1), 20001] : List Int))).bind fun bt775 => (some (t745, (rd_T26 t745 t756).f0, t763, t769, bt775.1))) = some (r1, r2, r3, r4, r5) := H
      have A19 := Aside0.mk A190
      clear A190
      obtain ⟨y772, hy772⟩ : ∃ y_ : List Int, y_ = (([0, 50, 20000, (-1), 20001] : List Int)) := ⟨_, rfl⟩
      replace H : ((spec_l1Cur_among.f t741 t770 t771 y772).bind fun bt775 => (some (t745, (rd_T26 t745 t756).f0, t763, t769, bt775.1))) = some (r1, r2, r3, r4, r5) := by first | (rw [hy772]; with_reducible exact H) | (have H2_ := (Option.bind_some _ _).symm.trans H; rw [hy772]; with_reducible exact H2_) | (have H2_ := (Option.bind_some _ _).symm.trans H; with_reducible exact H2_) | with_reducible exact H | (rw [hy772]; exact H) | exact H
      have Ny772 := Aside0.mk hy772
      clear hy772
      replace H := Option.bind_eq_some_iff.mp H
      obtain ⟨⟨t775, t776, t777⟩, A200, H⟩ := H
      replace H : (some (t745, (rd_T26 t745 t756).f0, t763, t769, t775)) = some (r1, r2, r3, r4, r5) := H
      have A20 := Aside0.mk A200
      clear A200
      simp only [Option.some.injEq, Prod.mk.injEq] at H
      obtain ⟨rfl, rfl, rfl, rfl, rfl⟩ := H
      obtain ⟨Ao21, co21, eo21⟩ := Kd.R_slice HO_8.out
      subst eo21
      go_wp2_with (first | ((with_reducible refine gate_callee (f := 82) rfl ?_); refine ga_ (some 29) Tryd.func82 #[.pointer (some ⟨g744, 0, none⟩), .int .i64 (t745.length : Int)] ?_; (with_reducible refine (spec_l1Cur_pick.calls g744 t741 x745001_4 x745002_4 (t745.length : Int) t756 t757 t758 w _ ?side1 ?side2 A15.out).mono ?_); (case side1 => repeat (first | (with_reducible first | exact HI744.out | apply IsS93.alloc | apply IsS93.drewN | apply IsS93.drew | apply IsS93.set_1 | apply IsS93.set_2) | exact HI744.out)); (case side2 => repeat (first | (with_reducible first | exact HB.out | apply below_alloc | apply pw_below_drewN | apply below_drew1 | refine below_set ?_ (IsS93.ge HI744.out)) | exact HB.out)); rintro e w22 ⟨rfl, hi, hb, hk⟩; refine ⟨_, rfl, ?_⟩; have n0_ := Aside0.mk (Kd.R_mono (Kd.R_keep (IsS93.apart (show IsS93 w _ g744 t741 x745001_4 x745002_4 from by repeat (first | (with_reducible first | exact HI744.out | apply IsS93.alloc | apply IsS93.drewN | apply IsS93.drew | apply IsS93.set_1 | apply IsS93.set_2) | exact HI744.out)) (kr_ HO_8.out) (by decide)) hk (fun _ h => h.2)) (fun _ h => h.1)); have n1_ := Aside0.mk (hb); have n2_ := Aside0.mk (hi); clear HO_8; clear HB; clear HI744; have HO_8 := n0_; have HB := n1_; have HI744 := n2_; clear n0_ n1_ n2_; (try clear hb); (try clear hb2); (try clear hk); (try clear hi); have p759 : 0 ≤ (t756 : Int) := dt_; have q759 : t756 < (t745.length : Int) := dt_; obtain ⟨ad759, e759, hx759_0, hx759_1, hx759_2, hx759_3⟩ := at_T26 (Kd.R_reads' HO_8.out).2.2 t756 p759 q759; cases e759; replace p759 := eq_true p759; replace q759 := eq_true q759) | ((with_reducible refine gate_dst (N := 36) rfl ?_); refine Kd.R_lit (Kd.int .i64) _ 3 ?hg (N := 36) ?hd (xs := ([1, 100, 900000, 0] : List Int)) (inner := [.int .i64 1, .int .i64 100, .int .i64 900000, .int .i64 0]) (ok := fun _ => True) (okp := fun _ => True) ?hr ?hp (fun _ hk => hk) trivial (Below.refl _ _) (Nat.le_refl _) (by simp) ?_; (case hd => rfl); (case hg => rfl); (case hr => first | (go_simp; done) | (go_simp; rfl)); (case hp => exact (Reps.one (show Kd.M (Kd.int .i64) _ _ _ 1 [.int .i64 1] from rfl) (Reps.one (show Kd.M (Kd.int .i64) _ _ _ 100 [.int .i64 100] from rfl) (Reps.one (show Kd.M (Kd.int .i64) _ _ _ 900000 [.int .i64 900000] from rfl) (Reps.one (show Kd.M (Kd.int .i64) _ _ _ 0 [.int .i64 0] from rfl) (Reps.none _ _)))))); intro v761 w23 ho24 hb hg_ hnew_; clear hg_ hnew_; (first | rw [← Ny760.out] at ho24 | (simp only [Int.reduceToNat] at ho24; rw [← Ny760.out] at ho24)); have n0_ := Aside0.mk (Kd.R_below (kr_ HO_8.out) hb); have n1_ := Aside0.mk (Kd.R_lower ho24 (below_size (by repeat (first | (with_reducible first | exact HB.out | apply below_alloc | apply pw_below_drewN | apply below_drew1 | refine below_set ?_ (IsS93.ge HI744.out)) | exact HB.out)))); have n2_ := Aside0.mk (IsS93.below (by repeat (first | (with_reducible first | exact HI744.out | apply IsS93.alloc | apply IsS93.drewN | apply IsS93.drew | apply IsS93.set_1 | apply IsS93.set_2) | exact HI744.out)) hb); have n3_ := Aside0.mk (below_step (by repeat (first | (with_reducible first | exact HB.out | apply below_alloc | apply pw_below_drewN | apply below_drew1 | refine below_set ?_ (IsS93.ge HI744.out)) | exact HB.out)) hb); clear HO_8; clear HI744; clear HB; have HO_8 := n0_; have HO762 := n1_; have HI744 := n2_; have HB := n3_; clear n0_ n1_ n2_ n3_; clear hb ho24; obtain ⟨Ao25, co25, eo25⟩ := Kd.R_slice HO762.out; subst eo25) | ((with_reducible refine gate_callee (f := 83) rfl ?_); refine ga_ (some 37) Tryd.func83 #[.pointer (some ⟨g744, 0, none⟩), .slice Ao25 y760.length co25] ?_; (with_reducible refine (spec_l1Cur_among.calls g744 t741 t757 t758 _ _ y760 t763 t764 t765 w _ ?side1 ?side2 ?side3 ?side4 ?side5 A18.out).mono ?_); (case side1 => repeat (first | (with_reducible first | exact HI744.out | apply IsS93.alloc | apply IsS93.drewN | apply IsS93.drew | apply IsS93.set_1 | apply IsS93.set_2) | exact HI744.out)); (case side2 => repeat (first | (with_reducible first | exact HB.out | apply below_alloc | apply pw_below_drewN | apply below_drew1 | refine below_set ?_ (IsS93.ge HI744.out)) | exact HB.out)); (case side3 => exact kc_ (Kd.R_reads' HO762.out).2.2); (case side4 => exact (Kd.R_reads' HO762.out).2.1); (case side5 => exact far_slice (IsS93.own_ne HI744.out HO762.out (by decide))); rintro e w26 ⟨rfl, hi, hb, hk⟩; refine ⟨_, rfl, ?_⟩; have n0_ := Aside0.mk (Kd.R_mono (Kd.R_keep (IsS93.apart (show IsS93 w _ g744 t741 t757 t758 from by repeat (first | (with_reducible first | exact HI744.out | apply IsS93.alloc | apply IsS93.drewN | apply IsS93.drew | apply IsS93.set_1 | apply IsS93.set_2) | exact HI744.out)) (kr_ HO_8.out) (by decide)) hk (fun _ h => h.2)) (fun _ h => h.1)); have n1_ := Aside0.mk (Kd.R_mono (Kd.R_keep (IsS93.apart (show IsS93 w _ g744 t741 t757 t758 from by repeat (first | (with_reducible first | exact HI744.out | apply IsS93.alloc | apply IsS93.drewN | apply IsS93.drew | apply IsS93.set_1 | apply IsS93.set_2) | exact HI744.out)) (kr_ HO762.out) (by decide)) hk (fun _ h => h.2)) (fun _ h => h.1)); have n2_ := Aside0.mk (hb); have n3_ := Aside0.mk (hi); clear HO_8; clear HO762; clear HB; clear HI744; have HO_8 := n0_; have HO762 := n1_; have HB := n2_; have HI744 := n3_; clear n0_ n1_ n2_ n3_; (try clear hb); (try clear hb2); (try clear hk); (try clear hi)) | ((with_reducible refine gate_dst (N := 39) rfl ?_); refine Kd.R_lit (Kd.int .i64) _ 3 ?hg (N := 39) ?hd (xs := ([1, 5, 9999, 0] : List Int)) (inner := [.int .i64 1, .int .i64 5, .int .i64 9999, .int .i64 0]) (ok := fun _ => True) (okp := fun _ => True) ?hr ?hp (fun _ hk => hk) trivial (Below.refl _ _) (Nat.le_refl _) (by simp) ?_; (case hd => rfl); (case hg => rfl); (case hr => first | (go_simp; done) | (go_simp; rfl)); (case hp => exact (Reps.one (show Kd.M (Kd.int .i64) _ _ _ 1 [.int .i64 1] from rfl) (Reps.one (show Kd.M (Kd.int .i64) _ _ _ 5 [.int .i64 5] from rfl) (Reps.one (show Kd.M (Kd.int .i64) _ _ _ 9999 [.int .i64 9999] from rfl) (Reps.one (show Kd.M (Kd.int .i64) _ _ _ 0 [.int .i64 0] from rfl) (Reps.none _ _)))))); intro v767 w27 ho28 hb hg_ hnew_; clear hg_ hnew_; (first | rw [← Ny766.out] at ho28 | (simp only [Int.reduceToNat] at ho28; rw [← Ny766.out] at ho28)); have n0_ := Aside0.mk (Kd.R_below (kr_ HO_8.out) hb); have n1_ := Aside0.mk (Kd.R_elder' (kr_ HO762.out) (Kd.R_base ho28) hb); have n2_ := Aside0.mk (Kd.R_lower (Kd.R_new' ho28 (Kd.R_lt (kr_ HO762.out))) (below_size (by repeat (first | (with_reducible first | exact HB.out | apply below_alloc | apply pw_below_drewN | apply below_drew1 | refine below_set ?_ (IsS93.ge HI744.out)) | exact HB.out)))); have n3_ := Aside0.mk (IsS93.below (by repeat (first | (with_reducible first | exact HI744.out | apply IsS93.alloc | apply IsS93.drewN | apply IsS93.drew | apply IsS93.set_1 | apply IsS93.set_2) | exact HI744.out)) hb); have n4_ := Aside0.mk (below_step (by repeat (first | (with_reducible first | exact HB.out | apply below_alloc | apply pw_below_drewN | apply below_drew1 | refine below_set ?_ (IsS93.ge HI744.out)) | exact HB.out)) hb); clear HO_8; clear HO762; clear HI744; clear HB; have HO_8 := n0_; have HO762 := n1_; have HO768 := n2_; have HI744 := n3_; have HB := n4_; clear n0_ n1_ n2_ n3_ n4_; clear hb ho28; obtain ⟨Ao29, co29, eo29⟩ := Kd.R_slice HO768.out; subst eo29) | ((with_reducible refine gate_callee (f := 83) rfl ?_); refine ga_ (some 40) Tryd.func83 #[.pointer (some ⟨g744, 0, none⟩), .slice Ao29 y766.length co29] ?_; (with_reducible refine (spec_l1Cur_among.calls g744 t741 t764 t765 _ _ y766 t769 t770 t771 w _ ?side1 ?side2 ?side3 ?side4 ?side5 A19.out).mono ?_); (case side1 => repeat (first | (with_reducible first | exact HI744.out | apply IsS93.alloc | apply IsS93.drewN | apply IsS93.drew | apply IsS93.set_1 | apply IsS93.set_2) | exact HI744.out)); (case side2 => repeat (first | (with_reducible first | exact HB.out | apply below_alloc | apply pw_below_drewN | apply below_drew1 | refine below_set ?_ (IsS93.ge HI744.out)) | exact HB.out)); (case side3 => exact kc_ (Kd.R_reads' HO768.out).2.2); (case side4 => exact (Kd.R_reads' HO768.out).2.1); (case side5 => exact far_slice (IsS93.own_ne HI744.out HO768.out (by decide))); rintro e w30 ⟨rfl, hi, hb, hk⟩; refine ⟨_, rfl, ?_⟩; have n0_ := Aside0.mk (Kd.R_mono (Kd.R_keep (IsS93.apart (show IsS93 w _ g744 t741 t764 t765 from by repeat (first | (with_reducible first | exact HI744.out | apply IsS93.alloc | apply IsS93.drewN | apply IsS93.drew | apply IsS93.set_1 | apply IsS93.set_2) | exact HI744.out)) (kr_ HO_8.out) (by decide)) hk (fun _ h => h.2)) (fun _ h => h.1)); have n1_ := Aside0.mk (Kd.R_mono (Kd.R_keep (IsS93.apart (show IsS93 w _ g744 t741 t764 t765 from by repeat (first | (with_reducible first | exact HI744.out | apply IsS93.alloc | apply IsS93.drewN | apply IsS93.drew | apply IsS93.set_1 | apply IsS93.set_2) | exact HI744.out)) (kr_ HO762.out) (by decide)) hk (fun _ h => h.2)) (fun _ h => h.1)); have n2_ := Aside0.mk (Kd.R_mono (Kd.R_keep (IsS93.apart (show IsS93 w _ g744 t741 t764 t765 from by repeat (first | (with_reducible first | exact HI744.out | apply IsS93.alloc | apply IsS93.drewN | apply IsS93.drew | apply IsS93.set_1 | apply IsS93.set_2) | exact HI744.out)) (kr_ HO768.out) (by decide)) hk (fun _ h => h.2)) (fun _ h => h.1)); have n3_ := Aside0.mk (hb); have n4_ := Aside0.mk (hi); clear HO_8; clear HO762; clear HO768; clear HB; clear HI744; have HO_8 := n0_; have HO762 := n1_; have HO768 := n2_; have HB := n3_; have HI744 := n4_; clear n0_ n1_ n2_ n3_ n4_; (try clear hb); (try clear hb2); (try clear hk); (try clear hi)) | ((with_reducible refine gate_dst (N := 42) rfl ?_); refine Kd.R_lit (Kd.int .i64) _ 3 ?hg (N := 42) ?hd (xs := ([0, 50, 20000, (-1), 20001] : List Int)) (inner := [.int .i64 0, .int .i64 50, .int .i64 20000, .int .i64 (-1), .int .i64 20001]) (ok := fun _ => True) (okp := fun _ => True) ?hr ?hp (fun _ hk => hk) trivial (Below.refl _ _) (Nat.le_refl _) (by simp) ?_; (case hd => rfl); (case hg => rfl); (case hr => first | (go_simp; done) | (go_simp; rfl)); (case hp => exact (Reps.one (show Kd.M (Kd.int .i64) _ _ _ 0 [.int .i64 0] from rfl) (Reps.one (show Kd.M (Kd.int .i64) _ _ _ 50 [.int .i64 50] from rfl) (Reps.one (show Kd.M (Kd.int .i64) _ _ _ 20000 [.int .i64 20000] from rfl) (Reps.one (show Kd.M (Kd.int .i64) _ _ _ (-1) [.int .i64 (-1)] from rfl) (Reps.one (show Kd.M (Kd.int .i64) _ _ _ 20001 [.int .i64 20001] from rfl) (Reps.none _ _))))))); intro v773 w31 ho32 hb hg_ hnew_; clear hg_ hnew_; (first | rw [← Ny772.out] at ho32 | (simp only [Int.reduceToNat] at ho32; rw [← Ny772.out] at ho32)); have n0_ := Aside0.mk (Kd.R_below (kr_ HO_8.out) hb); have n1_ := Aside0.mk (Kd.R_elder' (kr_ HO762.out) (Kd.R_base ho32) hb); have n2_ := Aside0.mk (Kd.R_elder' (kr_ HO768.out) (Kd.R_base ho32) hb); have n3_ := Aside0.mk (Kd.R_lower (Kd.R_new' (Kd.R_new' ho32 (Kd.R_lt (kr_ HO762.out))) (Kd.R_lt (kr_ HO768.out))) (below_size (by repeat (first | (with_reducible first | exact HB.out | apply below_alloc | apply pw_below_drewN | apply below_drew1 | refine below_set ?_ (IsS93.ge HI744.out)) | exact HB.out)))); have n4_ := Aside0.mk (IsS93.below (by repeat (first | (with_reducible first | exact HI744.out | apply IsS93.alloc | apply IsS93.drewN | apply IsS93.drew | apply IsS93.set_1 | apply IsS93.set_2) | exact HI744.out)) hb); have n5_ := Aside0.mk (below_step (by repeat (first | (with_reducible first | exact HB.out | apply below_alloc | apply pw_below_drewN | apply below_drew1 | refine below_set ?_ (IsS93.ge HI744.out)) | exact HB.out)) hb); clear HO_8; clear HO762; clear HO768; clear HI744; clear HB; have HO_8 := n0_; have HO762 := n1_; have HO768 := n2_; have HO774 := n3_; have HI744 := n4_; have HB := n5_; clear n0_ n1_ n2_ n3_ n4_ n5_; clear hb ho32; obtain ⟨Ao33, co33, eo33⟩ := Kd.R_slice HO774.out; subst eo33) | ((with_reducible refine gate_callee (f := 83) rfl ?_); refine ga_ (some 43) Tryd.func83 #[.pointer (some ⟨g744, 0, none⟩), .slice Ao33 y772.length co33] ?_; (with_reducible refine (spec_l1Cur_among.calls g744 t741 t770 t771 _ _ y772 t775 t776 t777 w _ ?side1 ?side2 ?side3 ?side4 ?side5 A20.out).mono ?_); (case side1 => repeat (first | (with_reducible first | exact HI744.out | apply IsS93.alloc | apply IsS93.drewN | apply IsS93.drew | apply IsS93.set_1 | apply IsS93.set_2) | exact HI744.out)); (case side2 => repeat (first | (with_reducible first | exact HB.out | apply below_alloc | apply pw_below_drewN | apply below_drew1 | refine below_set ?_ (IsS93.ge HI744.out)) | exact HB.out)); (case side3 => exact kc_ (Kd.R_reads' HO774.out).2.2); (case side4 => exact (Kd.R_reads' HO774.out).2.1); (case side5 => exact far_slice (IsS93.own_ne HI744.out HO774.out (by decide))); rintro e w34 ⟨rfl, hi, hb, hk⟩; refine ⟨_, rfl, ?_⟩; have n0_ := Aside0.mk (Kd.R_mono (Kd.R_keep (IsS93.apart (show IsS93 w _ g744 t741 t770 t771 from by repeat (first | (with_reducible first | exact HI744.out | apply IsS93.alloc | apply IsS93.drewN | apply IsS93.drew | apply IsS93.set_1 | apply IsS93.set_2) | exact HI744.out)) (kr_ HO_8.out) (by decide)) hk (fun _ h => h.2)) (fun _ h => h.1)); have n1_ := Aside0.mk (Kd.R_mono (Kd.R_keep (IsS93.apart (show IsS93 w _ g744 t741 t770 t771 from by repeat (first | (with_reducible first | exact HI744.out | apply IsS93.alloc | apply IsS93.drewN | apply IsS93.drew | apply IsS93.set_1 | apply IsS93.set_2) | exact HI744.out)) (kr_ HO762.out) (by decide)) hk (fun _ h => h.2)) (fun _ h => h.1)); have n2_ := Aside0.mk (Kd.R_mono (Kd.R_keep (IsS93.apart (show IsS93 w _ g744 t741 t770 t771 from by repeat (first | (with_reducible first | exact HI744.out | apply IsS93.alloc | apply IsS93.drewN | apply IsS93.drew | apply IsS93.set_1 | apply IsS93.set_2) | exact HI744.out)) (kr_ HO768.out) (by decide)) hk (fun _ h => h.2)) (fun _ h => h.1)); have n3_ := Aside0.mk (Kd.R_mono (Kd.R_keep (IsS93.apart (show IsS93 w _ g744 t741 t770 t771 from by repeat (first | (with_reducible first | exact HI744.out | apply IsS93.alloc | apply IsS93.drewN | apply IsS93.drew | apply IsS93.set_1 | apply IsS93.set_2) | exact HI744.out)) (kr_ HO774.out) (by decide)) hk (fun _ h => h.2)) (fun _ h => h.1)); have n4_ := Aside0.mk (hb); have n5_ := Aside0.mk (hi); clear HO_8; clear HO762; clear HO768; clear HO774; clear HB; clear HI744; have HO_8 := n0_; have HO762 := n1_; have HO768 := n2_; have HO774 := n3_; have HB := n4_; have HI744 := n5_; clear n0_ n1_ n2_ n3_ n4_ n5_; (try clear hb); (try clear hb2); (try clear hk); (try clear hi)))
      refine bodyPost_ret (results_list (rs := [.tmp 2, .tmp 3, .tmp 4, .tmp 5, .tmp 6]) rfl (by simp) (.tmp (.tmp (.tmp (.tmp (.tmp .nil)))))) rfl ?_
      exact ⟨_, rr_, kr_ HO_8.out, by repeat (first | (with_reducible first | exact HB.out | apply below_alloc | apply pw_below_drewN | apply below_drew1 | refine below_set ?_ (IsS93.ge HI744.out)) | exact HB.out)⟩
     ·
      rw [if_neg c17] at H
      exact absurd H (by simp)
    ·
     rw [if_neg c16] at H
     exact absurd H (by simp)
   ·
    replace c14 := Bool.eq_false_iff.mpr c14
    subst c14
    have H1 : ((spec_l1Cur_among.f t741 x745001_4 x745002_4 (([1, 100, 900000, 0] : List Int))).bind fun bt781 => ((spec_l1Cur_among.f t741 bt781.2.1 bt781.2.2 (([1, 5, 9999, 0] : List Int))).bind fun bt787 => ((spec_l1Cur_among.f t741 bt787.2.1 bt787.2.2 (([0, 50, 20000, (-1), 20001] : List Int))).bind fun bt793 => (some (t745, t750, bt781.1, bt787.1, bt793.1))))) = some (r1, r2, r3, r4, r5) := by rw [if_neg (show ¬ (false = true) by decide)] at H; exact H
    clear H
    have H := H1
    clear H1
    obtain ⟨y778, hy778⟩ : ∃ y_ : List Int, y_ = (([1, 100, 900000, 0] : List Int)) := ⟨_, rfl⟩
    replace H : ((spec_l1Cur_among.f t741 x745001_4 x745002_4 y778).bind fun bt781 => ((spec_l1Cur_among.f t741 bt781.2.1 bt781.2.2 (([1, 5, 9999, 0] : List Int))).bind fun bt787 => ((spec_l1Cur_among.f t741 bt787.2.1 bt787.2.2 (([0, 50, 20000, (-1), 20001] : List Int))).bind fun bt793 => (some (t745, t750, bt781.1, bt787.1, bt793.1))))) = some (r1, r2, r3, r4, r5) := by first | (rw [hy778]; with_reducible exact H) | (have H2_ := (Option.bind_some _ _).symm.trans H; rw [hy778]; with_reducible exact H2_) | (have H2_ := (Option.bind_some _ _).symm.trans H; with_reducible exact H2_) | with_reducible exact H | (rw [hy778]; exact H) | exact H
    have Ny778 := Aside0.mk hy778
    clear hy778
    replace H := Option.bind_eq_some_iff.mp H
    obtain ⟨⟨t781, t782, t783⟩, A350, H⟩ := H
    replace H : ((spec_l1Cur_among.f t741 t782 t783 (([1, 5, 9999, 0] : List Int))).bind fun bt787 => ((spec_l1Cur_among.f t741 bt787.2.1 bt787.2.2 (([0, 50, 20000, (-1), 20001] : List Int))).bind fun bt793 => (some (t745, t750, t781, bt787.1, bt793.1)))) = some (r1, r2, r3, r4, r5) := H
    have A35 := Aside0.mk A350
    clear A350
    obtain ⟨y784, hy784⟩ : ∃ y_ : List Int, y_ = (([1, 5, 9999, 0] : List Int)) := ⟨_, rfl⟩
    replace H : ((spec_l1Cur_among.f t741 t782 t783 y784).bind fun bt787 => ((spec_l1Cur_among.f t741 bt787.2.1 bt787.2.2 (([0, 50, 20000, (-1), 20001] : List Int))).bind fun bt793 => (some (t745, t750, t781, bt787.1, bt793.1)))) = some (r1, r2, r3, r4, r5) := by first | (rw [hy784]; with_reducible exact H) | (have H2_ := (Option.bind_some _ _).symm.trans H; rw [hy784]; with_reducible exact H2_) | (have H2_ := (Option.bind_some _ _).symm.trans H; with_reducible exact H2_) | with_reducible exact H | (rw [hy784]; exact H) | exact H
    have Ny784 := Aside0.mk hy784
    clear hy784
    replace H := Option.bind_eq_some_iff.mp H
    obtain ⟨⟨t787, t788, t789⟩, A360, H⟩ := H
    replace H : ((spec_l1Cur_among.f t741 t788 t789 (([0, 50, 20000, (-1), 20001] : List Int))).bind fun bt793 => (some (t745, t750, t781, t787, bt793.1))) = some (r1, r2, r3, r4, r5) := H
    have A36 := Aside0.mk A360
    clear A360
    obtain ⟨y790, hy790⟩ : ∃ y_ : List Int, y_ = (([0, 50, 20000, (-1), 20001] : List Int)) := ⟨_, rfl⟩
    replace H : ((spec_l1Cur_among.f t741 t788 t789 y790).bind fun bt793 => (some (t745, t750, t781, t787, bt793.1))) = some (r1, r2, r3, r4, r5) := by first | (rw [hy790]; with_reducible exact H) | (have H2_ := (Option.bind_some _ _).symm.trans H; rw [hy790]; with_reducible exact H2_) | (have H2_ := (Option.bind_some _ _).symm.trans H; with_reducible exact H2_) | with_reducible exact H | (rw [hy790]; exact H) | exact H
    have Ny790 := Aside0.mk hy790
    clear hy790
    replace H := Option.bind_eq_some_iff.mp H
    obtain ⟨⟨t793, t794, t795⟩, A370, H⟩ := H
    replace H : (some (t745, t750, t781, t787, t793)) = some (r1, r2, r3, r4, r5) := H
    have A37 := Aside0.mk A370
    clear A370
    simp only [Option.some.injEq, Prod.mk.injEq] at H
    obtain ⟨rfl, rfl, rfl, rfl, rfl⟩ := H
    go_wp2_with (first | ((with_reducible refine gate_dst (N := 36) rfl ?_); refine Kd.R_lit (Kd.int .i64) _ 3 ?hg (N := 36) ?hd (xs := ([1, 100, 900000, 0] : List Int)) (inner := [.int .i64 1, .int .i64 100, .int .i64 900000, .int .i64 0]) (ok := fun _ => True) (okp := fun _ => True) ?hr ?hp (fun _ hk => hk) trivial (Below.refl _ _) (Nat.le_refl _) (by simp) ?_; (case hd => rfl); (case hg => rfl); (case hr => first | (go_simp; done) | (go_simp; rfl)); (case hp => exact (Reps.one (show Kd.M (Kd.int .i64) _ _ _ 1 [.int .i64 1] from rfl) (Reps.one (show Kd.M (Kd.int .i64) _ _ _ 100 [.int .i64 100] from rfl) (Reps.one (show Kd.M (Kd.int .i64) _ _ _ 900000 [.int .i64 900000] from rfl) (Reps.one (show Kd.M (Kd.int .i64) _ _ _ 0 [.int .i64 0] from rfl) (Reps.none _ _)))))); intro v779 w38 ho39 hb hg_ hnew_; clear hg_ hnew_; (first | rw [← Ny778.out] at ho39 | (simp only [Int.reduceToNat] at ho39; rw [← Ny778.out] at ho39)); have n0_ := Aside0.mk (Kd.R_below (kr_ HO_8.out) hb); have n1_ := Aside0.mk (Kd.R_lower ho39 (below_size (by repeat (first | (with_reducible first | exact HB.out | apply below_alloc | apply pw_below_drewN | apply below_drew1 | refine below_set ?_ (IsS93.ge HI744.out)) | exact HB.out)))); have n2_ := Aside0.mk (IsS93.below (by repeat (first | (with_reducible first | exact HI744.out | apply IsS93.alloc | apply IsS93.drewN | apply IsS93.drew | apply IsS93.set_1 | apply IsS93.set_2) | exact HI744.out)) hb); have n3_ := Aside0.mk (below_step (by repeat (first | (with_reducible first | exact HB.out | apply below_alloc | apply pw_below_drewN | apply below_drew1 | refine below_set ?_ (IsS93.ge HI744.out)) | exact HB.out)) hb); clear HO_8; clear HI744; clear HB; have HO_8 := n0_; have HO780 := n1_; have HI744 := n2_; have HB := n3_; clear n0_ n1_ n2_ n3_; clear hb ho39; obtain ⟨Ao40, co40, eo40⟩ := Kd.R_slice HO780.out; subst eo40) | ((with_reducible refine gate_callee (f := 83) rfl ?_); refine ga_ (some 37) Tryd.func83 #[.pointer (some ⟨g744, 0, none⟩), .slice Ao40 y778.length co40] ?_; (with_reducible refine (spec_l1Cur_among.calls g744 t741 x745001_4 x745002_4 _ _ y778 t781 t782 t783 w _ ?side1 ?side2 ?side3 ?side4 ?side5 A35.out).mono ?_); (case side1 => repeat (first | (with_reducible first | exact HI744.out | apply IsS93.alloc | apply IsS93.drewN | apply IsS93.drew | apply IsS93.set_1 | apply IsS93.set_2) | exact HI744.out)); (case side2 => repeat (first | (with_reducible first | exact HB.out | apply below_alloc | apply pw_below_drewN | apply below_drew1 | refine below_set ?_ (IsS93.ge HI744.out)) | exact HB.out)); (case side3 => exact kc_ (Kd.R_reads' HO780.out).2.2); (case side4 => exact (Kd.R_reads' HO780.out).2.1); (case side5 => exact far_slice (IsS93.own_ne HI744.out HO780.out (by decide))); rintro e w41 ⟨rfl, hi, hb, hk⟩; refine ⟨_, rfl, ?_⟩; have n0_ := Aside0.mk (Kd.R_mono (Kd.R_keep (IsS93.apart (show IsS93 w _ g744 t741 x745001_4 x745002_4 from by repeat (first | (with_reducible first | exact HI744.out | apply IsS93.alloc | apply IsS93.drewN | apply IsS93.drew | apply IsS93.set_1 | apply IsS93.set_2) | exact HI744.out)) (kr_ HO_8.out) (by decide)) hk (fun _ h => h.2)) (fun _ h => h.1)); have n1_ := Aside0.mk (Kd.R_mono (Kd.R_keep (IsS93.apart (show IsS93 w _ g744 t741 x745001_4 x745002_4 from by repeat (first | (with_reducible first | exact HI744.out | apply IsS93.alloc | apply IsS93.drewN | apply IsS93.drew | apply IsS93.set_1 | apply IsS93.set_2) | exact HI744.out)) (kr_ HO780.out) (by decide)) hk (fun _ h => h.2)) (fun _ h => h.1)); have n2_ := Aside0.mk (hb); have n3_ := Aside0.mk (hi); clear HO_8; clear HO780; clear HB; clear HI744; have HO_8 := n0_; have HO780 := n1_; have HB := n2_; have HI744 := n3_; clear n0_ n1_ n2_ n3_; (try clear hb); (try clear hb2); (try clear hk); (try clear hi)) | ((with_reducible refine gate_dst (N := 39) rfl ?_); refine Kd.R_lit (Kd.int .i64) _ 3 ?hg (N := 39) ?hd (xs := ([1, 5, 9999, 0] : List Int)) (inner := [.int .i64 1, .int .i64 5, .int .i64 9999, .int .i64 0]) (ok := fun _ => True) (okp := fun _ => True) ?hr ?hp (fun _ hk => hk) trivial (Below.refl _ _) (Nat.le_refl _) (by simp) ?_; (case hd => rfl); (case hg => rfl); (case hr => first | (go_simp; done) | (go_simp; rfl)); (case hp => exact (Reps.one (show Kd.M (Kd.int .i64) _ _ _ 1 [.int .i64 1] from rfl) (Reps.one (show Kd.M (Kd.int .i64) _ _ _ 5 [.int .i64 5] from rfl) (Reps.one (show Kd.M (Kd.int .i64) _ _ _ 9999 [.int .i64 9999] from rfl) (Reps.one (show Kd.M (Kd.int .i64) _ _ _ 0 [.int .i64 0] from rfl) (Reps.none _ _)))))); intro v785 w42 ho43 hb hg_ hnew_; clear hg_ hnew_; (first | rw [← Ny784.out] at ho43 | (simp only [Int.reduceToNat] at ho43; rw [← Ny784.out] at ho43)); have n0_ := Aside0.mk (Kd.R_below (kr_ HO_8.out) hb); have n1_ := Aside0.mk (Kd.R_elder' (kr_ HO780.out) (Kd.R_base ho43) hb); have n2_ := Aside0.mk (Kd.R_lower (Kd.R_new' ho43 (Kd.R_lt (kr_ HO780.out))) (below_size (by repeat (first | (with_reducible first | exact HB.out | apply below_alloc | apply pw_below_drewN | apply below_drew1 | refine below_set ?_ (IsS93.ge HI744.out)) | exact HB.out)))); have n3_ := Aside0.mk (IsS93.below (by repeat (first | (with_reducible first | exact HI744.out | apply IsS93.alloc | apply IsS93.drewN | apply IsS93.drew | apply IsS93.set_1 | apply IsS93.set_2) | exact HI744.out)) hb); have n4_ := Aside0.mk (below_step (by repeat (first | (with_reducible first | exact HB.out | apply below_alloc | apply pw_below_drewN | apply below_drew1 | refine below_set ?_ (IsS93.ge HI744.out)) | exact HB.out)) hb); clear HO_8; clear HO780; clear HI744; clear HB; have HO_8 := n0_; have HO780 := n1_; have HO786 := n2_; have HI744 := n3_; have HB := n4_; clear n0_ n1_ n2_ n3_ n4_; clear hb ho43; obtain ⟨Ao44, co44, eo44⟩ := Kd.R_slice HO786.out; subst eo44) | ((with_reducible refine gate_callee (f := 83) rfl ?_); refine ga_ (some 40) Tryd.func83 #[.pointer (some ⟨g744, 0, none⟩), .slice Ao44 y784.length co44] ?_; (with_reducible refine (spec_l1Cur_among.calls g744 t741 t782 t783 _ _ y784 t787 t788 t789 w _ ?side1 ?side2 ?side3 ?side4 ?side5 A36.out).mono ?_); (case side1 => repeat (first | (with_reducible first | exact HI744.out | apply IsS93.alloc | apply IsS93.drewN | apply IsS93.drew | apply IsS93.set_1 | apply IsS93.set_2) | exact HI744.out)); (case side2 => repeat (first | (with_reducible first | exact HB.out | apply below_alloc | apply pw_below_drewN | apply below_drew1 | refine below_set ?_ (IsS93.ge HI744.out)) | exact HB.out)); (case side3 => exact kc_ (Kd.R_reads' HO786.out).2.2); (case side4 => exact (Kd.R_reads' HO786.out).2.1); (case side5 => exact far_slice (IsS93.own_ne HI744.out HO786.out (by decide))); rintro e w45 ⟨rfl, hi, hb, hk⟩; refine ⟨_, rfl, ?_⟩; have n0_ := Aside0.mk (Kd.R_mono (Kd.R_keep (IsS93.apart (show IsS93 w _ g744 t741 t782 t783 from by repeat (first | (with_reducible first | exact HI744.out | apply IsS93.alloc | apply IsS93.drewN | apply IsS93.drew | apply IsS93.set_1 | apply IsS93.set_2) | exact HI744.out)) (kr_ HO_8.out) (by decide)) hk (fun _ h => h.2)) (fun _ h => h.1)); have n1_ := Aside0.mk (Kd.R_mono (Kd.R_keep (IsS93.apart (show IsS93 w _ g744 t741 t782 t783 from by repeat (first | (with_reducible first | exact HI744.out | apply IsS93.alloc | apply IsS93.drewN | apply IsS93.drew | apply IsS93.set_1 | apply IsS93.set_2) | exact HI744.out)) (kr_ HO780.out) (by decide)) hk (fun _ h => h.2)) (fun _ h => h.1)); have n2_ := Aside0.mk (Kd.R_mono (Kd.R_keep (IsS93.apart (show IsS93 w _ g744 t741 t782 t783 from by repeat (first | (with_reducible first | exact HI744.out | apply IsS93.alloc | apply IsS93.drewN | apply IsS93.drew | apply IsS93.set_1 | apply IsS93.set_2) | exact HI744.out)) (kr_ HO786.out) (by decide)) hk (fun _ h => h.2)) (fun _ h => h.1)); have n3_ := Aside0.mk (hb); have n4_ := Aside0.mk (hi); clear HO_8; clear HO780; clear HO786; clear HB; clear HI744; have HO_8 := n0_; have HO780 := n1_; have HO786 := n2_; have HB := n3_; have HI744 := n4_; clear n0_ n1_ n2_ n3_ n4_; (try clear hb); (try clear hb2); (try clear hk); (try clear hi)) | ((with_reducible refine gate_dst (N := 42) rfl ?_); refine Kd.R_lit (Kd.int .i64) _ 3 ?hg (N := 42) ?hd (xs := ([0, 50, 20000, (-1), 20001] : List Int)) (inner := [.int .i64 0, .int .i64 50, .int .i64 20000, .int .i64 (-1), .int .i64 20001]) (ok := fun _ => True) (okp := fun _ => True) ?hr ?hp (fun _ hk => hk) trivial (Below.refl _ _) (Nat.le_refl _) (by simp) ?_; (case hd => rfl); (case hg => rfl); (case hr => first | (go_simp; done) | (go_simp; rfl)); (case hp => exact (Reps.one (show Kd.M (Kd.int .i64) _ _ _ 0 [.int .i64 0] from rfl) (Reps.one (show Kd.M (Kd.int .i64) _ _ _ 50 [.int .i64 50] from rfl) (Reps.one (show Kd.M (Kd.int .i64) _ _ _ 20000 [.int .i64 20000] from rfl) (Reps.one (show Kd.M (Kd.int .i64) _ _ _ (-1) [.int .i64 (-1)] from rfl) (Reps.one (show Kd.M (Kd.int .i64) _ _ _ 20001 [.int .i64 20001] from rfl) (Reps.none _ _))))))); intro v791 w46 ho47 hb hg_ hnew_; clear hg_ hnew_; (first | rw [← Ny790.out] at ho47 | (simp only [Int.reduceToNat] at ho47; rw [← Ny790.out] at ho47)); have n0_ := Aside0.mk (Kd.R_below (kr_ HO_8.out) hb); have n1_ := Aside0.mk (Kd.R_elder' (kr_ HO780.out) (Kd.R_base ho47) hb); have n2_ := Aside0.mk (Kd.R_elder' (kr_ HO786.out) (Kd.R_base ho47) hb); have n3_ := Aside0.mk (Kd.R_lower (Kd.R_new' (Kd.R_new' ho47 (Kd.R_lt (kr_ HO780.out))) (Kd.R_lt (kr_ HO786.out))) (below_size (by repeat (first | (with_reducible first | exact HB.out | apply below_alloc | apply pw_below_drewN | apply below_drew1 | refine below_set ?_ (IsS93.ge HI744.out)) | exact HB.out)))); have n4_ := Aside0.mk (IsS93.below (by repeat (first | (with_reducible first | exact HI744.out | apply IsS93.alloc | apply IsS93.drewN | apply IsS93.drew | apply IsS93.set_1 | apply IsS93.set_2) | exact HI744.out)) hb); have n5_ := Aside0.mk (below_step (by repeat (first | (with_reducible first | exact HB.out | apply below_alloc | apply pw_below_drewN | apply below_drew1 | refine below_set ?_ (IsS93.ge HI744.out)) | exact HB.out)) hb); clear HO_8; clear HO780; clear HO786; clear HI744; clear HB; have HO_8 := n0_; have HO780 := n1_; have HO786 := n2_; have HO792 := n3_; have HI744 := n4_; have HB := n5_; clear n0_ n1_ n2_ n3_ n4_ n5_; clear hb ho47; obtain ⟨Ao48, co48, eo48⟩ := Kd.R_slice HO792.out; subst eo48) | ((with_reducible refine gate_callee (f := 83) rfl ?_); refine ga_ (some 43) Tryd.func83 #[.pointer (some ⟨g744, 0, none⟩), .slice Ao48 y790.length co48] ?_; (with_reducible refine (spec_l1Cur_among.calls g744 t741 t788 t789 _ _ y790 t793 t794 t795 w _ ?side1 ?side2 ?side3 ?side4 ?side5 A37.out).mono ?_); (case side1 => repeat (first | (with_reducible first | exact HI744.out | apply IsS93.alloc | apply IsS93.drewN | apply IsS93.drew | apply IsS93.set_1 | apply IsS93.set_2) | exact HI744.out)); (case side2 => repeat (first | (with_reducible first | exact HB.out | apply below_alloc | apply pw_below_drewN | apply below_drew1 | refine below_set ?_ (IsS93.ge HI744.out)) | exact HB.out)); (case side3 => exact kc_ (Kd.R_reads' HO792.out).2.2); (case side4 => exact (Kd.R_reads' HO792.out).2.1); (case side5 => exact far_slice (IsS93.own_ne HI744.out HO792.out (by decide))); rintro e w49 ⟨rfl, hi, hb, hk⟩; refine ⟨_, rfl, ?_⟩; have n0_ := Aside0.mk (Kd.R_mono (Kd.R_keep (IsS93.apart (show IsS93 w _ g744 t741 t788 t789 from by repeat (first | (with_reducible first | exact HI744.out | apply IsS93.alloc | apply IsS93.drewN | apply IsS93.drew | apply IsS93.set_1 | apply IsS93.set_2) | exact HI744.out)) (kr_ HO_8.out) (by decide)) hk (fun _ h => h.2)) (fun _ h => h.1)); have n1_ := Aside0.mk (Kd.R_mono (Kd.R_keep (IsS93.apart (show IsS93 w _ g744 t741 t788 t789 from by repeat (first | (with_reducible first | exact HI744.out | apply IsS93.alloc | apply IsS93.drewN | apply IsS93.drew | apply IsS93.set_1 | apply IsS93.set_2) | exact HI744.out)) (kr_ HO780.out) (by decide)) hk (fun _ h => h.2)) (fun _ h => h.1)); have n2_ := Aside0.mk (Kd.R_mono (Kd.R_keep (IsS93.apart (show IsS93 w _ g744 t741 t788 t789 from by repeat (first | (with_reducible first | exact HI744.out | apply IsS93.alloc | apply IsS93.drewN | apply IsS93.drew | apply IsS93.set_1 | apply IsS93.set_2) | exact HI744.out)) (kr_ HO786.out) (by decide)) hk (fun _ h => h.2)) (fun _ h => h.1)); have n3_ := Aside0.mk (Kd.R_mono (Kd.R_keep (IsS93.apart (show IsS93 w _ g744 t741 t788 t789 from by repeat (first | (with_reducible first | exact HI744.out | apply IsS93.alloc | apply IsS93.drewN | apply IsS93.drew | apply IsS93.set_1 | apply IsS93.set_2) | exact HI744.out)) (kr_ HO792.out) (by decide)) hk (fun _ h => h.2)) (fun _ h => h.1)); have n4_ := Aside0.mk (hb); have n5_ := Aside0.mk (hi); clear HO_8; clear HO780; clear HO786; clear HO792; clear HB; clear HI744; have HO_8 := n0_; have HO780 := n1_; have HO786 := n2_; have HO792 := n3_; have HB := n4_; have HI744 := n5_; clear n0_ n1_ n2_ n3_ n4_ n5_; (try clear hb); (try clear hb2); (try clear hk); (try clear hi)))
    refine bodyPost_ret (results_list (rs := [.tmp 2, .tmp 3, .tmp 4, .tmp 5, .tmp 6]) rfl (by simp) (.tmp (.tmp (.tmp (.tmp (.tmp .nil)))))) rfl ?_
    exact ⟨_, rr_, kr_ HO_8.out, by repeat (first | (with_reducible first | exact HB.out | apply below_alloc | apply pw_below_drewN | apply below_drew1 | refine below_set ?_ (IsS93.ge HI744.out)) | exact HB.out)⟩
mutual
def laws_FnCaveRanks.j0 : Nat → List Int → List (S26) → Int → List (S26) → Bool → Bool → Option (Bool)
 | 0, _, _, _, _, _, _ => none
 | k + 1, x0, x3, x6, x7, x8, x67 => if x67 = true then (none) else (if x8 = true then (laws_FnCaveRanks.l0 k x0 x3 x6 x7 0 0 0) else (laws_FnCaveRanks.j3 k x0))
def laws_FnCaveRanks.j3 : Nat → List Int → Option (Bool)
 | 0, _ => none
 | k + 1, x0 => (spec_DrawRankByDepth.f k x0).bind fun t815 => ((impl_RankByDepth.f k t815).bind fun bt818 => ((spec_RankByDepth.f k t815).bind fun bt822 => (if (bt818.2 != bt822.2) = true then (laws_FnCaveRanks.j4 k x0 t815 bt818.1 true) else ((laws_rTexts.f k bt818.1 bt822.1).bind fun t826 => (if t826 = true then (if bt818.2 = true then (laws_FnCaveRanks.j4 k x0 t815 bt818.1 ((bt818.1.length : Int) != (t815.length : Int))) else (laws_FnCaveRanks.j4 k x0 t815 bt818.1 false)) else (laws_FnCaveRanks.j4 k x0 t815 bt818.1 true))))))
def laws_FnCaveRanks.j4 : Nat → List Int → List (S26) → List ByteArray → Bool → Option (Bool)
 | 0, _, _, _, _ => none
 | k + 1, x0, x15, x16, x143 => if x143 = true then (none) else ((impl_RankByLength.f k x15).bind fun bt827 => ((spec_RankByLength.f k x15).bind fun bt831 => (if (bt827.2 != bt831.2) = true then (laws_FnCaveRanks.j5 k x0 x15 x16 bt827.1 bt827.2 true) else ((laws_rTexts.f k bt827.1 bt831.1).bind fun t835 => (laws_FnCaveRanks.j5 k x0 x15 x16 bt827.1 bt827.2 (!t835))))))
def laws_FnCaveRanks.j5 : Nat → List Int → List (S26) → List ByteArray → List ByteArray → Bool → Bool → Option (Bool)
 | 0, _, _, _, _, _, _ => none
 | k + 1, x0, x15, x16, x20, x21, x162 => if x162 = true then (none) else (laws_FnCaveRanks.l2 k x0 x15 x16 x20 x21 0)
def laws_FnCaveRanks.l2 : Nat → List Int → List (S26) → List ByteArray → List ByteArray → Bool → Int → Option (Bool)
 | 0, _, _, _, _, _, _ => none
 | k + 1, x0, x15, x16, x20, x21, x24 => if x24 < (x15.length : Int) then (laws_FnCaveRanks.j7 k x0 x15 x16 x20 x21 x24 x21) else (laws_FnCaveRanks.j7 k x0 x15 x16 x20 x21 x24 false)
def laws_FnCaveRanks.j7 : Nat → List Int → List (S26) → List ByteArray → List ByteArray → Bool → Int → Bool → Option (Bool)
 | 0, _, _, _, _, _, _, _ => none
 | k + 1, x0, x15, x16, x20, x21, x24, x169 => if x169 = true then (if 0 ≤ x24 then (if x24 < (x15.length : Int) then ((laws_rHasText.f k x20 ((rd_T26 x15 x24).f0)).bind fun t837 => (if t837 = true then ((laws_rHasText.f k x16 ((rd_T26 x15 x24).f0)).bind fun t839 => (if t839 = true then (laws_FnCaveRanks.l2 k x0 x15 x16 x20 x21 (wrap64 (x24 + 1))) else (none))) else (none))) else (none)) else (none)) else ((spec_DrawAddSurvey.f k x0).bind fun bt840 => ((impl_AddSurvey.f k bt840.1 bt840.2.1 bt840.2.2.1 bt840.2.2.2.1 bt840.2.2.2.2).bind fun bt847 => ((spec_AddSurvey.f k bt840.1 bt840.2.1 bt840.2.2.1 bt840.2.2.2.1 bt840.2.2.2.2).bind fun bt851 => (if (bt847.2 == bt851.2) = true then ((laws_rCaves.f k bt847.1 bt851.1).bind fun t855 => (if t855 = true then (if bt847.2 = true then ((impl_AreCaves.f k bt847.1).bind fun t856 => (some t856)) else (some true)) else (none))) else (none)))))
def laws_FnCaveRanks.l0 : Nat → List Int → List (S26) → Int → List (S26) → Int → Int → Int → Option (Bool)
 | 0, _, _, _, _, _, _, _ => none
 | k + 1, x0, x3, x6, x7, x11, x12, x13 => if x13 < (x3.length : Int) then (if 0 ≤ x13 then (laws_FnCaveRanks.l0 k x0 x3 x6 x7 (wrap64 (x11 + ((rd_T26 x3 x13).f1))) x12 (wrap64 (x13 + 1))) else (none)) else (laws_FnCaveRanks.l1 k x0 x3 x6 x7 x11 x12 0)
def laws_FnCaveRanks.l1 : Nat → List Int → List (S26) → Int → List (S26) → Int → Int → Int → Option (Bool)
 | 0, _, _, _, _, _, _, _ => none
 | k + 1, x0, x3, x6, x7, x11, x12, x14 => if x14 < (x7.length : Int) then (if 0 ≤ x14 then (laws_FnCaveRanks.l1 k x0 x3 x6 x7 x11 (wrap64 (x12 + ((rd_T26 x7 x14).f1))) (wrap64 (x14 + 1))) else (none)) else (if x12 = (wrap64 (x11 + x6)) then (if (x7.length : Int) = (wrap64 ((x3.length : Int) - 1)) then ((impl_AreCaves.f k x7).bind fun t814 => (if t814 = true then (laws_FnCaveRanks.j3 k x0) else (none))) else (none)) else (none))
end
def laws_FnCaveRanks.f (k : Nat) (l0 : List Int) : Option (Bool) := (laws_rBig.f l0).bind fun t796 => (if t796 = true then (some true) else ((spec_DrawConnectCaves.f k l0).bind fun bt797 => ((impl_ConnectCaves.f k bt797.1 bt797.2.1 bt797.2.2.1 bt797.2.2.2).bind fun bt803 => ((spec_ConnectCaves.f k bt797.1 bt797.2.1 bt797.2.2.1 bt797.2.2.2).bind fun bt807 => (if (bt803.2 != bt807.2) = true then (laws_FnCaveRanks.j0 k l0 bt797.1 bt797.2.2.2 bt803.1 bt803.2 true) else ((laws_rCaves.f k bt803.1 bt807.1).bind fun t811 => (laws_FnCaveRanks.j0 k l0 bt797.1 bt797.2.2.2 bt803.1 bt803.2 (!t811))))))))
set_option maxHeartbeats 8000000 in
set_option maxRecDepth 100000 in
theorem laws_FnCaveRanks.calls (k : Nat) (A0 : Option Addr) (c0 : Nat) (l0 : List Int) (r : Bool) (w : World) (hr0 : Kd.C (Kd.int .u8) w A0 l0.length l0) (hc0 : l0.length ≤ c0) (h : laws_FnCaveRanks.f k l0 = some r) :
  Calls Tryd.prog 13 #[.slice A0 l0.length c0] w fun e w' => e = .returned (.bool r) ∧ Below w.heap.size w w' := by
 have HR0 := Aside0.mk hr0
 have HC0 := Aside0.mk hc0
 clear hr0 hc0
 have HB := Aside0.mk (Below.refl w.heap.size w)
 have H : ((laws_rBig.f l0).bind fun t796 => (if t796 = true then (some true) else ((spec_DrawConnectCaves.f k l0).bind fun bt797 => ((impl_ConnectCaves.f k bt797.1 bt797.2.1 bt797.2.2.1 bt797.2.2.2).bind fun bt803 => ((spec_ConnectCaves.f k bt797.1 bt797.2.1 bt797.2.2.1 bt797.2.2.2).bind fun bt807 => (if (bt803.2 != bt807.2) = true then (laws_FnCaveRanks.j0 k l0 bt797.1 bt797.2.2.2 bt803.1 bt803.2 true) else ((laws_rCaves.f k bt803.1 bt807.1).bind fun t811 => (laws_FnCaveRanks.j0 k l0 bt797.1 bt797.2.2.2 bt803.1 bt803.2 (!t811))))))))) = some r := h
 clear h
 replace H := Option.bind_eq_some_iff.mp H
 obtain ⟨t796, A20, H⟩ := H
 replace H : (if t796 = true then (some true) else ((spec_DrawConnectCaves.f k l0).bind fun bt797 => ((impl_ConnectCaves.f k bt797.1 bt797.2.1 bt797.2.2.1 bt797.2.2.2).bind fun bt803 => ((spec_ConnectCaves.f k bt797.1 bt797.2.1 bt797.2.2.1 bt797.2.2.2).bind fun bt807 => (if (bt803.2 != bt807.2) = true then (laws_FnCaveRanks.j0 k l0 bt797.1 bt797.2.2.2 bt803.1 bt803.2 true) else ((laws_rCaves.f k bt803.1 bt807.1).bind fun t811 => (laws_FnCaveRanks.j0 k l0 bt797.1 bt797.2.2.2 bt803.1 bt803.2 (!t811)))))))) = some r := H
 have A2 := Aside0.mk A20
 clear A20
 by_cases c3 : t796 = true
 ·
  subst c3
  have H1 : (some true) = some r := by rw [if_pos rfl] at H; exact H
  clear H
  have H := H1
  clear H1
  obtain rfl := Option.some.inj H
  go_enter Tryd.func13, Tryd.ntmps13
  go_wp2_with (first | ((with_reducible refine gate_callee (f := 45) rfl ?_); refine ga_ (some 35) Tryd.func45 #[.slice A0 l0.length c0] ?_; (with_reducible refine (laws_rBig.calls _ _ l0 true _ ?side1 ?side2 A2.out).mono ?_); (case side1 => exact kc_ HR0.out); (case side2 => exact HC0.out); rintro e w' ⟨rfl, ⟨nd, rfl⟩⟩; refine ⟨_, rfl, ?_⟩))
  go_ret
  exact ⟨rr_, lb0_ HB.out⟩
 ·
  replace c3 := Bool.eq_false_iff.mpr c3
  subst c3
  have H1 : ((spec_DrawConnectCaves.f k l0).bind fun bt797 => ((impl_ConnectCaves.f k bt797.1 bt797.2.1 bt797.2.2.1 bt797.2.2.2).bind fun bt803 => ((spec_ConnectCaves.f k bt797.1 bt797.2.1 bt797.2.2.1 bt797.2.2.2).bind fun bt807 => (if (bt803.2 != bt807.2) = true then (laws_FnCaveRanks.j0 k l0 bt797.1 bt797.2.2.2 bt803.1 bt803.2 true) else ((laws_rCaves.f k bt803.1 bt807.1).bind fun t811 => (laws_FnCaveRanks.j0 k l0 bt797.1 bt797.2.2.2 bt803.1 bt803.2 (!t811))))))) = some r := by rw [if_neg (show ¬ (false = true) by decide)] at H; exact H
  clear H
  have H := H1
  clear H1
  replace H := Option.bind_eq_some_iff.mp H
  obtain ⟨⟨t797, t798, t799, t800⟩, A40, H⟩ := H
  replace H : ((impl_ConnectCaves.f k t797 t798 t799 t800).bind fun bt803 => ((spec_ConnectCaves.f k t797 t798 t799 t800).bind fun bt807 => (if (bt803.2 != bt807.2) = true then (laws_FnCaveRanks.j0 k l0 t797 t800 bt803.1 bt803.2 true) else ((laws_rCaves.f k bt803.1 bt807.1).bind fun t811 => (laws_FnCaveRanks.j0 k l0 t797 t800 bt803.1 bt803.2 (!t811)))))) = some r := H
  have A4 := Aside0.mk A40
  clear A40
  replace H := Option.bind_eq_some_iff.mp H
  obtain ⟨⟨t803, t804⟩, A50, H⟩ := H
  replace H : ((spec_ConnectCaves.f k t797 t798 t799 t800).bind fun bt807 => (if (t804 != bt807.2) = true then (laws_FnCaveRanks.j0 k l0 t797 t800 t803 t804 true) else ((laws_rCaves.f k t803 bt807.1).bind fun t811 => (laws_FnCaveRanks.j0 k l0 t797 t800 t803 t804 (!t811))))) = some r := H
  have A5 := Aside0.mk A50
  clear A50
  replace H := Option.bind_eq_some_iff.mp H
  obtain ⟨⟨t807, t808⟩, A60, H⟩ := H
  replace H : (if (t804 != t808) = true then (laws_FnCaveRanks.j0 k l0 t797 t800 t803 t804 true) else ((laws_rCaves.f k t803 t807).bind fun t811 => (laws_FnCaveRanks.j0 k l0 t797 t800 t803 t804 (!t811)))) = some r := H
  have A6 := Aside0.mk A60
  clear A60
  have HC7 := Aside0.mk H
  clear H
  go_enter Tryd.func13, Tryd.ntmps13
  go_upto_region 6 with (first | ((with_reducible refine gate_callee (f := 45) rfl ?_); refine ga_ (some 35) Tryd.func45 #[.slice A0 l0.length c0] ?_; (with_reducible refine (laws_rBig.calls _ _ l0 false _ ?side1 ?side2 A2.out).mono ?_); (case side1 => exact kc_ HR0.out); (case side2 => exact HC0.out); rintro e w' ⟨rfl, ⟨nd, rfl⟩⟩; refine ⟨_, rfl, ?_⟩) | ((with_reducible refine gate_callee (f := 46) rfl ?_); refine ga_ (some 38) Tryd.func46 #[.slice A0 l0.length c0] ?_; (with_reducible refine (spec_DrawConnectCaves.calls k _ _ l0 t797 t798 t799 t800 _ ?side1 ?side2 A4.out).mono ?_); (case side1 => exact kc_ HR0.out); (case side2 => exact HC0.out); rintro e w8 ⟨v801, rfl, ho0, hb⟩; refine ⟨_, rfl, ?_⟩; have n0_ := Aside0.mk (Kd.R_lower ho0 (below_size (lb0_ HB.out))); have n1_ := Aside0.mk (below_step (lb0_ HB.out) hb); clear HB; have HO802 := n0_; have HB := n1_; clear n0_ n1_; (try clear hb); (try clear hb2); (try clear hk); (try clear hi); (try clear ho0); obtain ⟨Ao9, co9, eo9⟩ := Kd.R_slice HO802.out; subst eo9) | ((with_reducible refine gate_callee (f := 36) rfl ?_); refine ga_ (some 48) Tryd.func36 #[.slice Ao9 t797.length co9, .string t798, .string t799, .int .i64 t800] ?_; (with_reducible refine (impl_ConnectCaves.calls k _ _ t797 t798 t799 t800 t803 t804 _ ?side1 ?side2 A5.out).mono ?_); (case side1 => exact kc_ (Kd.R_reads' HO802.out).2.2); (case side2 => exact (Kd.R_reads' HO802.out).2.1); rintro e w10 ⟨v805, rfl, ho0, hb⟩; refine ⟨_, rfl, ?_⟩; have n0_ := Aside0.mk (Kd.R_elder' (kr_ HO802.out) (Kd.R_base ho0) hb); have n1_ := Aside0.mk (Kd.R_lower (Kd.R_new' ho0 (Kd.R_lt (kr_ HO802.out))) (below_size (lb0_ HB.out))); have n2_ := Aside0.mk (below_step (lb0_ HB.out) hb); clear HO802; clear HB; have HO802 := n0_; have HO806 := n1_; have HB := n2_; clear n0_ n1_ n2_; (try clear hb); (try clear hb2); (try clear hk); (try clear hi); (try clear ho0)) | ((with_reducible refine gate_callee (f := 35) rfl ?_); refine ga_ (some 56) Tryd.func35 #[.slice Ao9 t797.length co9, .string t798, .string t799, .int .i64 t800] ?_; (with_reducible refine (spec_ConnectCaves.calls k _ _ t797 t798 t799 t800 t807 t808 _ ?side1 ?side2 A6.out).mono ?_); (case side1 => exact kc_ (Kd.R_reads' HO802.out).2.2); (case side2 => exact (Kd.R_reads' HO802.out).2.1); rintro e w11 ⟨v809, rfl, ho0, hb⟩; refine ⟨_, rfl, ?_⟩; have n0_ := Aside0.mk (Kd.R_elder' (kr_ HO802.out) (Kd.R_base ho0) hb); have n1_ := Aside0.mk (Kd.R_elder' (kr_ HO806.out) (Kd.R_base ho0) hb); have n2_ := Aside0.mk (Kd.R_lower (Kd.R_new' (Kd.R_new' ho0 (Kd.R_lt (kr_ HO802.out))) (Kd.R_lt (kr_ HO806.out))) (below_size (lb0_ HB.out))); have n3_ := Aside0.mk (below_step (lb0_ HB.out) hb); clear HO802; clear HO806; clear HB; have HO802 := n0_; have HO806 := n1_; have HO810 := n2_; have HB := n3_; clear n0_ n1_ n2_ n3_; (try clear hb); (try clear hb2); (try clear hk); (try clear hi); (try clear ho0)))
  (try simp only [Act.put, List.setIfInBounds_toArray, List.set_cons_zero, List.set_cons_succ])
  go_cut [67] (fun v67 wc => ∃ (kq : Nat) (x67_6 : Bool), v67 = .bool x67_6 ∧ Aside0 (laws_FnCaveRanks.j0 kq l0 t797 t800 t803 t804 x67_6 = some r) ∧ Aside0 (kq ≤ k) ∧ Aside0 (Kd.R k26 26 wc w.heap.size (fun k_ => some k_ ≠ (v805 : Value).ownBlock) (.slice Ao9 t797.length co9) t797) ∧ Aside0 (Kd.R k26 26 wc w.heap.size (fun k_ => some k_ ≠ ((.slice Ao9 t797.length co9) : Value).ownBlock) v805 t803) ∧ Aside0 (Below w.heap.size w wc))
  case first =>
   as_aux_lemma =>
    have H := HC7.out
    clear HC7
    by_cases c12 : (t804 != t808) = true
    ·
     rw [if_pos c12] at H
     have c12b0 : (t804 != t808) = true := c12
     (try (have c12b1 : decide (t804 = t808) = false := by simpa using c12))
     (try (have c12b2 : (t804 == t808) = false := by simpa using c12))
     (try (have c12b3 : ¬ (t804 = t808) := by simpa using c12))
     clear c12
     (first | rw [c12b0] | (simp only [i64_w, i32_w]; rw [c12b0]) | skip)
     have H' := Aside0.mk H
     clear H
     go_wp2
     go_meet
     case rel => exact ⟨_, (true), (by first | rfl | (simp; done) | (simp [*]; done)), H', ⟨by first | omega | exact Nat.le_refl _⟩, ⟨by (with_reducible repeat (first | apply Kd.R_alloc | apply Kd.R_drewN | apply Kd.R_drew)); exact Kd.R_mono HO802.out (fun _ hk => hk.1.2)⟩, ⟨by (with_reducible repeat (first | apply Kd.R_alloc | apply Kd.R_drewN | apply Kd.R_drew)); exact Kd.R_mono HO806.out (fun _ hk => hk.1.2)⟩, ⟨lb0_ HB.out⟩⟩
    ·
     rw [if_neg c12] at H
     have c12b0 : (t804 != t808) = false := by simpa using c12
     (try (have c12b1 : decide (t804 = t808) = true := by simpa using c12))
     (try (have c12b2 : (t804 == t808) = true := by simpa using c12))
     clear c12
     (first | rw [c12b0] | (simp only [i64_w, i32_w]; rw [c12b0]) | skip)
     replace H := Option.bind_eq_some_iff.mp H
     obtain ⟨t811, A130, H⟩ := H
     replace H : (laws_FnCaveRanks.j0 k l0 t797 t800 t803 t804 (!t811)) = some r := H
     have A13 := Aside0.mk A130
     clear A130
     have H' := Aside0.mk H
     clear H
     obtain ⟨Ao14, co14, eo14⟩ := Kd.R_slice HO806.out
     subst eo14
     obtain ⟨Ao15, co15, eo15⟩ := Kd.R_slice HO810.out
     subst eo15
     go_wp2_with (first | (go_at_call 47; (with_reducible refine (laws_rCaves.calls k _ _ t803 _ _ t807 t811 _ ?side1 ?side2 ?side3 ?side4 A13.out).mono ?_); (case side1 => exact kc_ (Kd.R_reads' HO806.out).2.2); (case side2 => exact (Kd.R_reads' HO806.out).2.1); (case side3 => exact kc_ (Kd.R_reads' HO810.out).2.2); (case side4 => exact (Kd.R_reads' HO810.out).2.1); rintro e w' ⟨rfl, ⟨nd, rfl⟩⟩))
     go_meet
     case rel => exact ⟨_, (!t811), (by first | rfl | (simp; done) | (simp [*]; done)), H', ⟨by first | omega | exact Nat.le_refl _⟩, ⟨by (with_reducible repeat (first | apply Kd.R_alloc | apply Kd.R_drewN | apply Kd.R_drew)); exact Kd.R_mono HO802.out (fun _ hk => hk.1.2)⟩, ⟨by (with_reducible repeat (first | apply Kd.R_alloc | apply Kd.R_drewN | apply Kd.R_drew)); exact Kd.R_mono HO806.out (fun _ hk => hk.1.2)⟩, ⟨lb0_ HB.out⟩⟩
  case rest =>
   as_aux_lemma =>
    clear HC7
    try clear c1
    try clear p2
    try clear c3
    try clear c4
    try clear c12
    try clear c12b0
    try clear c12b1
    try clear c12b2
    try clear c13
    obtain ⟨kq, x67_6, rfl, HA, HJ6, HO_3, HO_7, HB⟩ := hcut
    cases kq with
    | zero => exact absurd HA.out (by simp [laws_FnCaveRanks.j0])
    | succ kj6 =>
     have H := HA.out
     clear HA
     simp only [laws_FnCaveRanks.j0] at H
     by_cases c16 : x67_6 = true
     ·
      subst c16
      have H1 : (none) = some r := by rw [if_pos rfl] at H; exact H
      clear H
      have H := H1
      clear H1
      exact absurd H (by simp)
     ·
      replace c16 := Bool.eq_false_iff.mpr c16
      subst c16
      have H1 : (if t804 = true then (laws_FnCaveRanks.l0 kj6 l0 t797 t800 t803 0 0 0) else (laws_FnCaveRanks.j3 kj6 l0)) = some r := by rw [if_neg (show ¬ (false = true) by decide)] at H; exact H
      clear H
      have H := H1
      clear H1
      have HC17 := Aside0.mk H
      clear H
      go_upto_if 68 with (fail)
      go_cut [] (fun wc => ∃ (kq : Nat), Aside0 (laws_FnCaveRanks.j3 kq l0 = some r) ∧ Aside0 (kq ≤ kj6) ∧ Aside0 (Below w.heap.size w wc))
      case first =>
       as_aux_lemma =>
        have H := HC17.out
        clear HC17
        by_cases c18 : t804 = true
        ·
         subst c18
         have H1 : (laws_FnCaveRanks.l0 kj6 l0 t797 t800 t803 0 0 0) = some r := by rw [if_pos rfl] at H; exact H
         clear H
         have H := H1
         clear H1
         have H' := Aside0.mk H
         clear H
         go_wp2
         go_loopg [11, 13] kj6 (fun kq v11 v13 w' => ∃ (x11_2 : Int) (x13_2 : Int), v11 = .int .i64 x11_2 ∧ v13 = .int .i64 x13_2 ∧ Aside0 (laws_FnCaveRanks.l0 kq l0 t797 t800 t803 x11_2 0 x13_2 = some r) ∧ Aside0 (kq ≤ kj6) ∧ Aside0 (Kd.R k26 26 w' w.heap.size (fun k_ => some k_ ≠ (v805 : Value).ownBlock) (.slice Ao9 t797.length co9) t797) ∧ Aside0 (Kd.R k26 26 w' w.heap.size (fun k_ => some k_ ≠ ((.slice Ao9 t797.length co9) : Value).ownBlock) v805 t803) ∧ Aside0 (Below w.heap.size w w'))
         case atStart => exact ⟨(0), (0), (by first | rfl | (simp; done) | (simp [*]; done)), (by first | rfl | (simp; done) | (simp [*]; done)), H', ⟨Nat.le_refl _⟩, ⟨kr_ HO_3.out⟩, ⟨kr_ HO_7.out⟩, ⟨lb0_ HB.out⟩⟩
         case round =>
          as_aux_lemma =>
           clear H'
           try clear c1
           try clear p2
           try clear c3
           try clear c4
           try clear c12
           try clear c12b0
           try clear c12b1
           try clear c12b2
           try clear c13
           try clear c16
           try clear c18
           try clear p2
           obtain ⟨x11_2, x13_2, rfl, rfl, HA, HK2, HO_3, HO_7, HB⟩ := hrel
           cases gk with
           | zero => exact absurd HA.out (by simp [laws_FnCaveRanks.l0])
           | succ k2 =>
            have H := HA.out
            clear HA
            simp only [laws_FnCaveRanks.l0] at H
            by_cases c19 : x13_2 < (t797.length : Int)
            ·
             rw [if_pos c19] at H
             have c19b0 : decide (x13_2 < (t797.length : Int)) = true := decide_eq_true c19
             clear c19
             (first | rw [c19b0] | (simp only [i64_w, i32_w]; rw [c19b0]) | skip)
             by_cases c20 : 0 ≤ x13_2
             ·
              rw [if_pos c20] at H
              have c20b0 : decide (0 ≤ x13_2) = true := decide_eq_true c20
              clear c20
              have H' := Aside0.mk H
              clear H
              have p812 : 0 ≤ (x13_2 : Int) := dt_
              have q812 : x13_2 < (t797.length : Int) := dt_
              obtain ⟨ad812, e812, hx812_0, hx812_1, hx812_2, hx812_3⟩ := at_T26 (Kd.R_reads' HO_3.out).2.2 x13_2 p812 q812
              cases e812
              replace p812 := eq_true p812
              replace q812 := eq_true q812
              go_wp2
              go_roundg k2
              case measure => have := HJ6.out; have := HK2.out; omega
              case rel => exact ⟨(wrap64 (x11_2 + ((rd_T26 t797 x13_2).f1))), (wrap64 (x13_2 + 1)), (by first | rfl | (simp; done) | (simp [*]; done)), (by first | rfl | (simp; done) | (simp [*]; done)), H', ⟨by have := HJ6.out; have := HK2.out; omega⟩, ⟨kr_ HO_3.out⟩, ⟨kr_ HO_7.out⟩, ⟨lb0_ HB.out⟩⟩
             ·
              rw [if_neg c20] at H
              exact absurd H (by simp)
            ·
             rw [if_neg c19] at H
             have c19b0 : decide (x13_2 < (t797.length : Int)) = false := decide_eq_false c19
             clear c19
             (first | rw [c19b0] | (simp only [i64_w, i32_w]; rw [c19b0]) | skip)
             have H' := Aside0.mk H
             clear H
             go_wp2
             go_loopg [12, 14] k2 (fun kq v12 v14 w' => ∃ (x12_3 : Int) (x14_3 : Int), v12 = .int .i64 x12_3 ∧ v14 = .int .i64 x14_3 ∧ Aside0 (laws_FnCaveRanks.l1 kq l0 t797 t800 t803 x11_2 x12_3 x14_3 = some r) ∧ Aside0 (kq ≤ k2) ∧ Aside0 (Kd.R k26 26 w' w.heap.size (fun k_ => some k_ ≠ (v805 : Value).ownBlock) (.slice Ao9 t797.length co9) t797) ∧ Aside0 (Kd.R k26 26 w' w.heap.size (fun k_ => some k_ ≠ ((.slice Ao9 t797.length co9) : Value).ownBlock) v805 t803) ∧ Aside0 (Below w.heap.size w w'))
             case atStart => exact ⟨(0), (0), (by first | rfl | (simp; done) | (simp [*]; done)), (by first | rfl | (simp; done) | (simp [*]; done)), H', ⟨Nat.le_refl _⟩, ⟨kr_ HO_3.out⟩, ⟨kr_ HO_7.out⟩, ⟨lb0_ HB.out⟩⟩
             case round =>
              as_aux_lemma =>
               clear H'
               try clear c1
               try clear c2
               try clear p2
               try clear c3
               try clear c4
               try clear p6
               try clear p8
               try clear q8
               try clear hx8
               try clear c12
               try clear c12b0
               try clear c12b1
               try clear c12b2
               try clear c13
               try clear c16
               try clear c18
               try clear c19
               try clear c19b0
               try clear c20
               try clear c20b0
               try clear hx812_0
               try clear hx812_1
               try clear hx812_2
               try clear hx812_3
               try clear p2
               try clear p812
               try clear q812
               obtain ⟨x12_3, x14_3, rfl, rfl, HA, HK3, HO_3, HO_7, HB⟩ := hrel
               cases gk with
               | zero => exact absurd HA.out (by simp [laws_FnCaveRanks.l1])
               | succ k3 =>
                have H := HA.out
                clear HA
                simp only [laws_FnCaveRanks.l1] at H
                by_cases c21 : x14_3 < (t803.length : Int)
                ·
                 rw [if_pos c21] at H
                 have c21b0 : decide (x14_3 < (t803.length : Int)) = true := decide_eq_true c21
                 clear c21
                 by_cases c22 : 0 ≤ x14_3
                 ·
                  rw [if_pos c22] at H
                  have c22b0 : decide (0 ≤ x14_3) = true := decide_eq_true c22
                  clear c22
                  have H' := Aside0.mk H
                  clear H
                  obtain ⟨Ao23, co23, eo23⟩ := Kd.R_slice HO_7.out
                  subst eo23
                  have p813 : 0 ≤ (x14_3 : Int) := dt_
                  have q813 : x14_3 < (t803.length : Int) := dt_
                  obtain ⟨ad813, e813, hx813_0, hx813_1, hx813_2, hx813_3⟩ := at_T26 (Kd.R_reads' HO_7.out).2.2 x14_3 p813 q813
                  cases e813
                  replace p813 := eq_true p813
                  replace q813 := eq_true q813
                  go_wp2
                  go_roundg k3
                  case measure => have := HJ6.out; have := HK2.out; have := HK3.out; omega
                  case rel => exact ⟨(wrap64 (x12_3 + ((rd_T26 t803 x14_3).f1))), (wrap64 (x14_3 + 1)), (by first | rfl | (simp; done) | (simp [*]; done)), (by first | rfl | (simp; done) | (simp [*]; done)), H', ⟨by have := HJ6.out; have := HK2.out; have := HK3.out; omega⟩, ⟨kr_ HO_3.out⟩, ⟨kr_ HO_7.out⟩, ⟨lb0_ HB.out⟩⟩
                 ·
                  rw [if_neg c22] at H
                  exact absurd H (by simp)
                ·
                 rw [if_neg c21] at H
                 have c21b0 : decide (x14_3 < (t803.length : Int)) = false := decide_eq_false c21
                 clear c21
                 by_cases c24 : x12_3 = (wrap64 (x11_2 + t800))
                 ·
                  rw [if_pos c24] at H
                  have c24b0 : (x12_3 == (wrap64 (x11_2 + t800))) = true := beq_iff_eq.mpr c24
                  have c24b1 : (x12_3 != (wrap64 (x11_2 + t800))) = false := bne_eq_false_iff_eq.mpr c24
                  clear c24
                  by_cases c25 : (t803.length : Int) = (wrap64 ((t797.length : Int) - 1))
                  ·
                   rw [if_pos c25] at H
                   have c25b0 : ((t803.length : Int) == (wrap64 ((t797.length : Int) - 1))) = true := beq_iff_eq.mpr c25
                   have c25b1 : ((t803.length : Int) != (wrap64 ((t797.length : Int) - 1))) = false := bne_eq_false_iff_eq.mpr c25
                   clear c25
                   replace H := Option.bind_eq_some_iff.mp H
                   obtain ⟨t814, A260, H⟩ := H
                   replace H : (if t814 = true then (laws_FnCaveRanks.j3 k3 l0) else (none)) = some r := H
                   have A26 := Aside0.mk A260
                   clear A260
                   by_cases c27 : t814 = true
                   ·
                    subst c27
                    have H1 : (laws_FnCaveRanks.j3 k3 l0) = some r := by rw [if_pos rfl] at H; exact H
                    clear H
                    have H := H1
                    clear H1
                    have H' := Aside0.mk H
                    clear H
                    obtain ⟨Ao28, co28, eo28⟩ := Kd.R_slice HO_7.out
                    subst eo28
                    go_wp2_with (first | (go_at_call 22; (with_reducible refine (impl_AreCaves.calls k3 _ _ t803 true _ ?side1 ?side2 A26.out).mono ?_); (case side1 => exact kc_ (Kd.R_reads' HO_7.out).2.2); (case side2 => exact (Kd.R_reads' HO_7.out).2.1); rintro e w29 ⟨rfl, hb⟩; have n0_ := Aside0.mk (Kd.R_below (kr_ HO_3.out) hb); have n1_ := Aside0.mk (Kd.R_below (kr_ HO_7.out) hb); have n2_ := Aside0.mk (below_step (lb0_ HB.out) hb); clear HO_3; clear HO_7; clear HB; have HO_3 := n0_; have HO_7 := n1_; have HB := n2_; clear n0_ n1_ n2_; (try clear hb); (try clear hb2); (try clear hk); (try clear hi)))
                    go_meet
                    case rel => exact ⟨_, H', ⟨by have := HJ6.out; have := HK2.out; have := HK3.out; first | omega | exact Nat.le_refl _⟩, ⟨lb0_ HB.out⟩⟩
                   ·
                    replace c27 := Bool.eq_false_iff.mpr c27
                    subst c27
                    have H1 : (none) = some r := by rw [if_neg (show ¬ (false = true) by decide)] at H; exact H
                    clear H
                    have H := H1
                    clear H1
                    exact absurd H (by simp)
                  ·
                   rw [if_neg c25] at H
                   exact absurd H (by simp)
                 ·
                  rw [if_neg c24] at H
                  exact absurd H (by simp)
        ·
         replace c18 := Bool.eq_false_iff.mpr c18
         subst c18
         have H1 : (laws_FnCaveRanks.j3 kj6 l0) = some r := by rw [if_neg (show ¬ (false = true) by decide)] at H; exact H
         clear H
         have H := H1
         clear H1
         have H' := Aside0.mk H
         clear H
         go_wp2
         go_meet
         case rel => exact ⟨_, H', ⟨by have := HJ6.out; first | omega | exact Nat.le_refl _⟩, ⟨lb0_ HB.out⟩⟩
      case rest =>
       as_aux_lemma =>
        clear HC17
        try clear c1
        try clear c2
        try clear p2
        try clear c3
        try clear c4
        try clear p6
        try clear p8
        try clear q8
        try clear hx8
        try clear c12
        try clear c12b0
        try clear c12b1
        try clear c12b2
        try clear c13
        try clear c16
        try clear c18
        try clear c19
        try clear c19b0
        try clear c20
        try clear c20b0
        try clear c21
        try clear c21b0
        try clear c22
        try clear c22b0
        try clear c24
        try clear c24b0
        try clear c24b1
        try clear c25
        try clear c25b0
        try clear c25b1
        try clear c27
        try clear hx812_0
        try clear hx812_1
        try clear hx812_2
        try clear hx812_3
        try clear hx813_0
        try clear hx813_1
        try clear hx813_2
        try clear hx813_3
        try clear p2
        try clear p6
        try clear p8
        try clear p812
        try clear p813
        try clear q8
        try clear q812
        try clear q813
        obtain ⟨kq, HA, HJ16, HB⟩ := hcut
        cases kq with
        | zero => exact absurd HA.out (by simp [laws_FnCaveRanks.j3])
        | succ kj16 =>
         have H := HA.out
         clear HA
         simp only [laws_FnCaveRanks.j3] at H
         replace H := Option.bind_eq_some_iff.mp H
         obtain ⟨t815, A300, H⟩ := H
         replace H : ((impl_RankByDepth.f kj16 t815).bind fun bt818 => ((spec_RankByDepth.f kj16 t815).bind fun bt822 => (if (bt818.2 != bt822.2) = true then (laws_FnCaveRanks.j4 kj16 l0 t815 bt818.1 true) else ((laws_rTexts.f kj16 bt818.1 bt822.1).bind fun t826 => (if t826 = true then (if bt818.2 = true then (laws_FnCaveRanks.j4 kj16 l0 t815 bt818.1 ((bt818.1.length : Int) != (t815.length : Int))) else (laws_FnCaveRanks.j4 kj16 l0 t815 bt818.1 false)) else (laws_FnCaveRanks.j4 kj16 l0 t815 bt818.1 true)))))) = some r := H
         have A30 := Aside0.mk A300
         clear A300
         replace H := Option.bind_eq_some_iff.mp H
         obtain ⟨⟨t818, t819⟩, A310, H⟩ := H
         replace H : ((spec_RankByDepth.f kj16 t815).bind fun bt822 => (if (t819 != bt822.2) = true then (laws_FnCaveRanks.j4 kj16 l0 t815 t818 true) else ((laws_rTexts.f kj16 t818 bt822.1).bind fun t826 => (if t826 = true then (if t819 = true then (laws_FnCaveRanks.j4 kj16 l0 t815 t818 ((t818.length : Int) != (t815.length : Int))) else (laws_FnCaveRanks.j4 kj16 l0 t815 t818 false)) else (laws_FnCaveRanks.j4 kj16 l0 t815 t818 true))))) = some r := H
         have A31 := Aside0.mk A310
         clear A310
         replace H := Option.bind_eq_some_iff.mp H
         obtain ⟨⟨t822, t823⟩, A320, H⟩ := H
         replace H : (if (t819 != t823) = true then (laws_FnCaveRanks.j4 kj16 l0 t815 t818 true) else ((laws_rTexts.f kj16 t818 t822).bind fun t826 => (if t826 = true then (if t819 = true then (laws_FnCaveRanks.j4 kj16 l0 t815 t818 ((t818.length : Int) != (t815.length : Int))) else (laws_FnCaveRanks.j4 kj16 l0 t815 t818 false)) else (laws_FnCaveRanks.j4 kj16 l0 t815 t818 true)))) = some r := H
         have A32 := Aside0.mk A320
         clear A320
         have HC33 := Aside0.mk H
         clear H
         go_upto_region 23 with (first | ((with_reducible refine gate_callee (f := 48) rfl ?_); refine ga_ (some 114) Tryd.func48 #[.slice A0 l0.length c0] ?_; (with_reducible refine (spec_DrawRankByDepth.calls kj16 _ _ l0 t815 _ ?side1 ?side2 A30.out).mono ?_); (case side1 => exact kc_ (Kd.C_below HR0.out HB.out)); (case side2 => exact HC0.out); rintro e w34 ⟨v816, rfl, ho0, hb⟩; refine ⟨_, rfl, ?_⟩; have n0_ := Aside0.mk (Kd.R_lower ho0 (below_size (lb0_ HB.out))); have n1_ := Aside0.mk (below_step (lb0_ HB.out) hb); clear HB; have HO817 := n0_; have HB := n1_; clear n0_ n1_; (try clear hb); (try clear hb2); (try clear hk); (try clear hi); (try clear ho0); obtain ⟨Ao35, co35, eo35⟩ := Kd.R_slice HO817.out; subst eo35) | ((with_reducible refine gate_callee (f := 44) rfl ?_); refine ga_ (some 117) Tryd.func44 #[.slice Ao35 t815.length co35] ?_; (with_reducible refine (impl_RankByDepth.calls kj16 _ _ t815 t818 t819 _ ?side1 ?side2 A31.out).mono ?_); (case side1 => exact kc_ (Kd.R_reads' HO817.out).2.2); (case side2 => exact (Kd.R_reads' HO817.out).2.1); rintro e w36 ⟨v820, rfl, ho0, hb⟩; refine ⟨_, rfl, ?_⟩; have n0_ := Aside0.mk (Kd.R_below (kr_ HO817.out) hb); have n1_ := Aside0.mk (Kd.R_lower ho0 (below_size (lb0_ HB.out))); have n2_ := Aside0.mk (below_step (lb0_ HB.out) hb); clear HO817; clear HB; have HO817 := n0_; have HO821 := n1_; have HB := n2_; clear n0_ n1_ n2_; (try clear hb); (try clear hb2); (try clear hk); (try clear hi); (try clear ho0)) | ((with_reducible refine gate_callee (f := 43) rfl ?_); refine ga_ (some 122) Tryd.func43 #[.slice Ao35 t815.length co35] ?_; (with_reducible refine (spec_RankByDepth.calls kj16 _ _ t815 t822 t823 _ ?side1 ?side2 A32.out).mono ?_); (case side1 => exact kc_ (Kd.R_reads' HO817.out).2.2); (case side2 => exact (Kd.R_reads' HO817.out).2.1); rintro e w37 ⟨v824, rfl, ho0, hb⟩; refine ⟨_, rfl, ?_⟩; have n0_ := Aside0.mk (Kd.R_below (kr_ HO817.out) hb); have n1_ := Aside0.mk (Kd.R_elder' (kr_ HO821.out) (Kd.R_base ho0) hb); have n2_ := Aside0.mk (Kd.R_lower (Kd.R_new' ho0 (Kd.R_lt (kr_ HO821.out))) (below_size (lb0_ HB.out))); have n3_ := Aside0.mk (below_step (lb0_ HB.out) hb); clear HO817; clear HO821; clear HB; have HO817 := n0_; have HO821 := n1_; have HO825 := n2_; have HB := n3_; clear n0_ n1_ n2_ n3_; (try clear hb); (try clear hb2); (try clear hk); (try clear hi); (try clear ho0)))
         (try simp only [Act.put, List.setIfInBounds_toArray, List.set_cons_zero, List.set_cons_succ])
         go_cut [143] (fun v143 wc => ∃ (kq : Nat) (x143_32 : Bool), v143 = .bool x143_32 ∧ Aside0 (laws_FnCaveRanks.j4 kq l0 t815 t818 x143_32 = some r) ∧ Aside0 (kq ≤ kj16) ∧ Aside0 (Kd.R k26 26 wc w.heap.size (fun _ => True) (.slice Ao35 t815.length co35) t815) ∧ Aside0 (Kd.R Kd.string 9 wc w.heap.size (fun _ => True) v820 t818) ∧ Aside0 (Below w.heap.size w wc))
         case first =>
          as_aux_lemma =>
           have H := HC33.out
           clear HC33
           by_cases c38 : (t819 != t823) = true
           ·
            rw [if_pos c38] at H
            have c38b0 : (t819 != t823) = true := c38
            (try (have c38b1 : decide (t819 = t823) = false := by simpa using c38))
            (try (have c38b2 : (t819 == t823) = false := by simpa using c38))
            (try (have c38b3 : ¬ (t819 = t823) := by simpa using c38))
            clear c38
            (first | rw [c38b0] | (simp only [i64_w, i32_w]; rw [c38b0]) | skip)
            have H' := Aside0.mk H
            clear H
            go_wp2
            go_meet
            case rel => exact ⟨_, (true), (by first | rfl | (simp; done) | (simp [*]; done)), H', ⟨by have := HJ6.out; have := HJ16.out; first | omega | exact Nat.le_refl _⟩, ⟨kr_ HO817.out⟩, ⟨by (with_reducible repeat (first | apply Kd.R_alloc | apply Kd.R_drewN | apply Kd.R_drew)); exact Kd.R_mono HO821.out (fun _ hk => trivial)⟩, ⟨lb0_ HB.out⟩⟩
           ·
            rw [if_neg c38] at H
            have c38b0 : (t819 != t823) = false := by simpa using c38
            (try (have c38b1 : decide (t819 = t823) = true := by simpa using c38))
            (try (have c38b2 : (t819 == t823) = true := by simpa using c38))
            clear c38
            (first | rw [c38b0] | (simp only [i64_w, i32_w]; rw [c38b0]) | skip)
            replace H := Option.bind_eq_some_iff.mp H
            obtain ⟨t826, A390, H⟩ := H
            replace H : (if t826 = true then (if t819 = true then (laws_FnCaveRanks.j4 kj16 l0 t815 t818 ((t818.length : Int) != (t815.length : Int))) else (laws_FnCaveRanks.j4 kj16 l0 t815 t818 false)) else (laws_FnCaveRanks.j4 kj16 l0 t815 t818 true)) = some r := H
            have A39 := Aside0.mk A390
            clear A390
            by_cases c40 : t826 = true
            ·
             subst c40
             have H1 : (if t819 = true then (laws_FnCaveRanks.j4 kj16 l0 t815 t818 ((t818.length : Int) != (t815.length : Int))) else (laws_FnCaveRanks.j4 kj16 l0 t815 t818 false)) = some r := by rw [if_pos rfl] at H; exact H
             clear H
             have H := H1
             clear H1
             by_cases c41 : t819 = true
             ·
              subst c41
              have H1 : (laws_FnCaveRanks.j4 kj16 l0 t815 t818 ((t818.length : Int) != (t815.length : Int))) = some r := by rw [if_pos rfl] at H; exact H
              clear H
              have H := H1
              clear H1
              have H' := Aside0.mk H
              clear H
              obtain ⟨Ao42, co42, eo42⟩ := Kd.R_slice HO821.out
              subst eo42
              obtain ⟨Ao43, co43, eo43⟩ := Kd.R_slice HO825.out
              subst eo43
              go_wp2_with (first | (go_at_call 49; (with_reducible refine (laws_rTexts.calls kj16 _ _ t818 _ _ t822 true _ ?side1 ?side2 ?side3 ?side4 A39.out).mono ?_); (case side1 => exact kc_ (Kd.R_reads' HO821.out).2.2); (case side2 => exact (Kd.R_reads' HO821.out).2.1); (case side3 => exact kc_ (Kd.R_reads' HO825.out).2.2); (case side4 => exact (Kd.R_reads' HO825.out).2.1); rintro e w' ⟨rfl, ⟨nd, rfl⟩⟩))
              go_meet
              case rel => exact ⟨_, (((t818.length : Int) != (t815.length : Int))), (by first | rfl | (simp; done) | (simp [*]; done)), H', ⟨by have := HJ6.out; have := HJ16.out; first | omega | exact Nat.le_refl _⟩, ⟨kr_ HO817.out⟩, ⟨by (with_reducible repeat (first | apply Kd.R_alloc | apply Kd.R_drewN | apply Kd.R_drew)); exact Kd.R_mono HO821.out (fun _ hk => trivial)⟩, ⟨lb0_ HB.out⟩⟩
             ·
              replace c41 := Bool.eq_false_iff.mpr c41
              subst c41
              have H1 : (laws_FnCaveRanks.j4 kj16 l0 t815 t818 false) = some r := by rw [if_neg (show ¬ (false = true) by decide)] at H; exact H
              clear H
              have H := H1
              clear H1
              have H' := Aside0.mk H
              clear H
              obtain ⟨Ao44, co44, eo44⟩ := Kd.R_slice HO821.out
              subst eo44
              obtain ⟨Ao45, co45, eo45⟩ := Kd.R_slice HO825.out
              subst eo45
              go_wp2_with (first | (go_at_call 49; (with_reducible refine (laws_rTexts.calls kj16 _ _ t818 _ _ t822 true _ ?side1 ?side2 ?side3 ?side4 A39.out).mono ?_); (case side1 => exact kc_ (Kd.R_reads' HO821.out).2.2); (case side2 => exact (Kd.R_reads' HO821.out).2.1); (case side3 => exact kc_ (Kd.R_reads' HO825.out).2.2); (case side4 => exact (Kd.R_reads' HO825.out).2.1); rintro e w' ⟨rfl, ⟨nd, rfl⟩⟩))
              go_meet
              case rel => exact ⟨_, (false), (by first | rfl | (simp; done) | (simp [*]; done)), H', ⟨by have := HJ6.out; have := HJ16.out; first | omega | exact Nat.le_refl _⟩, ⟨kr_ HO817.out⟩, ⟨by (with_reducible repeat (first | apply Kd.R_alloc | apply Kd.R_drewN | apply Kd.R_drew)); exact Kd.R_mono HO821.out (fun _ hk => trivial)⟩, ⟨lb0_ HB.out⟩⟩
            ·
             replace c40 := Bool.eq_false_iff.mpr c40
             subst c40
             have H1 : (laws_FnCaveRanks.j4 kj16 l0 t815 t818 true) = some r := by rw [if_neg (show ¬ (false = true) by decide)] at H; exact H
             clear H
             have H := H1
             clear H1
             have H' := Aside0.mk H
             clear H
             obtain ⟨Ao46, co46, eo46⟩ := Kd.R_slice HO821.out
             subst eo46
             obtain ⟨Ao47, co47, eo47⟩ := Kd.R_slice HO825.out
             subst eo47
             go_wp2_with (first | (go_at_call 49; (with_reducible refine (laws_rTexts.calls kj16 _ _ t818 _ _ t822 false _ ?side1 ?side2 ?side3 ?side4 A39.out).mono ?_); (case side1 => exact kc_ (Kd.R_reads' HO821.out).2.2); (case side2 => exact (Kd.R_reads' HO821.out).2.1); (case side3 => exact kc_ (Kd.R_reads' HO825.out).2.2); (case side4 => exact (Kd.R_reads' HO825.out).2.1); rintro e w' ⟨rfl, ⟨nd, rfl⟩⟩))
             go_meet
             case rel => exact ⟨_, (true), (by first | rfl | (simp; done) | (simp [*]; done)), H', ⟨by have := HJ6.out; have := HJ16.out; first | omega | exact Nat.le_refl _⟩, ⟨kr_ HO817.out⟩, ⟨by (with_reducible repeat (first | apply Kd.R_alloc | apply Kd.R_drewN | apply Kd.R_drew)); exact Kd.R_mono HO821.out (fun _ hk => trivial)⟩, ⟨lb0_ HB.out⟩⟩
         case rest =>
          as_aux_lemma =>
           clear HC33
           try clear c1
           try clear c2
           try clear p2
           try clear c3
           try clear c4
           try clear p6
           try clear p8
           try clear q8
           try clear hx8
           try clear c12
           try clear c12b0
           try clear c12b1
           try clear c12b2
           try clear c13
           try clear c16
           try clear c18
           try clear c19
           try clear c19b0
           try clear c20
           try clear c20b0
           try clear c21
           try clear c21b0
           try clear c22
           try clear c22b0
           try clear c24
           try clear c24b0
           try clear c24b1
           try clear c25
           try clear c25b0
           try clear c25b1
           try clear c27
           try clear c35
           try clear c36
           try clear c38
           try clear c38b0
           try clear c38b1
           try clear c38b2
           try clear c40
           try clear c41
           try clear c43
           try clear c44
           try clear c45
           try clear c46
           try clear hx812_0
           try clear hx812_1
           try clear hx812_2
           try clear hx812_3
           try clear hx813_0
           try clear hx813_1
           try clear hx813_2
           try clear hx813_3
           try clear p2
           try clear p6
           try clear p8
           try clear p812
           try clear p813
           try clear q8
           try clear q812
           try clear q813
           obtain ⟨kq, x143_32, rfl, HA, HJ32, HO_15, HO_16, HB⟩ := hcut
           cases kq with
           | zero => exact absurd HA.out (by simp [laws_FnCaveRanks.j4])
           | succ kj32 =>
            have H := HA.out
            clear HA
            simp only [laws_FnCaveRanks.j4] at H
            by_cases c48 : x143_32 = true
            ·
             subst c48
             have H1 : (none) = some r := by rw [if_pos rfl] at H; exact H
             clear H
             have H := H1
             clear H1
             exact absurd H (by simp)
            ·
             replace c48 := Bool.eq_false_iff.mpr c48
             subst c48
             have H1 : ((impl_RankByLength.f kj32 t815).bind fun bt827 => ((spec_RankByLength.f kj32 t815).bind fun bt831 => (if (bt827.2 != bt831.2) = true then (laws_FnCaveRanks.j5 kj32 l0 t815 t818 bt827.1 bt827.2 true) else ((laws_rTexts.f kj32 bt827.1 bt831.1).bind fun t835 => (laws_FnCaveRanks.j5 kj32 l0 t815 t818 bt827.1 bt827.2 (!t835)))))) = some r := by rw [if_neg (show ¬ (false = true) by decide)] at H; exact H
             clear H
             have H := H1
             clear H1
             replace H := Option.bind_eq_some_iff.mp H
             obtain ⟨⟨t827, t828⟩, A490, H⟩ := H
             replace H : ((spec_RankByLength.f kj32 t815).bind fun bt831 => (if (t828 != bt831.2) = true then (laws_FnCaveRanks.j5 kj32 l0 t815 t818 t827 t828 true) else ((laws_rTexts.f kj32 t827 bt831.1).bind fun t835 => (laws_FnCaveRanks.j5 kj32 l0 t815 t818 t827 t828 (!t835))))) = some r := H
             have A49 := Aside0.mk A490
             clear A490
             replace H := Option.bind_eq_some_iff.mp H
             obtain ⟨⟨t831, t832⟩, A500, H⟩ := H
             replace H : (if (t828 != t832) = true then (laws_FnCaveRanks.j5 kj32 l0 t815 t818 t827 t828 true) else ((laws_rTexts.f kj32 t827 t831).bind fun t835 => (laws_FnCaveRanks.j5 kj32 l0 t815 t818 t827 t828 (!t835)))) = some r := H
             have A50 := Aside0.mk A500
             clear A500
             have HC51 := Aside0.mk H
             clear H
             go_upto_region 27 with (first | ((with_reducible refine gate_callee (f := 40) rfl ?_); refine ga_ (some 146) Tryd.func40 #[.slice Ao35 t815.length co35] ?_; (with_reducible refine (impl_RankByLength.calls kj32 _ _ t815 t827 t828 _ ?side1 ?side2 A49.out).mono ?_); (case side1 => exact kc_ (Kd.R_reads' HO_15.out).2.2); (case side2 => exact (Kd.R_reads' HO_15.out).2.1); rintro e w52 ⟨v829, rfl, ho0, hb⟩; refine ⟨_, rfl, ?_⟩; have n0_ := Aside0.mk (Kd.R_below (kr_ HO_15.out) hb); have n1_ := Aside0.mk (Kd.R_elder' (kr_ HO_16.out) (Kd.R_base ho0) hb); have n2_ := Aside0.mk (Kd.R_lower (Kd.R_new' ho0 (Kd.R_lt (kr_ HO_16.out))) (below_size (lb0_ HB.out))); have n3_ := Aside0.mk (below_step (lb0_ HB.out) hb); clear HO_15; clear HO_16; clear HB; have HO_15 := n0_; have HO_16 := n1_; have HO830 := n2_; have HB := n3_; clear n0_ n1_ n2_ n3_; (try clear hb); (try clear hb2); (try clear hk); (try clear hi); (try clear ho0)) | ((with_reducible refine gate_callee (f := 39) rfl ?_); refine ga_ (some 151) Tryd.func39 #[.slice Ao35 t815.length co35] ?_; (with_reducible refine (spec_RankByLength.calls kj32 _ _ t815 t831 t832 _ ?side1 ?side2 A50.out).mono ?_); (case side1 => exact kc_ (Kd.R_reads' HO_15.out).2.2); (case side2 => exact (Kd.R_reads' HO_15.out).2.1); rintro e w53 ⟨v833, rfl, ho0, hb⟩; refine ⟨_, rfl, ?_⟩; have n0_ := Aside0.mk (Kd.R_below (kr_ HO_15.out) hb); have n1_ := Aside0.mk (Kd.R_elder' (kr_ HO_16.out) (Kd.R_base ho0) hb); have n2_ := Aside0.mk (Kd.R_elder' (kr_ HO830.out) (Kd.R_base ho0) hb); have n3_ := Aside0.mk (Kd.R_lower (Kd.R_new' (Kd.R_new' ho0 (Kd.R_lt (kr_ HO_16.out))) (Kd.R_lt (kr_ HO830.out))) (below_size (lb0_ HB.out))); have n4_ := Aside0.mk (below_step (lb0_ HB.out) hb); clear HO_15; clear HO_16; clear HO830; clear HB; have HO_15 := n0_; have HO_16 := n1_; have HO830 := n2_; have HO834 := n3_; have HB := n4_; clear n0_ n1_ n2_ n3_ n4_; (try clear hb); (try clear hb2); (try clear hk); (try clear hi); (try clear ho0)))
             (try simp only [Act.put, List.setIfInBounds_toArray, List.set_cons_zero, List.set_cons_succ])
             go_cut [162] (fun v162 wc => ∃ (kq : Nat) (x162_50 : Bool), v162 = .bool x162_50 ∧ Aside0 (laws_FnCaveRanks.j5 kq l0 t815 t818 t827 t828 x162_50 = some r) ∧ Aside0 (kq ≤ kj32) ∧ Aside0 (Kd.R k26 26 wc w.heap.size (fun _ => True) (.slice Ao35 t815.length co35) t815) ∧ Aside0 (Kd.R Kd.string 9 wc w.heap.size (fun k_ => some k_ ≠ (v829 : Value).ownBlock) v820 t818) ∧ Aside0 (Kd.R Kd.string 9 wc w.heap.size (fun k_ => some k_ ≠ (v820 : Value).ownBlock) v829 t827) ∧ Aside0 (Below w.heap.size w wc))
             case first =>
              as_aux_lemma =>
               have H := HC51.out
               clear HC51
               by_cases c54 : (t828 != t832) = true
               ·
                rw [if_pos c54] at H
                have c54b0 : (t828 != t832) = true := c54
                (try (have c54b1 : decide (t828 = t832) = false := by simpa using c54))
                (try (have c54b2 : (t828 == t832) = false := by simpa using c54))
                (try (have c54b3 : ¬ (t828 = t832) := by simpa using c54))
                clear c54
                (first | rw [c54b0] | (simp only [i64_w, i32_w]; rw [c54b0]) | skip)
                have H' := Aside0.mk H
                clear H
                go_wp2
                go_meet
                case rel => exact ⟨_, (true), (by first | rfl | (simp; done) | (simp [*]; done)), H', ⟨by have := HJ6.out; have := HJ16.out; have := HJ32.out; first | omega | exact Nat.le_refl _⟩, ⟨kr_ HO_15.out⟩, ⟨by (with_reducible repeat (first | apply Kd.R_alloc | apply Kd.R_drewN | apply Kd.R_drew)); exact Kd.R_mono HO_16.out (fun _ hk => hk.1.2)⟩, ⟨by (with_reducible repeat (first | apply Kd.R_alloc | apply Kd.R_drewN | apply Kd.R_drew)); exact Kd.R_mono HO830.out (fun _ hk => hk.1.2)⟩, ⟨lb0_ HB.out⟩⟩
               ·
                rw [if_neg c54] at H
                have c54b0 : (t828 != t832) = false := by simpa using c54
                (try (have c54b1 : decide (t828 = t832) = true := by simpa using c54))
                (try (have c54b2 : (t828 == t832) = true := by simpa using c54))
                clear c54
                (first | rw [c54b0] | (simp only [i64_w, i32_w]; rw [c54b0]) | skip)
                replace H := Option.bind_eq_some_iff.mp H
                obtain ⟨t835, A550, H⟩ := H
                replace H : (laws_FnCaveRanks.j5 kj32 l0 t815 t818 t827 t828 (!t835)) = some r := H
                have A55 := Aside0.mk A550
                clear A550
                have H' := Aside0.mk H
                clear H
                obtain ⟨Ao56, co56, eo56⟩ := Kd.R_slice HO830.out
                subst eo56
                obtain ⟨Ao57, co57, eo57⟩ := Kd.R_slice HO834.out
                subst eo57
                go_wp2_with (first | (go_at_call 49; (with_reducible refine (laws_rTexts.calls kj32 _ _ t827 _ _ t831 t835 _ ?side1 ?side2 ?side3 ?side4 A55.out).mono ?_); (case side1 => exact kc_ (Kd.R_reads' HO830.out).2.2); (case side2 => exact (Kd.R_reads' HO830.out).2.1); (case side3 => exact kc_ (Kd.R_reads' HO834.out).2.2); (case side4 => exact (Kd.R_reads' HO834.out).2.1); rintro e w' ⟨rfl, ⟨nd, rfl⟩⟩))
                go_meet
                case rel => exact ⟨_, (!t835), (by first | rfl | (simp; done) | (simp [*]; done)), H', ⟨by have := HJ6.out; have := HJ16.out; have := HJ32.out; first | omega | exact Nat.le_refl _⟩, ⟨kr_ HO_15.out⟩, ⟨by (with_reducible repeat (first | apply Kd.R_alloc | apply Kd.R_drewN | apply Kd.R_drew)); exact Kd.R_mono HO_16.out (fun _ hk => hk.1.2)⟩, ⟨by (with_reducible repeat (first | apply Kd.R_alloc | apply Kd.R_drewN | apply Kd.R_drew)); exact Kd.R_mono HO830.out (fun _ hk => hk.1.2)⟩, ⟨lb0_ HB.out⟩⟩
             case rest =>
              as_aux_lemma =>
               clear HC51
               try clear c1
               try clear c2
               try clear p2
               try clear c3
               try clear c4
               try clear c5
               try clear p6
               try clear p8
               try clear q8
               try clear hx8
               try clear c12
               try clear c12b0
               try clear c12b1
               try clear c12b2
               try clear c13
               try clear c16
               try clear c18
               try clear c19
               try clear c19b0
               try clear c20
               try clear c20b0
               try clear c21
               try clear c21b0
               try clear c22
               try clear c22b0
               try clear c24
               try clear c24b0
               try clear c24b1
               try clear c25
               try clear c25b0
               try clear c25b1
               try clear c27
               try clear c35
               try clear c36
               try clear c38
               try clear c38b0
               try clear c38b1
               try clear c38b2
               try clear c39
               try clear c40
               try clear c41
               try clear c43
               try clear c44
               try clear c45
               try clear c46
               try clear c48
               try clear c54
               try clear c54b0
               try clear c54b1
               try clear c54b2
               try clear hx812_0
               try clear hx812_1
               try clear hx812_2
               try clear hx812_3
               try clear hx813_0
               try clear hx813_1
               try clear hx813_2
               try clear hx813_3
               try clear p2
               try clear p6
               try clear p8
               try clear p812
               try clear p813
               try clear q8
               try clear q812
               try clear q813
               obtain ⟨kq, x162_50, rfl, HA, HJ50, HO_15, HO_16, HO_20, HB⟩ := hcut
               cases kq with
               | zero => exact absurd HA.out (by simp [laws_FnCaveRanks.j5])
               | succ kj50 =>
                have H := HA.out
                clear HA
                simp only [laws_FnCaveRanks.j5] at H
                by_cases c58 : x162_50 = true
                ·
                 subst c58
                 have H1 : (none) = some r := by rw [if_pos rfl] at H; exact H
                 clear H
                 have H := H1
                 clear H1
                 exact absurd H (by simp)
                ·
                 replace c58 := Bool.eq_false_iff.mpr c58
                 subst c58
                 have H1 : (laws_FnCaveRanks.l2 kj50 l0 t815 t818 t827 t828 0) = some r := by rw [if_neg (show ¬ (false = true) by decide)] at H; exact H
                 clear H
                 have H := H1
                 clear H1
                 have H' := Aside0.mk H
                 clear H
                 go_wp2
                 go_loopg [24] kj50 (fun kq v24 w' => ∃ (x24_5 : Int), v24 = .int .i64 x24_5 ∧ Aside0 (laws_FnCaveRanks.l2 kq l0 t815 t818 t827 t828 x24_5 = some r) ∧ Aside0 (kq ≤ kj50) ∧ Aside0 (Kd.R k26 26 w' w.heap.size (fun _ => True) (.slice Ao35 t815.length co35) t815) ∧ Aside0 (Kd.R Kd.string 9 w' w.heap.size (fun k_ => some k_ ≠ (v829 : Value).ownBlock) v820 t818) ∧ Aside0 (Kd.R Kd.string 9 w' w.heap.size (fun k_ => some k_ ≠ (v820 : Value).ownBlock) v829 t827) ∧ Aside0 (Below w.heap.size w w'))
                 case atStart => exact ⟨(0), (by first | rfl | (simp; done) | (simp [*]; done)), H', ⟨Nat.le_refl _⟩, ⟨kr_ HO_15.out⟩, ⟨kr_ HO_16.out⟩, ⟨kr_ HO_20.out⟩, ⟨lb0_ HB.out⟩⟩
                 case round =>
                  as_aux_lemma =>
                   clear H'
                   try clear c1
                   try clear c2
                   try clear p2
                   try clear c3
                   try clear c4
                   try clear c5
                   try clear p6
                   try clear p8
                   try clear q8
                   try clear hx8
                   try clear c12
                   try clear c12b0
                   try clear c12b1
                   try clear c12b2
                   try clear c13
                   try clear c16
                   try clear c18
                   try clear c19
                   try clear c19b0
                   try clear c20
                   try clear c20b0
                   try clear c21
                   try clear c21b0
                   try clear c22
                   try clear c22b0
                   try clear c24
                   try clear c24b0
                   try clear c24b1
                   try clear c25
                   try clear c25b0
                   try clear c25b1
                   try clear c27
                   try clear c35
                   try clear c36
                   try clear c38
                   try clear c38b0
                   try clear c38b1
                   try clear c38b2
                   try clear c39
                   try clear c40
                   try clear c41
                   try clear c43
                   try clear c44
                   try clear c45
                   try clear c46
                   try clear c48
                   try clear c54
                   try clear c54b0
                   try clear c54b1
                   try clear c54b2
                   try clear c58
                   try clear hx812_0
                   try clear hx812_1
                   try clear hx812_2
                   try clear hx812_3
                   try clear hx813_0
                   try clear hx813_1
                   try clear hx813_2
                   try clear hx813_3
                   try clear p2
                   try clear p6
                   try clear p8
                   try clear p812
                   try clear p813
                   try clear q8
                   try clear q812
                   try clear q813
                   obtain ⟨x24_5, rfl, HA, HK5, HO_15, HO_16, HO_20, HB⟩ := hrel
                   cases gk with
                   | zero => exact absurd HA.out (by simp [laws_FnCaveRanks.l2])
                   | succ k5 =>
                    have H := HA.out
                    clear HA
                    simp only [laws_FnCaveRanks.l2] at H
                    have HC59 := Aside0.mk H
                    clear H
                    go_upto_region 30 with (fail)
                    go_cut [169] (fun v169 wc => ∃ (kq : Nat) (x169_58 : Bool), v169 = .bool x169_58 ∧ Aside0 (laws_FnCaveRanks.j7 kq l0 t815 t818 t827 t828 x24_5 x169_58 = some r) ∧ Aside0 (kq ≤ k5) ∧ Aside0 (Kd.R k26 26 wc w.heap.size (fun _ => True) (.slice Ao35 t815.length co35) t815) ∧ Aside0 (Kd.R Kd.string 9 wc w.heap.size (fun k_ => some k_ ≠ (v829 : Value).ownBlock) v820 t818) ∧ Aside0 (Kd.R Kd.string 9 wc w.heap.size (fun k_ => some k_ ≠ (v820 : Value).ownBlock) v829 t827) ∧ Aside0 (Below w.heap.size w wc))
                    case first =>
                     as_aux_lemma =>
                      have H := HC59.out
                      clear HC59
                      by_cases c60 : x24_5 < (t815.length : Int)
                      ·
                       rw [if_pos c60] at H
                       have c60b0 : decide (x24_5 < (t815.length : Int)) = true := decide_eq_true c60
                       clear c60
                       (first | rw [c60b0] | (simp only [i64_w, i32_w]; rw [c60b0]) | skip)
                       have H' := Aside0.mk H
                       clear H
                       go_wp2
                       go_meet
                       case rel => exact ⟨_, (t828), (by first | rfl | (simp; done) | (simp [*]; done)), H', ⟨by have := HJ6.out; have := HJ16.out; have := HJ32.out; have := HJ50.out; have := HK5.out; first | omega | exact Nat.le_refl _⟩, ⟨kr_ HO_15.out⟩, ⟨kr_ HO_16.out⟩, ⟨kr_ HO_20.out⟩, ⟨lb0_ HB.out⟩⟩
                      ·
                       rw [if_neg c60] at H
                       have c60b0 : decide (x24_5 < (t815.length : Int)) = false := decide_eq_false c60
                       clear c60
                       (first | rw [c60b0] | (simp only [i64_w, i32_w]; rw [c60b0]) | skip)
                       have H' := Aside0.mk H
                       clear H
                       go_wp2
                       go_meet
                       case rel => exact ⟨_, (false), (by first | rfl | (simp; done) | (simp [*]; done)), H', ⟨by have := HJ6.out; have := HJ16.out; have := HJ32.out; have := HJ50.out; have := HK5.out; first | omega | exact Nat.le_refl _⟩, ⟨kr_ HO_15.out⟩, ⟨kr_ HO_16.out⟩, ⟨kr_ HO_20.out⟩, ⟨lb0_ HB.out⟩⟩
                    case rest =>
                     as_aux_lemma =>
                      clear HC59
                      try clear c1
                      try clear c2
                      try clear p2
                      try clear c3
                      try clear c4
                      try clear c5
                      try clear c6
                      try clear p6
                      try clear p8
                      try clear q8
                      try clear hx8
                      try clear c12
                      try clear c12b0
                      try clear c12b1
                      try clear c12b2
                      try clear c13
                      try clear c16
                      try clear c18
                      try clear c19
                      try clear c19b0
                      try clear c20
                      try clear c20b0
                      try clear c21
                      try clear c21b0
                      try clear c22
                      try clear c22b0
                      try clear c24
                      try clear c24b0
                      try clear c24b1
                      try clear c25
                      try clear c25b0
                      try clear c25b1
                      try clear c27
                      try clear c35
                      try clear c36
                      try clear c38
                      try clear c38b0
                      try clear c38b1
                      try clear c38b2
                      try clear c39
                      try clear c40
                      try clear c41
                      try clear c43
                      try clear c44
                      try clear c45
                      try clear c46
                      try clear c48
                      try clear c54
                      try clear c54b0
                      try clear c54b1
                      try clear c54b2
                      try clear c58
                      try clear c60
                      try clear c60b0
                      try clear hx812_0
                      try clear hx812_1
                      try clear hx812_2
                      try clear hx812_3
                      try clear hx813_0
                      try clear hx813_1
                      try clear hx813_2
                      try clear hx813_3
                      try clear p2
                      try clear p6
                      try clear p8
                      try clear p812
                      try clear p813
                      try clear q8
                      try clear q812
                      try clear q813
                      obtain ⟨kq, x169_58, rfl, HA, HJ58, HO_15, HO_16, HO_20, HB⟩ := hcut
                      cases kq with
                      | zero => exact absurd HA.out (by simp [laws_FnCaveRanks.j7])
                      | succ kj58 =>
                       have H := HA.out
                       clear HA
                       simp only [laws_FnCaveRanks.j7] at H
                       by_cases c61 : x169_58 = true
                       ·
                        subst c61
                        have H1 : (if 0 ≤ x24_5 then (if x24_5 < (t815.length : Int) then ((laws_rHasText.f kj58 t827 ((rd_T26 t815 x24_5).f0)).bind fun t837 => (if t837 = true then ((laws_rHasText.f kj58 t818 ((rd_T26 t815 x24_5).f0)).bind fun t839 => (if t839 = true then (laws_FnCaveRanks.l2 kj58 l0 t815 t818 t827 t828 (wrap64 (x24_5 + 1))) else (none))) else (none))) else (none)) else (none)) = some r := by rw [if_pos rfl] at H; exact H
                        clear H
                        have H := H1
                        clear H1
                        by_cases c62 : 0 ≤ x24_5
                        ·
                         rw [if_pos c62] at H
                         have c62b0 : decide (0 ≤ x24_5) = true := decide_eq_true c62
                         clear c62
                         by_cases c63 : x24_5 < (t815.length : Int)
                         ·
                          rw [if_pos c63] at H
                          have c63b0 : decide (x24_5 < (t815.length : Int)) = true := decide_eq_true c63
                          clear c63
                          replace H := Option.bind_eq_some_iff.mp H
                          obtain ⟨t837, A640, H⟩ := H
                          replace H : (if t837 = true then ((laws_rHasText.f kj58 t818 ((rd_T26 t815 x24_5).f0)).bind fun t839 => (if t839 = true then (laws_FnCaveRanks.l2 kj58 l0 t815 t818 t827 t828 (wrap64 (x24_5 + 1))) else (none))) else (none)) = some r := H
                          have A64 := Aside0.mk A640
                          clear A640
                          by_cases c65 : t837 = true
                          ·
                           subst c65
                           have H1 : ((laws_rHasText.f kj58 t818 ((rd_T26 t815 x24_5).f0)).bind fun t839 => (if t839 = true then (laws_FnCaveRanks.l2 kj58 l0 t815 t818 t827 t828 (wrap64 (x24_5 + 1))) else (none))) = some r := by rw [if_pos rfl] at H; exact H
                           clear H
                           have H := H1
                           clear H1
                           replace H := Option.bind_eq_some_iff.mp H
                           obtain ⟨t839, A660, H⟩ := H
                           replace H : (if t839 = true then (laws_FnCaveRanks.l2 kj58 l0 t815 t818 t827 t828 (wrap64 (x24_5 + 1))) else (none)) = some r := H
                           have A66 := Aside0.mk A660
                           clear A660
                           by_cases c67 : t839 = true
                           ·
                            subst c67
                            have H1 : (laws_FnCaveRanks.l2 kj58 l0 t815 t818 t827 t828 (wrap64 (x24_5 + 1))) = some r := by rw [if_pos rfl] at H; exact H
                            clear H
                            have H := H1
                            clear H1
                            have H' := Aside0.mk H
                            clear H
                            have p836 : 0 ≤ (x24_5 : Int) := dt_
                            have q836 : x24_5 < (t815.length : Int) := dt_
                            obtain ⟨ad836, e836, hx836_0, hx836_1, hx836_2, hx836_3⟩ := at_T26 (Kd.R_reads' HO_15.out).2.2 x24_5 p836 q836
                            cases e836
                            replace p836 := eq_true p836
                            replace q836 := eq_true q836
                            obtain ⟨Ao68, co68, eo68⟩ := Kd.R_slice HO_20.out
                            subst eo68
                            go_wp2_with (first | ((with_reducible refine gate_callee (f := 50) rfl ?_); refine ga_ (some 178) Tryd.func50 #[.slice Ao68 t827.length co68, .string ((rd_T26 t815 x24_5).f0)] ?_; (with_reducible refine (laws_rHasText.calls kj58 _ _ t827 ((rd_T26 t815 x24_5).f0) true _ ?side1 ?side2 A64.out).mono ?_); (case side1 => exact kc_ (Kd.R_reads' HO_20.out).2.2); (case side2 => exact (Kd.R_reads' HO_20.out).2.1); rintro e w' ⟨rfl, ⟨nd, rfl⟩⟩; refine ⟨_, rfl, ?_⟩; have p838 : 0 ≤ (x24_5 : Int) := dt_; have q838 : x24_5 < (t815.length : Int) := dt_; obtain ⟨ad838, e838, hx838_0, hx838_1, hx838_2, hx838_3⟩ := at_T26 (Kd.R_reads' HO_15.out).2.2 x24_5 p838 q838; obtain rfl : ad836 = ad838 := (by injection e838); replace p838 := eq_true p838; replace q838 := eq_true q838; obtain ⟨Ao69, co69, eo69⟩ := Kd.R_slice HO_16.out; subst eo69) | (go_at_call 50; (with_reducible refine (laws_rHasText.calls kj58 _ _ t818 ((rd_T26 t815 x24_5).f0) true _ ?side1 ?side2 A66.out).mono ?_); (case side1 => exact kc_ (Kd.R_reads' HO_16.out).2.2); (case side2 => exact (Kd.R_reads' HO_16.out).2.1); rintro e w' ⟨rfl, ⟨nd, rfl⟩⟩))
                            go_roundg kj58
                            case measure => have := HJ6.out; have := HJ16.out; have := HJ32.out; have := HJ50.out; have := HK5.out; have := HJ58.out; omega
                            case rel => exact ⟨(wrap64 (x24_5 + 1)), (by first | rfl | (simp; done) | (simp [*]; done)), H', ⟨by have := HJ6.out; have := HJ16.out; have := HJ32.out; have := HJ50.out; have := HK5.out; have := HJ58.out; omega⟩, ⟨kr_ HO_15.out⟩, ⟨kr_ HO_16.out⟩, ⟨kr_ HO_20.out⟩, ⟨lb0_ HB.out⟩⟩
                           ·
                            replace c67 := Bool.eq_false_iff.mpr c67
                            subst c67
                            have H1 : (none) = some r := by rw [if_neg (show ¬ (false = true) by decide)] at H; exact H
                            clear H
                            have H := H1
                            clear H1
                            exact absurd H (by simp)
                          ·
                           replace c65 := Bool.eq_false_iff.mpr c65
                           subst c65
                           have H1 : (none) = some r := by rw [if_neg (show ¬ (false = true) by decide)] at H; exact H
                           clear H
                           have H := H1
                           clear H1
                           exact absurd H (by simp)
                         ·
                          rw [if_neg c63] at H
                          exact absurd H (by simp)
                        ·
                         rw [if_neg c62] at H
                         exact absurd H (by simp)
                       ·
                        replace c61 := Bool.eq_false_iff.mpr c61
                        subst c61
                        have H1 : ((spec_DrawAddSurvey.f kj58 l0).bind fun bt840 => ((impl_AddSurvey.f kj58 bt840.1 bt840.2.1 bt840.2.2.1 bt840.2.2.2.1 bt840.2.2.2.2).bind fun bt847 => ((spec_AddSurvey.f kj58 bt840.1 bt840.2.1 bt840.2.2.1 bt840.2.2.2.1 bt840.2.2.2.2).bind fun bt851 => (if (bt847.2 == bt851.2) = true then ((laws_rCaves.f kj58 bt847.1 bt851.1).bind fun t855 => (if t855 = true then (if bt847.2 = true then ((impl_AreCaves.f kj58 bt847.1).bind fun t856 => (some t856)) else (some true)) else (none))) else (none))))) = some r := by rw [if_neg (show ¬ (false = true) by decide)] at H; exact H
                        clear H
                        have H := H1
                        clear H1
                        replace H := Option.bind_eq_some_iff.mp H
                        obtain ⟨⟨t840, t841, t842, t843, t844⟩, A700, H⟩ := H
                        replace H : ((impl_AddSurvey.f kj58 t840 t841 t842 t843 t844).bind fun bt847 => ((spec_AddSurvey.f kj58 t840 t841 t842 t843 t844).bind fun bt851 => (if (bt847.2 == bt851.2) = true then ((laws_rCaves.f kj58 bt847.1 bt851.1).bind fun t855 => (if t855 = true then (if bt847.2 = true then ((impl_AreCaves.f kj58 bt847.1).bind fun t856 => (some t856)) else (some true)) else (none))) else (none)))) = some r := H
                        have A70 := Aside0.mk A700
                        clear A700
                        replace H := Option.bind_eq_some_iff.mp H
                        obtain ⟨⟨t847, t848⟩, A710, H⟩ := H
                        replace H : ((spec_AddSurvey.f kj58 t840 t841 t842 t843 t844).bind fun bt851 => (if (t848 == bt851.2) = true then ((laws_rCaves.f kj58 t847 bt851.1).bind fun t855 => (if t855 = true then (if t848 = true then ((impl_AreCaves.f kj58 t847).bind fun t856 => (some t856)) else (some true)) else (none))) else (none))) = some r := H
                        have A71 := Aside0.mk A710
                        clear A710
                        replace H := Option.bind_eq_some_iff.mp H
                        obtain ⟨⟨t851, t852⟩, A720, H⟩ := H
                        replace H : (if (t848 == t852) = true then ((laws_rCaves.f kj58 t847 t851).bind fun t855 => (if t855 = true then (if t848 = true then ((impl_AreCaves.f kj58 t847).bind fun t856 => (some t856)) else (some true)) else (none))) else (none)) = some r := H
                        have A72 := Aside0.mk A720
                        clear A720
                        by_cases c73 : (t848 == t852) = true
                        ·
                         rw [if_pos c73] at H
                         have c73b0 : (t848 == t852) = true := c73
                         (try (have c73b1 : decide (t848 = t852) = true := by simpa using c73))
                         (try (have c73b2 : (t848 == t852) = true := by simpa using c73))
                         clear c73
                         replace H := Option.bind_eq_some_iff.mp H
                         obtain ⟨t855, A740, H⟩ := H
                         replace H : (if t855 = true then (if t848 = true then ((impl_AreCaves.f kj58 t847).bind fun t856 => (some t856)) else (some true)) else (none)) = some r := H
                         have A74 := Aside0.mk A740
                         clear A740
                         by_cases c75 : t855 = true
                         ·
                          subst c75
                          have H1 : (if t848 = true then ((impl_AreCaves.f kj58 t847).bind fun t856 => (some t856)) else (some true)) = some r := by rw [if_pos rfl] at H; exact H
                          clear H
                          have H := H1
                          clear H1
                          by_cases c76 : t848 = true
                          ·
                           subst c76
                           have H1 : ((impl_AreCaves.f kj58 t847).bind fun t856 => (some t856)) = some r := by rw [if_pos rfl] at H; exact H
                           clear H
                           have H := H1
                           clear H1
                           replace H := Option.bind_eq_some_iff.mp H
                           obtain ⟨t856, A770, H⟩ := H
                           replace H : (some t856) = some r := H
                           have A77 := Aside0.mk A770
                           clear A770
                           obtain rfl := Option.some.inj H
                           go_wp2_with (first | ((with_reducible refine gate_callee (f := 51) rfl ?_); refine ga_ (some 192) Tryd.func51 #[.slice A0 l0.length c0] ?_; (with_reducible refine (spec_DrawAddSurvey.calls kj58 _ _ l0 t840 t841 t842 t843 t844 _ ?side1 ?side2 A70.out).mono ?_); (case side1 => exact kc_ (Kd.C_below HR0.out HB.out)); (case side2 => exact HC0.out); rintro e w78 ⟨v845, rfl, ho0, hb⟩; refine ⟨_, rfl, ?_⟩; have n0_ := Aside0.mk (Kd.R_elder' (kr_ HO_15.out) (Kd.R_base ho0) hb); have n1_ := Aside0.mk (Kd.R_below (kr_ HO_16.out) hb); have n2_ := Aside0.mk (Kd.R_below (kr_ HO_20.out) hb); have n3_ := Aside0.mk (Kd.R_lower (Kd.R_new' ho0 (Kd.R_lt (kr_ HO_15.out))) (below_size (lb0_ HB.out))); have n4_ := Aside0.mk (below_step (lb0_ HB.out) hb); clear HO_15; clear HO_16; clear HO_20; clear HB; have HO_15 := n0_; have HO_16 := n1_; have HO_20 := n2_; have HO846 := n3_; have HB := n4_; clear n0_ n1_ n2_ n3_ n4_; (try clear hb); (try clear hb2); (try clear hk); (try clear hi); (try clear ho0); obtain ⟨Ao79, co79, eo79⟩ := Kd.R_slice HO846.out; subst eo79) | ((with_reducible refine gate_callee (f := 33) rfl ?_); refine ga_ (some 204) Tryd.func33 #[.slice Ao79 t840.length co79, .string t841, .int .i64 t842, .int .i64 t843, .int .i64 t844] ?_; (with_reducible refine (impl_AddSurvey.calls kj58 _ _ t840 t841 t842 t843 t844 t847 true _ ?side1 ?side2 A71.out).mono ?_); (case side1 => exact kc_ (Kd.R_reads' HO846.out).2.2); (case side2 => exact (Kd.R_reads' HO846.out).2.1); rintro e w80 ⟨v849, rfl, ho0, hb⟩; refine ⟨_, rfl, ?_⟩; have n0_ := Aside0.mk (Kd.R_elder' (kr_ HO_15.out) (Kd.R_base ho0) hb); have n1_ := Aside0.mk (Kd.R_below (kr_ HO_16.out) hb); have n2_ := Aside0.mk (Kd.R_below (kr_ HO_20.out) hb); have n3_ := Aside0.mk (Kd.R_elder' (kr_ HO846.out) (Kd.R_base ho0) hb); have n4_ := Aside0.mk (Kd.R_lower (Kd.R_new' (Kd.R_new' ho0 (Kd.R_lt (kr_ HO_15.out))) (Kd.R_lt (kr_ HO846.out))) (below_size (lb0_ HB.out))); have n5_ := Aside0.mk (below_step (lb0_ HB.out) hb); clear HO_15; clear HO_16; clear HO_20; clear HO846; clear HB; have HO_15 := n0_; have HO_16 := n1_; have HO_20 := n2_; have HO846 := n3_; have HO850 := n4_; have HB := n5_; clear n0_ n1_ n2_ n3_ n4_ n5_; (try clear hb); (try clear hb2); (try clear hk); (try clear hi); (try clear ho0)) | ((with_reducible refine gate_callee (f := 32) rfl ?_); refine ga_ (some 213) Tryd.func32 #[.slice Ao79 t840.length co79, .string t841, .int .i64 t842, .int .i64 t843, .int .i64 t844] ?_; (with_reducible refine (spec_AddSurvey.calls kj58 _ _ t840 t841 t842 t843 t844 t851 t852 _ ?side1 ?side2 A72.out).mono ?_); (case side1 => exact kc_ (Kd.R_reads' HO846.out).2.2); (case side2 => exact (Kd.R_reads' HO846.out).2.1); rintro e w81 ⟨v853, rfl, ho0, hb⟩; refine ⟨_, rfl, ?_⟩; have n0_ := Aside0.mk (Kd.R_elder' (kr_ HO_15.out) (Kd.R_base ho0) hb); have n1_ := Aside0.mk (Kd.R_below (kr_ HO_16.out) hb); have n2_ := Aside0.mk (Kd.R_below (kr_ HO_20.out) hb); have n3_ := Aside0.mk (Kd.R_elder' (kr_ HO846.out) (Kd.R_base ho0) hb); have n4_ := Aside0.mk (Kd.R_elder' (kr_ HO850.out) (Kd.R_base ho0) hb); have n5_ := Aside0.mk (Kd.R_lower (Kd.R_new' (Kd.R_new' (Kd.R_new' ho0 (Kd.R_lt (kr_ HO_15.out))) (Kd.R_lt (kr_ HO846.out))) (Kd.R_lt (kr_ HO850.out))) (below_size (lb0_ HB.out))); have n6_ := Aside0.mk (below_step (lb0_ HB.out) hb); clear HO_15; clear HO_16; clear HO_20; clear HO846; clear HO850; clear HB; have HO_15 := n0_; have HO_16 := n1_; have HO_20 := n2_; have HO846 := n3_; have HO850 := n4_; have HO854 := n5_; have HB := n6_; clear n0_ n1_ n2_ n3_ n4_ n5_ n6_; (try clear hb); (try clear hb2); (try clear hk); (try clear hi); (try clear ho0); obtain ⟨Ao82, co82, eo82⟩ := Kd.R_slice HO850.out; subst eo82; obtain ⟨Ao83, co83, eo83⟩ := Kd.R_slice HO854.out; subst eo83) | (go_at_call 47; (with_reducible refine (laws_rCaves.calls kj58 _ _ t847 _ _ t851 true _ ?side1 ?side2 ?side3 ?side4 A74.out).mono ?_); (case side1 => exact kc_ (Kd.R_reads' HO850.out).2.2); (case side2 => exact (Kd.R_reads' HO850.out).2.1); (case side3 => exact kc_ (Kd.R_reads' HO854.out).2.2); (case side4 => exact (Kd.R_reads' HO854.out).2.1); rintro e w' ⟨rfl, ⟨nd, rfl⟩⟩) | (go_at_call 22; (with_reducible refine (impl_AreCaves.calls kj58 _ _ t847 t856 _ ?side1 ?side2 A77.out).mono ?_); (case side1 => exact kc_ (Kd.R_reads' HO850.out).2.2); (case side2 => exact (Kd.R_reads' HO850.out).2.1); rintro e w84 ⟨rfl, hb⟩; have n0_ := Aside0.mk (Kd.R_below (kr_ HO_15.out) hb); have n1_ := Aside0.mk (Kd.R_below (kr_ HO_16.out) hb); have n2_ := Aside0.mk (Kd.R_below (kr_ HO_20.out) hb); have n3_ := Aside0.mk (Kd.R_below (kr_ HO846.out) hb); have n4_ := Aside0.mk (Kd.R_below (kr_ HO850.out) hb); have n5_ := Aside0.mk (Kd.R_below (kr_ HO854.out) hb); have n6_ := Aside0.mk (below_step (lb0_ HB.out) hb); clear HO_15; clear HO_16; clear HO_20; clear HO846; clear HO850; clear HO854; clear HB; have HO_15 := n0_; have HO_16 := n1_; have HO_20 := n2_; have HO846 := n3_; have HO850 := n4_; have HO854 := n5_; have HB := n6_; clear n0_ n1_ n2_ n3_ n4_ n5_ n6_; (try clear hb); (try clear hb2); (try clear hk); (try clear hi)))
                           go_ret
                           exact ⟨rr_, lb0_ HB.out⟩
                          ·
                           replace c76 := Bool.eq_false_iff.mpr c76
                           subst c76
                           have H1 : (some true) = some r := by rw [if_neg (show ¬ (false = true) by decide)] at H; exact H
                           clear H
                           have H := H1
                           clear H1
                           obtain rfl := Option.some.inj H
                           go_wp2_with (first | ((with_reducible refine gate_callee (f := 51) rfl ?_); refine ga_ (some 192) Tryd.func51 #[.slice A0 l0.length c0] ?_; (with_reducible refine (spec_DrawAddSurvey.calls kj58 _ _ l0 t840 t841 t842 t843 t844 _ ?side1 ?side2 A70.out).mono ?_); (case side1 => exact kc_ (Kd.C_below HR0.out HB.out)); (case side2 => exact HC0.out); rintro e w85 ⟨v845, rfl, ho0, hb⟩; refine ⟨_, rfl, ?_⟩; have n0_ := Aside0.mk (Kd.R_elder' (kr_ HO_15.out) (Kd.R_base ho0) hb); have n1_ := Aside0.mk (Kd.R_below (kr_ HO_16.out) hb); have n2_ := Aside0.mk (Kd.R_below (kr_ HO_20.out) hb); have n3_ := Aside0.mk (Kd.R_lower (Kd.R_new' ho0 (Kd.R_lt (kr_ HO_15.out))) (below_size (lb0_ HB.out))); have n4_ := Aside0.mk (below_step (lb0_ HB.out) hb); clear HO_15; clear HO_16; clear HO_20; clear HB; have HO_15 := n0_; have HO_16 := n1_; have HO_20 := n2_; have HO846 := n3_; have HB := n4_; clear n0_ n1_ n2_ n3_ n4_; (try clear hb); (try clear hb2); (try clear hk); (try clear hi); (try clear ho0); obtain ⟨Ao86, co86, eo86⟩ := Kd.R_slice HO846.out; subst eo86) | ((with_reducible refine gate_callee (f := 33) rfl ?_); refine ga_ (some 204) Tryd.func33 #[.slice Ao86 t840.length co86, .string t841, .int .i64 t842, .int .i64 t843, .int .i64 t844] ?_; (with_reducible refine (impl_AddSurvey.calls kj58 _ _ t840 t841 t842 t843 t844 t847 false _ ?side1 ?side2 A71.out).mono ?_); (case side1 => exact kc_ (Kd.R_reads' HO846.out).2.2); (case side2 => exact (Kd.R_reads' HO846.out).2.1); rintro e w87 ⟨v849, rfl, ho0, hb⟩; refine ⟨_, rfl, ?_⟩; have n0_ := Aside0.mk (Kd.R_elder' (kr_ HO_15.out) (Kd.R_base ho0) hb); have n1_ := Aside0.mk (Kd.R_below (kr_ HO_16.out) hb); have n2_ := Aside0.mk (Kd.R_below (kr_ HO_20.out) hb); have n3_ := Aside0.mk (Kd.R_elder' (kr_ HO846.out) (Kd.R_base ho0) hb); have n4_ := Aside0.mk (Kd.R_lower (Kd.R_new' (Kd.R_new' ho0 (Kd.R_lt (kr_ HO_15.out))) (Kd.R_lt (kr_ HO846.out))) (below_size (lb0_ HB.out))); have n5_ := Aside0.mk (below_step (lb0_ HB.out) hb); clear HO_15; clear HO_16; clear HO_20; clear HO846; clear HB; have HO_15 := n0_; have HO_16 := n1_; have HO_20 := n2_; have HO846 := n3_; have HO850 := n4_; have HB := n5_; clear n0_ n1_ n2_ n3_ n4_ n5_; (try clear hb); (try clear hb2); (try clear hk); (try clear hi); (try clear ho0)) | ((with_reducible refine gate_callee (f := 32) rfl ?_); refine ga_ (some 213) Tryd.func32 #[.slice Ao86 t840.length co86, .string t841, .int .i64 t842, .int .i64 t843, .int .i64 t844] ?_; (with_reducible refine (spec_AddSurvey.calls kj58 _ _ t840 t841 t842 t843 t844 t851 t852 _ ?side1 ?side2 A72.out).mono ?_); (case side1 => exact kc_ (Kd.R_reads' HO846.out).2.2); (case side2 => exact (Kd.R_reads' HO846.out).2.1); rintro e w88 ⟨v853, rfl, ho0, hb⟩; refine ⟨_, rfl, ?_⟩; have n0_ := Aside0.mk (Kd.R_elder' (kr_ HO_15.out) (Kd.R_base ho0) hb); have n1_ := Aside0.mk (Kd.R_below (kr_ HO_16.out) hb); have n2_ := Aside0.mk (Kd.R_below (kr_ HO_20.out) hb); have n3_ := Aside0.mk (Kd.R_elder' (kr_ HO846.out) (Kd.R_base ho0) hb); have n4_ := Aside0.mk (Kd.R_elder' (kr_ HO850.out) (Kd.R_base ho0) hb); have n5_ := Aside0.mk (Kd.R_lower (Kd.R_new' (Kd.R_new' (Kd.R_new' ho0 (Kd.R_lt (kr_ HO_15.out))) (Kd.R_lt (kr_ HO846.out))) (Kd.R_lt (kr_ HO850.out))) (below_size (lb0_ HB.out))); have n6_ := Aside0.mk (below_step (lb0_ HB.out) hb); clear HO_15; clear HO_16; clear HO_20; clear HO846; clear HO850; clear HB; have HO_15 := n0_; have HO_16 := n1_; have HO_20 := n2_; have HO846 := n3_; have HO850 := n4_; have HO854 := n5_; have HB := n6_; clear n0_ n1_ n2_ n3_ n4_ n5_ n6_; (try clear hb); (try clear hb2); (try clear hk); (try clear hi); (try clear ho0); obtain ⟨Ao89, co89, eo89⟩ := Kd.R_slice HO850.out; subst eo89; obtain ⟨Ao90, co90, eo90⟩ := Kd.R_slice HO854.out; subst eo90) | (go_at_call 47; (with_reducible refine (laws_rCaves.calls kj58 _ _ t847 _ _ t851 true _ ?side1 ?side2 ?side3 ?side4 A74.out).mono ?_); (case side1 => exact kc_ (Kd.R_reads' HO850.out).2.2); (case side2 => exact (Kd.R_reads' HO850.out).2.1); (case side3 => exact kc_ (Kd.R_reads' HO854.out).2.2); (case side4 => exact (Kd.R_reads' HO854.out).2.1); rintro e w' ⟨rfl, ⟨nd, rfl⟩⟩))
                           go_ret
                           exact ⟨rr_, lb0_ HB.out⟩
                         ·
                          replace c75 := Bool.eq_false_iff.mpr c75
                          subst c75
                          have H1 : (none) = some r := by rw [if_neg (show ¬ (false = true) by decide)] at H; exact H
                          clear H
                          have H := H1
                          clear H1
                          exact absurd H (by simp)
                        ·
                         rw [if_neg c73] at H
                         exact absurd H (by simp)
end Go.Proofs.YteepnlofbfccgaaDoor.Pr

namespace Go.Proofs.YteepnlofbfccgaaDoorW.Opens
open Go.ChangeShapes Go.WideShapes Go.RowKit
open Go.Deep (open_slice choose_lt)
open Go.Proofs.YteepnlofbfccgaaDoorW.PrintWords
set_option linter.unusedVariables false
set_option linter.unusedSimpArgs false
def Opn {α : Type} (P : Program) (t : TypeId) (d : Kd α) (wf : α → Prop) : Prop :=
 P.cellsOf t = d.sz ∧ ∀ (H : Type) (enc : TypeId × Value → H) (W : World) (fuel : Nat) (cs : List Value) (x : DataW H × List MemPlace),
  DataW.trod enc P W 0 (fun _ => true) true fuel t cs = some x → (∀ n ∈ x.1.weights P t, n ≤ reachBytes) → ∃ y, d.K W y cs ∧ wf y
theorem Opn.int {P : Program} {t : TypeId} {k : IntKind} (hc : P.cellsOf t = 1) (ht : P.underlying t = some (.int k)) : Opn P t (Kd.int k) (fun n => (Lit.int k n).wf = true) :=
 ⟨hc, fun H enc W fuel cs x h _ => by
  obtain ⟨m, rfl, rfl, hw⟩ := DataW.trod_int ht h
  exact ⟨m, rfl, hw⟩⟩
theorem Opn.bool {P : Program} {t : TypeId} (hc : P.cellsOf t = 1) (ht : P.underlying t = some .bool) : Opn P t Kd.bool (fun _ => True) :=
 ⟨hc, fun H enc W fuel cs x h _ => by
  obtain ⟨m, rfl, rfl⟩ := DataW.trod_bool ht h
  exact ⟨m, rfl, trivial⟩⟩
theorem Opn.string {P : Program} {t : TypeId} (hc : P.cellsOf t = 1) (ht : P.underlying t = some .string) : Opn P t Kd.string (fun s => s.size ≤ 140737488351232) :=
 ⟨hc, fun H enc W fuel cs x h hw => by
  obtain ⟨m, rfl, rfl, hm⟩ := DataW.trod_string ht h
  have := hw m.data.toList.length (by simp [DataW.weights])
  rw [Array.length_toList] at this
  exact ⟨m, rfl, this⟩⟩
theorem weightsAll_mem {H : Type} {P : Program} {e : TypeId} : ∀ {l : List (DataW H)} {d : DataW H}, d ∈ l → ∀ n ∈ d.weights P e, n ∈ DataW.weightsAll P e l
 | _ :: r, d, h, n, hn => by
  simp only [DataW.weightsAll, List.mem_append]
  rcases List.mem_cons.1 h with rfl | h
  ·
   exact .inl hn
  ·
   exact .inr (weightsAll_mem h n hn)
theorem Opn.slice {α : Type} (z : α) {P : Program} {t e : TypeId} {d : Kd α} {wf : α → Prop} {B : Nat} (hc : P.cellsOf t = 1) (ht : P.underlying t = some (.slice e)) (hB : P.bytesOf e = B) (h : Opn P e d wf) :
  Opn P t (Kd.slice e d) (fun xs => xs.length ≤ maxLen ∧ xs.length * B ≤ 140737488351232 ∧ ∀ y ∈ xs, wf y) :=
 ⟨hc, fun H enc W fuel cs x hf hw => by
  haveI : Inhabited α := ⟨z⟩
  rcases open_slice ht hf with ⟨rfl, rfl⟩ | ⟨a, len, cap, m, n, D, Pl, rfl, _, hl, hm, hmm, rfl, each⟩
  ·
   exact ⟨[], ⟨none, 0, rfl, Nat.le_refl _, rfl, by simp, fun h => absurd h (Nat.lt_irrefl 0)⟩, by simp, by simp, by simp⟩
  ·
   rw [if_pos rfl] at hmm
   subst hmm
   have hw0 : ∀ n ∈ DataW.weights P t (DataW.slice (H := H) ((List.range len).map D) ((List.range (m - len)).map fun j => D (len + j))), n ≤ reachBytes := hw
   have hww : ∀ i, i < len → ∀ n ∈ (D i).weights P e, n ≤ reachBytes := by
    intro i hi n hn
    refine hw0 n ?_
    simp only [DataW.weights, ht, List.mem_cons, List.mem_append]
    exact .inr (.inl (weightsAll_mem (List.mem_map.2 ⟨i, List.mem_range.2 hi, rfl⟩) n hn))
   have hB2 : len * B ≤ 140737488351232 := by
    have := hw0 ((len + (m - len)) * B) (by simp [DataW.weights, ht, hB])
    refine Nat.le_trans (Nat.mul_le_mul_right _ (by omega)) this
   have hx : ∀ i, i < len → ∃ y, ∃ c : List Value, c.length = d.sz ∧ d.K W y c ∧ wf y ∧ ∀ j u, c[j]? = some u → W.cell? (a.add (i * d.sz + j)) = some u := by
    intro i hi
    obtain ⟨cs', h1, h2⟩ := each i (by omega)
    obtain ⟨y, hy, hwy⟩ := h.2 H enc W n cs' _ h2 (hww i hi)
    obtain ⟨_, hlen, hcell⟩ := World.cells?_some h1
    rw [h.1] at hlen hcell
    refine ⟨y, cs', hlen, hy, hwy, fun j u hu => ?_⟩
    have hj : j < d.sz := by
     have := (List.getElem?_eq_some_iff.1 hu).1
     omega
    have := hcell j hj
    rw [add_add] at this
    exact this.trans hu
   obtain ⟨f, hf'⟩ := choose_lt hx
   refine ⟨(List.range len).map f, ⟨some a, m, by simp, by simpa using hl, by simp, by simp only [maxLen] at hm; simp; omega, fun _ => ⟨a, rfl, fun j p hj => ?_⟩⟩, ?_, ?_, ?_⟩
   ·
    rw [List.getElem?_map] at hj
    have hj' : j < len := by
     by_cases hjl : j < len
     ·
      exact hjl
     ·
      rw [List.getElem?_eq_none (by simp; omega)] at hj
      cases hj
    rw [List.getElem?_range hj'] at hj
    obtain rfl := Option.some.inj hj
    obtain ⟨c, h1, h2, _, h3⟩ := hf' j hj'
    exact ⟨c, h1, h2, h3⟩
   ·
    simp; omega
   ·
    simpa using hB2
   ·
    intro y hy
    obtain ⟨i, hi, rfl⟩ := List.mem_map.1 hy
    obtain ⟨c, _, _, h2, _⟩ := hf' i (List.mem_range.1 hi)
    exact h2⟩
def FOpn {α : Type} (P : Program) (fs : List Field) (off : Nat) (d : Kd α) (wf : α → Prop) : Prop :=
 ∀ (H : Type) (enc : TypeId × Value → H) (W : World) (fuel : Nat) (cs : List Value) (xs : List (DataW H × List MemPlace)),
  xs.length = fs.length → (∀ (i : Nat) (f : Field), fs[i]? = some f → DataW.trod enc P W 0 (fun _ => true) true fuel f.type ((cs.drop f.offset).take (P.cellsOf f.type)) = xs[i]?) →
  (∀ n ∈ DataW.weightsEach P (fs.map (·.type)) (xs.map (·.1)), n ≤ reachBytes) → ∃ y, d.K W y ((cs.drop off).take d.sz) ∧ wf y
theorem FOpn.one {α : Type} {P : Program} {f : Field} {off : Nat} {d : Kd α} {wf : α → Prop} (ho : f.offset = off) (h : Opn P f.type d wf) : FOpn P [f] off d wf := by
 intro H enc W fuel cs xs hl hx hw
 match xs, hl with
 | [x], _ =>
  have h0 := hx 0 f rfl
  rw [ho, h.1] at h0
  exact h.2 H enc W fuel _ x h0 (fun n hn => hw n (by simp only [List.map, DataW.weightsEach, List.mem_append]; exact .inl hn))
theorem FOpn.cons {α β : Type} {P : Program} {f : Field} {fs : List Field} {off : Nat} {d : Kd α} {d' : Kd β} {wf : α → Prop} {wf' : β → Prop} (ho : f.offset = off) (h : Opn P f.type d wf) (h' : FOpn P fs (off + d.sz) d' wf') :
  FOpn P (f :: fs) off (Kd.pair d d') (fun x => wf x.1 ∧ wf' x.2) := by
 intro H enc W fuel cs xs hl hx hw
 match xs, hl with
 | x :: xs, hl =>
  have h0 := hx 0 f rfl
  rw [ho, h.1] at h0
  have hw' : ∀ n ∈ x.1.weights P f.type ++ DataW.weightsEach P (fs.map (·.type)) (xs.map (·.1)), n ≤ reachBytes := hw
  obtain ⟨y, hy, hwy⟩ := h.2 H enc W fuel _ x h0 (fun n hn => hw' n (List.mem_append_left _ hn))
  obtain ⟨y', hy', hwy'⟩ := h' H enc W fuel cs xs (by simpa using hl) (fun i f' hf' => hx (i + 1) f' (by simpa using hf')) (fun n hn => hw' n (List.mem_append_right _ hn))
  refine ⟨(y, y'), ⟨_, _, ?_, hy, hy'⟩, hwy, hwy'⟩
  show (cs.drop off).take (d.sz + d'.sz) = _
  rw [List.take_add, List.drop_drop]
theorem par_weights {H : Type} {P : Program} {ts : List TypeId} {ds : List (DataW H)} {j : Nat} {t : TypeId} {d : DataW H} (h : (DataW.weightsEach P ts ds).all (· ≤ reachBytes) = true) (ht : ts[j]? = some t) (hd : ds[j]? = some d) :
  ∀ n ∈ d.weights P t, n ≤ reachBytes := fun n hn => of_decide_eq_true (List.all_eq_true.1 h n (DataW.weights_mem_each ht hd n hn))
theorem par_slice {α : Type} {H : Type} {enc : TypeId × Value → H} {P : Program} {W : World} {r : Reach} {b0 : Nat} {t e : TypeId} {d : Kd α} {wf : List α → Prop} {v : Value} {D : DataW H} {ps : List MemPlace}
  (ht : P.underlying t = some (.slice e)) (ho : Opn P t (Kd.slice e d) wf) (hv : Value.okWide P W r b0 t v) (hd : DataW.Trod enc P W 0 (fun _ => true) true t v D ps) (hw : ∀ n ∈ D.weights P t, n ≤ reachBytes) :
  ∃ (A : Option Addr) (l : List α) (c : Nat), v = .slice A l.length c ∧ l.length ≤ c ∧ d.C W A l.length l ∧ wf l := by
 obtain ⟨A, len, cap, rfl⟩ := okWide_slice ht hv
 obtain ⟨fuel, hf⟩ := hd
 obtain ⟨l, ⟨A', c, he, hl, hC⟩, hwl⟩ := ho.2 H enc W fuel _ _ hf hw
 have he' : [Value.slice A len cap] = [.slice A' l.length c] := he
 simp only [List.cons.injEq, Value.slice.injEq, and_true] at he'
 obtain ⟨rfl, rfl, rfl⟩ := he'
 exact ⟨_, l, _, rfl, hl, hC, hwl⟩
end Go.Proofs.YteepnlofbfccgaaDoorW.Opens

namespace Go.Proofs.YteepnlofbfccgaaDoor.Pr
open Go.RowKit Go.Proofs.YteepnlofbfccgaaDoorW.PrintWords Go.Proofs.YteepnlofbfccgaaDoorW.PrintLast Go.Proofs.YteepnlofbfccgaaDoorW.Opens
set_option linter.unusedVariables false
def wfL5 (l : List Int) : Prop := l.length ≤ maxLen ∧ l.length * 1 ≤ 140737488351232 ∧ ∀ y ∈ l, (Lit.int .u8 y).wf = true
theorem opnL54 : Opn Tryd.prog 54 (Kd.slice 5 (Kd.int .u8)) wfL5 := Opn.slice (0 : Int) (by kernel_rfl) Tryd.underlying54 (by kernel_rfl) (Opn.int (by kernel_rfl) Tryd.underlying5)
def FnCaveRanks.Pure : Prop := ∀ (x0 : (List Int)), wfL5 x0 → ∃ k, laws_FnCaveRanks.f k x0 = some true
end Go.Proofs.YteepnlofbfccgaaDoor.Pr

namespace Go.Proofs.YteepnlofbfccgaaDoor.Pr
open Go.RowKit Go.Proofs.YteepnlofbfccgaaDoorW.PrintWords Go.Proofs.YteepnlofbfccgaaDoorW.PrintLast Go.Proofs.YteepnlofbfccgaaDoorW.PrintMore
attribute [local go_sem] max2_int min2_int max_two min_two max_three min_three max_four min_four   -- for this text's walks alone
set_option linter.unusedVariables false
set_option linter.unusedSimpArgs false
def sc (a b : ByteArray) : ByteArray := a ++ b
theorem sc_in (a b : ByteArray) : a ++ b = sc a b := rfl
def sx (a : ByteArray) (i j : Nat) : ByteArray := a.extract i j
theorem sx_in (a : ByteArray) (i j : Nat) : a.extract i j = sx a i j := rfl
end Go.Proofs.YteepnlofbfccgaaDoor.Pr

namespace Go.Proofs.YteepnlofbfccgaaDoor.Pr.Pure
open Go.RowKit Go.Proofs.YteepnlofbfccgaaDoorW.PrintWords Go.Proofs.YteepnlofbfccgaaDoorW.PrintLast Go.Proofs.YteepnlofbfccgaaDoorW.PrintMore  Go.Lib
set_option linter.unusedVariables false
set_option linter.unusedSimpArgs false
theorem w64 {x : Int} (h1 : -9223372036854775808 ≤ x) (h2 : x ≤ 9223372036854775807) : wrap64 x = x := by
 unfold wrap64
 omega
theorem getD_some {α : Type} (l : List α) (z : α) (i : Nat) (h : i < l.length) : l[i]? = some (l.getD i z) := by
 rw [List.getD_eq_getElem?_getD, List.getElem?_eq_getElem h]
 rfl
theorem obs {α β : Type} (a : α) (f : α → Option β) : (some a).bind f = f a := id (Option.bind_some a f)
def M (l : List UInt8) : ByteArray := ⟨l.toArray⟩
theorem ex_M (b : ByteArray) : ∃ l, b = M l := ⟨b.data.toList, by unfold M; rw [Array.toArray_toList]⟩
theorem M_size (l : List UInt8) : (M l).size = l.length := by simp [M, ByteArray.size]
theorem M_data (l : List UInt8) : (M l).data.toList = l := by simp [M]
theorem M_toList (l : List UInt8) : (M l).toList = l := by rw [ByteArray.toList_eq, M_data]
theorem bt_M (l : List UInt8) (i : Nat) : bt (M l) (i : Int) = ((l.getD i 0).toNat : Int) := by
 have hb := rd_bytesOf (M l) (i : Int)
 rw [← hb]
 unfold rd bytesOf
 rw [M_data, Int.toNat_natCast, List.getD_eq_getElem?_getD, List.getD_eq_getElem?_getD, List.getElem?_map]
 cases l[i]? <;> rfl
theorem drop_at (l : List UInt8) (i : Nat) (h : i < l.length) : l.drop i = l.getD i 0 :: l.drop (i + 1) := by
 rw [List.drop_eq_getElem_cons h, List.getD_eq_getElem?_getD, List.getElem?_eq_getElem h]
 rfl
theorem l1In_eq (a b c : Int) : spec_l1In.f a b c = some (decide (b ≤ a ∧ a ≤ c)) := by
 unfold spec_l1In.f
 by_cases h : b ≤ a
 ·
  rw [if_pos h]; simp [h]
 ·
  rw [if_neg (by omega)]; simp [h]
theorem within_eq (a b c : Int) : impl_within.f a b c = some (decide (b ≤ a ∧ a ≤ c)) := by
 unfold impl_within.f
 by_cases h : b ≤ a
 ·
  rw [if_pos h]; simp [h]
 ·
  rw [if_neg (by omega)]; simp [h]
end Go.Proofs.YteepnlofbfccgaaDoor.Pr.Pure

namespace Go.Proofs.YteepnlofbfccgaaDoor.Pr.Pure
open Go.RowKit Go.Proofs.YteepnlofbfccgaaDoorW.PrintWords Go.Proofs.YteepnlofbfccgaaDoorW.PrintLast Go.Proofs.YteepnlofbfccgaaDoorW.PrintMore Go.Lib
set_option linter.unusedVariables false
set_option linter.unusedSimpArgs false
def small (x : UInt8) : Bool := decide (97 ≤ x.toNat) && decide (x.toNat ≤ 122)
def isW (l : List UInt8) : Bool := decide (1 ≤ l.length) && decide (l.length ≤ 10) && l.all small
theorem word_l0 (l : List UInt8) (hl : l.length ≤ 4611686018427387904) (d : Nat) : ∀ (k i : Nat), i + d = l.length → d < k → spec_l2Word.l0 k (M l) i = some (decide (1 ≤ l.length) && decide (l.length ≤ 10) && (l.drop i).all small) := by
 induction d with
 | zero =>
  intro k i hd hk
  obtain ⟨k, rfl⟩ : ∃ m, k = m + 1 := ⟨k - 1, by omega⟩
  simp only [spec_l2Word.l0]
  rw [M_size, if_neg (by omega), List.drop_of_length_le (by omega), l1In_eq, obs]
  simp only [List.all_nil, Bool.and_true]
  congr 1
  rw [Bool.eq_iff_iff]
  simp
  omega
 | succ d ih =>
  intro k i hd hk
  obtain ⟨k, rfl⟩ : ∃ m, k = m + 1 := ⟨k - 1, by omega⟩
  simp only [spec_l2Word.l0]
  rw [M_size, if_pos (by omega), if_pos (by omega), bt_M, drop_at l i (by omega)]
  generalize l.getD i 0 = x
  rw [w64 (by omega) (by omega)]
  have ih' := ih k (i + 1) (by omega) (by omega)
  rw [show ((i + 1 : Nat) : Int) = (i : Int) + 1 by omega] at ih'
  rw [List.all_cons]
  by_cases h1 : (x.toNat : Int) < 97
  ·
   have : small x = false := by
    unfold small
    have : ¬ 97 ≤ x.toNat := by omega
    simp [this]
   rw [if_pos h1, this]
   simp
  ·
   rw [if_neg h1]
   by_cases h2 : (x.toNat : Int) > 122
   ·
    have : small x = false := by
     unfold small
     have : ¬ x.toNat ≤ 122 := by omega
     simp [this]
    rw [if_pos h2, this]
    simp
   ·
    have : small x = true := by
     unfold small
     have a : 97 ≤ x.toNat := by omega
     have b : x.toNat ≤ 122 := by omega
     simp [a, b]
    rw [if_neg h2, ih', this, Bool.true_and]
theorem word_spec (l : List UInt8) (hl : l.length ≤ 4611686018427387904) {k : Nat} (hk : l.length < k) : spec_l2Word.f k (M l) = some (isW l) := by
 unfold spec_l2Word.f isW
 simpa using word_l0 l hl l.length k 0 (by omega) hk
def letters : List UInt8 := [97, 98, 99, 100, 101, 102, 103, 104, 105, 106, 107, 108, 109, 110, 111, 112, 113, 114, 115, 116, 117, 118, 119, 120, 121, 122]
set_option maxRecDepth 100000 in
theorem letters_small (x : UInt8) : letters.contains x = small x := by
 have : ∀ n : Nat, n < 256 → letters.contains (UInt8.ofNat n) = small (UInt8.ofNat n) := by decide
 have h := this x.toNat x.toNat_lt
 rwa [show UInt8.ofNat x.toNat = x from UInt8.ofNat_toNat] at h
theorem drop_all {p : UInt8 → Bool} : ∀ l : List UInt8, l.dropWhile p = [] ↔ l.all p = true
 | [] => by simp
 | x :: l => by
  by_cases h : p x = true
  ·
   rw [List.dropWhile_cons_of_pos h, drop_all l]
   simp [h]
  ·
   rw [List.dropWhile_cons_of_neg h]
   simp [h]
theorem trim_nil (l : List UInt8) : trimS l letters = [] ↔ l.all small = true := by
 have hp : (fun x => letters.contains x) = small := funext letters_small
 unfold trimS trimLeftS trimRightS
 rw [hp, drop_all]
 constructor
 ·
  intro h
  rw [List.all_reverse] at h
  have h2 : (l.reverse.dropWhile small).all small = true := h
  have h3 : l.reverse.all small = true := by
   rw [← drop_all]
   have h4 := (drop_all _).2 h2
   have : ∀ m : List UInt8, (m.dropWhile small).dropWhile small = m.dropWhile small := by
    intro m
    induction m with
    | nil => rfl
    | cons x m ih =>
     by_cases h : small x = true
     ·
      rw [List.dropWhile_cons_of_pos h, ih]
     ·
      rw [List.dropWhile_cons_of_neg h, List.dropWhile_cons_of_neg h]
   rw [this] at h4
   exact h4
  rwa [List.all_reverse] at h3
 ·
  intro h
  have h3 : l.reverse.all small = true := by rwa [List.all_reverse]
  rw [(drop_all _).2 h3]
  rfl
theorem word_impl (l : List UInt8) (hl : l.length ≤ 4611686018427387904) : impl_isWord.f (M l) = some (isW l) := by
 unfold impl_isWord.f isW
 rw [M_size]
 by_cases h1 : (l.length : Int) ≥ 1
 ·
  rw [if_pos h1]
  by_cases h2 : (l.length : Int) ≤ 10
  ·
   have ht : strings_Trim.f (M l) (M letters) = some (M (trimS l letters)) := by
    unfold strings_Trim.f
    rw [M_size, M_size, M_data, M_data, if_pos (by omega), if_pos (by decide), if_pos (by decide)]
    rfl
   rw [if_pos h2, show (⟨#[97, 98, 99, 100, 101, 102, 103, 104, 105, 106, 107, 108, 109, 110, 111, 112, 113, 114, 115, 116, 117, 118, 119, 120, 121, 122]⟩ : ByteArray) = M letters from rfl, ht, obs, M_toList]
   congr 1
   rw [Bool.eq_iff_iff]
   have a : 1 ≤ l.length := by omega
   have b : l.length ≤ 10 := by omega
   simp only [a, b, decide_true, Bool.true_and, beq_iff_eq]
   exact trim_nil l
  ·
   rw [if_neg h2]
   have b : ¬ l.length ≤ 10 := by omega
   simp [b]
 ·
  rw [if_neg h1]
  have b : ¬ 1 ≤ l.length := by omega
  simp only [b, decide_false, Bool.false_and]
def row (l : List UInt8) (L D G : Int) : Bool := isW l && decide (0 ≤ L ∧ L ≤ 1000000) && decide (0 ≤ D ∧ D ≤ mn 20000 L) && decide (0 ≤ G ∧ G ≤ 9999) && ((G == 0) == (L == 0))
theorem row_facts {l : List UInt8} {L D G : Int} (h : row l L D G = true) : isW l = true ∧ 0 ≤ L ∧ L ≤ 1000000 ∧ 0 ≤ D ∧ D ≤ mn 20000 L ∧ 0 ≤ G ∧ G ≤ 9999 := by
 unfold row at h
 simp only [Bool.and_eq_true, decide_eq_true_eq] at h
 obtain ⟨⟨⟨⟨a, b, c⟩, d, e⟩, f, g⟩, _⟩ := h
 exact ⟨a, b, c, d, e, f, g⟩
theorem row_eq (l : List UInt8) (L D G : Int) (hl : l.length ≤ 4611686018427387904) : impl_IsCaveRow.f (M l) L D G = some (row l L D G) := by
 unfold impl_IsCaveRow.f row
 rw [word_impl l hl, obs]
 cases isW l with
 | false => rfl
 | true =>
  rw [if_pos rfl, within_eq, obs]
  cases decide (0 ≤ L ∧ L ≤ 1000000) with
  | false => rfl
  | true =>
   rw [if_pos rfl, within_eq, obs]
   cases decide (0 ≤ D ∧ D ≤ mn 20000 L) with
   | false => rfl
   | true =>
    rw [if_pos rfl, within_eq, obs]
    cases decide (0 ≤ G ∧ G ≤ 9999) with
    | false => rfl
    | true => rfl
theorem least_eq (a b : Int) : spec_l1Least.f a b = some (mn a b) := by
 unfold spec_l1Least.f mn
 split <;> split <;> first | rfl | (congr 1; omega)
theorem one_eq (l : List UInt8) (L D G : Int) (hl : l.length ≤ 4611686018427387904) {k : Nat} (hk : l.length < k) : spec_l26One.f k (M l) L D G = some (row l L D G) := by
 unfold spec_l26One.f row
 rw [word_spec l hl hk, obs]
 cases isW l with
 | false => rfl
 | true =>
  rw [if_pos rfl, l1In_eq, obs]
  cases decide (0 ≤ L ∧ L ≤ 1000000) with
  | false => rfl
  | true =>
   rw [if_pos rfl, least_eq, obs, l1In_eq, obs]
   cases decide (0 ≤ D ∧ D ≤ mn 20000 L) with
   | false => rfl
   | true =>
    rw [if_pos rfl, l1In_eq, obs]
    cases decide (0 ≤ G ∧ G ≤ 9999) with
    | false => rfl
    | true => rfl
def rowB (x : S26) : Bool := row x.f0.data.toList x.f1 x.f2 x.f3
theorem rowB_spec (x : S26) (hx : x.f0.size ≤ 1048576) {k : Nat} (hk : 1048576 < k) : spec_l26One.f k x.f0 x.f1 x.f2 x.f3 = some (rowB x) := by
 obtain ⟨l, hl⟩ := ex_M x.f0
 unfold rowB
 rw [hl] at hx ⊢
 rw [M_size] at hx
 rw [M_data]
 exact one_eq l _ _ _ (by omega) (by omega)
theorem rowB_impl (x : S26) (hx : x.f0.size ≤ 1048576) : impl_IsCaveRow.f x.f0 x.f1 x.f2 x.f3 = some (rowB x) := by
 obtain ⟨l, hl⟩ := ex_M x.f0
 unfold rowB
 rw [hl] at hx ⊢
 rw [M_size] at hx
 rw [M_data]
 exact row_eq l _ _ _ (by omega)
theorem rdRow_mem (l : List S26) {i : Int} (h0 : 0 ≤ i) (h1 : i < l.length) : rd_T26 l i ∈ l := by
 show l.getD i.toNat _ ∈ l
 rw [List.getD_eq_getElem?_getD, List.getElem?_eq_getElem (by omega)]
 exact List.getElem_mem _
def rowsF (l : List S26) : Nat → Int → Bool
 | 0, _ => decide ((l.length : Int) ≤ 10)
 | d + 1, i => if rowB (rd_T26 l i) = true then (if i > 0 then (if Op.bytesLess ((rd_T26 l (i - 1)).f0).toList ((rd_T26 l i).f0).toList = true then rowsF l d (i + 1) else false) else rowsF l d (i + 1)) else false
theorem rowsF_succ (l : List S26) (d : Nat) (i : Int) : rowsF l (d + 1) i = if rowB (rd_T26 l i) = true then (if i > 0 then (if Op.bytesLess ((rd_T26 l (i - 1)).f0).toList ((rd_T26 l i).f0).toList = true then rowsF l d (i + 1) else false) else rowsF l d (i + 1)) else false := rfl
theorem goodC_l0 (l : List S26) (hs : ∀ x, x ∈ l → x.f0.size ≤ 1048576) (hl : l.length ≤ 1048576) (d : Nat) : ∀ (k : Nat) (i : Int), 0 ≤ i → i + d = l.length → 1048577 + d < k →
  spec_l26Good.l0 k l i = some (rowsF l d i) := by
 induction d with
 | zero =>
  intro k i h0 hd hk
  obtain ⟨k, rfl⟩ : ∃ m, k = m + 1 := ⟨k - 1, by omega⟩
  simp only [spec_l26Good.l0]
  rw [if_neg (by omega)]
  rfl
 | succ d ih =>
  intro k i h0 hd hk
  obtain ⟨k, rfl⟩ : ∃ m, k = m + 1 := ⟨k - 1, by omega⟩
  simp only [spec_l26Good.l0]
  rw [if_pos (by omega), if_pos h0, rowB_spec _ (hs _ (rdRow_mem l h0 (by omega))) (by omega), obs, w64 (x := i + 1) (by omega) (by omega), w64 (x := i - 1) (by omega) (by omega), ih k (i + 1) (by omega) (by omega) (by omega)]
  rw [rowsF_succ]
  cases rowB (rd_T26 l i) with
  | false => rfl
  | true =>
   rw [if_pos rfl, if_pos rfl]
   by_cases c : i > 0
   ·
    rw [if_pos c, if_pos c, if_pos (by omega), if_pos (by omega)]
    cases Op.bytesLess ((rd_T26 l (i - 1)).f0).toList ((rd_T26 l i).f0).toList <;> rfl
   ·
    rw [if_neg c, if_neg c]
theorem areC_l0 (l : List S26) (hs : ∀ x, x ∈ l → x.f0.size ≤ 1048576) (hl : l.length ≤ 1048576) (d : Nat) : ∀ (k : Nat) (i : Int), 0 ≤ i → i + d = l.length → d < k →
  impl_AreCaves.l0 k l l (l.length : Int) i = some (rowsF l d i) := by
 induction d with
 | zero =>
  intro k i h0 hd hk
  obtain ⟨k, rfl⟩ : ∃ m, k = m + 1 := ⟨k - 1, by omega⟩
  simp only [impl_AreCaves.l0]
  rw [if_neg (by omega)]
  rfl
 | succ d ih =>
  intro k i h0 hd hk
  obtain ⟨k, rfl⟩ : ∃ m, k = m + 1 := ⟨k - 1, by omega⟩
  simp only [impl_AreCaves.l0]
  rw [if_pos (by omega), if_pos h0, if_pos (by omega), rowB_impl _ (hs _ (rdRow_mem l h0 (by omega))), obs, w64 (x := i + 1) (by omega) (by omega), w64 (x := i - 1) (by omega) (by omega), ih k (i + 1) (by omega) (by omega) (by omega)]
  rw [rowsF_succ]
  cases rowB (rd_T26 l i) with
  | false => rfl
  | true =>
   rw [if_pos rfl, if_pos rfl]
   by_cases c : i > 0
   ·
    rw [if_pos c, if_pos c, if_pos (by omega), if_pos (by omega)]
    cases Op.bytesLess ((rd_T26 l (i - 1)).f0).toList ((rd_T26 l i).f0).toList <;> rfl
   ·
    rw [if_neg c, if_neg c]
def caves (l : List S26) : Bool := rowsF l l.length 0
theorem goodC_eq {l : List S26} (hs : ∀ x, x ∈ l → x.f0.size ≤ 1048576) (hl : l.length ≤ 1048576) {k : Nat} (hk : 1048577 + l.length < k) : spec_l26Good.f k l = some (caves l) := by
 unfold spec_l26Good.f caves
 exact goodC_l0 l hs hl l.length k 0 (by omega) (by omega) hk
theorem areC_eq {l : List S26} (hs : ∀ x, x ∈ l → x.f0.size ≤ 1048576) (hl : l.length ≤ 1048576) {k : Nat} (hk : l.length < k) : impl_AreCaves.f k l = some (caves l) := by
 unfold impl_AreCaves.f caves
 exact areC_l0 l hs hl l.length k 0 (by omega) (by omega) hk
theorem ba_eq {a b : ByteArray} (h : a.toList = b.toList) : a = b := by
 have ea : a.toList = a.data.toList := ByteArray.toList_eq a
 have eb : b.toList = b.data.toList := ByteArray.toList_eq b
 rw [ea, eb] at h
 cases a
 cases b
 simp at h
 simpa using h
theorem atP_iff {n : ByteArray} {x : S26} : atP_ n x = true ↔ x.f0.toList = n.toList := by
 unfold atP_
 exact beq_iff_eq
theorem find_l0 (l : List S26) (n : ByteArray) (hl : l.length ≤ 1048576) (d : Nat) : ∀ (k i : Nat), i + d = l.length → d < k → (∀ j, j < i → atP_ n (l.getD j z26) = false) →
  spec_l26Find.l0 k l n i = some (idxP (atP_ n) l) := by
 induction d with
 | zero =>
  intro k i hd hk hb
  obtain ⟨k, rfl⟩ : ∃ m, k = m + 1 := ⟨k - 1, by omega⟩
  simp only [spec_l26Find.l0]
  rw [if_neg (by omega), idxP_miss (atP_ n) z26 l (fun j hj => hb j (by omega))]
 | succ d ih =>
  intro k i hd hk hb
  obtain ⟨k, rfl⟩ : ∃ m, k = m + 1 := ⟨k - 1, by omega⟩
  simp only [spec_l26Find.l0]
  have e : rd_T26 l (i : Int) = l.getD i z26 := by
   show l.getD ((i : Int)).toNat _ = _
   rw [Int.toNat_natCast]
  rw [if_pos (by omega), if_pos (by omega), e]
  by_cases c : ((l.getD i z26).f0).toList = n.toList
  ·
   rw [if_pos c, idxP_hit (atP_ n) z26 l i (by omega) (atP_iff.2 c) hb]
  ·
   rw [if_neg c, w64 (x := (i : Int) + 1) (by omega) (by omega), show ((i : Int) + 1) = ((i + 1 : Nat) : Int) by omega]
   refine ih k (i + 1) (by omega) (by omega) (fun j hj => ?_)
   by_cases e2 : j = i
   ·
    subst e2
    exact Bool.eq_false_iff.mpr (fun h => c (atP_iff.1 h))
   ·
    exact hb j (by omega)
theorem find_eq {l : List S26} (n : ByteArray) (hl : l.length ≤ 1048576) {k : Nat} (hk : l.length < k) : spec_l26Find.f k l n = some (idxP (atP_ n) l) := by
 unfold spec_l26Find.f
 have := find_l0 l n hl l.length k 0 (by omega) hk (fun j hj => absurd hj (Nat.not_lt_zero _))
 simpa using this
theorem idxP_some {α : Type} {p : α → Bool} {l : List α} (z : α) (h : 0 ≤ idxP p l) : ∃ i : Nat, i < l.length ∧ idxP p l = i ∧ p (l.getD i z) = true := by
 unfold idxP at h ⊢
 by_cases c : l.any p = true
 ·
  have hlt : l.findIdx p < l.length := by
   rw [List.any_eq_true] at c
   exact List.findIdx_lt_length_of_exists c
  refine ⟨l.findIdx p, hlt, by rw [if_pos c], ?_⟩
  rw [List.getD_eq_getElem?_getD, List.getElem?_eq_getElem hlt]
  exact List.findIdx_getElem
 ·
  rw [if_neg c] at h
  omega
theorem set_sizes {l : List S26} (hs : ∀ x, x ∈ l → x.f0.size ≤ 1048576) (i : Nat) (y : S26) (hy : y.f0.size ≤ 1048576) : ∀ x, x ∈ l.set i y → x.f0.size ≤ 1048576 := by
 intro x hx
 rcases List.mem_or_eq_of_mem_set hx with h | h
 ·
  exact hs x h
 ·
  rw [h]
  exact hy
theorem getD_set {α : Type} (l : List α) (z y : α) (i : Nat) (h : i < l.length) : (l.set i y).getD i z = y := by
 rw [List.getD_eq_getElem?_getD, List.getElem?_set_self h]
 rfl
end Go.Proofs.YteepnlofbfccgaaDoor.Pr.Pure

namespace Go.Proofs.YteepnlofbfccgaaDoor.Pr.Pure
open Go.RowKit Go.Proofs.YteepnlofbfccgaaDoorW.PrintWords Go.Proofs.YteepnlofbfccgaaDoorW.PrintLast Go.Proofs.YteepnlofbfccgaaDoorW.PrintMore
set_option linter.unusedVariables false
set_option linter.unusedSimpArgs false
theorem bl_trans : ∀ {a b c : List UInt8}, Op.bytesLess a b = true → Op.bytesLess b c = true → Op.bytesLess a c = true
 | _, [], _, h, _ => by simp [Op.bytesLess] at h
 | _, _ :: _, [], _, h => by simp [Op.bytesLess] at h
 | [], _ :: _, _ :: _, _, _ => rfl
 | x :: a, y :: b, z :: c, h, k => by
  simp only [Op.bytesLess, Bool.or_eq_true, Bool.and_eq_true, decide_eq_true_eq, beq_iff_eq] at h k ⊢
  rcases h with h | ⟨rfl, h⟩
  ·
   rcases k with k | ⟨rfl, k⟩
   ·
    exact .inl (UInt8.lt_trans h k)
   ·
    exact .inl h
  ·
   rcases k with k | ⟨rfl, k⟩
   ·
    exact .inl k
   ·
    exact .inr ⟨rfl, bl_trans h k⟩
theorem bl_irr : ∀ (a : List UInt8), Op.bytesLess a a = false
 | [] => rfl
 | x :: a => by
  simp only [Op.bytesLess, Bool.or_eq_false_iff, Bool.and_eq_false_iff, decide_eq_false_iff_not]
  exact ⟨UInt8.lt_irrefl x, .inr (bl_irr a)⟩
theorem bl_asymm {a b : List UInt8} (h : Op.bytesLess a b = true) : Op.bytesLess b a = false := by
 cases e : Op.bytesLess b a with
 | false => rfl
 | true =>
  have := bl_trans h e
  rw [bl_irr] at this
  cases this
theorem rowsF_adj (l : List S26) : ∀ (d : Nat) (i : Int), 0 ≤ i → rowsF l d i = true → l.length ≤ 10 ∧ ∀ j, i ≤ j → 0 < j → j < i + d → Op.bytesLess ((rd_T26 l (j - 1)).f0).toList ((rd_T26 l j).f0).toList = true
 | 0, i, h0, h => by
  have := of_decide_eq_true (p := (l.length : Int) ≤ 10) h
  exact ⟨by omega, fun j h1 h2 h3 => by omega⟩
 | d + 1, i, h0, h => by
  rw [rowsF_succ] at h
  by_cases c : rowB (rd_T26 l i) = true
  ·
   rw [if_pos c] at h
   have h' : rowsF l d (i + 1) = true ∧ (0 < i → Op.bytesLess ((rd_T26 l (i - 1)).f0).toList ((rd_T26 l i).f0).toList = true) := by
    split at h
    ·
     split at h
     ·
      rename_i hb
      exact ⟨h, fun _ => hb⟩
     ·
      cases h
    ·
     exact ⟨h, fun z => by omega⟩
   obtain ⟨h1, h2⟩ := rowsF_adj l d (i + 1) (by omega) h'.1
   refine ⟨h1, fun j h3 h4 h5 => ?_⟩
   by_cases e : j = i
   ·
    subst e
    exact h'.2 h4
   ·
    exact h2 j (by omega) h4 (by omega)
  ·
   rw [if_neg c] at h
   cases h
theorem caves_rise {l : List S26} (h : caves l = true) : l.length ≤ 10 ∧ List.Pairwise (fun y x => Op.bytesLess y.f0.toList x.f0.toList = true) l := by
 obtain ⟨h1, h2⟩ := rowsF_adj l l.length 0 (by omega) h
 refine ⟨h1, List.pairwise_iff_getElem.2 ?_⟩
 have hstep : ∀ (d i : Nat) (hi : i < l.length) (hj : i + d + 1 < l.length), Op.bytesLess l[i].f0.toList (l[i + d + 1]).f0.toList = true := by
  intro d
  have hadj : ∀ (j : Nat) (hj : j + 1 < l.length), Op.bytesLess (l[j]'(by omega)).f0.toList l[j + 1].f0.toList = true := by
   intro j hj
   have := h2 ((j + 1 : Nat) : Int) (by omega) (by omega) (by omega)
   have e1 : rd_T26 l (((j + 1 : Nat) : Int) - 1) = l[j]'(by omega) := by
    show l.getD (((j + 1 : Nat) : Int) - 1).toNat _ = _
    rw [show (((j + 1 : Nat) : Int) - 1).toNat = j by omega, List.getD_eq_getElem?_getD, List.getElem?_eq_getElem (by omega)]
    rfl
   have e2 : rd_T26 l ((j + 1 : Nat) : Int) = l[j + 1] := by
    show l.getD ((j + 1 : Nat) : Int).toNat _ = _
    rw [Int.toNat_natCast, List.getD_eq_getElem?_getD, List.getElem?_eq_getElem hj]
    rfl
   rw [e1, e2] at this
   exact this
  induction d with
  | zero =>
   intro i hi hj
   exact hadj i hj
  | succ d ih =>
   intro i hi hj
   exact bl_trans (ih i hi (by omega)) (hadj (i + d + 1) (by omega))
 intro i j hi hj hij
 obtain ⟨d, rfl⟩ : ∃ d, j = i + d + 1 := ⟨j - i - 1, by omega⟩
 exact hstep d i hi hj
theorem foldB_congr {lt lt' : S26 → S26 → Bool} {P : S26 → S26 → Prop} (hP : ∀ x y, P y x → lt x y = lt' x y) : ∀ (l R : List S26), List.Pairwise P l → (∀ y, y ∈ R → ∀ x, x ∈ l → P y x) → l.foldl (fun R x => insB lt x R) R = l.foldl (fun R x => insB lt' x R) R
 | [], R, _, _ => rfl
 | x :: xs, R, hp, hR => by
  rw [List.foldl_cons, List.foldl_cons]
  rw [List.pairwise_cons] at hp
  rw [insB_congr (lt := lt) (lt' := lt') (fun y hy => hP x y (hR y hy x (List.mem_cons_self ..)))]
  refine foldB_congr hP xs _ hp.2 (fun y hy z hz => ?_)
  rcases insB_mem.1 hy with e | e
  ·
   rw [e]
   exact hp.1 z hz
  ·
   exact hR y e z (List.mem_cons_of_mem _ hz)
theorem cmpI_neg (a b : Int) : decide (cmpI_ a b < 0) = decide (a < b) := by
 unfold cmpI_
 by_cases c : a < b
 ·
  rw [if_pos c, decide_eq_true c]
  rfl
 ·
  rw [if_neg c, decide_eq_false c]
  split <;> rfl
theorem rank_len_eq {l : List S26} (h : caves l = true) : ranked (befB_ false) l = ranked (ltOf (fun x y => cmpI_ y.f1 x.f1)) l := by
 unfold ranked
 congr 1
 refine foldB_congr (P := fun y x => Op.bytesLess y.f0.toList x.f0.toList = true) (fun x y hp => ?_) l [] (caves_rise h).2 (fun y hy => by cases hy)
 unfold ltOf befB_ spec_l26Before.f
 rw [cmpI_neg, if_neg (by decide)]
 by_cases c : x.f1 > y.f1
 ·
  rw [if_pos c, decide_eq_true (show y.f1 < x.f1 from c)]
  rfl
 ·
  rw [if_neg c, decide_eq_false (show ¬ y.f1 < x.f1 from c), bl_asymm hp]
  split <;> rfl
theorem ltD_eq (x y : S26) : ltOf (fun x y : S26 => orI_ (cmpI_ y.f2 x.f2) (cmpI_ y.f1 x.f1)) x y = if x.f2 = y.f2 then decide (y.f1 < x.f1) else decide (y.f2 < x.f2) := by
 show decide (orI_ (cmpI_ y.f2 x.f2) (cmpI_ y.f1 x.f1) < 0) = _
 by_cases e : x.f2 = y.f2
 ·
  have e0 : cmpI_ y.f2 x.f2 = 0 := by
   unfold cmpI_
   rw [if_neg (by omega), if_neg (by omega)]
  have e1 : orI_ (cmpI_ y.f2 x.f2) (cmpI_ y.f1 x.f1) = cmpI_ y.f1 x.f1 := by
   unfold orI_
   rw [if_pos e0]
  rw [e1, if_pos e, cmpI_neg]
 ·
  have e0 : ¬ cmpI_ y.f2 x.f2 = 0 := by
   unfold cmpI_
   by_cases c : y.f2 < x.f2
   ·
    rw [if_pos c]
    decide
   ·
    rw [if_neg c, if_pos (by omega)]
    decide
  have e1 : orI_ (cmpI_ y.f2 x.f2) (cmpI_ y.f1 x.f1) = cmpI_ y.f2 x.f2 := by
   unfold orI_
   rw [if_neg e0]
  rw [e1, if_neg e, cmpI_neg]
theorem rank_depth_eq {l : List S26} (h : caves l = true) : ranked (befB_ true) l = ranked (ltOf (fun x y => orI_ (cmpI_ y.f2 x.f2) (cmpI_ y.f1 x.f1))) l := by
 unfold ranked
 congr 1
 refine foldB_congr (P := fun y x => Op.bytesLess y.f0.toList x.f0.toList = true) (fun x y hp => ?_) l [] (caves_rise h).2 (fun y hy => by cases hy)
 rw [ltD_eq]
 unfold befB_ spec_l26Before.f
 rw [if_pos rfl]
 by_cases e : x.f2 = y.f2
 ·
  rw [if_pos e, if_pos e]
  by_cases c : x.f1 > y.f1
  ·
   rw [if_pos c, decide_eq_true (show y.f1 < x.f1 from c)]
   rfl
  ·
   rw [if_neg c, decide_eq_false (show ¬ y.f1 < x.f1 from c), bl_asymm hp]
   split <;> rfl
 ·
  rw [if_neg e, if_neg e]
  rfl
end Go.Proofs.YteepnlofbfccgaaDoor.Pr.Pure

namespace Go.Proofs.YteepnlofbfccgaaDoor.Pr.Pure
open Go.RowKit Go.Proofs.YteepnlofbfccgaaDoorW.PrintWords Go.Proofs.YteepnlofbfccgaaDoorW.PrintLast Go.Proofs.YteepnlofbfccgaaDoorW.PrintMore Go.Lib
set_option linter.unusedVariables false
theorem caveAt_eq {l : List S26} (hs : ∀ x, x ∈ l → x.f0.size ≤ 1048576) (hl : l.length ≤ 1048576) (n : ByteArray) {k : Nat} (hk : l.length < k) : impl_caveAt.f k l n = some (idxP (atP_ n) l, if 0 ≤ idxP (atP_ n) l then caves l else false) := by
 unfold impl_caveAt.f
 by_cases c : 0 ≤ idxP (atP_ n) l
 ·
  rw [if_pos c, if_pos c, areC_eq hs hl hk, obs]
 ·
  rw [if_neg c, if_neg c]
theorem most_eq (a b : Int) : spec_l1Most.f a b = some (mx a b) := by
 unfold spec_l1Most.f mx
 split <;> split <;> first | rfl | (congr 1; omega)
theorem rowsF_le (l : List S26) : ∀ (d : Nat) (i : Int), rowsF l d i = true → l.length ≤ 10
 | 0, i, h => by
  have := of_decide_eq_true (p := (l.length : Int) ≤ 10) h
  omega
 | d + 1, i, h => by
  rw [rowsF_succ] at h
  split at h
  ·
   split at h
   ·
    split at h
    ·
     exact rowsF_le l d (i + 1) h
    ·
     cases h
   ·
    exact rowsF_le l d (i + 1) h
  ·
   cases h
theorem caves_le {l : List S26} (h : caves l = true) : l.length ≤ 10 := rowsF_le l l.length 0 h
def oneR (m : List S26) (P Q : Nat) (leg : Int) : S26 := ⟨(rd_T26 m (P : Int)).f0, wrap64 (wrap64 ((rd_T26 m (P : Int)).f1 + (rd_T26 m (Q : Int)).f1) + leg), mx (rd_T26 m (P : Int)).f2 (rd_T26 m (Q : Int)).f2, wrap64 (wrap64 ((rd_T26 m (P : Int)).f3 + (rd_T26 m (Q : Int)).f3) + 1)⟩
def connL (m : List S26) (P Q : Nat) (leg : Int) : List S26 := (m.take Q ++ m.drop (Q + 1)).set P (oneR m P Q leg)
theorem connR_eq {m : List S26} {P Q : Nat} (hPQ : P < Q) (hQ : Q < m.length) (leg : Int) : connR_ m (P : Int) (Q : Int) leg = connL m P Q leg := by
 unfold connR_ connL
 rw [Int.toNat_natCast, Int.toNat_natCast]
 show (m.set P (oneR m P Q leg)).take Q ++ (m.set P (oneR m P Q leg)).drop (Q + 1) = _
 rw [List.set_append_left _ _ (by rw [List.length_take]; omega), List.take_set, List.drop_set_of_lt (by omega)]
theorem connL_len {m : List S26} {P Q : Nat} (hQ : Q < m.length) (leg : Int) : (connL m P Q leg).length + 1 = m.length := by
 unfold connL
 rw [List.length_set, List.length_append, List.length_take, List.length_drop]
 omega
theorem connL_le {m : List S26} {P Q : Nat} (hQ : Q < m.length) (leg : Int) : (connL m P Q leg).length ≤ m.length := Nat.le_of_succ_le (Nat.le_of_eq (connL_len hQ leg))
theorem connL_sizes {m : List S26} (hm : ∀ x, x ∈ m → x.f0.size ≤ 1048576) {P Q : Nat} (hP : P < m.length) (leg : Int) : ∀ x, x ∈ connL m P Q leg → x.f0.size ≤ 1048576 := by
 refine set_sizes (fun x hx => ?_) P _ (show (rd_T26 m (P : Int)).f0.size ≤ 1048576 from hm _ (rdRow_mem m (by omega) (by omega)))
 rcases List.mem_append.1 hx with h | h
 ·
  exact hm x (List.mem_of_mem_take h)
 ·
  exact hm x (List.mem_of_mem_drop h)
theorem conn_spec_good {m : List S26} (hm : ∀ x, x ∈ m → x.f0.size ≤ 1048576) (hl : m.length ≤ 1048576) (i j : Int) (P Q : Nat) (hP : mn i j = (P : Int)) (hQ : mx i j = (Q : Int)) (hPQ : P < Q) (hQl : Q < m.length) (leg : Int) {k : Nat} (hk : 1048577 + m.length < k) :
  spec_ConnectCaves.j0 (k + 1) m leg i j false = if caves (connL m P Q leg) = true then some (connL m P Q leg, true) else some ([], false) := by
 have f1 : (0 : Int) ≤ (P : Int) := by omega
 have f2 : (P : Int) < (m.length : Int) := by omega
 have f3 : (0 : Int) ≤ (Q : Int) := by omega
 have f4 : (Q : Int) < (m.length : Int) := by omega
 have f5 : (Q : Int) ≤ (m.length : Int) := by omega
 have f6 : 0 + Q < 3518437208883 := by omega
 have f7 : (0 : Int) ≤ ((Q + 1 : Nat) : Int) := by omega
 have f8 : ((Q + 1 : Nat) : Int) ≤ (m.length : Int) := by omega
 have f9 : Q + (m.length - (Q + 1)) < 3518437208883 := by omega
 have f10 : (P : Int) < ((Q + (m.length - (Q + 1)) : Nat) : Int) := by omega
 have f11 : (connL m P Q leg).length ≤ 1048576 := Nat.le_trans (connL_le hQl leg) hl
 have f12 : 1048577 + (connL m P Q leg).length < k := Nat.lt_of_le_of_lt (Nat.add_le_add_left (connL_le hQl leg) _) hk
 have hS := connL_sizes hm (P := P) (Q := Q) (Nat.lt_trans hPQ hQl) leg
 have h1 : (m.take Q).length = Q := by rw [List.length_take, Nat.min_eq_left (Nat.le_of_lt hQl)]
 have h2 : (m.drop (Q + 1)).length = m.length - (Q + 1) := List.length_drop
 have hw : wrap64 ((Q : Int) + 1) = ((Q + 1 : Nat) : Int) := w64 (x := (Q : Int) + 1) (by clear hS h1 h2 f11 f12; omega) (by clear hS h1 h2 f11 f12; omega)
 simp only [spec_ConnectCaves.j0, Bool.false_eq_true, if_false]
 rw [least_eq, obs, most_eq, obs, hP, hQ, if_pos f1, if_pos f2, if_pos f3, if_pos f4, obs, if_pos f5, obs, Int.toNat_natCast, List.length_nil, h1, if_pos f6, obs, List.nil_append, hw, if_pos f7, if_pos f8, obs, Int.toNat_natCast, h1, h2, if_pos f9, obs, most_eq, obs, List.length_append, h1, h2, if_pos f10, obs, Int.toNat_natCast]
 show ((spec_l26Good.f k (connL m P Q leg)).bind fun t378 => _) = _
 rw [goodC_eq hS f11 f12, obs]
 rfl
theorem conn_both {m : List S26} (hm : ∀ x, x ∈ m → x.f0.size ≤ 1048576) (hl : m.length ≤ 1048576) (a b : ByteArray) (leg : Int) :
  ∃ r f, r.length ≤ m.length ∧ (f = true → ∃ P Q, P < Q ∧ Q < m.length ∧ r = connL m P Q leg ∧ caves m = true ∧ caves r = true ∧ 1 ≤ leg ∧ leg ≤ 500) ∧ ∀ k, 1048590 + m.length + m.length ≤ k → spec_ConnectCaves.f k m a b leg = some (r, f) ∧ impl_ConnectCaves.f k m a b leg = some (r, f) := by
 have sb : ∀ k i j, spec_ConnectCaves.j0 (k + 1) m leg i j true = some ([], false) := fun k i j => by
  simp only [spec_ConnectCaves.j0, if_true]
 by_cases good : caves m = true ∧ 0 ≤ idxP (atP_ a) m ∧ 0 ≤ idxP (atP_ b) m ∧ idxP (atP_ a) m ≠ idxP (atP_ b) m ∧ (1 ≤ leg ∧ leg ≤ 500)
 ·
  obtain ⟨c, p1, p2, hij, q⟩ := good
  obtain ⟨i, hi, ei, _⟩ := idxP_some z26 p1
  obtain ⟨j, hj, ej, _⟩ := idxP_some z26 p2
  obtain ⟨P, hP⟩ : ∃ P : Nat, mn (i : Int) (j : Int) = (P : Int) := by
   unfold mn
   split
   ·
    exact ⟨j, rfl⟩
   ·
    exact ⟨i, rfl⟩
  obtain ⟨Q, hQ⟩ : ∃ Q : Nat, mx (i : Int) (j : Int) = (Q : Int) := by
   unfold mx
   split
   ·
    exact ⟨j, rfl⟩
   ·
    exact ⟨i, rfl⟩
  have hne : (i : Int) ≠ (j : Int) := by rw [← ei, ← ej]; exact hij
  have hPQ : P < Q ∧ Q < m.length := by
   unfold mn at hP
   unfold mx at hQ
   split at hP <;> split at hQ <;> omega
  have g1 : P < m.length := by omega
  have g2 : (0 : Int) ≤ (i : Int) := by omega
  have g3 : (0 : Int) ≤ (j : Int) := by omega
  have g4 : (0 : Int) ≤ (P : Int) := by omega
  have g5 : (P : Int) < (Q : Int) := by omega
  have g6 : (Q : Int) < (m.length : Int) := by omega
  have g7 : ¬ (i : Int) < 0 := by omega
  have g8 : ¬ (j : Int) < 0 := by omega
  have hL := connL_le (P := P) hPQ.2 leg
  have hS := connL_sizes hm (P := P) (Q := Q) g1 leg
  have g9 : (connL m P Q leg).length ≤ 1048576 := Nat.le_trans hL hl
  have g10 : ∀ k, 1048590 + m.length + m.length ≤ k → m.length < k ∧ 1048577 + m.length < k ∧ 1048577 + m.length + 1 < k := fun k hk => by clear hL hS g9; omega
  have hM10 : m.length ≤ 1000000 := by have := caves_le c; omega
  have ei2 : ∀ k, 1048590 + m.length + m.length ≤ k → impl_ConnectCaves.f k m a b leg = if caves (connL m P Q leg) = true then some (connL m P Q leg, true) else some ([], false) := by
   intro k hk
   unfold impl_ConnectCaves.f
   obtain ⟨g11, g12, g13⟩ := g10 k hk
   rw [caveAt_eq hm hl a g11, obs, caveAt_eq hm hl b g11, obs, ei, ej]
   simp only
   rw [if_pos ⟨by rw [if_pos g2]; exact c, by rw [if_pos g3]; exact c, hne, q⟩, hP, hQ, if_pos ⟨g4, g5, g6, hM10⟩, connR_eq hPQ.1 hPQ.2, areC_eq hS g9 (Nat.lt_of_le_of_lt hL g11), obs]
  have es2 : ∀ k, 1048590 + m.length + m.length ≤ k → spec_ConnectCaves.f k m a b leg = if caves (connL m P Q leg) = true then some (connL m P Q leg, true) else some ([], false) := by
   intro k hk
   obtain ⟨g11, g12, g13⟩ := g10 k hk
   obtain ⟨k, rfl⟩ : ∃ m, k = m + 1 := ⟨k - 1, by clear hL hS g9; omega⟩
   unfold spec_ConnectCaves.f
   rw [find_eq a hl g11, obs, find_eq b hl g11, obs, goodC_eq hm hl g12, obs, if_pos c, ei, ej, if_neg g7, if_neg g8, if_neg hne, l1In_eq, obs, decide_eq_true q, show (!true) = false from rfl, conn_spec_good hm hl i j P Q hP hQ hPQ.1 hPQ.2 leg (Nat.lt_of_succ_lt_succ g13)]
  by_cases g : caves (connL m P Q leg) = true
  ·
   exact ⟨connL m P Q leg, true, hL, fun _ => ⟨P, Q, hPQ.1, hPQ.2, rfl, c, g, q.1, q.2⟩, fun k hk => ⟨by rw [es2 k hk, if_pos g], by rw [ei2 k hk, if_pos g]⟩⟩
  ·
   exact ⟨[], false, Nat.zero_le _, (fun h => Bool.noConfusion h), fun k hk => ⟨by rw [es2 k hk, if_neg g], by rw [ei2 k hk, if_neg g]⟩⟩
 ·
  refine ⟨[], false, Nat.zero_le _, (fun h => Bool.noConfusion h), fun k hk => ?_⟩
  obtain ⟨k, rfl⟩ : ∃ m, k = m + 1 := ⟨k - 1, by omega⟩
  constructor
  ·
   unfold spec_ConnectCaves.f
   rw [find_eq a hl (by omega), obs, find_eq b hl (by omega), obs, goodC_eq hm hl (by omega), obs]
   by_cases c : caves m = true
   ·
    rw [if_pos c]
    by_cases p1 : 0 ≤ idxP (atP_ a) m
    ·
     rw [if_neg (by omega)]
     by_cases p2 : 0 ≤ idxP (atP_ b) m
     ·
      rw [if_neg (by omega)]
      by_cases hij : idxP (atP_ a) m = idxP (atP_ b) m
      ·
       rw [if_pos hij]
       exact sb k _ _
      ·
       rw [if_neg hij, l1In_eq, obs, decide_eq_false (fun q => good ⟨c, p1, p2, hij, q⟩)]
       exact sb k _ _
     ·
      rw [if_pos (by omega)]
      exact sb k _ _
    ·
     rw [if_pos (by omega)]
     exact sb k _ _
   ·
    rw [if_neg c]
    exact sb k _ _
  ·
   unfold impl_ConnectCaves.f
   rw [caveAt_eq hm hl a (by omega), obs, caveAt_eq hm hl b (by omega), obs]
   simp only
   rw [if_neg]
   rintro ⟨h1, h2, h3, h4⟩
   by_cases p1 : 0 ≤ idxP (atP_ a) m
   ·
    rw [if_pos p1] at h1
    by_cases p2 : 0 ≤ idxP (atP_ b) m
    ·
     exact good ⟨h1, p1, p2, h3, h4⟩
    ·
     rw [if_neg p2] at h2
     cases h2
   ·
    rw [if_neg p1] at h1
    cases h1
def addR (x : S26) (a2 a3 a4 : Int) : S26 := ⟨x.f0, wrap64 (x.f1 + a2), mx x.f2 a4, wrap64 (x.f3 + a3)⟩
theorem add_spec_good {m : List S26} (hm : ∀ x, x ∈ m → x.f0.size ≤ 1048576) (hl : m.length ≤ 1048576) (n : ByteArray) (i : Nat) (hi : i < m.length) (hn : (rd_T26 m (i : Int)).f0 = n) (a2 a3 a4 : Int) {k : Nat} (hk : 1048577 + m.length < k) :
  spec_AddSurvey.j0 (k + 1) m n a2 a3 a4 i false = if caves (m.set i (addR (rd_T26 m (i : Int)) a2 a3 a4)) = true then some (m.set i (addR (rd_T26 m (i : Int)) a2 a3 a4), true) else some ([], false) := by
 have hx : (rd_T26 m (i : Int)).f0.size ≤ 1048576 := hm _ (rdRow_mem m (by omega) (by omega))
 have hs := set_sizes hm i (addR (rd_T26 m (i : Int)) a2 a3 a4) hx
 have hL : (m.set i (addR (rd_T26 m (i : Int)) a2 a3 a4)).length = m.length := List.length_set
 simp only [spec_AddSurvey.j0, Bool.false_eq_true, if_false]
 rw [obs, if_pos (by simp; omega), obs, List.nil_append, if_pos (by omega), if_pos (by omega), most_eq, obs, obs, Int.toNat_natCast, ← hn]
 rw [show (⟨(rd_T26 m (i : Int)).f0, wrap64 ((rd_T26 m (i : Int)).f1 + a2), mx (rd_T26 m (i : Int)).f2 a4, wrap64 ((rd_T26 m (i : Int)).f3 + a3)⟩ : S26) = addR (rd_T26 m (i : Int)) a2 a3 a4 from rfl]
 rw [goodC_eq hs (by omega) (by omega), obs]
theorem add_impl_good {m : List S26} (hm : ∀ x, x ∈ m → x.f0.size ≤ 1048576) (hl : m.length ≤ 1048576) (i : Nat) (hi : i < m.length) (a2 a3 a4 : Int) {k : Nat} (hk : m.length < k) :
  impl_AddSurvey.j0 (k + 1) m a2 a3 a4 i false = if caves (m.set i (addR (rd_T26 m (i : Int)) a2 a3 a4)) = true then some (m.set i (addR (rd_T26 m (i : Int)) a2 a3 a4), true) else some ([], false) := by
 have hx : (rd_T26 m (i : Int)).f0.size ≤ 1048576 := hm _ (rdRow_mem m (by omega) (by omega))
 have hs := set_sizes hm i (addR (rd_T26 m (i : Int)) a2 a3 a4) hx
 have hL : (m.set i (addR (rd_T26 m (i : Int)) a2 a3 a4)).length = m.length := List.length_set
 have hcl : impl_CaveRow_67.f m = some m := by
  unfold impl_CaveRow_67.f
  rw [if_pos (by omega)]
 have er : ∀ y, rd_T26 (m.set i y) (i : Int) = y := fun y => by
  show (m.set i y).getD ((i : Int)).toNat _ = _
  rw [Int.toNat_natCast]
  exact getD_set m _ y i hi
 simp only [impl_AddSurvey.j0, Bool.false_eq_true, if_false]
 rw [hcl, obs, if_pos (by omega), if_pos (by omega), obs, obs, obs, Int.toNat_natCast]
 simp only [er, List.set_set]
 rw [show (⟨(rd_T26 m (i : Int)).f0, wrap64 ((rd_T26 m (i : Int)).f1 + a2), mx (rd_T26 m (i : Int)).f2 a4, wrap64 ((rd_T26 m (i : Int)).f3 + a3)⟩ : S26) = addR (rd_T26 m (i : Int)) a2 a3 a4 from rfl]
 rw [areC_eq hs (by omega) (by omega), obs]
theorem add_both {m : List S26} (hm : ∀ x, x ∈ m → x.f0.size ≤ 1048576) (hl : m.length ≤ 1048576) (n : ByteArray) (a2 a3 a4 : Int) :
  ∃ r b, r.length ≤ m.length ∧ (b = true → caves r = true ∧ ∀ x, x ∈ r → x.f0.size ≤ 1048576) ∧ ∀ k, 1048590 + m.length + m.length ≤ k → spec_AddSurvey.f k m n a2 a3 a4 = some (r, b) ∧ impl_AddSurvey.f k m n a2 a3 a4 = some (r, b) := by
 have sb : ∀ k i, spec_AddSurvey.j0 (k + 1) m n a2 a3 a4 i true = some ([], false) := fun k i => by
  simp only [spec_AddSurvey.j0, if_true]
 have ib : ∀ k i, impl_AddSurvey.j0 (k + 1) m a2 a3 a4 i true = some ([], false) := fun k i => by
  simp only [impl_AddSurvey.j0, if_true]
 by_cases c : caves m = true
 ·
  by_cases p : 0 ≤ idxP (atP_ n) m
  ·
   by_cases q2 : (1 : Int) ≤ a2 ∧ a2 ≤ 1000000
   ·
    by_cases q3 : (1 : Int) ≤ a3 ∧ a3 ≤ 9999
    ·
     by_cases q4 : (0 : Int) ≤ a4 ∧ a4 ≤ 20000
     ·
      obtain ⟨i, hi, ei, hp⟩ := idxP_some z26 p
      have hn : (rd_T26 m (i : Int)).f0 = n := by
       show (m.getD ((i : Int)).toNat _).f0 = n
       rw [Int.toNat_natCast]
       exact ba_eq (atP_iff.1 hp)
      by_cases g : caves (m.set i (addR (rd_T26 m (i : Int)) a2 a3 a4)) = true
      ·
       refine ⟨m.set i (addR (rd_T26 m (i : Int)) a2 a3 a4), true, by rw [List.length_set]; omega, fun _ => ⟨g, set_sizes hm i _ (show (rd_T26 m (i : Int)).f0.size ≤ 1048576 from hm _ (rdRow_mem m (by omega) (by omega)))⟩, fun k hk => ?_⟩
       obtain ⟨k, rfl⟩ : ∃ m, k = m + 1 := ⟨k - 1, by omega⟩
       unfold spec_AddSurvey.f impl_AddSurvey.f
       rw [find_eq n hl (by omega), obs, goodC_eq hm hl (by omega), obs, if_pos c, caveAt_eq hm hl n (by omega), obs, ei, if_neg (by omega), if_pos (show (if (0 : Int) ≤ (i : Int) then caves m else false) = true by rw [if_pos (by omega)]; exact c), l1In_eq, within_eq, obs, obs, decide_eq_true q2, if_pos rfl, if_pos rfl, l1In_eq, within_eq, obs, obs, decide_eq_true q3, if_pos rfl, if_pos rfl, l1In_eq, within_eq, obs, obs, decide_eq_true q4]
       rw [show (!true) = false from rfl, add_spec_good hm hl n i hi hn a2 a3 a4 (by omega), add_impl_good hm hl i hi a2 a3 a4 (by omega), if_pos g]
       exact ⟨rfl, rfl⟩
      ·
       refine ⟨[], false, Nat.zero_le _, (fun h => Bool.noConfusion h), fun k hk => ?_⟩
       obtain ⟨k, rfl⟩ : ∃ m, k = m + 1 := ⟨k - 1, by omega⟩
       unfold spec_AddSurvey.f impl_AddSurvey.f
       rw [find_eq n hl (by omega), obs, goodC_eq hm hl (by omega), obs, if_pos c, caveAt_eq hm hl n (by omega), obs, ei, if_neg (by omega), if_pos (show (if (0 : Int) ≤ (i : Int) then caves m else false) = true by rw [if_pos (by omega)]; exact c), l1In_eq, within_eq, obs, obs, decide_eq_true q2, if_pos rfl, if_pos rfl, l1In_eq, within_eq, obs, obs, decide_eq_true q3, if_pos rfl, if_pos rfl, l1In_eq, within_eq, obs, obs, decide_eq_true q4]
       rw [show (!true) = false from rfl, add_spec_good hm hl n i hi hn a2 a3 a4 (by omega), add_impl_good hm hl i hi a2 a3 a4 (by omega), if_neg g]
       exact ⟨rfl, rfl⟩
     ·
      refine ⟨[], false, Nat.zero_le _, (fun h => Bool.noConfusion h), fun k hk => ?_⟩
      obtain ⟨k, rfl⟩ : ∃ m, k = m + 1 := ⟨k - 1, by omega⟩
      unfold spec_AddSurvey.f impl_AddSurvey.f
      rw [find_eq n hl (by omega), obs, goodC_eq hm hl (by omega), obs, if_pos c, caveAt_eq hm hl n (by omega), obs, if_neg (by omega), if_pos (show (if 0 ≤ idxP (atP_ n) m then caves m else false) = true by rw [if_pos p]; exact c), l1In_eq, within_eq, obs, obs, decide_eq_true q2, if_pos rfl, if_pos rfl, l1In_eq, within_eq, obs, obs, decide_eq_true q3, if_pos rfl, if_pos rfl, l1In_eq, within_eq, obs, obs, decide_eq_false q4]
      exact ⟨sb k _, ib k _⟩
    ·
     refine ⟨[], false, Nat.zero_le _, (fun h => Bool.noConfusion h), fun k hk => ?_⟩
     obtain ⟨k, rfl⟩ : ∃ m, k = m + 1 := ⟨k - 1, by omega⟩
     unfold spec_AddSurvey.f impl_AddSurvey.f
     rw [find_eq n hl (by omega), obs, goodC_eq hm hl (by omega), obs, if_pos c, caveAt_eq hm hl n (by omega), obs, if_neg (by omega), if_pos (show (if 0 ≤ idxP (atP_ n) m then caves m else false) = true by rw [if_pos p]; exact c), l1In_eq, within_eq, obs, obs, decide_eq_true q2, if_pos rfl, if_pos rfl, l1In_eq, within_eq, obs, obs, decide_eq_false q3, if_neg (by decide), if_neg (by decide)]
     exact ⟨sb k _, ib k _⟩
   ·
    refine ⟨[], false, Nat.zero_le _, (fun h => Bool.noConfusion h), fun k hk => ?_⟩
    obtain ⟨k, rfl⟩ : ∃ m, k = m + 1 := ⟨k - 1, by omega⟩
    unfold spec_AddSurvey.f impl_AddSurvey.f
    rw [find_eq n hl (by omega), obs, goodC_eq hm hl (by omega), obs, if_pos c, caveAt_eq hm hl n (by omega), obs, if_neg (by omega), if_pos (show (if 0 ≤ idxP (atP_ n) m then caves m else false) = true by rw [if_pos p]; exact c), l1In_eq, within_eq, obs, obs, decide_eq_false q2, if_neg (by decide), if_neg (by decide)]
    exact ⟨sb k _, ib k _⟩
  ·
   refine ⟨[], false, Nat.zero_le _, (fun h => Bool.noConfusion h), fun k hk => ?_⟩
   obtain ⟨k, rfl⟩ : ∃ m, k = m + 1 := ⟨k - 1, by omega⟩
   unfold spec_AddSurvey.f impl_AddSurvey.f
   rw [find_eq n hl (by omega), obs, goodC_eq hm hl (by omega), obs, if_pos c, caveAt_eq hm hl n (by omega), obs, if_pos (by omega), if_neg (show ¬ (if 0 ≤ idxP (atP_ n) m then caves m else false) = true by rw [if_neg p]; decide)]
   exact ⟨sb k _, ib k _⟩
 ·
  refine ⟨[], false, Nat.zero_le _, (fun h => Bool.noConfusion h), fun k hk => ?_⟩
  obtain ⟨k, rfl⟩ : ∃ m, k = m + 1 := ⟨k - 1, by omega⟩
  unfold spec_AddSurvey.f impl_AddSurvey.f
  rw [find_eq n hl (by omega), obs, goodC_eq hm hl (by omega), obs, if_neg c, caveAt_eq hm hl n (by omega), obs, if_neg (show ¬ (if 0 ≤ idxP (atP_ n) m then caves m else false) = true by split; exact c; decide)]
  exact ⟨sb k _, ib k _⟩
theorem rankD_both {m : List S26} (hm : ∀ x, x ∈ m → x.f0.size ≤ 1048576) (hl : m.length ≤ 1048576) :
  ∃ r b, r.length ≤ m.length ∧ (b = true → r = (ranked (befB_ true) m).map (fun x => x.f0)) ∧ (b = decide (caves m = true)) ∧ ∀ k, 1048590 + m.length + m.length ≤ k → spec_RankByDepth.f k m = some (r, b) ∧ impl_RankByDepth.f k m = some (r, b) := by
 by_cases c : caves m = true
 ·
  have h10 := (caves_rise c).1
  refine ⟨(ranked (befB_ true) m).map (fun x => x.f0), true, by rw [List.length_map, ranked_len]; omega, fun _ => rfl, by rw [c]; rfl, fun k hk => ?_⟩
  unfold spec_RankByDepth.f impl_RankByDepth.f rkF_ spec_l26Rank.f
  rw [goodC_eq hm hl (by omega), areC_eq hm hl (by omega), obs, obs, if_pos c, if_pos c, if_pos (by omega), if_pos (by omega), obs, ← rank_depth_eq c]
  exact ⟨rfl, rfl⟩
 ·
  refine ⟨[], false, Nat.zero_le _, (fun h => Bool.noConfusion h), (by rw [decide_eq_false c]), fun k hk => ?_⟩
  unfold spec_RankByDepth.f impl_RankByDepth.f rkF_
  rw [goodC_eq hm hl (by omega), areC_eq hm hl (by omega), obs, obs, if_neg c, if_neg c]
  exact ⟨rfl, rfl⟩
theorem rankL_both {m : List S26} (hm : ∀ x, x ∈ m → x.f0.size ≤ 1048576) (hl : m.length ≤ 1048576) :
  ∃ r b, r.length ≤ m.length ∧ (b = true → r = (ranked (befB_ false) m).map (fun x => x.f0)) ∧ (b = decide (caves m = true)) ∧ ∀ k, 1048590 + m.length + m.length ≤ k → spec_RankByLength.f k m = some (r, b) ∧ impl_RankByLength.f k m = some (r, b) := by
 by_cases c : caves m = true
 ·
  have h10 := (caves_rise c).1
  refine ⟨(ranked (befB_ false) m).map (fun x => x.f0), true, by rw [List.length_map, ranked_len]; omega, fun _ => rfl, by rw [c]; rfl, fun k hk => ?_⟩
  unfold spec_RankByLength.f impl_RankByLength.f rkF_ spec_l26Rank.f
  rw [goodC_eq hm hl (by omega), areC_eq hm hl (by omega), obs, obs, if_pos c, if_pos c, if_pos (by omega), if_pos (by omega), obs, ← rank_len_eq c]
  exact ⟨rfl, rfl⟩
 ·
  refine ⟨[], false, Nat.zero_le _, (fun h => Bool.noConfusion h), (by rw [decide_eq_false c]), fun k hk => ?_⟩
  unfold spec_RankByLength.f impl_RankByLength.f rkF_
  rw [goodC_eq hm hl (by omega), areC_eq hm hl (by omega), obs, obs, if_neg c, if_neg c]
  exact ⟨rfl, rfl⟩
end Go.Proofs.YteepnlofbfccgaaDoor.Pr.Pure

