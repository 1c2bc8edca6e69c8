/-
What is proved: parts of the law FnLabelBoxes: what the functions that it reaches compute, and the plain law.
Conditions: those of each theorem.
-/
import Derived.ChangeArms
import Derived.ChangeSlices
import Derived.Deep.Slices
import Derived.KernelRfl
import Derived.RowKit
import Derived.SizedLaws
import Derived.WideShapes
import Derived.Test.YtjkcfpmonpkhhaaDoorCFnLabelBoxes3
namespace Go.Proofs.YtjkcfpmonpkhhaaDoor.Pr
open Go.RowKit Go.Proofs.YtjkcfpmonpkhhaaDoorW.PrintWords Go.Proofs.YtjkcfpmonpkhhaaDoorW.PrintLast Go.Proofs.YtjkcfpmonpkhhaaDoorW.PrintMore
attribute [local go_sem] max2_int min2_int max_two min_two max_three min_three max_four min_four   -- for this text's walks alone
set_option linter.unusedVariables false
set_option linter.unusedSimpArgs false
mutual
def spec_l1Cur_labels24.l0 : Nat → List (S29) → Int → List Int → Int → Int → Option ((List (S29)) × Int × Int)
 | 0, _, _, _, _, _ => none
 | k + 1, x3, x4, x1000, x1001, x1002 => if x4 > 0 then ((spec_l1Cur_label.f x1000 x1001 x1002).bind fun bt657 => (if x3.length < 4398046511104 then (spec_l1Cur_labels24.l0 k (x3 ++ [(⟨bt657.1, bt657.2.1, bt657.2.2.1⟩ : S29)]) (wrap64 (x4 - 1)) x1000 bt657.2.2.2.1 bt657.2.2.2.2) else (none))) else ((spec_l1Cur_one.f x1000 x1001 x1002 24).bind fun bt665 => (if bt665.1 = true then (spec_l1Cur_labels24.l1 k x3 x1000 bt665.2.1 bt665.2.2) else (some (x3, bt665.2.1, bt665.2.2))))
def spec_l1Cur_labels24.l1 : Nat → List (S29) → List Int → Int → Int → Option ((List (S29)) × Int × Int)
 | 0, _, _, _, _ => none
 | k + 1, x3, x1000, x1001, x1002 => (spec_l1Cur_pick.f x1000 x1001 x1002 2).bind fun bt668 => (if (x3.length : Int) < (wrap64 (6 + bt668.1)) then (if x3.length < 4398046511104 then (spec_l1Cur_labels24.l1 k (x3 ++ [(⟨(⟨#[98]⟩ : ByteArray), wrap64 (10 * (x3.length : Int)), 50⟩ : S29)]) x1000 bt668.2.1 bt668.2.2) else (none)) else (some (x3, bt668.2.1, bt668.2.2)))
end
def spec_l1Cur_labels24.f (k : Nat) (s0_0 : List Int) (s0_1 : Int) (s0_2 : Int) : Option ((List (S29)) × Int × Int) := (spec_l1Cur_pick.f s0_0 s0_1 s0_2 5).bind fun bt654 => (spec_l1Cur_labels24.l0 k (([] : List (S29))) bt654.1 s0_0 bt654.2.1 bt654.2.2)
set_option maxHeartbeats 8000000 in
set_option maxRecDepth 100000 in
theorem spec_l1Cur_labels24.calls (k : Nat) (g : Nat) (s0_0 : List Int) (s0_1 : Int) (s0_2 : Int) (r1 : List (S29)) (r2 : Int) (r3 : Int) (w0 w : World) (hI : IsS99 w0 w g s0_0 s0_1 s0_2) (hB : Below w0.heap.size w0 w) (h : spec_l1Cur_labels24.f k s0_0 s0_1 s0_2 = some (r1, r2, r3)) :
  Calls Tryd.prog 85 #[.pointer (some ⟨g, 0, none⟩)] w fun e w' => ∃ v0_ : Value, e = .returned (v0_) ∧ Kd.R k29 29 w' w.heap.size (fun _ => True) v0_ r1 ∧ IsS99 w0 w' g s0_0 r2 r3 ∧ Below w0.heap.size w0 w' ∧ KeepBut w w' g none := by
 have hu29 := Tryd.underlying29
 have HI0 := Aside0.mk hI
 have HK := Aside0.mk (KeepBut.refl w g none)
 have HL := Aside0.mk hB.size
 clear hI
 have HW0 := Aside0.mk hB.size
 have HB := Aside0.mk hB
 clear hB
 have H : ((spec_l1Cur_pick.f s0_0 s0_1 s0_2 5).bind fun bt654 => (spec_l1Cur_labels24.l0 k (([] : List (S29))) bt654.1 s0_0 bt654.2.1 bt654.2.2)) = some (r1, r2, r3) := h
 clear h
 obtain ⟨y651, hy651⟩ : ∃ y_ : List (S29), y_ = (([] : List (S29))) := ⟨_, rfl⟩
 replace H : ((spec_l1Cur_pick.f s0_0 s0_1 s0_2 5).bind fun bt654 => (spec_l1Cur_labels24.l0 k y651 bt654.1 s0_0 bt654.2.1 bt654.2.2)) = some (r1, r2, r3) := by first | (rw [hy651]; with_reducible exact H) | (have H2_ := (Option.bind_some _ _).symm.trans H; rw [hy651]; with_reducible exact H2_) | (have H2_ := (Option.bind_some _ _).symm.trans H; with_reducible exact H2_) | with_reducible exact H | (rw [hy651]; exact H) | exact H
 have Ny651 := Aside0.mk hy651
 clear hy651
 replace H := Option.bind_eq_some_iff.mp H
 obtain ⟨⟨t654, t655, t656⟩, A20, H⟩ := H
 replace H : (spec_l1Cur_labels24.l0 k y651 t654 s0_0 t655 t656) = some (r1, r2, r3) := H
 have A2 := Aside0.mk A20
 clear A20
 have H' := Aside0.mk H
 clear H
 go_enter Tryd.func85, Tryd.ntmps85
 go_wp2_with (first | ((with_reducible refine gate_dst (N := 5) rfl ?_); refine Kd.R_lit k29 _ 29 ?hg (N := 5) ?hd (xs := ([] : List (S29))) (inner := []) (ok := fun _ => True) (okp := fun _ => True) ?hr ?hp (fun _ hk => hk) trivial (Below.refl _ _) (Nat.le_refl _) (by simp) ?_; (case hd => rfl); (case hg => rfl); (case hr => first | (go_simp; done) | (go_simp; rfl)); (case hp => exact (Reps.none _ _)); intro v652 w3 ho4 hb hg_ hnew_; clear hg_ hnew_; replace ho4 := ry_ Ny651.out ho4; have HO653 := Aside0.mk (Kd.R_lower ho4 (keep_size (w := w) (g := g) (row := none) (kb0_ HK.out))); replace HK := Aside0.mk (KeepBut.trans (kb0_ HK.out) (KeepBut.of_below hb g none) (.inl rfl)); replace HB := Aside0.mk (below_step (lb1_ HB.out (IsS99.ge HI0.out)) hb); replace HI0 := Aside0.mk (IsS99.below (is99_0 HI0.out) hb); clear hb ho4) | ((with_reducible refine gate_callee (f := 86) rfl ?_); refine ga_ (some 7) Tryd.func86 #[.pointer (some ⟨g, 0, none⟩), .int .i64 5] ?_; (with_reducible refine (spec_l1Cur_pick.calls g s0_0 s0_1 s0_2 5 t654 t655 t656 w0 _ ?side1 ?side2 A2.out).mono ?_); (case side1 => exact is99_0 HI0.out); (case side2 => exact lb1_ HB.out (IsS99.ge HI0.out)); rintro e w5 ⟨rfl, hi, hb, hk⟩; refine ⟨_, rfl, ?_⟩; replace HO653 := Aside0.mk (Kd.R_mono (Kd.R_keep (IsS99.apart (show IsS99 w0 _ g s0_0 s0_1 s0_2 from is99_0 HI0.out) (kr_ HO653.out) (by decide)) hk (fun _ h => h.2)) (fun _ h => h.1)); replace HK := Aside0.mk (KeepBut.trans (kb0_ HK.out) hk (.inl rfl)); replace HB := Aside0.mk (hb); replace HI0 := Aside0.mk (hi); (try clear hb); (try clear hb2); (try clear hk); (try clear hi)))
 go_loopg [3, 4] k (fun kq v3 v4 w' => ∃ (x3_1 : List (S29)) (x4_1 : Int) (x1001_1 : Int) (x1002_1 : Int), v4 = .int .i64 x4_1 ∧ Aside0 (spec_l1Cur_labels24.l0 kq x3_1 x4_1 s0_0 x1001_1 x1002_1 = some (r1, r2, r3)) ∧ Aside0 (kq ≤ k) ∧ Aside0 (Kd.R k29 29 w' w.heap.size (fun _ => True) v3 x3_1) ∧ Aside0 (IsS99 w0 w' g s0_0 x1001_1 x1002_1) ∧ Aside0 (KeepBut w w' g none) ∧ Aside0 (Below w0.heap.size w0 w'))
 case atStart => exact ⟨(y651), (t654), (t655), (t656), (by first | rfl | (simp; done) | (simp [*]; done)), H', ⟨Nat.le_refl _⟩, ⟨kr_ HO653.out⟩, ⟨is99_0 HI0.out⟩, ⟨kb0_ HK.out⟩, ⟨lb1_ HB.out (IsS99.ge HI0.out)⟩⟩
 case round =>
  clear H'
  try clear p2
  obtain ⟨x3_1, x4_1, x1001_1, x1002_1, rfl, HA, HK1, HO_3, HI0, HK, HB⟩ := hrel
  cases gk with
  | zero => exact absurd HA.out (by simp [spec_l1Cur_labels24.l0])
  | succ k1 =>
   have H := HA.out
   clear HA
   simp only [spec_l1Cur_labels24.l0] at H
   by_cases c6 : x4_1 > 0
   ·
    rw [if_pos c6] at H
    have c6b0 : decide (0 < x4_1) = true := decide_eq_true c6
    clear c6
    replace H := Option.bind_eq_some_iff.mp H
    obtain ⟨⟨t657, t658, t659, t660, t661⟩, A70, H⟩ := H
    replace H : (if x3_1.length < 4398046511104 then (spec_l1Cur_labels24.l0 k1 (x3_1 ++ [(⟨t657, t658, t659⟩ : S29)]) (wrap64 (x4_1 - 1)) s0_0 t660 t661) else (none)) = some (r1, r2, r3) := H
    have A7 := Aside0.mk A70
    clear A70
    by_cases c8 : x3_1.length < 4398046511104
    ·
     rw [if_pos c8] at H
     have LMc8 := Aside0.mk c8
     clear c8
     obtain ⟨y662, hy662⟩ : ∃ y_ : List (S29), y_ = (x3_1 ++ [(⟨t657, t658, t659⟩ : S29)]) := ⟨_, rfl⟩
     replace H : (spec_l1Cur_labels24.l0 k1 y662 (wrap64 (x4_1 - 1)) s0_0 t660 t661) = some (r1, r2, r3) := by first | (rw [hy662]; with_reducible exact H) | (have H2_ := (Option.bind_some _ _).symm.trans H; rw [hy662]; with_reducible exact H2_) | (have H2_ := (Option.bind_some _ _).symm.trans H; with_reducible exact H2_) | with_reducible exact H | (rw [hy662]; exact H) | exact H
     have Ny662 := Aside0.mk hy662
     clear hy662
     have H' := Aside0.mk H
     clear H
     go_wp2_with (first | ((with_reducible refine gate_callee (f := 89) rfl ?_); refine ga_ (some 14) Tryd.func89 #[.pointer (some ⟨g, 0, none⟩)] ?_; (with_reducible refine (spec_l1Cur_label.calls g s0_0 x1001_1 x1002_1 t657 t658 t659 t660 t661 w0 _ ?side1 ?side2 A7.out).mono ?_); (case side1 => exact is99_0 HI0.out); (case side2 => exact lb1_ HB.out (IsS99.ge HI0.out)); rintro e w9 ⟨rfl, hi, hb, hk⟩; refine ⟨_, rfl, ?_⟩; replace HO_3 := Aside0.mk (Kd.R_mono (Kd.R_keep (IsS99.apart (show IsS99 w0 _ g s0_0 x1001_1 x1002_1 from is99_0 HI0.out) (kr_ HO_3.out) (by decide)) hk (fun _ h => h.2)) (fun _ h => h.1)); replace HK := Aside0.mk (KeepBut.trans (kb0_ HK.out) hk (.inl rfl)); replace HB := Aside0.mk (hb); replace HI0 := Aside0.mk (hi); (try clear hb); (try clear hb2); (try clear hk); (try clear hi)) | ((with_reducible refine gate_builtin (b := .append) (xs := #[.tmp 12, .tmp 15]) rfl ?_); at_builtin; refine Kd.R_append k29 w.heap.size rfl (.tmp 12) (.tmp 15) 36 29 (.agg #[(.string ⟨#[]⟩), (.int .i64 0), (.int .i64 0)]) 32 rfl Tryd.underlying36 info29 rfl (by decide) (by omega) u3 x3_1 (⟨t657, t658, t659⟩ : S29) [.string t657, .int .i64 t658, .int .i64 t659] (fun _ => True) (fun _ => False) rfl rfl ?aP (fun _ hk => hk.elim) ?aF ?aO (Below.refl _ _) ?aS ?aL ?_; (case aP => exact k29_mkM _ _ _ (⟨t657, t658, t659⟩ : S29)); (case aF => exact (fun _ _ => trivial)); (case aO => exact (kr_ HO_3.out)); (case aS => exact (keep_size (w := w) (g := g) (row := none) (kb0_ HK.out))); (case aL => have := LMc8.out; omega); intro v663 w10 ho hb hg hat; rw [← Ny662.out] at ho; replace HB := Aside0.mk (below_weaken (lb1_ HB.out (IsS99.ge HI0.out)) HL.out hb); replace HI0 := Aside0.mk (IsS99.grown (is99_0 HI0.out) hg (IsS99.own_ne HI0.out HO_3.out (by decide))); replace HK := Aside0.mk (KeepBut.trans (kb0_ HK.out) (KeepBut.of_grown hg g) (Kd.R_base2 HO_3.out)); have HO664 := Aside0.mk (ho); clear HO_3; clear ho hb hg hat))
     go_roundg k1
     case measure => have := HK1.out; omega
     case rel => exact ⟨(y662), (wrap64 (x4_1 - 1)), (t660), (t661), (by first | rfl | (simp; done) | (simp [*]; done)), H', ⟨by have := HK1.out; omega⟩, ⟨kr_ HO664.out⟩, ⟨is99_0 HI0.out⟩, ⟨kb0_ HK.out⟩, ⟨lb1_ HB.out (IsS99.ge HI0.out)⟩⟩
    ·
     rw [if_neg c8] at H
     exact absurd H (by simp)
   ·
    rw [if_neg c6] at H
    have c6b0 : decide (0 < x4_1) = false := decide_eq_false c6
    clear c6
    replace H := Option.bind_eq_some_iff.mp H
    obtain ⟨⟨t665, t666, t667⟩, A110, H⟩ := H
    replace H : (if t665 = true then (spec_l1Cur_labels24.l1 k1 x3_1 s0_0 t666 t667) else (some (x3_1, t666, t667))) = some (r1, r2, r3) := H
    have A11 := Aside0.mk A110
    clear A110
    by_cases c12 : t665 = true
    ·
     subst c12
     have H1 : (spec_l1Cur_labels24.l1 k1 x3_1 s0_0 t666 t667) = some (r1, r2, r3) := by rw [if_pos rfl] at H; exact H
     clear H
     have H := H1
     clear H1
     have H' := Aside0.mk H
     clear H
     go_wp2_with (first | ((with_reducible refine gate_callee (f := 87) rfl ?_); refine ga_ (some 18) Tryd.func87 #[.pointer (some ⟨g, 0, none⟩), .int .i64 24] ?_; (with_reducible refine (spec_l1Cur_one.calls g s0_0 x1001_1 x1002_1 24 true t666 t667 w0 _ ?side1 ?side2 A11.out).mono ?_); (case side1 => exact is99_0 HI0.out); (case side2 => exact lb1_ HB.out (IsS99.ge HI0.out)); rintro e w13 ⟨rfl, hi, hb, hk⟩; refine ⟨_, rfl, ?_⟩; replace HO_3 := Aside0.mk (Kd.R_mono (Kd.R_keep (IsS99.apart (show IsS99 w0 _ g s0_0 x1001_1 x1002_1 from is99_0 HI0.out) (kr_ HO_3.out) (by decide)) hk (fun _ h => h.2)) (fun _ h => h.1)); replace HK := Aside0.mk (KeepBut.trans (kb0_ HK.out) hk (.inl rfl)); replace HB := Aside0.mk (hb); replace HI0 := Aside0.mk (hi); (try clear hb); (try clear hb2); (try clear hk); (try clear hi)))
     (try simp only [Act.put, List.setIfInBounds_toArray, List.set_cons_zero, List.set_cons_succ])
     go_loopg [3] k1 (fun kq v3 w' => ∃ (x3_2 : List (S29)) (x1001_2 : Int) (x1002_2 : Int), Aside0 (spec_l1Cur_labels24.l1 kq x3_2 s0_0 x1001_2 x1002_2 = some (r1, r2, r3)) ∧ Aside0 (kq ≤ k1) ∧ Aside0 (Kd.R k29 29 w' w.heap.size (fun _ => True) v3 x3_2) ∧ Aside0 (IsS99 w0 w' g s0_0 x1001_2 x1002_2) ∧ Aside0 (KeepBut w w' g none) ∧ Aside0 (Below w0.heap.size w0 w'))
     case atStart => exact ⟨(x3_1), (t666), (t667), H', ⟨Nat.le_refl _⟩, ⟨kr_ HO_3.out⟩, ⟨is99_0 HI0.out⟩, ⟨kb0_ HK.out⟩, ⟨lb1_ HB.out (IsS99.ge HI0.out)⟩⟩
     case round =>
      clear H'
      try clear c1
      try clear p2
      try clear c6
      try clear c6b0
      try clear p6
      try clear c8
      try clear c12
      try clear p2
      obtain ⟨x3_2, x1001_2, x1002_2, HA, HK2, HO_3, HI0, HK, HB⟩ := hrel
      cases gk with
      | zero => exact absurd HA.out (by simp [spec_l1Cur_labels24.l1])
      | succ k2 =>
       have H := HA.out
       clear HA
       simp only [spec_l1Cur_labels24.l1] at H
       replace H := Option.bind_eq_some_iff.mp H
       obtain ⟨⟨t668, t669, t670⟩, A140, H⟩ := H
       replace H : (if (x3_2.length : Int) < (wrap64 (6 + t668)) then (if x3_2.length < 4398046511104 then (spec_l1Cur_labels24.l1 k2 (x3_2 ++ [(⟨(⟨#[98]⟩ : ByteArray), wrap64 (10 * (x3_2.length : Int)), 50⟩ : S29)]) s0_0 t669 t670) else (none)) else (some (x3_2, t669, t670))) = some (r1, r2, r3) := H
       have A14 := Aside0.mk A140
       clear A140
       by_cases c15 : (x3_2.length : Int) < (wrap64 (6 + t668))
       ·
        rw [if_pos c15] at H
        have c15b0 : decide ((x3_2.length : Int) < (wrap64 (6 + t668))) = true := decide_eq_true c15; clear c15
        by_cases c16 : x3_2.length < 4398046511104
        ·
         rw [if_pos c16] at H
         have LMc16 := Aside0.mk c16; clear c16
         obtain ⟨y671, hy671⟩ : ∃ y_ : List (S29), y_ = (x3_2 ++ [(⟨(⟨#[98]⟩ : ByteArray), wrap64 (10 * (x3_2.length : Int)), 50⟩ : S29)]) := ⟨_, rfl⟩
         replace H : (spec_l1Cur_labels24.l1 k2 y671 s0_0 t669 t670) = some (r1, r2, r3) := by first | (rw [hy671]; with_reducible exact H) | (have H2_ := (Option.bind_some _ _).symm.trans H; rw [hy671]; with_reducible exact H2_) | (have H2_ := (Option.bind_some _ _).symm.trans H; with_reducible exact H2_) | with_reducible exact H | (rw [hy671]; exact H) | exact H
         have Ny671 := Aside0.mk hy671; clear hy671; have H' := Aside0.mk H; clear H; obtain ⟨Ao17, co17, eo17⟩ := Kd.R_slice HO_3.out; subst eo17
         go_wp2_with (first | ((with_reducible refine gate_callee (f := 86) rfl ?_); refine ga_ (some 22) Tryd.func86 #[.pointer (some ⟨g, 0, none⟩), .int .i64 2] ?_; (with_reducible refine (spec_l1Cur_pick.calls g s0_0 x1001_2 x1002_2 2 t668 t669 t670 w0 _ ?side1 ?side2 A14.out).mono ?_); (case side1 => exact is99_0 HI0.out); (case side2 => exact lb1_ HB.out (IsS99.ge HI0.out)); rintro e w18 ⟨rfl, hi, hb, hk⟩; refine ⟨_, rfl, ?_⟩; replace HO_3 := Aside0.mk (Kd.R_mono (Kd.R_keep (IsS99.apart (show IsS99 w0 _ g s0_0 x1001_2 x1002_2 from is99_0 HI0.out) (kr_ HO_3.out) (by decide)) hk (fun _ h => h.2)) (fun _ h => h.1)); replace HK := Aside0.mk (KeepBut.trans (kb0_ HK.out) hk (.inl rfl)); replace HB := Aside0.mk (hb); replace HI0 := Aside0.mk (hi); (try clear hb); (try clear hb2); (try clear hk); (try clear hi)) | ((with_reducible refine gate_builtin (b := .append) (xs := #[.tmp 25, .tmp 30]) rfl ?_); at_builtin; refine Kd.R_append k29 w.heap.size rfl (.tmp 25) (.tmp 30) 36 29 (.agg #[(.string ⟨#[]⟩), (.int .i64 0), (.int .i64 0)]) 32 rfl Tryd.underlying36 info29 rfl (by decide) (by omega) (.slice Ao17 x3_2.length co17) x3_2 (⟨(⟨#[98]⟩ : ByteArray), wrap64 (10 * (x3_2.length : Int)), 50⟩ : S29) [.string (⟨#[98]⟩ : ByteArray), .int .i64 (wrap64 (10 * (x3_2.length : Int))), .int .i64 50] (fun _ => True) (fun _ => False) rfl rfl ?aP (fun _ hk => hk.elim) ?aF ?aO (Below.refl _ _) ?aS ?aL ?_; (case aP => exact k29_mkM _ _ _ (⟨(⟨#[98]⟩ : ByteArray), wrap64 (10 * (x3_2.length : Int)), 50⟩ : S29)); (case aF => exact (fun _ _ => trivial)); (case aO => exact (kr_ HO_3.out)); (case aS => exact (keep_size (w := w) (g := g) (row := none) (kb0_ HK.out))); (case aL => have := LMc16.out; omega); intro v672 w19 ho hb hg hat; rw [← Ny671.out] at ho; replace HB := Aside0.mk (below_weaken (lb1_ HB.out (IsS99.ge HI0.out)) HL.out hb); replace HI0 := Aside0.mk (IsS99.grown (is99_0 HI0.out) hg (IsS99.own_ne HI0.out HO_3.out (by decide))); replace HK := Aside0.mk (KeepBut.trans (kb0_ HK.out) (KeepBut.of_grown hg g) (Kd.R_base2 HO_3.out)); have HO673 := Aside0.mk (ho); clear HO_3; clear ho hb hg hat))
         go_roundg k2
         case measure => have := HK1.out; have := HK2.out; omega
         case rel => exact ⟨(y671), (t669), (t670), H', ⟨by have := HK1.out; have := HK2.out; omega⟩, ⟨kr_ HO673.out⟩, ⟨is99_0 HI0.out⟩, ⟨kb0_ HK.out⟩, ⟨lb1_ HB.out (IsS99.ge HI0.out)⟩⟩
        ·
         rw [if_neg c16] at H
         exact absurd H (by simp)
       ·
        rw [if_neg c15] at H
        have c15b0 : decide ((x3_2.length : Int) < (wrap64 (6 + t668))) = false := decide_eq_false c15; clear c15; simp only [Option.some.injEq, Prod.mk.injEq] at H; obtain ⟨rfl, rfl, rfl⟩ := H; obtain ⟨Ao20, co20, eo20⟩ := Kd.R_slice HO_3.out; subst eo20
        go_wp2_with (first | ((with_reducible refine gate_callee (f := 86) rfl ?_); refine ga_ (some 22) Tryd.func86 #[.pointer (some ⟨g, 0, none⟩), .int .i64 2] ?_; (with_reducible refine (spec_l1Cur_pick.calls g s0_0 x1001_2 x1002_2 2 t668 t669 t670 w0 _ ?side1 ?side2 A14.out).mono ?_); (case side1 => exact is99_0 HI0.out); (case side2 => exact lb1_ HB.out (IsS99.ge HI0.out)); rintro e w21 ⟨rfl, hi, hb, hk⟩; refine ⟨_, rfl, ?_⟩; replace HO_3 := Aside0.mk (Kd.R_mono (Kd.R_keep (IsS99.apart (show IsS99 w0 _ g s0_0 x1001_2 x1002_2 from is99_0 HI0.out) (kr_ HO_3.out) (by decide)) hk (fun _ h => h.2)) (fun _ h => h.1)); replace HK := Aside0.mk (KeepBut.trans (kb0_ HK.out) hk (.inl rfl)); replace HB := Aside0.mk (hb); replace HI0 := Aside0.mk (hi); (try clear hb); (try clear hb2); (try clear hk); (try clear hi)))
        go_ret
        exact ⟨_, rr_, kr_ HO_3.out, is99_0 HI0.out, lb1_ HB.out (IsS99.ge HI0.out), kb0_ HK.out⟩
    ·
     replace c12 := Bool.eq_false_iff.mpr c12
     subst c12
     have H1 : (some (x3_1, t666, t667)) = some (r1, r2, r3) := by rw [if_neg (show ¬ (false = true) by decide)] at H; exact H
     clear H
     have H := H1
     clear H1
     simp only [Option.some.injEq, Prod.mk.injEq] at H
     obtain ⟨rfl, rfl, rfl⟩ := H
     go_wp2_with (first | ((with_reducible refine gate_callee (f := 87) rfl ?_); refine ga_ (some 18) Tryd.func87 #[.pointer (some ⟨g, 0, none⟩), .int .i64 24] ?_; (with_reducible refine (spec_l1Cur_one.calls g s0_0 x1001_1 x1002_1 24 false t666 t667 w0 _ ?side1 ?side2 A11.out).mono ?_); (case side1 => exact is99_0 HI0.out); (case side2 => exact lb1_ HB.out (IsS99.ge HI0.out)); rintro e w22 ⟨rfl, hi, hb, hk⟩; refine ⟨_, rfl, ?_⟩; replace HO_3 := Aside0.mk (Kd.R_mono (Kd.R_keep (IsS99.apart (show IsS99 w0 _ g s0_0 x1001_1 x1002_1 from is99_0 HI0.out) (kr_ HO_3.out) (by decide)) hk (fun _ h => h.2)) (fun _ h => h.1)); replace HK := Aside0.mk (KeepBut.trans (kb0_ HK.out) hk (.inl rfl)); replace HB := Aside0.mk (hb); replace HI0 := Aside0.mk (hi); (try clear hb); (try clear hb2); (try clear hk); (try clear hi)))
     go_ret
     exact ⟨_, rr_, kr_ HO_3.out, is99_0 HI0.out, lb1_ HB.out (IsS99.ge HI0.out), kb0_ HK.out⟩
def spec_DrawAreLabels.f (k : Nat) (l0 : List Int) : Option ((List (S29))) := (spec_newCur.f l0).bind fun bt781 => ((spec_l1Cur_labels24.f k bt781.1 bt781.2.1 bt781.2.2).bind fun bt785 => (some bt785.1))
set_option maxHeartbeats 8000000 in
set_option maxRecDepth 100000 in
theorem spec_DrawAreLabels.calls (k : Nat) (A0 : Option Addr) (c0 : Nat) (l0 : List Int) (r : List (S29)) (w : World) (hr0 : Kd.C (Kd.int .u8) w A0 l0.length l0) (hc0 : l0.length ≤ c0) (h : spec_DrawAreLabels.f k l0 = some r) :
  Calls Tryd.prog 93 #[.slice A0 l0.length c0] w fun e w' => ∃ v0_ : Value, e = .returned (v0_) ∧ Kd.R k29 29 w' w.heap.size (fun _ => True) v0_ r ∧ Below w.heap.size w w' := by
 have hu99 := Tryd.underlying99
 have HR0 := Aside0.mk hr0
 have HC0 := Aside0.mk hc0
 clear hr0 hc0
 have HB := Aside0.mk (Below.refl w.heap.size w)
 have H : ((spec_newCur.f l0).bind fun bt781 => ((spec_l1Cur_labels24.f k bt781.1 bt781.2.1 bt781.2.2).bind fun bt785 => (some bt785.1))) = some r := h
 clear h
 replace H := Option.bind_eq_some_iff.mp H
 obtain ⟨⟨t781, t782, t783⟩, A20, H⟩ := H
 replace H : ((spec_l1Cur_labels24.f k t781 t782 t783).bind fun bt785 => (some bt785.1)) = some r := H
 have A2 := Aside0.mk A20
 clear A20
 replace H := Option.bind_eq_some_iff.mp H
 obtain ⟨⟨t785, t788, t789⟩, A30, H⟩ := H
 replace H : (some t785) = some r := H
 have A3 := Aside0.mk A30
 clear A30
 obtain rfl := Option.some.inj H
 go_enter Tryd.func93, Tryd.ntmps93
 go_wp2_with (first | ((with_reducible refine gate_dst (N := 6) rfl ?_); refine box_event ?hg (N := 6) ?hd (cs := #[.slice A0 l0.length c0, .int .i64 0, .int .u64 0]) (t := 99) ?hr ?_; (case hd => rfl); (case hg => rfl); (case hr => first | (go_simp; done) | (go_simp; rfl)); intro g784 hg w4 hbx hb2; have hb := below_step (lb0_ HB.out) hb2; have hi : IsS99 w w4 g784 t781 t782 t783 := (by have hz_ := A2.out; simp only [spec_newCur.f, Option.some.injEq, Prod.mk.injEq] at hz_; rw [← hz_.1, ← hz_.2.1, ← hz_.2.2]; exact ⟨_, _, hbx, (bz_ hg (lb0_ HB.out)), HR0.out⟩); clear hg hbx; replace HB := Aside0.mk (hb); have HI784 := Aside0.mk (hi); (try clear hb); (try clear hb2); (try clear hk); (try clear hi)) | ((with_reducible refine gate_callee (f := 85) rfl ?_); refine ga_ (some 8) Tryd.func85 #[.pointer (some ⟨g784, 0, none⟩)] ?_; (with_reducible refine (spec_l1Cur_labels24.calls k g784 t781 t782 t783 t785 t788 t789 w _ ?side1 ?side2 A3.out).mono ?_); (case side1 => exact is99_0 HI784.out); (case side2 => exact lb1_ HB.out (IsS99.ge HI784.out)); rintro e w5 ⟨v786, rfl, ho0, hi, hb, hk⟩; refine ⟨_, rfl, ?_⟩; have HO787 := Aside0.mk (Kd.R_lower ho0 (below_size (lb1_ HB.out (IsS99.ge HI784.out)))); replace HB := Aside0.mk (hb); replace HI784 := Aside0.mk (hi); (try clear hb); (try clear hb2); (try clear hk); (try clear hi); (try clear ho0)))
 go_ret
 exact ⟨_, rr_, kr_ HO787.out, lb1_ HB.out (IsS99.ge HI784.out)⟩
def spec_DrawMostPlaced.f (k : Nat) (l0 : List Int) : Option ((List (S29))) := (spec_DrawAreLabels.f k l0).bind fun t790 => (some t790)
set_option maxHeartbeats 8000000 in
set_option maxRecDepth 100000 in
theorem spec_DrawMostPlaced.calls (k : Nat) (A0 : Option Addr) (c0 : Nat) (l0 : List Int) (r : List (S29)) (w : World) (hr0 : Kd.C (Kd.int .u8) w A0 l0.length l0) (hc0 : l0.length ≤ c0) (h : spec_DrawMostPlaced.f k l0 = some r) :
  Calls Tryd.prog 52 #[.slice A0 l0.length c0] w fun e w' => ∃ v0_ : Value, e = .returned (v0_) ∧ Kd.R k29 29 w' w.heap.size (fun _ => True) v0_ r ∧ Below w.heap.size w w' := by
 have HR0 := Aside0.mk hr0
 have HC0 := Aside0.mk hc0
 clear hr0 hc0
 have HB := Aside0.mk (Below.refl w.heap.size w)
 have H : ((spec_DrawAreLabels.f k l0).bind fun t790 => (some t790)) = some r := h
 clear h
 replace H := Option.bind_eq_some_iff.mp H
 obtain ⟨t790, A20, H⟩ := H
 replace H : (some t790) = some r := H
 have A2 := Aside0.mk A20
 clear A20
 obtain rfl := Option.some.inj H
 go_enter Tryd.func52, Tryd.ntmps52
 go_wp2_with (first | ((with_reducible refine gate_callee (f := 93) rfl ?_); refine ga_ (some 4) Tryd.func93 #[.slice A0 l0.length c0] ?_; (with_reducible refine (spec_DrawAreLabels.calls k _ _ l0 t790 _ ?side1 ?side2 A2.out).mono ?_); (case side1 => exact kc_ HR0.out); (case side2 => exact HC0.out); rintro e w3 ⟨v791, rfl, ho0, hb⟩; refine ⟨_, rfl, ?_⟩; have HO792 := Aside0.mk (Kd.R_lower ho0 (below_size (lb0_ HB.out))); replace HB := Aside0.mk (below_step (lb0_ HB.out) hb); (try clear hb); (try clear hb2); (try clear hk); (try clear hi); (try clear ho0)))
 go_ret
 exact ⟨_, rr_, kr_ HO792.out, lb0_ HB.out⟩
def spec_DrawWaysOf.f (k : Nat) (l0 : List Int) : Option ((List (S29)) × Int) := (spec_newCur.f l0).bind fun bt793 => ((spec_l1Cur_labels24.f k bt793.1 bt793.2.1 bt793.2.2).bind fun bt797 => ((spec_l1Cur_pick.f bt793.1 bt797.2.1 bt797.2.2 (wrap64 ((bt797.1.length : Int) + 1))).bind fun bt802 => ((spec_l1Cur_pick.f bt793.1 bt802.2.1 bt802.2.2 20).bind fun bt805 => (some (bt797.1, wrap64 (bt802.1 - (wrap64 (Int.tdiv bt805.1 19))))))))
set_option maxHeartbeats 8000000 in
set_option maxRecDepth 100000 in
theorem spec_DrawWaysOf.calls (k : Nat) (A0 : Option Addr) (c0 : Nat) (l0 : List Int) (r1 : List (S29)) (r2 : Int) (w : World) (hr0 : Kd.C (Kd.int .u8) w A0 l0.length l0) (hc0 : l0.length ≤ c0) (h : spec_DrawWaysOf.f k l0 = some (r1, r2)) :
  Calls Tryd.prog 53 #[.slice A0 l0.length c0] w fun e w' => ∃ v0_ : Value, e = .returned (.tuple #[v0_, .int .i64 r2]) ∧ Kd.R k29 29 w' w.heap.size (fun _ => True) v0_ r1 ∧ Below w.heap.size w w' := by
 have hu99 := Tryd.underlying99
 have HR0 := Aside0.mk hr0
 have HC0 := Aside0.mk hc0
 clear hr0 hc0
 have HB := Aside0.mk (Below.refl w.heap.size w)
 have H : ((spec_newCur.f l0).bind fun bt793 => ((spec_l1Cur_labels24.f k bt793.1 bt793.2.1 bt793.2.2).bind fun bt797 => ((spec_l1Cur_pick.f bt793.1 bt797.2.1 bt797.2.2 (wrap64 ((bt797.1.length : Int) + 1))).bind fun bt802 => ((spec_l1Cur_pick.f bt793.1 bt802.2.1 bt802.2.2 20).bind fun bt805 => (some (bt797.1, wrap64 (bt802.1 - (wrap64 (Int.tdiv bt805.1 19))))))))) = some (r1, r2) := h
 clear h
 replace H := Option.bind_eq_some_iff.mp H
 obtain ⟨⟨t793, t794, t795⟩, A20, H⟩ := H
 replace H : ((spec_l1Cur_labels24.f k t793 t794 t795).bind fun bt797 => ((spec_l1Cur_pick.f t793 bt797.2.1 bt797.2.2 (wrap64 ((bt797.1.length : Int) + 1))).bind fun bt802 => ((spec_l1Cur_pick.f t793 bt802.2.1 bt802.2.2 20).bind fun bt805 => (some (bt797.1, wrap64 (bt802.1 - (wrap64 (Int.tdiv bt805.1 19)))))))) = some (r1, r2) := H
 have A2 := Aside0.mk A20
 clear A20
 replace H := Option.bind_eq_some_iff.mp H
 obtain ⟨⟨t797, t800, t801⟩, A30, H⟩ := H
 replace H : ((spec_l1Cur_pick.f t793 t800 t801 (wrap64 ((t797.length : Int) + 1))).bind fun bt802 => ((spec_l1Cur_pick.f t793 bt802.2.1 bt802.2.2 20).bind fun bt805 => (some (t797, wrap64 (bt802.1 - (wrap64 (Int.tdiv bt805.1 19))))))) = some (r1, r2) := H
 have A3 := Aside0.mk A30
 clear A30
 replace H := Option.bind_eq_some_iff.mp H
 obtain ⟨⟨t802, t803, t804⟩, A40, H⟩ := H
 replace H : ((spec_l1Cur_pick.f t793 t803 t804 20).bind fun bt805 => (some (t797, wrap64 (t802 - (wrap64 (Int.tdiv bt805.1 19)))))) = some (r1, r2) := H
 have A4 := Aside0.mk A40
 clear A40
 replace H := Option.bind_eq_some_iff.mp H
 obtain ⟨⟨t805, t806, t807⟩, A50, H⟩ := H
 replace H : (some (t797, wrap64 (t802 - (wrap64 (Int.tdiv t805 19))))) = some (r1, r2) := H
 have A5 := Aside0.mk A50
 clear A50
 simp only [Option.some.injEq, Prod.mk.injEq] at H
 obtain ⟨rfl, rfl⟩ := H
 go_enter Tryd.func53, Tryd.ntmps53
 go_wp2_with (first | ((with_reducible refine gate_dst (N := 8) rfl ?_); refine box_event ?hg (N := 8) ?hd (cs := #[.slice A0 l0.length c0, .int .i64 0, .int .u64 0]) (t := 99) ?hr ?_; (case hd => rfl); (case hg => rfl); (case hr => first | (go_simp; done) | (go_simp; rfl)); intro g796 hg w6 hbx hb2; have hb := below_step (lb0_ HB.out) hb2; have hi : IsS99 w w6 g796 t793 t794 t795 := (by have hz_ := A2.out; simp only [spec_newCur.f, Option.some.injEq, Prod.mk.injEq] at hz_; rw [← hz_.1, ← hz_.2.1, ← hz_.2.2]; exact ⟨_, _, hbx, (bz_ hg (lb0_ HB.out)), HR0.out⟩); clear hg hbx; replace HB := Aside0.mk (hb); have HI796 := Aside0.mk (hi); (try clear hb); (try clear hb2); (try clear hk); (try clear hi)) | ((with_reducible refine gate_callee (f := 85) rfl ?_); refine ga_ (some 10) Tryd.func85 #[.pointer (some ⟨g796, 0, none⟩)] ?_; (with_reducible refine (spec_l1Cur_labels24.calls k g796 t793 t794 t795 t797 t800 t801 w _ ?side1 ?side2 A3.out).mono ?_); (case side1 => exact is99_0 HI796.out); (case side2 => exact lb1_ HB.out (IsS99.ge HI796.out)); rintro e w7 ⟨v798, rfl, ho0, hi, hb, hk⟩; refine ⟨_, rfl, ?_⟩; have HO799 := Aside0.mk (Kd.R_lower ho0 (below_size (lb1_ HB.out (IsS99.ge HI796.out)))); replace HB := Aside0.mk (hb); replace HI796 := Aside0.mk (hi); (try clear hb); (try clear hb2); (try clear hk); (try clear hi); (try clear ho0); obtain ⟨Ao8, co8, eo8⟩ := Kd.R_slice HO799.out; subst eo8) | ((with_reducible refine gate_callee (f := 86) rfl ?_); refine ga_ (some 16) Tryd.func86 #[.pointer (some ⟨g796, 0, none⟩), .int .i64 (wrap64 ((t797.length : Int) + 1))] ?_; (with_reducible refine (spec_l1Cur_pick.calls g796 t793 t800 t801 (wrap64 ((t797.length : Int) + 1)) t802 t803 t804 w _ ?side1 ?side2 A4.out).mono ?_); (case side1 => exact is99_0 HI796.out); (case side2 => exact lb1_ HB.out (IsS99.ge HI796.out)); rintro e w9 ⟨rfl, hi, hb, hk⟩; refine ⟨_, rfl, ?_⟩; replace HO799 := Aside0.mk (Kd.R_mono (Kd.R_keep (IsS99.apart (show IsS99 w _ g796 t793 t800 t801 from is99_0 HI796.out) (kr_ HO799.out) (by decide)) hk (fun _ h => h.2)) (fun _ h => h.1)); replace HB := Aside0.mk (hb); replace HI796 := Aside0.mk (hi); (try clear hb); (try clear hb2); (try clear hk); (try clear hi)) | ((with_reducible refine gate_callee (f := 86) rfl ?_); refine ga_ (some 18) Tryd.func86 #[.pointer (some ⟨g796, 0, none⟩), .int .i64 20] ?_; (with_reducible refine (spec_l1Cur_pick.calls g796 t793 t803 t804 20 t805 t806 t807 w _ ?side1 ?side2 A5.out).mono ?_); (case side1 => exact is99_0 HI796.out); (case side2 => exact lb1_ HB.out (IsS99.ge HI796.out)); rintro e w10 ⟨rfl, hi, hb, hk⟩; refine ⟨_, rfl, ?_⟩; replace HO799 := Aside0.mk (Kd.R_mono (Kd.R_keep (IsS99.apart (show IsS99 w _ g796 t793 t803 t804 from is99_0 HI796.out) (kr_ HO799.out) (by decide)) hk (fun _ h => h.2)) (fun _ h => h.1)); replace HB := Aside0.mk (hb); replace HI796 := Aside0.mk (hi); (try clear hb); (try clear hb2); (try clear hk); (try clear hi)))
 go_ret2
 exact ⟨_, rr_, kr_ HO799.out, lb1_ HB.out (IsS99.ge HI796.out)⟩
end Go.Proofs.YtjkcfpmonpkhhaaDoor.Pr

namespace Go.Proofs.YtjkcfpmonpkhhaaDoor.Pr
open Go.RowKit Go.Proofs.YtjkcfpmonpkhhaaDoorW.PrintWords Go.Proofs.YtjkcfpmonpkhhaaDoorW.PrintLast Go.Proofs.YtjkcfpmonpkhhaaDoorW.PrintMore
attribute [local go_sem] max2_int min2_int max_two min_two max_three min_three max_four min_four   -- for this text's walks alone
set_option linter.unusedVariables false
set_option linter.unusedSimpArgs false
attribute [local go_sem high] eqA26
mutual
def laws_FnLabelBoxes.j0 : Nat → List Int → Bool → Option (Bool)
 | 0, _, _ => none
 | k + 1, x0, x75 => if x75 = true then (none) else ((spec_DrawDoMeet.f x0).bind fun bt826 => ((impl_DoMeet.f bt826.1 bt826.2.1 bt826.2.2.1 bt826.2.2.2.1 bt826.2.2.2.2.1 bt826.2.2.2.2.2.1 bt826.2.2.2.2.2.2.1 bt826.2.2.2.2.2.2.2).bind fun bt836 => ((impl_DoMeet.f bt826.2.2.2.2.1 bt826.2.2.2.2.2.1 bt826.2.2.2.2.2.2.1 bt826.2.2.2.2.2.2.2 bt826.1 bt826.2.1 bt826.2.2.1 bt826.2.2.2.1).bind fun bt838 => ((spec_DoMeet.f bt826.1 bt826.2.1 bt826.2.2.1 bt826.2.2.2.1 bt826.2.2.2.2.1 bt826.2.2.2.2.2.1 bt826.2.2.2.2.2.2.1 bt826.2.2.2.2.2.2.2).bind fun bt840 => (if (bt836.1 != bt840.1) = true then (laws_FnLabelBoxes.j1 k x0 true) else (if (bt836.2 != bt840.2) = true then (laws_FnLabelBoxes.j1 k x0 true) else (if (bt838.1 != bt836.1) = true then (laws_FnLabelBoxes.j1 k x0 true) else (laws_FnLabelBoxes.j1 k x0 (bt838.2 != bt836.2)))))))))
def laws_FnLabelBoxes.j1 : Nat → List Int → Bool → Option (Bool)
 | 0, _, _ => none
 | k + 1, x0, x116 => if x116 = true then (none) else ((spec_DrawMostPlaced.f k x0).bind fun t842 => ((impl_MostPlaced.f k t842).bind fun bt845 => ((spec_MostPlaced.f k t842).bind fun bt849 => (if (bt845.2 != bt849.2) = true then (laws_FnLabelBoxes.j2 k x0 t842 bt845.1 bt845.2 true) else ((laws_rInts.f k bt845.1 bt849.1).bind fun t853 => (laws_FnLabelBoxes.j2 k x0 t842 bt845.1 bt845.2 (!t853)))))))
def laws_FnLabelBoxes.j2 : Nat → List Int → List (S29) → List Int → Bool → Bool → Option (Bool)
 | 0, _, _, _, _, _ => none
 | k + 1, x0, x17, x18, x19, x137 => if x137 = true then (none) else ((impl_FirstPlacing.f k x17).bind fun bt854 => (if x19 = true then (laws_FnLabelBoxes.j3 k x0 x17 x18 (bt854.2 != ((x18.length : Int) == (x17.length : Int)))) else (laws_FnLabelBoxes.j3 k x0 x17 x18 false)))
def laws_FnLabelBoxes.j3 : Nat → List Int → List (S29) → List Int → Bool → Option (Bool)
 | 0, _, _, _, _ => none
 | k + 1, x0, x17, x18, x152 => if x152 = true then (none) else (laws_FnLabelBoxes.l0 k x0 x17 x18 0)
def laws_FnLabelBoxes.l0 : Nat → List Int → List (S29) → List Int → Int → Option (Bool)
 | 0, _, _, _, _ => none
 | k + 1, x0, x17, x18, x24 => if x24 < (x18.length : Int) then (if 0 ≤ x24 then ((impl_WaysOf.f k x17 (rd x18 x24)).bind fun bt859 => (if bt859.2 = true then (if (bt859.1.length : Int) = 0 then (none) else (laws_FnLabelBoxes.l0 k x0 x17 x18 (wrap64 (x24 + 1)))) else (none))) else (none)) else ((spec_DrawWaysOf.f k x0).bind fun bt863 => ((impl_WaysOf.f k bt863.1 bt863.2).bind fun bt867 => ((spec_WaysOf.f k bt863.1 bt863.2).bind fun bt871 => (if (bt867.2 == bt871.2) = true then ((laws_rInts.f k bt867.1 bt871.1).bind fun t875 => (some t875)) else (none)))))
end
def laws_FnLabelBoxes.f (k : Nat) (l0 : List Int) : Option (Bool) := (laws_rBig.f l0).bind fun t808 => (if t808 = true then (some true) else ((spec_DrawBoxFor.f l0).bind fun bt809 => ((impl_BoxFor.f bt809.1 bt809.2.1 bt809.2.2.1 bt809.2.2.2).bind fun bt814 => ((spec_BoxFor.f k bt809.1 bt809.2.1 bt809.2.2.1 bt809.2.2.2).bind fun bt820 => (if (!(bt814.1 == bt820.1) || (!(bt814.2.1 == bt820.2.1) || (!(bt814.2.2.1 == bt820.2.2.1) || (!(bt814.2.2.2.1 == bt820.2.2.2.1))))) = true then (laws_FnLabelBoxes.j0 k l0 true) else (if (bt814.2.2.2.2 != bt820.2.2.2.2) = true then (laws_FnLabelBoxes.j0 k l0 true) else (if bt814.2.2.2.2 = true then (if bt814.2.2.1 = (bt809.1.size : Int) then (laws_FnLabelBoxes.j0 k l0 (bt814.2.2.2.1 != 2)) else (laws_FnLabelBoxes.j0 k l0 true)) else (laws_FnLabelBoxes.j0 k l0 false))))))))
set_option maxHeartbeats 64000000 in
set_option maxRecDepth 100000 in
theorem laws_FnLabelBoxes.calls (k : Nat) (A0 : Option Addr) (c0 : Nat) (l0 : List Int) (r : Bool) (w : World) (hr0 : Kd.C (Kd.int .u8) w A0 l0.length l0) (hc0 : l0.length ≤ c0) (h : laws_FnLabelBoxes.f k l0 = some r) :
  Calls Tryd.prog 12 #[.slice A0 l0.length c0] w fun e w' => e = .returned (.bool r) ∧ Below w.heap.size w w' := by
 have hu29 := Tryd.underlying29
 have hu26 := Tryd.underlying26
 have HR0 := Aside0.mk hr0
 have HC0 := Aside0.mk hc0
 clear hr0 hc0
 have HB := Aside0.mk (Below.refl w.heap.size w)
 have H : ((laws_rBig.f l0).bind fun t808 => (if t808 = true then (some true) else ((spec_DrawBoxFor.f l0).bind fun bt809 => ((impl_BoxFor.f bt809.1 bt809.2.1 bt809.2.2.1 bt809.2.2.2).bind fun bt814 => ((spec_BoxFor.f k bt809.1 bt809.2.1 bt809.2.2.1 bt809.2.2.2).bind fun bt820 => (if (!(bt814.1 == bt820.1) || (!(bt814.2.1 == bt820.2.1) || (!(bt814.2.2.1 == bt820.2.2.1) || (!(bt814.2.2.2.1 == bt820.2.2.2.1))))) = true then (laws_FnLabelBoxes.j0 k l0 true) else (if (bt814.2.2.2.2 != bt820.2.2.2.2) = true then (laws_FnLabelBoxes.j0 k l0 true) else (if bt814.2.2.2.2 = true then (if bt814.2.2.1 = (bt809.1.size : Int) then (laws_FnLabelBoxes.j0 k l0 (bt814.2.2.2.1 != 2)) else (laws_FnLabelBoxes.j0 k l0 true)) else (laws_FnLabelBoxes.j0 k l0 false))))))))) = some r := h
 clear h
 replace H := Option.bind_eq_some_iff.mp H
 obtain ⟨t808, A20, H⟩ := H
 replace H : (if t808 = true then (some true) else ((spec_DrawBoxFor.f l0).bind fun bt809 => ((impl_BoxFor.f bt809.1 bt809.2.1 bt809.2.2.1 bt809.2.2.2).bind fun bt814 => ((spec_BoxFor.f k bt809.1 bt809.2.1 bt809.2.2.1 bt809.2.2.2).bind fun bt820 => (if (!(bt814.1 == bt820.1) || (!(bt814.2.1 == bt820.2.1) || (!(bt814.2.2.1 == bt820.2.2.1) || (!(bt814.2.2.2.1 == bt820.2.2.2.1))))) = true then (laws_FnLabelBoxes.j0 k l0 true) else (if (bt814.2.2.2.2 != bt820.2.2.2.2) = true then (laws_FnLabelBoxes.j0 k l0 true) else (if bt814.2.2.2.2 = true then (if bt814.2.2.1 = (bt809.1.size : Int) then (laws_FnLabelBoxes.j0 k l0 (bt814.2.2.2.1 != 2)) else (laws_FnLabelBoxes.j0 k l0 true)) else (laws_FnLabelBoxes.j0 k l0 false)))))))) = some r := H
 have A2 := Aside0.mk A20
 clear A20
 by_cases c3 : t808 = true
 ·
  subst c3
  have H1 : (some true) = some r := by rw [if_pos rfl] at H; exact H
  clear H
  have H := H1
  clear H1
  obtain rfl := Option.some.inj H
  go_enter Tryd.func12, Tryd.ntmps12
  go_wp2_with (first | ((with_reducible refine gate_callee (f := 43) rfl ?_); refine ga_ (some 34) Tryd.func43 #[.slice A0 l0.length c0] ?_; (with_reducible refine (laws_rBig.calls _ _ l0 true _ ?side1 ?side2 A2.out).mono ?_); (case side1 => exact kc_ HR0.out); (case side2 => exact HC0.out); rintro e w' ⟨rfl, ⟨nd, rfl⟩⟩; refine ⟨_, rfl, ?_⟩))
  go_ret
  exact ⟨rr_, lb0_ HB.out⟩
 ·
  replace c3 := Bool.eq_false_iff.mpr c3
  subst c3
  have H1 : ((spec_DrawBoxFor.f l0).bind fun bt809 => ((impl_BoxFor.f bt809.1 bt809.2.1 bt809.2.2.1 bt809.2.2.2).bind fun bt814 => ((spec_BoxFor.f k bt809.1 bt809.2.1 bt809.2.2.1 bt809.2.2.2).bind fun bt820 => (if (!(bt814.1 == bt820.1) || (!(bt814.2.1 == bt820.2.1) || (!(bt814.2.2.1 == bt820.2.2.1) || (!(bt814.2.2.2.1 == bt820.2.2.2.1))))) = true then (laws_FnLabelBoxes.j0 k l0 true) else (if (bt814.2.2.2.2 != bt820.2.2.2.2) = true then (laws_FnLabelBoxes.j0 k l0 true) else (if bt814.2.2.2.2 = true then (if bt814.2.2.1 = (bt809.1.size : Int) then (laws_FnLabelBoxes.j0 k l0 (bt814.2.2.2.1 != 2)) else (laws_FnLabelBoxes.j0 k l0 true)) else (laws_FnLabelBoxes.j0 k l0 false))))))) = some r := by rw [if_neg (show ¬ (false = true) by decide)] at H; exact H
  clear H
  have H := H1
  clear H1
  replace H := Option.bind_eq_some_iff.mp H
  obtain ⟨⟨t809, t810, t811, t812⟩, A40, H⟩ := H
  replace H : ((impl_BoxFor.f t809 t810 t811 t812).bind fun bt814 => ((spec_BoxFor.f k t809 t810 t811 t812).bind fun bt820 => (if (!(bt814.1 == bt820.1) || (!(bt814.2.1 == bt820.2.1) || (!(bt814.2.2.1 == bt820.2.2.1) || (!(bt814.2.2.2.1 == bt820.2.2.2.1))))) = true then (laws_FnLabelBoxes.j0 k l0 true) else (if (bt814.2.2.2.2 != bt820.2.2.2.2) = true then (laws_FnLabelBoxes.j0 k l0 true) else (if bt814.2.2.2.2 = true then (if bt814.2.2.1 = (t809.size : Int) then (laws_FnLabelBoxes.j0 k l0 (bt814.2.2.2.1 != 2)) else (laws_FnLabelBoxes.j0 k l0 true)) else (laws_FnLabelBoxes.j0 k l0 false)))))) = some r := H
  have A4 := Aside0.mk A40
  clear A40
  replace H := Option.bind_eq_some_iff.mp H
  obtain ⟨⟨t814, t815, t816, t817, t818⟩, A50, H⟩ := H
  replace H : ((spec_BoxFor.f k t809 t810 t811 t812).bind fun bt820 => (if (!(t814 == bt820.1) || (!(t815 == bt820.2.1) || (!(t816 == bt820.2.2.1) || (!(t817 == bt820.2.2.2.1))))) = true then (laws_FnLabelBoxes.j0 k l0 true) else (if (t818 != bt820.2.2.2.2) = true then (laws_FnLabelBoxes.j0 k l0 true) else (if t818 = true then (if t816 = (t809.size : Int) then (laws_FnLabelBoxes.j0 k l0 (t817 != 2)) else (laws_FnLabelBoxes.j0 k l0 true)) else (laws_FnLabelBoxes.j0 k l0 false))))) = some r := H
  have A5 := Aside0.mk A50
  clear A50
  replace H := Option.bind_eq_some_iff.mp H
  obtain ⟨⟨t820, t821, t822, t823, t824⟩, A60, H⟩ := H
  replace H : (if (!(t814 == t820) || (!(t815 == t821) || (!(t816 == t822) || (!(t817 == t823))))) = true then (laws_FnLabelBoxes.j0 k l0 true) else (if (t818 != t824) = true then (laws_FnLabelBoxes.j0 k l0 true) else (if t818 = true then (if t816 = (t809.size : Int) then (laws_FnLabelBoxes.j0 k l0 (t817 != 2)) else (laws_FnLabelBoxes.j0 k l0 true)) else (laws_FnLabelBoxes.j0 k l0 false)))) = some r := H
  have A6 := Aside0.mk A60
  clear A60
  have HC7 := Aside0.mk H
  clear H
  go_enter Tryd.func12, Tryd.ntmps12
  go_upto_region 6 with (first | ((with_reducible refine gate_callee (f := 43) rfl ?_); refine ga_ (some 34) Tryd.func43 #[.slice A0 l0.length c0] ?_; (with_reducible refine (laws_rBig.calls _ _ l0 false _ ?side1 ?side2 A2.out).mono ?_); (case side1 => exact kc_ HR0.out); (case side2 => exact HC0.out); rintro e w' ⟨rfl, ⟨nd, rfl⟩⟩; refine ⟨_, rfl, ?_⟩) | ((with_reducible refine gate_callee (f := 48) rfl ?_); refine ga_ (some 37) Tryd.func48 #[.slice A0 l0.length c0] ?_; (with_reducible refine (spec_DrawBoxFor.calls _ _ l0 t809 t810 t811 t812 _ ?side1 ?side2 A4.out).mono ?_); (case side1 => exact kc_ HR0.out); (case side2 => exact HC0.out); rintro e w8 ⟨rfl, hb⟩; refine ⟨_, rfl, ?_⟩; replace HB := Aside0.mk (below_step (lb0_ HB.out) hb); (try clear hb); (try clear hb2); (try clear hk); (try clear hi)) | ((with_reducible refine gate_dst (N := 3) rfl ?_); (try (refine gate_guard (by rfl) ?_; dsimp only)); refine box_event ?hg (N := 3) ?hd (cs := #[.string (⟨#[]⟩ : ByteArray), .int .i64 0, .int .i64 0]) (t := 29) ?hr ?_; (case hd => rfl); (case hg => rfl); (case hr => first | (go_simp; done) | (go_simp; rfl)); intro gb813 hg w9 hbox hb; have BK813 := Aside0.mk (hbox); have GW813 := Aside0.mk ((bz_ hg (lb0_ HB.out))); have GE813 := Aside0.mk ((bz_ hg (lb0_ HB.out))); replace HB := Aside0.mk (below_step (lb0_ HB.out) hb); clear hb hbox hg; obtain ⟨hcz10_0, hcz10_1, hcz10_2⟩ := cz3_ BK813.out; obtain ⟨hfz10_0, hfz10_1, hfz10_2⟩ := fz3_ BK813.out) | ((with_reducible refine gate_callee (f := 16) rfl ?_); refine ga_ (some 43) Tryd.func16 #[.agg #[.string t809, .int .i64 t810, .int .i64 t811], .int .i64 t812] ?_; (with_reducible refine (impl_BoxFor.calls t809 t810 t811 t812 t814 t815 t816 t817 t818 _ A5.out).mono ?_); rintro e w11 ⟨rfl, hb⟩; refine ⟨_, rfl, ?_⟩; replace BK813 := Aside0.mk (blk_below (g := gb813) (o := .cells #[.string t809, .int .i64 t810, .int .i64 t811] 29 (0, 0)) (by (with_reducible repeat (first | refine blk_drewN ?_ _ | refine blk_drew ?_ | refine blk_alloc ?_ _)); exact (p3_ BK813.out _ _ _)) hb); replace HB := Aside0.mk (below_step (lb1_ HB.out GE813.out) hb); (try clear hb); (try clear hb2); (try clear hk); (try clear hi)) | ((with_reducible refine gate_dst (N := 5) rfl ?_); (try (refine gate_guard (by rfl) ?_; dsimp only)); refine box_event ?hg (N := 5) ?hd (cs := #[.int .i64 0, .int .i64 0, .int .i64 0, .int .i64 0]) (t := 26) ?hr ?_; (case hd => rfl); (case hg => rfl); (case hr => first | (go_simp; done) | (go_simp; rfl)); intro gb819 hg w12 hbox hb; have BK819 := Aside0.mk (hbox); have GW819 := Aside0.mk ((bz_ hg (lb1_ HB.out GE813.out))); have GE819 := Aside0.mk ((bz_ hg (lb1_ HB.out GE813.out))); replace HB := Aside0.mk (below_step (lb1_ HB.out GE813.out) hb); have NB813_819 := Aside0.mk (nl_ hg BK813.out); have NB819_813 := Aside0.mk (ng_ hg BK813.out); replace BK813 := Aside0.mk (bb_ (bk_ BK813.out) hb); clear hb hbox hg; have hnb13 := NB819_813.out; have hnc13 := NB813_819.out; obtain ⟨hcz14_0, hcz14_1, hcz14_2, hcz14_3⟩ := cz4_ BK819.out; obtain ⟨hfz14_0, hfz14_1, hfz14_2, hfz14_3⟩ := fz4_ BK819.out; obtain ⟨hcz15_0, hcz15_1, hcz15_2⟩ := cz3_ BK813.out; obtain ⟨hfz15_0, hfz15_1, hfz15_2⟩ := fz3_ BK813.out) | ((with_reducible refine gate_callee (f := 14) rfl ?_); refine ga_ (some 49) Tryd.func14 #[.agg #[.string t809, .int .i64 t810, .int .i64 t811], .int .i64 t812] ?_; (with_reducible refine (spec_BoxFor.calls k t809 t810 t811 t812 t820 t821 t822 t823 t824 _ A6.out).mono ?_); rintro e w16 ⟨rfl, hb⟩; refine ⟨_, rfl, ?_⟩; replace BK813 := Aside0.mk (blk_below (g := gb813) (o := .cells #[.string t809, .int .i64 t810, .int .i64 t811] 29 (0, 0)) (by (with_reducible repeat (first | refine blk_drewN ?_ _ | refine blk_drew ?_ | refine blk_alloc ?_ _)); exact (f4_ BK813.out NB813_819.out _ _ _ _)) hb); replace BK819 := Aside0.mk (blk_below (g := gb819) (o := .cells #[.int .i64 t814, .int .i64 t815, .int .i64 t816, .int .i64 t817] 26 (0, 0)) (by (with_reducible repeat (first | refine blk_drewN ?_ _ | refine blk_drew ?_ | refine blk_alloc ?_ _)); exact (p4_ BK819.out _ _ _ _)) hb); replace HB := Aside0.mk (below_step (lb2_ HB.out GE813.out GE819.out) hb); (try clear hb); (try clear hb2); (try clear hk); (try clear hi)) | ((with_reducible refine gate_dst (N := 7) rfl ?_); (try (refine gate_guard (by rfl) ?_; dsimp only)); refine box_event ?hg (N := 7) ?hd (cs := #[.int .i64 0, .int .i64 0, .int .i64 0, .int .i64 0]) (t := 26) ?hr ?_; (case hd => rfl); (case hg => rfl); (case hr => first | (go_simp; done) | (go_simp; rfl)); intro gb825 hg w17 hbox hb; have BK825 := Aside0.mk (hbox); have GW825 := Aside0.mk ((bz_ hg (lb2_ HB.out GE813.out GE819.out))); have GE825 := Aside0.mk ((bz_ hg (lb2_ HB.out GE813.out GE819.out))); replace HB := Aside0.mk (below_step (lb2_ HB.out GE813.out GE819.out) hb); have NB813_825 := Aside0.mk (nl_ hg BK813.out); have NB825_813 := Aside0.mk (ng_ hg BK813.out); replace BK813 := Aside0.mk (bb_ (bk_ BK813.out) hb); have NB819_825 := Aside0.mk (nl_ hg BK819.out); have NB825_819 := Aside0.mk (ng_ hg BK819.out); replace BK819 := Aside0.mk (bb_ (bk_ BK819.out) hb); clear hb hbox hg; have hnb18 := NB825_813.out; have hnc18 := NB813_825.out; have hnb19 := NB825_819.out; have hnc19 := NB819_825.out; obtain ⟨hcz20_0, hcz20_1, hcz20_2, hcz20_3⟩ := cz4_ BK825.out; obtain ⟨hfz20_0, hfz20_1, hfz20_2, hfz20_3⟩ := fz4_ BK825.out))
  (try simp only [Act.put, List.setIfInBounds_toArray, List.set_cons_zero, List.set_cons_succ])
  go_cut [75] (fun v75 wc => ∃ (kq : Nat) (x75_6 : Bool), v75 = .bool x75_6 ∧ Aside0 (laws_FnLabelBoxes.j0 kq l0 x75_6 = some r) ∧ Aside0 (kq ≤ k) ∧ Aside0 (wc.heap[gb813]? = some (.cells #[.string t809, .int .i64 t810, .int .i64 t811] 29 (0, 0))) ∧ Aside0 (wc.heap[gb819]? = some (.cells #[.int .i64 t814, .int .i64 t815, .int .i64 t816, .int .i64 t817] 26 (0, 0))) ∧ Aside0 (wc.heap[gb825]? = some (.cells #[.int .i64 t820, .int .i64 t821, .int .i64 t822, .int .i64 t823] 26 (0, 0))) ∧ Aside0 (Below w.heap.size w wc))
  case first =>
   as_aux_lemma =>
    have H := HC7.out
    clear HC7
    by_cases c21 : (!(t814 == t820) || (!(t815 == t821) || (!(t816 == t822) || (!(t817 == t823))))) = true
    ·
     rw [if_pos c21] at H
     have c21b0 : (!(t814 == t820) || (!(t815 == t821) || (!(t816 == t822) || (!(t817 == t823))))) = true := c21
     clear c21
     (first | rw [c21b0] | (simp only [i64_w, i32_w]; rw [c21b0]) | skip)
     have H' := Aside0.mk H
     clear H
     have hnb22 := NB819_813.out
     have hnc22 := NB813_819.out
     have hnb23 := NB819_825.out
     have hnc23 := NB825_819.out
     obtain ⟨hcz24_0, hcz24_1, hcz24_2, hcz24_3⟩ := cz4_ BK819.out
     obtain ⟨hfz24_0, hfz24_1, hfz24_2, hfz24_3⟩ := fz4_ BK819.out
     have hnb25 := NB825_813.out
     have hnc25 := NB813_825.out
     obtain ⟨hcz26_0, hcz26_1, hcz26_2, hcz26_3⟩ := cz4_ BK825.out
     obtain ⟨hfz26_0, hfz26_1, hfz26_2, hfz26_3⟩ := fz4_ BK825.out
     go_wp2
     go_meet
     case rel => exact ⟨_, (true), (by first | rfl | (simp; done) | (simp [*]; done)), H', ⟨by first | omega | exact Nat.le_refl _⟩, ⟨by (with_reducible repeat (first | refine blk_drewN ?_ _ | refine blk_drew ?_ | refine blk_alloc ?_ _)); exact (f4_ BK813.out NB813_825.out _ _ _ _)⟩, ⟨by (with_reducible repeat (first | refine blk_drewN ?_ _ | refine blk_drew ?_ | refine blk_alloc ?_ _)); exact (f4_ BK819.out NB819_825.out _ _ _ _)⟩, ⟨by (with_reducible repeat (first | refine blk_drewN ?_ _ | refine blk_drew ?_ | refine blk_alloc ?_ _)); exact (p4_ BK825.out _ _ _ _)⟩, ⟨lb3_ HB.out GE813.out GE819.out GE825.out⟩⟩
    ·
     rw [if_neg c21] at H
     have c21b0 : (!(t814 == t820) || (!(t815 == t821) || (!(t816 == t822) || (!(t817 == t823))))) = false := by simpa using c21
     clear c21
     (first | rw [c21b0] | (simp only [i64_w, i32_w]; rw [c21b0]) | skip)
     by_cases c27 : (t818 != t824) = true
     ·
      rw [if_pos c27] at H
      have c27b0 : (t818 != t824) = true := c27
      (try (have c27b1 : decide (t818 = t824) = false := by simpa using c27))
      (try (have c27b2 : (t818 == t824) = false := by simpa using c27))
      (try (have c27b3 : ¬ (t818 = t824) := by simpa using c27))
      clear c27
      have H' := Aside0.mk H
      clear H
      have hnb28 := NB819_813.out
      have hnc28 := NB813_819.out
      have hnb29 := NB819_825.out
      have hnc29 := NB825_819.out
      obtain ⟨hcz30_0, hcz30_1, hcz30_2, hcz30_3⟩ := cz4_ BK819.out
      obtain ⟨hfz30_0, hfz30_1, hfz30_2, hfz30_3⟩ := fz4_ BK819.out
      have hnb31 := NB825_813.out
      have hnc31 := NB813_825.out
      obtain ⟨hcz32_0, hcz32_1, hcz32_2, hcz32_3⟩ := cz4_ BK825.out
      obtain ⟨hfz32_0, hfz32_1, hfz32_2, hfz32_3⟩ := fz4_ BK825.out
      go_wp2
      go_meet
      case rel => exact ⟨_, (true), (by first | rfl | (simp; done) | (simp [*]; done)), H', ⟨by first | omega | exact Nat.le_refl _⟩, ⟨by (with_reducible repeat (first | refine blk_drewN ?_ _ | refine blk_drew ?_ | refine blk_alloc ?_ _)); exact (f4_ BK813.out NB813_825.out _ _ _ _)⟩, ⟨by (with_reducible repeat (first | refine blk_drewN ?_ _ | refine blk_drew ?_ | refine blk_alloc ?_ _)); exact (f4_ BK819.out NB819_825.out _ _ _ _)⟩, ⟨by (with_reducible repeat (first | refine blk_drewN ?_ _ | refine blk_drew ?_ | refine blk_alloc ?_ _)); exact (p4_ BK825.out _ _ _ _)⟩, ⟨lb3_ HB.out GE813.out GE819.out GE825.out⟩⟩
     ·
      rw [if_neg c27] at H
      have c27b0 : (t818 != t824) = false := by simpa using c27
      (try (have c27b1 : decide (t818 = t824) = true := by simpa using c27))
      (try (have c27b2 : (t818 == t824) = true := by simpa using c27))
      clear c27
      by_cases c33 : t818 = true
      ·
       subst c33
       have H1 : (if t816 = (t809.size : Int) then (laws_FnLabelBoxes.j0 k l0 (t817 != 2)) else (laws_FnLabelBoxes.j0 k l0 true)) = some r := by rw [if_pos rfl] at H; exact H
       clear H
       have H := H1
       clear H1
       by_cases c34 : t816 = (t809.size : Int)
       ·
        rw [if_pos c34] at H
        have c34b0 : (t816 == (t809.size : Int)) = true := beq_iff_eq.mpr c34; have c34b1 : (t816 != (t809.size : Int)) = false := bne_eq_false_iff_eq.mpr c34; clear c34; have H' := Aside0.mk H; clear H; have hnb35 := NB819_813.out; have hnc35 := NB813_819.out; have hnb36 := NB819_825.out; have hnc36 := NB825_819.out; obtain ⟨hcz37_0, hcz37_1, hcz37_2, hcz37_3⟩ := cz4_ BK819.out; obtain ⟨hfz37_0, hfz37_1, hfz37_2, hfz37_3⟩ := fz4_ BK819.out; have hnb38 := NB825_813.out; have hnc38 := NB813_825.out; obtain ⟨hcz39_0, hcz39_1, hcz39_2, hcz39_3⟩ := cz4_ BK825.out; obtain ⟨hfz39_0, hfz39_1, hfz39_2, hfz39_3⟩ := fz4_ BK825.out; obtain ⟨hcz40_0, hcz40_1, hcz40_2⟩ := cz3_ BK813.out; obtain ⟨hfz40_0, hfz40_1, hfz40_2⟩ := fz3_ BK813.out
        go_wp2
        go_meet
        case rel => exact ⟨_, ((t817 != 2)), (by first | rfl | (simp; done) | (simp [*]; done)), H', ⟨by first | omega | exact Nat.le_refl _⟩, ⟨by (with_reducible repeat (first | refine blk_drewN ?_ _ | refine blk_drew ?_ | refine blk_alloc ?_ _)); exact (f4_ BK813.out NB813_825.out _ _ _ _)⟩, ⟨by (with_reducible repeat (first | refine blk_drewN ?_ _ | refine blk_drew ?_ | refine blk_alloc ?_ _)); exact (f4_ BK819.out NB819_825.out _ _ _ _)⟩, ⟨by (with_reducible repeat (first | refine blk_drewN ?_ _ | refine blk_drew ?_ | refine blk_alloc ?_ _)); exact (p4_ BK825.out _ _ _ _)⟩, ⟨lb3_ HB.out GE813.out GE819.out GE825.out⟩⟩
       ·
        rw [if_neg c34] at H
        have c34b0 : (t816 == (t809.size : Int)) = false := beq_eq_false_iff_ne.mpr c34; have c34b1 : (t816 != (t809.size : Int)) = true := bne_iff_ne.mpr c34; have H' := Aside0.mk H; clear H; have hnb41 := NB819_813.out; have hnc41 := NB813_819.out; have hnb42 := NB819_825.out; have hnc42 := NB825_819.out; obtain ⟨hcz43_0, hcz43_1, hcz43_2, hcz43_3⟩ := cz4_ BK819.out; obtain ⟨hfz43_0, hfz43_1, hfz43_2, hfz43_3⟩ := fz4_ BK819.out; have hnb44 := NB825_813.out; have hnc44 := NB813_825.out; obtain ⟨hcz45_0, hcz45_1, hcz45_2, hcz45_3⟩ := cz4_ BK825.out; obtain ⟨hfz45_0, hfz45_1, hfz45_2, hfz45_3⟩ := fz4_ BK825.out; obtain ⟨hcz46_0, hcz46_1, hcz46_2⟩ := cz3_ BK813.out; obtain ⟨hfz46_0, hfz46_1, hfz46_2⟩ := fz3_ BK813.out
        go_wp2
        go_meet
        case rel => exact ⟨_, (true), (by first | rfl | (simp; done) | (simp [*]; done)), H', ⟨by first | omega | exact Nat.le_refl _⟩, ⟨by (with_reducible repeat (first | refine blk_drewN ?_ _ | refine blk_drew ?_ | refine blk_alloc ?_ _)); exact (f4_ BK813.out NB813_825.out _ _ _ _)⟩, ⟨by (with_reducible repeat (first | refine blk_drewN ?_ _ | refine blk_drew ?_ | refine blk_alloc ?_ _)); exact (f4_ BK819.out NB819_825.out _ _ _ _)⟩, ⟨by (with_reducible repeat (first | refine blk_drewN ?_ _ | refine blk_drew ?_ | refine blk_alloc ?_ _)); exact (p4_ BK825.out _ _ _ _)⟩, ⟨lb3_ HB.out GE813.out GE819.out GE825.out⟩⟩
      ·
       replace c33 := Bool.eq_false_iff.mpr c33
       subst c33
       have H1 : (laws_FnLabelBoxes.j0 k l0 false) = some r := by rw [if_neg (show ¬ (false = true) by decide)] at H; exact H
       clear H
       have H := H1
       clear H1
       have H' := Aside0.mk H
       clear H
       have hnb47 := NB819_813.out
       have hnc47 := NB813_819.out
       have hnb48 := NB819_825.out
       have hnc48 := NB825_819.out
       obtain ⟨hcz49_0, hcz49_1, hcz49_2, hcz49_3⟩ := cz4_ BK819.out
       obtain ⟨hfz49_0, hfz49_1, hfz49_2, hfz49_3⟩ := fz4_ BK819.out
       have hnb50 := NB825_813.out
       have hnc50 := NB813_825.out
       obtain ⟨hcz51_0, hcz51_1, hcz51_2, hcz51_3⟩ := cz4_ BK825.out
       obtain ⟨hfz51_0, hfz51_1, hfz51_2, hfz51_3⟩ := fz4_ BK825.out
       go_wp2
       go_meet
       case rel => exact ⟨_, (false), (by first | rfl | (simp; done) | (simp [*]; done)), H', ⟨by first | omega | exact Nat.le_refl _⟩, ⟨by (with_reducible repeat (first | refine blk_drewN ?_ _ | refine blk_drew ?_ | refine blk_alloc ?_ _)); exact (f4_ BK813.out NB813_825.out _ _ _ _)⟩, ⟨by (with_reducible repeat (first | refine blk_drewN ?_ _ | refine blk_drew ?_ | refine blk_alloc ?_ _)); exact (f4_ BK819.out NB819_825.out _ _ _ _)⟩, ⟨by (with_reducible repeat (first | refine blk_drewN ?_ _ | refine blk_drew ?_ | refine blk_alloc ?_ _)); exact (p4_ BK825.out _ _ _ _)⟩, ⟨lb3_ HB.out GE813.out GE819.out GE825.out⟩⟩
  case rest =>
   as_aux_lemma =>
    clear HC7
    try clear c1
    try clear c2
    try clear p2
    try clear c3
    try clear c4
    try clear c5
    try clear c12
    try clear c13
    try clear c14
    try clear c16
    try clear c18
    try clear c19
    try clear c21
    try clear c21b0
    try clear c22
    try clear c23
    try clear c25
    try clear c27
    try clear c27b0
    try clear c27b1
    try clear c27b2
    try clear c28
    try clear c29
    try clear c31
    try clear c33
    try clear c34
    try clear c34b0
    try clear c34b1
    try clear c35
    try clear c36
    try clear c38
    try clear c41
    try clear c42
    try clear c43
    try clear c44
    try clear c47
    try clear c48
    try clear c50
    try clear hcz10_0 hcz10_1 hcz10_2
    try clear hcz14_0 hcz14_1 hcz14_2 hcz14_3
    try clear hcz15_0 hcz15_1 hcz15_2
    try clear hcz20_0 hcz20_1 hcz20_2 hcz20_3
    try clear hcz24_0 hcz24_1 hcz24_2 hcz24_3
    try clear hcz26_0 hcz26_1 hcz26_2 hcz26_3
    try clear hcz30_0 hcz30_1 hcz30_2 hcz30_3
    try clear hcz32_0 hcz32_1 hcz32_2 hcz32_3
    try clear hcz37_0 hcz37_1 hcz37_2 hcz37_3
    try clear hcz39_0 hcz39_1 hcz39_2 hcz39_3
    try clear hcz40_0 hcz40_1 hcz40_2
    try clear hcz43_0 hcz43_1 hcz43_2 hcz43_3
    try clear hcz45_0 hcz45_1 hcz45_2 hcz45_3
    try clear hcz46_0 hcz46_1 hcz46_2
    try clear hcz49_0 hcz49_1 hcz49_2 hcz49_3
    try clear hcz51_0 hcz51_1 hcz51_2 hcz51_3
    try clear hfz10_0 hfz10_1 hfz10_2
    try clear hfz14_0 hfz14_1 hfz14_2 hfz14_3
    try clear hfz15_0 hfz15_1 hfz15_2
    try clear hfz20_0 hfz20_1 hfz20_2 hfz20_3
    try clear hfz24_0 hfz24_1 hfz24_2 hfz24_3
    try clear hfz26_0 hfz26_1 hfz26_2 hfz26_3
    try clear hfz30_0 hfz30_1 hfz30_2 hfz30_3
    try clear hfz32_0 hfz32_1 hfz32_2 hfz32_3
    try clear hfz37_0 hfz37_1 hfz37_2 hfz37_3
    try clear hfz39_0 hfz39_1 hfz39_2 hfz39_3
    try clear hfz40_0 hfz40_1 hfz40_2
    try clear hfz43_0 hfz43_1 hfz43_2 hfz43_3
    try clear hfz45_0 hfz45_1 hfz45_2 hfz45_3
    try clear hfz46_0 hfz46_1 hfz46_2
    try clear hfz49_0 hfz49_1 hfz49_2 hfz49_3
    try clear hfz51_0 hfz51_1 hfz51_2 hfz51_3
    obtain ⟨kq, x75_6, rfl, HA, HJ6, BK813, BK819, BK825, HB⟩ := hcut
    cases kq with
    | zero => exact absurd HA.out (by simp [laws_FnLabelBoxes.j0])
    | succ kj6 =>
     have H := HA.out
     clear HA
     simp only [laws_FnLabelBoxes.j0] at H
     by_cases c52 : x75_6 = true
     ·
      subst c52
      have H1 : (none) = some r := by rw [if_pos rfl] at H; exact H
      clear H
      have H := H1
      clear H1
      exact absurd H (by simp)
     ·
      replace c52 := Bool.eq_false_iff.mpr c52
      subst c52
      have H1 : ((spec_DrawDoMeet.f l0).bind fun bt826 => ((impl_DoMeet.f bt826.1 bt826.2.1 bt826.2.2.1 bt826.2.2.2.1 bt826.2.2.2.2.1 bt826.2.2.2.2.2.1 bt826.2.2.2.2.2.2.1 bt826.2.2.2.2.2.2.2).bind fun bt836 => ((impl_DoMeet.f bt826.2.2.2.2.1 bt826.2.2.2.2.2.1 bt826.2.2.2.2.2.2.1 bt826.2.2.2.2.2.2.2 bt826.1 bt826.2.1 bt826.2.2.1 bt826.2.2.2.1).bind fun bt838 => ((spec_DoMeet.f bt826.1 bt826.2.1 bt826.2.2.1 bt826.2.2.2.1 bt826.2.2.2.2.1 bt826.2.2.2.2.2.1 bt826.2.2.2.2.2.2.1 bt826.2.2.2.2.2.2.2).bind fun bt840 => (if (bt836.1 != bt840.1) = true then (laws_FnLabelBoxes.j1 kj6 l0 true) else (if (bt836.2 != bt840.2) = true then (laws_FnLabelBoxes.j1 kj6 l0 true) else (if (bt838.1 != bt836.1) = true then (laws_FnLabelBoxes.j1 kj6 l0 true) else (laws_FnLabelBoxes.j1 kj6 l0 (bt838.2 != bt836.2))))))))) = some r := by rw [if_neg (show ¬ (false = true) by decide)] at H; exact H
      clear H
      have H := H1
      clear H1
      replace H := Option.bind_eq_some_iff.mp H
      obtain ⟨⟨t826, t827, t828, t829, t830, t831, t832, t833⟩, A530, H⟩ := H
      replace H : ((impl_DoMeet.f t826 t827 t828 t829 t830 t831 t832 t833).bind fun bt836 => ((impl_DoMeet.f t830 t831 t832 t833 t826 t827 t828 t829).bind fun bt838 => ((spec_DoMeet.f t826 t827 t828 t829 t830 t831 t832 t833).bind fun bt840 => (if (bt836.1 != bt840.1) = true then (laws_FnLabelBoxes.j1 kj6 l0 true) else (if (bt836.2 != bt840.2) = true then (laws_FnLabelBoxes.j1 kj6 l0 true) else (if (bt838.1 != bt836.1) = true then (laws_FnLabelBoxes.j1 kj6 l0 true) else (laws_FnLabelBoxes.j1 kj6 l0 (bt838.2 != bt836.2)))))))) = some r := H
      have A53 := Aside0.mk A530
      clear A530
      replace H := Option.bind_eq_some_iff.mp H
      obtain ⟨⟨t836, t837⟩, A540, H⟩ := H
      replace H : ((impl_DoMeet.f t830 t831 t832 t833 t826 t827 t828 t829).bind fun bt838 => ((spec_DoMeet.f t826 t827 t828 t829 t830 t831 t832 t833).bind fun bt840 => (if (t836 != bt840.1) = true then (laws_FnLabelBoxes.j1 kj6 l0 true) else (if (t837 != bt840.2) = true then (laws_FnLabelBoxes.j1 kj6 l0 true) else (if (bt838.1 != t836) = true then (laws_FnLabelBoxes.j1 kj6 l0 true) else (laws_FnLabelBoxes.j1 kj6 l0 (bt838.2 != t837))))))) = some r := H
      have A54 := Aside0.mk A540
      clear A540
      replace H := Option.bind_eq_some_iff.mp H
      obtain ⟨⟨t838, t839⟩, A550, H⟩ := H
      replace H : ((spec_DoMeet.f t826 t827 t828 t829 t830 t831 t832 t833).bind fun bt840 => (if (t836 != bt840.1) = true then (laws_FnLabelBoxes.j1 kj6 l0 true) else (if (t837 != bt840.2) = true then (laws_FnLabelBoxes.j1 kj6 l0 true) else (if (t838 != t836) = true then (laws_FnLabelBoxes.j1 kj6 l0 true) else (laws_FnLabelBoxes.j1 kj6 l0 (t839 != t837)))))) = some r := H
      have A55 := Aside0.mk A550
      clear A550
      replace H := Option.bind_eq_some_iff.mp H
      obtain ⟨⟨t840, t841⟩, A560, H⟩ := H
      replace H : (if (t836 != t840) = true then (laws_FnLabelBoxes.j1 kj6 l0 true) else (if (t837 != t841) = true then (laws_FnLabelBoxes.j1 kj6 l0 true) else (if (t838 != t836) = true then (laws_FnLabelBoxes.j1 kj6 l0 true) else (laws_FnLabelBoxes.j1 kj6 l0 (t839 != t837))))) = some r := H
      have A56 := Aside0.mk A560
      clear A560
      have HC57 := Aside0.mk H
      clear H
      go_upto_region 12 with (first | ((with_reducible refine gate_callee (f := 49) rfl ?_); refine ga_ (some 78) Tryd.func49 #[.slice A0 l0.length c0] ?_; (with_reducible refine (spec_DrawDoMeet.calls _ _ l0 t826 t827 t828 t829 t830 t831 t832 t833 _ ?side1 ?side2 A53.out).mono ?_); (case side1 => exact kc_ (Kd.C_below HR0.out HB.out)); (case side2 => exact HC0.out); rintro e w58 ⟨rfl, hb⟩; refine ⟨_, rfl, ?_⟩; replace BK813 := Aside0.mk (bb_ (bk_ BK813.out) hb); replace BK819 := Aside0.mk (bb_ (bk_ BK819.out) hb); replace BK825 := Aside0.mk (bb_ (bk_ BK825.out) hb); replace HB := Aside0.mk (below_step (lb3_ HB.out GE813.out GE819.out GE825.out) hb); (try clear hb); (try clear hb2); (try clear hk); (try clear hi)) | ((with_reducible refine gate_dst (N := 9) rfl ?_); (try (refine gate_guard (by rfl) ?_; dsimp only)); refine box_event ?hg (N := 9) ?hd (cs := #[.int .i64 0, .int .i64 0, .int .i64 0, .int .i64 0]) (t := 26) ?hr ?_; (case hd => rfl); (case hg => rfl); (case hr => first | (go_simp; done) | (go_simp; rfl)); intro gb834 hg w59 hbox hb; have BK834 := Aside0.mk (hbox); have GW834 := Aside0.mk (bz_ hg (lb3_ HB.out GE813.out GE819.out GE825.out)); have GE834 := Aside0.mk (bz_ hg (lb3_ HB.out GE813.out GE819.out GE825.out)); replace HB := Aside0.mk (below_step (lb3_ HB.out GE813.out GE819.out GE825.out) hb); have NB813_834 := Aside0.mk (nl_ hg BK813.out); have NB834_813 := Aside0.mk (ng_ hg BK813.out); replace BK813 := Aside0.mk (bb_ (bk_ BK813.out) hb); have NB819_834 := Aside0.mk (nl_ hg BK819.out); have NB834_819 := Aside0.mk (ng_ hg BK819.out); replace BK819 := Aside0.mk (bb_ (bk_ BK819.out) hb); have NB825_834 := Aside0.mk (nl_ hg BK825.out); have NB834_825 := Aside0.mk (ng_ hg BK825.out); replace BK825 := Aside0.mk (bb_ (bk_ BK825.out) hb); clear hb hbox hg) | ((with_reducible refine gate_dst (N := 10) rfl ?_); (try (refine gate_guard (by rfl) ?_; dsimp only)); refine box_event ?hg (N := 10) ?hd (cs := #[.int .i64 0, .int .i64 0, .int .i64 0, .int .i64 0]) (t := 26) ?hr ?_; (case hd => rfl); (case hg => rfl); (case hr => first | (go_simp; done) | (go_simp; rfl)); intro gb835 hg w60 hbox hb; have BK835 := Aside0.mk (hbox); have GW835 := Aside0.mk ((by rw [hg]; exact (below_size (by repeat (first | (with_reducible first | exact HB.out | apply below_alloc | apply pw_below_drewN | apply below_drew1 | refine below_set ?_ GE813.out | refine below_set ?_ GE819.out | refine below_set ?_ GE825.out | refine below_set ?_ GE834.out) | exact HB.out))) : w.heap.size ≤ gb835)); have GE835 := Aside0.mk ((by rw [hg]; exact (below_size (by repeat (first | (with_reducible first | exact HB.out | apply below_alloc | apply pw_below_drewN | apply below_drew1 | refine below_set ?_ GE813.out | refine below_set ?_ GE819.out | refine below_set ?_ GE825.out | refine below_set ?_ GE834.out) | exact HB.out))) : w.heap.size ≤ gb835)); replace HB := Aside0.mk (below_step (by repeat (first | (with_reducible first | exact HB.out | apply below_alloc | apply pw_below_drewN | apply below_drew1 | refine below_set ?_ GE813.out | refine below_set ?_ GE819.out | refine below_set ?_ GE825.out | refine below_set ?_ GE834.out) | exact HB.out)) hb); have NB813_835 := Aside0.mk (nl_ hg BK813.out); have NB835_813 := Aside0.mk (ng_ hg BK813.out); replace BK813 := Aside0.mk (bb_ (bk_ BK813.out) hb); have NB819_835 := Aside0.mk (nl_ hg BK819.out); have NB835_819 := Aside0.mk (ng_ hg BK819.out); replace BK819 := Aside0.mk (bb_ (bk_ BK819.out) hb); have NB825_835 := Aside0.mk (nl_ hg BK825.out); have NB835_825 := Aside0.mk (ng_ hg BK825.out); replace BK825 := Aside0.mk (bb_ (bk_ BK825.out) hb); have NB834_835 := Aside0.mk (nl_ hg BK834.out); have NB835_834 := Aside0.mk (ng_ hg BK834.out); replace BK834 := Aside0.mk (bb_ (bk_ BK834.out) hb); clear hb hbox hg; obtain ⟨hcz65_0, hcz65_1, hcz65_2, hcz65_3⟩ := cz4_ BK834.out; obtain ⟨hfz65_0, hfz65_1, hfz65_2, hfz65_3⟩ := fz4_ BK834.out) | ((with_reducible refine gate_store (t := 26) (p := 9) rfl ?_); refine store_event (t := 26) (p := 9) (v := ?vo_wu) (w1 := ((((w60.setCell ⟨gb834, 0, none⟩ (.int .i64 t826)).setCell ⟨gb834, 1, none⟩ (.int .i64 t827)).setCell ⟨gb834, 2, none⟩ (.int .i64 t828)).setCell ⟨gb834, 3, none⟩ (.int .i64 t829))) ?hg ?ho ?hn ?hr ?_; (case ho => rfl); (case hg => rfl); (case hn => rfl); (case hr => first | (go_simp; done) | (go_simp; rfl)); intro wu hw; have mBK813 : Aside0 (wu.heap[gb813]? = some (.cells #[.string t809, .int .i64 t810, .int .i64 t811] 29 (0, 0))) := ⟨by rw [hw]; exact f4_ (j0 := 0) (j1 := 1) (j2 := 2) (j3 := 3) BK813.out NB813_834.out (.int .i64 t826) (.int .i64 t827) (.int .i64 t828) (.int .i64 t829)⟩; have mBK819 : Aside0 (wu.heap[gb819]? = some (.cells #[.int .i64 t814, .int .i64 t815, .int .i64 t816, .int .i64 t817] 26 (0, 0))) := ⟨by rw [hw]; exact f4_ (j0 := 0) (j1 := 1) (j2 := 2) (j3 := 3) BK819.out NB819_834.out (.int .i64 t826) (.int .i64 t827) (.int .i64 t828) (.int .i64 t829)⟩; have mBK825 : Aside0 (wu.heap[gb825]? = some (.cells #[.int .i64 t820, .int .i64 t821, .int .i64 t822, .int .i64 t823] 26 (0, 0))) := ⟨by rw [hw]; exact f4_ (j0 := 0) (j1 := 1) (j2 := 2) (j3 := 3) BK825.out NB825_834.out (.int .i64 t826) (.int .i64 t827) (.int .i64 t828) (.int .i64 t829)⟩; have mBK834 : Aside0 (wu.heap[gb834]? = some (.cells #[.int .i64 t826, .int .i64 t827, .int .i64 t828, .int .i64 t829] 26 (0, 0))) := ⟨by rw [hw]; exact p4_ BK834.out (.int .i64 t826) (.int .i64 t827) (.int .i64 t828) (.int .i64 t829)⟩; have mBK835 : Aside0 (wu.heap[gb835]? = some (.cells #[.int .i64 0, .int .i64 0, .int .i64 0, .int .i64 0] 26 (0, 0))) := ⟨by rw [hw]; exact f4_ (j0 := 0) (j1 := 1) (j2 := 2) (j3 := 3) BK835.out NB835_834.out (.int .i64 t826) (.int .i64 t827) (.int .i64 t828) (.int .i64 t829)⟩; clear hcz65_0 hcz65_1 hcz65_2 hcz65_3 hfz65_0 hfz65_1 hfz65_2 hfz65_3; have mHB : Aside0 (Below w.heap.size w wu) := ⟨by rw [hw]; exact (below_set (j := 3) (below_set (j := 2) (below_set (j := 1) (below_set (j := 0) HB.out GE834.out) GE834.out) GE834.out) GE834.out)⟩; clear hw HB BK813 BK819 BK825 BK834 BK835; have BK813 := mBK813; have BK819 := mBK819; have BK825 := mBK825; have BK834 := mBK834; have BK835 := mBK835; have HB := mHB; clear mHB mBK813 mBK819 mBK825 mBK834 mBK835; obtain ⟨hcz69_0, hcz69_1, hcz69_2, hcz69_3⟩ := cz4_ BK835.out; obtain ⟨hfz69_0, hfz69_1, hfz69_2, hfz69_3⟩ := fz4_ BK835.out) | ((with_reducible refine gate_store (t := 26) (p := 10) rfl ?_); refine store_event (t := 26) (p := 10) (v := ?vo_wv) (w1 := ((((wu.setCell ⟨gb835, 0, none⟩ (.int .i64 t830)).setCell ⟨gb835, 1, none⟩ (.int .i64 t831)).setCell ⟨gb835, 2, none⟩ (.int .i64 t832)).setCell ⟨gb835, 3, none⟩ (.int .i64 t833))) ?hg ?ho ?hn ?hr ?_; (case ho => rfl); (case hg => rfl); (case hn => rfl); (case hr => first | (go_simp; done) | (go_simp; rfl)); intro wv hw; have mBK813 : Aside0 (wv.heap[gb813]? = some (.cells #[.string t809, .int .i64 t810, .int .i64 t811] 29 (0, 0))) := ⟨by rw [hw]; exact f4_ (j0 := 0) (j1 := 1) (j2 := 2) (j3 := 3) BK813.out NB813_835.out (.int .i64 t830) (.int .i64 t831) (.int .i64 t832) (.int .i64 t833)⟩; have mBK819 : Aside0 (wv.heap[gb819]? = some (.cells #[.int .i64 t814, .int .i64 t815, .int .i64 t816, .int .i64 t817] 26 (0, 0))) := ⟨by rw [hw]; exact f4_ (j0 := 0) (j1 := 1) (j2 := 2) (j3 := 3) BK819.out NB819_835.out (.int .i64 t830) (.int .i64 t831) (.int .i64 t832) (.int .i64 t833)⟩; have mBK825 : Aside0 (wv.heap[gb825]? = some (.cells #[.int .i64 t820, .int .i64 t821, .int .i64 t822, .int .i64 t823] 26 (0, 0))) := ⟨by rw [hw]; exact f4_ (j0 := 0) (j1 := 1) (j2 := 2) (j3 := 3) BK825.out NB825_835.out (.int .i64 t830) (.int .i64 t831) (.int .i64 t832) (.int .i64 t833)⟩; have mBK834 : Aside0 (wv.heap[gb834]? = some (.cells #[.int .i64 t826, .int .i64 t827, .int .i64 t828, .int .i64 t829] 26 (0, 0))) := ⟨by rw [hw]; exact f4_ (j0 := 0) (j1 := 1) (j2 := 2) (j3 := 3) BK834.out NB834_835.out (.int .i64 t830) (.int .i64 t831) (.int .i64 t832) (.int .i64 t833)⟩; have mBK835 : Aside0 (wv.heap[gb835]? = some (.cells #[.int .i64 t830, .int .i64 t831, .int .i64 t832, .int .i64 t833] 26 (0, 0))) := ⟨by rw [hw]; exact p4_ BK835.out (.int .i64 t830) (.int .i64 t831) (.int .i64 t832) (.int .i64 t833)⟩; clear hcz69_0 hcz69_1 hcz69_2 hcz69_3 hfz69_0 hfz69_1 hfz69_2 hfz69_3; have mHB : Aside0 (Below w.heap.size w wv) := ⟨by rw [hw]; exact (below_set (j := 3) (below_set (j := 2) (below_set (j := 1) (below_set (j := 0) HB.out GE835.out) GE835.out) GE835.out) GE835.out)⟩; clear hw HB BK813 BK819 BK825 BK834 BK835; have BK813 := mBK813; have BK819 := mBK819; have BK825 := mBK825; have BK834 := mBK834; have BK835 := mBK835; have HB := mHB; clear mHB mBK813 mBK819 mBK825 mBK834 mBK835; obtain ⟨hcz65_0, hcz65_1, hcz65_2, hcz65_3⟩ := cz4_ BK834.out; obtain ⟨hfz65_0, hfz65_1, hfz65_2, hfz65_3⟩ := fz4_ BK834.out; obtain ⟨hcz69_0, hcz69_1, hcz69_2, hcz69_3⟩ := cz4_ BK835.out; obtain ⟨hfz69_0, hfz69_1, hfz69_2, hfz69_3⟩ := fz4_ BK835.out) | ((with_reducible refine gate_callee (f := 50) rfl ?_); refine ga_ (some 84) Tryd.func50 #[.agg #[.int .i64 t826, .int .i64 t827, .int .i64 t828, .int .i64 t829], .agg #[.int .i64 t830, .int .i64 t831, .int .i64 t832, .int .i64 t833]] ?_; (with_reducible refine (impl_DoMeet.calls t826 t827 t828 t829 t830 t831 t832 t833 t836 t837 _ A54.out).mono ?_); rintro e w70 ⟨rfl, hb⟩; refine ⟨_, rfl, ?_⟩; replace BK813 := Aside0.mk (bb_ (bk_ BK813.out) hb); replace BK819 := Aside0.mk (bb_ (bk_ BK819.out) hb); replace BK825 := Aside0.mk (bb_ (bk_ BK825.out) hb); replace BK834 := Aside0.mk (bb_ (bk_ BK834.out) hb); replace BK835 := Aside0.mk (bb_ (bk_ BK835.out) hb); replace HB := Aside0.mk (below_step (by repeat (first | (with_reducible first | exact HB.out | apply below_alloc | apply pw_below_drewN | apply below_drew1 | refine below_set ?_ GE813.out | refine below_set ?_ GE819.out | refine below_set ?_ GE825.out | refine below_set ?_ GE834.out | refine below_set ?_ GE835.out) | exact HB.out)) hb); (try clear hb); (try clear hb2); (try clear hk); (try clear hi); obtain ⟨hcz71_0, hcz71_1, hcz71_2, hcz71_3⟩ := cz4_ BK835.out; obtain ⟨hfz71_0, hfz71_1, hfz71_2, hfz71_3⟩ := fz4_ BK835.out; obtain ⟨hcz72_0, hcz72_1, hcz72_2, hcz72_3⟩ := cz4_ BK834.out; obtain ⟨hfz72_0, hfz72_1, hfz72_2, hfz72_3⟩ := fz4_ BK834.out) | ((with_reducible refine gate_callee (f := 50) rfl ?_); refine ga_ (some 90) Tryd.func50 #[.agg #[.int .i64 t830, .int .i64 t831, .int .i64 t832, .int .i64 t833], .agg #[.int .i64 t826, .int .i64 t827, .int .i64 t828, .int .i64 t829]] ?_; (with_reducible refine (impl_DoMeet.calls t830 t831 t832 t833 t826 t827 t828 t829 t838 t839 _ A55.out).mono ?_); rintro e w73 ⟨rfl, hb⟩; refine ⟨_, rfl, ?_⟩; replace BK813 := Aside0.mk (bb_ (bk_ BK813.out) hb); replace BK819 := Aside0.mk (bb_ (bk_ BK819.out) hb); replace BK825 := Aside0.mk (bb_ (bk_ BK825.out) hb); replace BK834 := Aside0.mk (bb_ (bk_ BK834.out) hb); replace BK835 := Aside0.mk (bb_ (bk_ BK835.out) hb); replace HB := Aside0.mk (below_step (by repeat (first | (with_reducible first | exact HB.out | apply below_alloc | apply pw_below_drewN | apply below_drew1 | refine below_set ?_ GE813.out | refine below_set ?_ GE819.out | refine below_set ?_ GE825.out | refine below_set ?_ GE834.out | refine below_set ?_ GE835.out) | exact HB.out)) hb); (try clear hb); (try clear hb2); (try clear hk); (try clear hi); obtain ⟨hcz74_0, hcz74_1, hcz74_2, hcz74_3⟩ := cz4_ BK834.out; obtain ⟨hfz74_0, hfz74_1, hfz74_2, hfz74_3⟩ := fz4_ BK834.out; obtain ⟨hcz75_0, hcz75_1, hcz75_2, hcz75_3⟩ := cz4_ BK835.out; obtain ⟨hfz75_0, hfz75_1, hfz75_2, hfz75_3⟩ := fz4_ BK835.out) | ((with_reducible refine gate_callee (f := 51) rfl ?_); refine ga_ (some 96) Tryd.func51 #[.agg #[.int .i64 t826, .int .i64 t827, .int .i64 t828, .int .i64 t829], .agg #[.int .i64 t830, .int .i64 t831, .int .i64 t832, .int .i64 t833]] ?_; (with_reducible refine (spec_DoMeet.calls t826 t827 t828 t829 t830 t831 t832 t833 t840 t841 _ A56.out).mono ?_); rintro e w76 ⟨rfl, hb⟩; refine ⟨_, rfl, ?_⟩; replace BK813 := Aside0.mk (bb_ (bk_ BK813.out) hb); replace BK819 := Aside0.mk (bb_ (bk_ BK819.out) hb); replace BK825 := Aside0.mk (bb_ (bk_ BK825.out) hb); replace BK834 := Aside0.mk (bb_ (bk_ BK834.out) hb); replace BK835 := Aside0.mk (bb_ (bk_ BK835.out) hb); replace HB := Aside0.mk (below_step (by repeat (first | (with_reducible first | exact HB.out | apply below_alloc | apply pw_below_drewN | apply below_drew1 | refine below_set ?_ GE813.out | refine below_set ?_ GE819.out | refine below_set ?_ GE825.out | refine below_set ?_ GE834.out | refine below_set ?_ GE835.out) | exact HB.out)) hb); (try clear hb); (try clear hb2); (try clear hk); (try clear hi)))
      (try simp only [Act.put, List.setIfInBounds_toArray, List.set_cons_zero, List.set_cons_succ])
      go_cut [116] (fun v116 wc => ∃ (kq : Nat) (x116_56 : Bool), v116 = .bool x116_56 ∧ Aside0 (laws_FnLabelBoxes.j1 kq l0 x116_56 = some r) ∧ Aside0 (kq ≤ kj6) ∧ Aside0 (wc.heap[gb813]? = some (.cells #[.string t809, .int .i64 t810, .int .i64 t811] 29 (0, 0))) ∧ Aside0 (wc.heap[gb819]? = some (.cells #[.int .i64 t814, .int .i64 t815, .int .i64 t816, .int .i64 t817] 26 (0, 0))) ∧ Aside0 (wc.heap[gb825]? = some (.cells #[.int .i64 t820, .int .i64 t821, .int .i64 t822, .int .i64 t823] 26 (0, 0))) ∧ Aside0 (wc.heap[gb834]? = some (.cells #[.int .i64 t826, .int .i64 t827, .int .i64 t828, .int .i64 t829] 26 (0, 0))) ∧ Aside0 (wc.heap[gb835]? = some (.cells #[.int .i64 t830, .int .i64 t831, .int .i64 t832, .int .i64 t833] 26 (0, 0))) ∧ Aside0 (Below w.heap.size w wc))
      case first =>
       as_aux_lemma =>
        have H := HC57.out; clear HC57
        by_cases c77 : (t836 != t840) = true
        ·
         rw [if_pos c77] at H
         have c77b0 : (t836 != t840) = true := c77; (try (have c77b1 : decide (t836 = t840) = false := by simpa using c77)); (try (have c77b2 : (t836 == t840) = false := by simpa using c77)); (try (have c77b3 : ¬ (t836 = t840) := by simpa using c77)); clear c77
         (first | rw [c77b0] | (simp only [i64_w, i32_w]; rw [c77b0]) | skip)
         have H' := Aside0.mk H; clear H
         go_wp2
         go_meet
         case rel => exact ⟨_, (true), (by first | rfl | (simp; done) | (simp [*]; done)), H', ⟨by have := HJ6.out; first | omega | exact Nat.le_refl _⟩, ⟨bk_ BK813.out⟩, ⟨bk_ BK819.out⟩, ⟨bk_ BK825.out⟩, ⟨bk_ BK834.out⟩, ⟨bk_ BK835.out⟩, ⟨by repeat (first | (with_reducible first | exact HB.out | apply below_alloc | apply pw_below_drewN | apply below_drew1 | refine below_set ?_ GE813.out | refine below_set ?_ GE819.out | refine below_set ?_ GE825.out | refine below_set ?_ GE834.out | refine below_set ?_ GE835.out) | exact HB.out)⟩⟩
        ·
         rw [if_neg c77] at H
         have c77b0 : (t836 != t840) = false := by simpa using c77
         (try (have c77b1 : decide (t836 = t840) = true := by simpa using c77)); (try (have c77b2 : (t836 == t840) = true := by simpa using c77)); clear c77
         (first | rw [c77b0] | (simp only [i64_w, i32_w]; rw [c77b0]) | skip)
         by_cases c78 : (t837 != t841) = true
         ·
          rw [if_pos c78] at H
          have c78b0 : (t837 != t841) = true := c78; (try (have c78b1 : decide (t837 = t841) = false := by simpa using c78)); (try (have c78b2 : (t837 == t841) = false := by simpa using c78)); (try (have c78b3 : ¬ (t837 = t841) := by simpa using c78)); clear c78; have H' := Aside0.mk H; clear H
          go_wp2
          go_meet
          case rel => exact ⟨_, (true), (by first | rfl | (simp; done) | (simp [*]; done)), H', ⟨by have := HJ6.out; first | omega | exact Nat.le_refl _⟩, ⟨bk_ BK813.out⟩, ⟨bk_ BK819.out⟩, ⟨bk_ BK825.out⟩, ⟨bk_ BK834.out⟩, ⟨bk_ BK835.out⟩, ⟨by repeat (first | (with_reducible first | exact HB.out | apply below_alloc | apply pw_below_drewN | apply below_drew1 | refine below_set ?_ GE813.out | refine below_set ?_ GE819.out | refine below_set ?_ GE825.out | refine below_set ?_ GE834.out | refine below_set ?_ GE835.out) | exact HB.out)⟩⟩
         ·
          rw [if_neg c78] at H
          have c78b0 : (t837 != t841) = false := by simpa using c78
          (try (have c78b1 : decide (t837 = t841) = true := by simpa using c78)); (try (have c78b2 : (t837 == t841) = true := by simpa using c78)); clear c78
          by_cases c79 : (t838 != t836) = true
          ·
           rw [if_pos c79] at H
           have c79b0 : (t838 != t836) = true := c79; (try (have c79b1 : decide (t838 = t836) = false := by simpa using c79)); (try (have c79b2 : (t838 == t836) = false := by simpa using c79)); (try (have c79b3 : ¬ (t838 = t836) := by simpa using c79)); clear c79; have H' := Aside0.mk H; clear H
           go_wp2
           go_meet
           case rel => exact ⟨_, (true), (by first | rfl | (simp; done) | (simp [*]; done)), H', ⟨by have := HJ6.out; first | omega | exact Nat.le_refl _⟩, ⟨bk_ BK813.out⟩, ⟨bk_ BK819.out⟩, ⟨bk_ BK825.out⟩, ⟨bk_ BK834.out⟩, ⟨bk_ BK835.out⟩, ⟨by repeat (first | (with_reducible first | exact HB.out | apply below_alloc | apply pw_below_drewN | apply below_drew1 | refine below_set ?_ GE813.out | refine below_set ?_ GE819.out | refine below_set ?_ GE825.out | refine below_set ?_ GE834.out | refine below_set ?_ GE835.out) | exact HB.out)⟩⟩
          ·
           rw [if_neg c79] at H
           have c79b0 : (t838 != t836) = false := by simpa using c79
           (try (have c79b1 : decide (t838 = t836) = true := by simpa using c79)); (try (have c79b2 : (t838 == t836) = true := by simpa using c79)); clear c79; have H' := Aside0.mk H; clear H
           go_wp2
           go_meet
           case rel => exact ⟨_, ((t839 != t837)), (by first | rfl | (simp; done) | (simp [*]; done)), H', ⟨by have := HJ6.out; first | omega | exact Nat.le_refl _⟩, ⟨bk_ BK813.out⟩, ⟨bk_ BK819.out⟩, ⟨bk_ BK825.out⟩, ⟨bk_ BK834.out⟩, ⟨bk_ BK835.out⟩, ⟨by repeat (first | (with_reducible first | exact HB.out | apply below_alloc | apply pw_below_drewN | apply below_drew1 | refine below_set ?_ GE813.out | refine below_set ?_ GE819.out | refine below_set ?_ GE825.out | refine below_set ?_ GE834.out | refine below_set ?_ GE835.out) | exact HB.out)⟩⟩
      case rest =>
       as_aux_lemma =>
        clear HC57
        try clear c1
        try clear c2
        try clear p2
        try clear c3
        try clear c4
        try clear c5
        try clear c6
        try clear c7
        try clear c12
        try clear c13
        try clear c14
        try clear c16
        try clear c18
        try clear c19
        try clear c21
        try clear c21b0
        try clear c22
        try clear c23
        try clear c25
        try clear c27
        try clear c27b0
        try clear c27b1
        try clear c27b2
        try clear c28
        try clear c29
        try clear c31
        try clear c33
        try clear c34
        try clear c34b0
        try clear c34b1
        try clear c35
        try clear c36
        try clear c38
        try clear c41
        try clear c42
        try clear c43
        try clear c44
        try clear c47
        try clear c48
        try clear c49
        try clear c50
        try clear c51
        try clear c52
        try clear c61
        try clear c62
        try clear c63
        try clear c64
        try clear c66
        try clear c67
        try clear c68
        try clear c77
        try clear c77b0
        try clear c77b1
        try clear c77b2
        try clear c78
        try clear c78b0
        try clear c78b1
        try clear c78b2
        try clear c79
        try clear c79b0
        try clear c79b1
        try clear c79b2
        try clear hcz10_0 hcz10_1 hcz10_2
        try clear hcz14_0 hcz14_1 hcz14_2 hcz14_3
        try clear hcz15_0 hcz15_1 hcz15_2
        try clear hcz20_0 hcz20_1 hcz20_2 hcz20_3
        try clear hcz24_0 hcz24_1 hcz24_2 hcz24_3
        try clear hcz26_0 hcz26_1 hcz26_2 hcz26_3
        try clear hcz30_0 hcz30_1 hcz30_2 hcz30_3
        try clear hcz32_0 hcz32_1 hcz32_2 hcz32_3
        try clear hcz37_0 hcz37_1 hcz37_2 hcz37_3
        try clear hcz39_0 hcz39_1 hcz39_2 hcz39_3
        try clear hcz40_0 hcz40_1 hcz40_2
        try clear hcz43_0 hcz43_1 hcz43_2 hcz43_3
        try clear hcz45_0 hcz45_1 hcz45_2 hcz45_3
        try clear hcz46_0 hcz46_1 hcz46_2
        try clear hcz49_0 hcz49_1 hcz49_2 hcz49_3
        try clear hcz51_0 hcz51_1 hcz51_2 hcz51_3
        try clear hcz65_0 hcz65_1 hcz65_2 hcz65_3
        try clear hcz69_0 hcz69_1 hcz69_2 hcz69_3
        try clear hcz71_0 hcz71_1 hcz71_2 hcz71_3
        try clear hcz72_0 hcz72_1 hcz72_2 hcz72_3
        try clear hcz74_0 hcz74_1 hcz74_2 hcz74_3
        try clear hcz75_0 hcz75_1 hcz75_2 hcz75_3
        try clear hfz10_0 hfz10_1 hfz10_2
        try clear hfz14_0 hfz14_1 hfz14_2 hfz14_3
        try clear hfz15_0 hfz15_1 hfz15_2
        try clear hfz20_0 hfz20_1 hfz20_2 hfz20_3
        try clear hfz24_0 hfz24_1 hfz24_2 hfz24_3
        try clear hfz26_0 hfz26_1 hfz26_2 hfz26_3
        try clear hfz30_0 hfz30_1 hfz30_2 hfz30_3
        try clear hfz32_0 hfz32_1 hfz32_2 hfz32_3
        try clear hfz37_0 hfz37_1 hfz37_2 hfz37_3
        try clear hfz39_0 hfz39_1 hfz39_2 hfz39_3
        try clear hfz40_0 hfz40_1 hfz40_2
        try clear hfz43_0 hfz43_1 hfz43_2 hfz43_3
        try clear hfz45_0 hfz45_1 hfz45_2 hfz45_3
        try clear hfz46_0 hfz46_1 hfz46_2
        try clear hfz49_0 hfz49_1 hfz49_2 hfz49_3
        try clear hfz51_0 hfz51_1 hfz51_2 hfz51_3
        try clear hfz65_0 hfz65_1 hfz65_2 hfz65_3
        try clear hfz69_0 hfz69_1 hfz69_2 hfz69_3
        try clear hfz71_0 hfz71_1 hfz71_2 hfz71_3
        try clear hfz72_0 hfz72_1 hfz72_2 hfz72_3
        try clear hfz74_0 hfz74_1 hfz74_2 hfz74_3
        try clear hfz75_0 hfz75_1 hfz75_2 hfz75_3
        try clear p2
        obtain ⟨kq, x116_56, rfl, HA, HJ56, BK813, BK819, BK825, BK834, BK835, HB⟩ := hcut
        cases kq with
        | zero => exact absurd HA.out (by simp [laws_FnLabelBoxes.j1])
        | succ kj56 =>
         have H := HA.out; clear HA; simp only [laws_FnLabelBoxes.j1] at H
         by_cases c80 : x116_56 = true
         ·
          subst c80
          have H1 : (none) = some r := by rw [if_pos rfl] at H; exact H
          clear H; have H := H1; clear H1; exact absurd H (by simp)
         ·
          replace c80 := Bool.eq_false_iff.mpr c80; subst c80
          have H1 : ((spec_DrawMostPlaced.f kj56 l0).bind fun t842 => ((impl_MostPlaced.f kj56 t842).bind fun bt845 => ((spec_MostPlaced.f kj56 t842).bind fun bt849 => (if (bt845.2 != bt849.2) = true then (laws_FnLabelBoxes.j2 kj56 l0 t842 bt845.1 bt845.2 true) else ((laws_rInts.f kj56 bt845.1 bt849.1).bind fun t853 => (laws_FnLabelBoxes.j2 kj56 l0 t842 bt845.1 bt845.2 (!t853))))))) = some r := by rw [if_neg (show ¬ (false = true) by decide)] at H; exact H
          clear H; have H := H1; clear H1; replace H := Option.bind_eq_some_iff.mp H; obtain ⟨t842, A810, H⟩ := H; replace H : ((impl_MostPlaced.f kj56 t842).bind fun bt845 => ((spec_MostPlaced.f kj56 t842).bind fun bt849 => (if (bt845.2 != bt849.2) = true then (laws_FnLabelBoxes.j2 kj56 l0 t842 bt845.1 bt845.2 true) else ((laws_rInts.f kj56 bt845.1 bt849.1).bind fun t853 => (laws_FnLabelBoxes.j2 kj56 l0 t842 bt845.1 bt845.2 (!t853)))))) = some r := H; have A81 := Aside0.mk A810; clear A810; replace H := Option.bind_eq_some_iff.mp H; obtain ⟨⟨t845, t846⟩, A820, H⟩ := H; replace H : ((spec_MostPlaced.f kj56 t842).bind fun bt849 => (if (t846 != bt849.2) = true then (laws_FnLabelBoxes.j2 kj56 l0 t842 t845 t846 true) else ((laws_rInts.f kj56 t845 bt849.1).bind fun t853 => (laws_FnLabelBoxes.j2 kj56 l0 t842 t845 t846 (!t853))))) = some r := H; have A82 := Aside0.mk A820; clear A820; replace H := Option.bind_eq_some_iff.mp H; obtain ⟨⟨t849, t850⟩, A830, H⟩ := H; replace H : (if (t846 != t850) = true then (laws_FnLabelBoxes.j2 kj56 l0 t842 t845 t846 true) else ((laws_rInts.f kj56 t845 t849).bind fun t853 => (laws_FnLabelBoxes.j2 kj56 l0 t842 t845 t846 (!t853)))) = some r := H; have A83 := Aside0.mk A830; clear A830; have HC84 := Aside0.mk H; clear H
          go_upto_region 17 with (first | ((with_reducible refine gate_callee (f := 52) rfl ?_); refine ga_ (some 118) Tryd.func52 #[.slice A0 l0.length c0] ?_; (with_reducible refine (spec_DrawMostPlaced.calls kj56 _ _ l0 t842 _ ?side1 ?side2 A81.out).mono ?_); (case side1 => exact kc_ (Kd.C_below HR0.out HB.out)); (case side2 => exact HC0.out); rintro e w85 ⟨v843, rfl, ho0, hb⟩; refine ⟨_, rfl, ?_⟩; have HO844 := Aside0.mk (Kd.R_lower (Kd.R_newB ho0 (g := gb813) (o := .cells #[.string t809, .int .i64 t810, .int .i64 t811] 29 (0, 0)) (bk_ BK813.out)) (below_size (by repeat (first | (with_reducible first | exact HB.out | apply below_alloc | apply pw_below_drewN | apply below_drew1 | refine below_set ?_ GE813.out | refine below_set ?_ GE819.out | refine below_set ?_ GE825.out | refine below_set ?_ GE834.out | refine below_set ?_ GE835.out) | exact HB.out)))); replace BK813 := Aside0.mk (bb_ (bk_ BK813.out) hb); replace BK819 := Aside0.mk (bb_ (bk_ BK819.out) hb); replace BK825 := Aside0.mk (bb_ (bk_ BK825.out) hb); replace BK834 := Aside0.mk (bb_ (bk_ BK834.out) hb); replace BK835 := Aside0.mk (bb_ (bk_ BK835.out) hb); replace HB := Aside0.mk (below_step (by repeat (first | (with_reducible first | exact HB.out | apply below_alloc | apply pw_below_drewN | apply below_drew1 | refine below_set ?_ GE813.out | refine below_set ?_ GE819.out | refine below_set ?_ GE825.out | refine below_set ?_ GE834.out | refine below_set ?_ GE835.out) | exact HB.out)) hb); (try clear hb); (try clear hb2); (try clear hk); (try clear hi); (try clear ho0); obtain ⟨Ao86, co86, eo86⟩ := Kd.R_slice HO844.out; subst eo86) | ((with_reducible refine gate_callee (f := 42) rfl ?_); refine ga_ (some 121) Tryd.func42 #[.slice Ao86 t842.length co86] ?_; (with_reducible refine (impl_MostPlaced.calls kj56 _ _ t842 t845 t846 _ ?side1 ?side2 A82.out).mono ?_); (case side1 => exact kc_ (Kd.R_reads' HO844.out).2.2); (case side2 => exact (Kd.R_reads' HO844.out).2.1); rintro e w87 ⟨v847, rfl, ho0, hb⟩; refine ⟨_, rfl, ?_⟩; replace HO844 := Aside0.mk (Kd.R_below (kr_ HO844.out) hb); have HO848 := Aside0.mk (Kd.R_lower ho0 (below_size (by repeat (first | (with_reducible first | exact HB.out | apply below_alloc | apply pw_below_drewN | apply below_drew1 | refine below_set ?_ GE813.out | refine below_set ?_ GE819.out | refine below_set ?_ GE825.out | refine below_set ?_ GE834.out | refine below_set ?_ GE835.out) | exact HB.out)))); replace BK813 := Aside0.mk (bb_ (bk_ BK813.out) hb); replace BK819 := Aside0.mk (bb_ (bk_ BK819.out) hb); replace BK825 := Aside0.mk (bb_ (bk_ BK825.out) hb); replace BK834 := Aside0.mk (bb_ (bk_ BK834.out) hb); replace BK835 := Aside0.mk (bb_ (bk_ BK835.out) hb); replace HB := Aside0.mk (below_step (by repeat (first | (with_reducible first | exact HB.out | apply below_alloc | apply pw_below_drewN | apply below_drew1 | refine below_set ?_ GE813.out | refine below_set ?_ GE819.out | refine below_set ?_ GE825.out | refine below_set ?_ GE834.out | refine below_set ?_ GE835.out) | exact HB.out)) hb); (try clear hb); (try clear hb2); (try clear hk); (try clear hi); (try clear ho0)) | ((with_reducible refine gate_callee (f := 41) rfl ?_); refine ga_ (some 126) Tryd.func41 #[.slice Ao86 t842.length co86] ?_; (with_reducible refine (spec_MostPlaced.calls kj56 _ _ t842 t849 t850 _ ?side1 ?side2 A83.out).mono ?_); (case side1 => exact kc_ (Kd.R_reads' HO844.out).2.2); (case side2 => exact (Kd.R_reads' HO844.out).2.1); rintro e w88 ⟨v851, rfl, ho0, hb⟩; refine ⟨_, rfl, ?_⟩; replace HO844 := Aside0.mk (Kd.R_below (kr_ HO844.out) hb); have HO852 := Aside0.mk (Kd.R_lower (Kd.R_new' ho0 (Kd.R_lt (kr_ HO848.out))) (below_size (by repeat (first | (with_reducible first | exact HB.out | apply below_alloc | apply pw_below_drewN | apply below_drew1 | refine below_set ?_ GE813.out | refine below_set ?_ GE819.out | refine below_set ?_ GE825.out | refine below_set ?_ GE834.out | refine below_set ?_ GE835.out) | exact HB.out)))); replace HO848 := Aside0.mk (Kd.R_elder' (kr_ HO848.out) (Kd.R_base ho0) hb); replace BK813 := Aside0.mk (bb_ (bk_ BK813.out) hb); replace BK819 := Aside0.mk (bb_ (bk_ BK819.out) hb); replace BK825 := Aside0.mk (bb_ (bk_ BK825.out) hb); replace BK834 := Aside0.mk (bb_ (bk_ BK834.out) hb); replace BK835 := Aside0.mk (bb_ (bk_ BK835.out) hb); replace HB := Aside0.mk (below_step (by repeat (first | (with_reducible first | exact HB.out | apply below_alloc | apply pw_below_drewN | apply below_drew1 | refine below_set ?_ GE813.out | refine below_set ?_ GE819.out | refine below_set ?_ GE825.out | refine below_set ?_ GE834.out | refine below_set ?_ GE835.out) | exact HB.out)) hb); (try clear hb); (try clear hb2); (try clear hk); (try clear hi); (try clear ho0)))
          (try simp only [Act.put, List.setIfInBounds_toArray, List.set_cons_zero, List.set_cons_succ])
          go_cut [137] (fun v137 wc => ∃ (kq : Nat) (x137_83 : Bool), v137 = .bool x137_83 ∧ Aside0 (laws_FnLabelBoxes.j2 kq l0 t842 t845 t846 x137_83 = some r) ∧ Aside0 (kq ≤ kj56) ∧ Aside0 (Kd.R k29 29 wc w.heap.size (fun k_ => k_ ≠ gb813) (.slice Ao86 t842.length co86) t842) ∧ Aside0 (Kd.R (Kd.int .i64) 3 wc w.heap.size (fun _ => True) v847 t845) ∧ Aside0 (wc.heap[gb813]? = some (.cells #[.string t809, .int .i64 t810, .int .i64 t811] 29 (0, 0))) ∧ Aside0 (wc.heap[gb819]? = some (.cells #[.int .i64 t814, .int .i64 t815, .int .i64 t816, .int .i64 t817] 26 (0, 0))) ∧ Aside0 (wc.heap[gb825]? = some (.cells #[.int .i64 t820, .int .i64 t821, .int .i64 t822, .int .i64 t823] 26 (0, 0))) ∧ Aside0 (wc.heap[gb834]? = some (.cells #[.int .i64 t826, .int .i64 t827, .int .i64 t828, .int .i64 t829] 26 (0, 0))) ∧ Aside0 (wc.heap[gb835]? = some (.cells #[.int .i64 t830, .int .i64 t831, .int .i64 t832, .int .i64 t833] 26 (0, 0))) ∧ Aside0 (Below w.heap.size w wc))
          case first =>
           as_aux_lemma =>
            have H := HC84.out; clear HC84
            by_cases c89 : (t846 != t850) = true
            ·
             rw [if_pos c89] at H
             have c89b0 : (t846 != t850) = true := c89; (try (have c89b1 : decide (t846 = t850) = false := by simpa using c89)); (try (have c89b2 : (t846 == t850) = false := by simpa using c89)); (try (have c89b3 : ¬ (t846 = t850) := by simpa using c89)); clear c89
             (first | rw [c89b0] | (simp only [i64_w, i32_w]; rw [c89b0]) | skip)
             have H' := Aside0.mk H; clear H
             go_wp2
             go_meet
             case rel => exact ⟨_, (true), (by first | rfl | (simp; done) | (simp [*]; done)), H', ⟨by have := HJ6.out; have := HJ56.out; first | omega | exact Nat.le_refl _⟩, ⟨krm_ HO844.out (fun _ hk => hk.2)⟩, ⟨krm_ HO848.out (fun _ hk => trivial)⟩, ⟨bk_ BK813.out⟩, ⟨bk_ BK819.out⟩, ⟨bk_ BK825.out⟩, ⟨bk_ BK834.out⟩, ⟨bk_ BK835.out⟩, ⟨by repeat (first | (with_reducible first | exact HB.out | apply below_alloc | apply pw_below_drewN | apply below_drew1 | refine below_set ?_ GE813.out | refine below_set ?_ GE819.out | refine below_set ?_ GE825.out | refine below_set ?_ GE834.out | refine below_set ?_ GE835.out) | exact HB.out)⟩⟩
            ·
             rw [if_neg c89] at H
             have c89b0 : (t846 != t850) = false := by simpa using c89
             (try (have c89b1 : decide (t846 = t850) = true := by simpa using c89)); (try (have c89b2 : (t846 == t850) = true := by simpa using c89)); clear c89
             (first | rw [c89b0] | (simp only [i64_w, i32_w]; rw [c89b0]) | skip)
             replace H := Option.bind_eq_some_iff.mp H; obtain ⟨t853, A900, H⟩ := H; replace H : (laws_FnLabelBoxes.j2 kj56 l0 t842 t845 t846 (!t853)) = some r := H; have A90 := Aside0.mk A900; clear A900; have H' := Aside0.mk H; clear H; obtain ⟨Ao91, co91, eo91⟩ := Kd.R_slice HO848.out; subst eo91; obtain ⟨Ao92, co92, eo92⟩ := Kd.R_slice HO852.out; subst eo92
             go_wp2_with (first | (go_at_call 45; (with_reducible refine (laws_rInts.calls kj56 _ _ t845 _ _ t849 t853 _ ?side1 ?side2 ?side3 ?side4 A90.out).mono ?_); (case side1 => exact kc_ (Kd.R_reads' HO848.out).2.2); (case side2 => exact (Kd.R_reads' HO848.out).2.1); (case side3 => exact kc_ (Kd.R_reads' HO852.out).2.2); (case side4 => exact (Kd.R_reads' HO852.out).2.1); rintro e w' ⟨rfl, ⟨nd, rfl⟩⟩))
             go_meet
             case rel => exact ⟨_, (!t853), (by first | rfl | (simp; done) | (simp [*]; done)), H', ⟨by have := HJ6.out; have := HJ56.out; first | omega | exact Nat.le_refl _⟩, ⟨krm_ HO844.out (fun _ hk => hk.2)⟩, ⟨krm_ HO848.out (fun _ hk => trivial)⟩, ⟨bk_ BK813.out⟩, ⟨bk_ BK819.out⟩, ⟨bk_ BK825.out⟩, ⟨bk_ BK834.out⟩, ⟨bk_ BK835.out⟩, ⟨by repeat (first | (with_reducible first | exact HB.out | apply below_alloc | apply pw_below_drewN | apply below_drew1 | refine below_set ?_ GE813.out | refine below_set ?_ GE819.out | refine below_set ?_ GE825.out | refine below_set ?_ GE834.out | refine below_set ?_ GE835.out) | exact HB.out)⟩⟩
          case rest =>
           as_aux_lemma =>
            clear HC84
            try clear c1
            try clear c2
            try clear p2
            try clear c3
            try clear c4
            try clear c5
            try clear c6
            try clear c7
            try clear c8
            try clear c12
            try clear c13
            try clear c14
            try clear c16
            try clear c18
            try clear c19
            try clear c21
            try clear c21b0
            try clear c22
            try clear c23
            try clear c25
            try clear c27
            try clear c27b0
            try clear c27b1
            try clear c27b2
            try clear c28
            try clear c29
            try clear c31
            try clear c33
            try clear c34
            try clear c34b0
            try clear c34b1
            try clear c35
            try clear c36
            try clear c38
            try clear c41
            try clear c42
            try clear c43
            try clear c44
            try clear c47
            try clear c48
            try clear c49
            try clear c50
            try clear c51
            try clear c52
            try clear c61
            try clear c62
            try clear c63
            try clear c64
            try clear c66
            try clear c67
            try clear c68
            try clear c77
            try clear c77b0
            try clear c77b1
            try clear c77b2
            try clear c78
            try clear c78b0
            try clear c78b1
            try clear c78b2
            try clear c79
            try clear c79b0
            try clear c79b1
            try clear c79b2
            try clear c80
            try clear c89
            try clear c89b0
            try clear c89b1
            try clear c89b2
            try clear hcz10_0 hcz10_1 hcz10_2
            try clear hcz14_0 hcz14_1 hcz14_2 hcz14_3
            try clear hcz15_0 hcz15_1 hcz15_2
            try clear hcz20_0 hcz20_1 hcz20_2 hcz20_3
            try clear hcz24_0 hcz24_1 hcz24_2 hcz24_3
            try clear hcz26_0 hcz26_1 hcz26_2 hcz26_3
            try clear hcz30_0 hcz30_1 hcz30_2 hcz30_3
            try clear hcz32_0 hcz32_1 hcz32_2 hcz32_3
            try clear hcz37_0 hcz37_1 hcz37_2 hcz37_3
            try clear hcz39_0 hcz39_1 hcz39_2 hcz39_3
            try clear hcz40_0 hcz40_1 hcz40_2
            try clear hcz43_0 hcz43_1 hcz43_2 hcz43_3
            try clear hcz45_0 hcz45_1 hcz45_2 hcz45_3
            try clear hcz46_0 hcz46_1 hcz46_2
            try clear hcz49_0 hcz49_1 hcz49_2 hcz49_3
            try clear hcz51_0 hcz51_1 hcz51_2 hcz51_3
            try clear hcz65_0 hcz65_1 hcz65_2 hcz65_3
            try clear hcz69_0 hcz69_1 hcz69_2 hcz69_3
            try clear hcz71_0 hcz71_1 hcz71_2 hcz71_3
            try clear hcz72_0 hcz72_1 hcz72_2 hcz72_3
            try clear hcz74_0 hcz74_1 hcz74_2 hcz74_3
            try clear hcz75_0 hcz75_1 hcz75_2 hcz75_3
            try clear hfz10_0 hfz10_1 hfz10_2
            try clear hfz14_0 hfz14_1 hfz14_2 hfz14_3
            try clear hfz15_0 hfz15_1 hfz15_2
            try clear hfz20_0 hfz20_1 hfz20_2 hfz20_3
            try clear hfz24_0 hfz24_1 hfz24_2 hfz24_3
            try clear hfz26_0 hfz26_1 hfz26_2 hfz26_3
            try clear hfz30_0 hfz30_1 hfz30_2 hfz30_3
            try clear hfz32_0 hfz32_1 hfz32_2 hfz32_3
            try clear hfz37_0 hfz37_1 hfz37_2 hfz37_3
            try clear hfz39_0 hfz39_1 hfz39_2 hfz39_3
            try clear hfz40_0 hfz40_1 hfz40_2
            try clear hfz43_0 hfz43_1 hfz43_2 hfz43_3
            try clear hfz45_0 hfz45_1 hfz45_2 hfz45_3
            try clear hfz46_0 hfz46_1 hfz46_2
            try clear hfz49_0 hfz49_1 hfz49_2 hfz49_3
            try clear hfz51_0 hfz51_1 hfz51_2 hfz51_3
            try clear hfz65_0 hfz65_1 hfz65_2 hfz65_3
            try clear hfz69_0 hfz69_1 hfz69_2 hfz69_3
            try clear hfz71_0 hfz71_1 hfz71_2 hfz71_3
            try clear hfz72_0 hfz72_1 hfz72_2 hfz72_3
            try clear hfz74_0 hfz74_1 hfz74_2 hfz74_3
            try clear hfz75_0 hfz75_1 hfz75_2 hfz75_3
            try clear p2
            obtain ⟨kq, x137_83, rfl, HA, HJ83, HO_17, HO_18, BK813, BK819, BK825, BK834, BK835, HB⟩ := hcut
            cases kq with
            | zero => exact absurd HA.out (by simp [laws_FnLabelBoxes.j2])
            | succ kj83 =>
             have H := HA.out; clear HA; simp only [laws_FnLabelBoxes.j2] at H
             by_cases c93 : x137_83 = true
             ·
              subst c93
              have H1 : (none) = some r := by rw [if_pos rfl] at H; exact H
              clear H; have H := H1; clear H1; exact absurd H (by simp)
             ·
              replace c93 := Bool.eq_false_iff.mpr c93; subst c93
              have H1 : ((impl_FirstPlacing.f kj83 t842).bind fun bt854 => (if t846 = true then (laws_FnLabelBoxes.j3 kj83 l0 t842 t845 (bt854.2 != ((t845.length : Int) == (t842.length : Int)))) else (laws_FnLabelBoxes.j3 kj83 l0 t842 t845 false))) = some r := by rw [if_neg (show ¬ (false = true) by decide)] at H; exact H
              clear H; have H := H1; clear H1; replace H := Option.bind_eq_some_iff.mp H; obtain ⟨⟨t854, t855⟩, A940, H⟩ := H; replace H : (if t846 = true then (laws_FnLabelBoxes.j3 kj83 l0 t842 t845 (t855 != ((t845.length : Int) == (t842.length : Int)))) else (laws_FnLabelBoxes.j3 kj83 l0 t842 t845 false)) = some r := H; have A94 := Aside0.mk A940; clear A940; have HC95 := Aside0.mk H; clear H
              go_upto_region 20 with (first | ((with_reducible refine gate_callee (f := 40) rfl ?_); refine ga_ (some 140) Tryd.func40 #[.slice Ao86 t842.length co86] ?_; (with_reducible refine (impl_FirstPlacing.calls kj83 _ _ t842 t854 t855 _ ?side1 ?side2 A94.out).mono ?_); (case side1 => exact kc_ (Kd.R_reads' HO_17.out).2.2); (case side2 => exact (Kd.R_reads' HO_17.out).2.1); rintro e w96 ⟨v856, rfl, ho0, hb⟩; refine ⟨_, rfl, ?_⟩; replace HO_17 := Aside0.mk (Kd.R_below (kr_ HO_17.out) hb); have HO857 := Aside0.mk (Kd.R_lower (Kd.R_new' ho0 (Kd.R_lt (kr_ HO_18.out))) (below_size (by repeat (first | (with_reducible first | exact HB.out | apply below_alloc | apply pw_below_drewN | apply below_drew1 | refine below_set ?_ GE813.out | refine below_set ?_ GE819.out | refine below_set ?_ GE825.out | refine below_set ?_ GE834.out | refine below_set ?_ GE835.out) | exact HB.out)))); replace HO_18 := Aside0.mk (Kd.R_elder' (kr_ HO_18.out) (Kd.R_base ho0) hb); replace BK813 := Aside0.mk (bb_ (bk_ BK813.out) hb); replace BK819 := Aside0.mk (bb_ (bk_ BK819.out) hb); replace BK825 := Aside0.mk (bb_ (bk_ BK825.out) hb); replace BK834 := Aside0.mk (bb_ (bk_ BK834.out) hb); replace BK835 := Aside0.mk (bb_ (bk_ BK835.out) hb); replace HB := Aside0.mk (below_step (by repeat (first | (with_reducible first | exact HB.out | apply below_alloc | apply pw_below_drewN | apply below_drew1 | refine below_set ?_ GE813.out | refine below_set ?_ GE819.out | refine below_set ?_ GE825.out | refine below_set ?_ GE834.out | refine below_set ?_ GE835.out) | exact HB.out)) hb); (try clear hb); (try clear hb2); (try clear hk); (try clear hi); (try clear ho0)))
              (try simp only [Act.put, List.setIfInBounds_toArray, List.set_cons_zero, List.set_cons_succ])
              go_cut [152] (fun v152 wc => ∃ (kq : Nat) (x152_94 : Bool), v152 = .bool x152_94 ∧ Aside0 (laws_FnLabelBoxes.j3 kq l0 t842 t845 x152_94 = some r) ∧ Aside0 (kq ≤ kj83) ∧ Aside0 (Kd.R k29 29 wc w.heap.size (fun k_ => k_ ≠ gb813) (.slice Ao86 t842.length co86) t842) ∧ Aside0 (Kd.R (Kd.int .i64) 3 wc w.heap.size (fun _ => True) v847 t845) ∧ Aside0 (wc.heap[gb813]? = some (.cells #[.string t809, .int .i64 t810, .int .i64 t811] 29 (0, 0))) ∧ Aside0 (wc.heap[gb819]? = some (.cells #[.int .i64 t814, .int .i64 t815, .int .i64 t816, .int .i64 t817] 26 (0, 0))) ∧ Aside0 (wc.heap[gb825]? = some (.cells #[.int .i64 t820, .int .i64 t821, .int .i64 t822, .int .i64 t823] 26 (0, 0))) ∧ Aside0 (wc.heap[gb834]? = some (.cells #[.int .i64 t826, .int .i64 t827, .int .i64 t828, .int .i64 t829] 26 (0, 0))) ∧ Aside0 (wc.heap[gb835]? = some (.cells #[.int .i64 t830, .int .i64 t831, .int .i64 t832, .int .i64 t833] 26 (0, 0))) ∧ Aside0 (Below w.heap.size w wc))
              case first =>
               as_aux_lemma =>
                have H := HC95.out; clear HC95
                by_cases c97 : t846 = true
                ·
                 subst c97
                 have H1 : (laws_FnLabelBoxes.j3 kj83 l0 t842 t845 (t855 != ((t845.length : Int) == (t842.length : Int)))) = some r := by rw [if_pos rfl] at H; exact H
                 clear H; have H := H1; clear H1; have H' := Aside0.mk H; clear H; obtain ⟨Ao98, co98, eo98⟩ := Kd.R_slice HO_18.out; subst eo98
                 go_wp2
                 go_meet
                 case rel => exact ⟨_, ((t855 != ((t845.length : Int) == (t842.length : Int)))), (by first | rfl | (simp; done) | (simp [*]; done)), H', ⟨by have := HJ6.out; have := HJ56.out; have := HJ83.out; first | omega | exact Nat.le_refl _⟩, ⟨kr_ HO_17.out⟩, ⟨krm_ HO_18.out (fun _ hk => trivial)⟩, ⟨bk_ BK813.out⟩, ⟨bk_ BK819.out⟩, ⟨bk_ BK825.out⟩, ⟨bk_ BK834.out⟩, ⟨bk_ BK835.out⟩, ⟨by repeat (first | (with_reducible first | exact HB.out | apply below_alloc | apply pw_below_drewN | apply below_drew1 | refine below_set ?_ GE813.out | refine below_set ?_ GE819.out | refine below_set ?_ GE825.out | refine below_set ?_ GE834.out | refine below_set ?_ GE835.out) | exact HB.out)⟩⟩
                ·
                 replace c97 := Bool.eq_false_iff.mpr c97; subst c97
                 have H1 : (laws_FnLabelBoxes.j3 kj83 l0 t842 t845 false) = some r := by rw [if_neg (show ¬ (false = true) by decide)] at H; exact H
                 clear H; have H := H1; clear H1; have H' := Aside0.mk H; clear H
                 go_wp2
                 go_meet
                 case rel => exact ⟨_, (false), (by first | rfl | (simp; done) | (simp [*]; done)), H', ⟨by have := HJ6.out; have := HJ56.out; have := HJ83.out; first | omega | exact Nat.le_refl _⟩, ⟨kr_ HO_17.out⟩, ⟨krm_ HO_18.out (fun _ hk => trivial)⟩, ⟨bk_ BK813.out⟩, ⟨bk_ BK819.out⟩, ⟨bk_ BK825.out⟩, ⟨bk_ BK834.out⟩, ⟨bk_ BK835.out⟩, ⟨by repeat (first | (with_reducible first | exact HB.out | apply below_alloc | apply pw_below_drewN | apply below_drew1 | refine below_set ?_ GE813.out | refine below_set ?_ GE819.out | refine below_set ?_ GE825.out | refine below_set ?_ GE834.out | refine below_set ?_ GE835.out) | exact HB.out)⟩⟩
              case rest =>
               as_aux_lemma =>
                clear HC95
                try clear c1
                try clear c2
                try clear p2
                try clear c3
                try clear c4
                try clear c5
                try clear c6
                try clear c7
                try clear c8
                try clear c9
                try clear c12
                try clear c13
                try clear c14
                try clear c16
                try clear c18
                try clear c19
                try clear c21
                try clear c21b0
                try clear c22
                try clear c23
                try clear c25
                try clear c27
                try clear c27b0
                try clear c27b1
                try clear c27b2
                try clear c28
                try clear c29
                try clear c31
                try clear c33
                try clear c34
                try clear c34b0
                try clear c34b1
                try clear c35
                try clear c36
                try clear c38
                try clear c40
                try clear c41
                try clear c42
                try clear c43
                try clear c44
                try clear c47
                try clear c48
                try clear c49
                try clear c50
                try clear c51
                try clear c52
                try clear c61
                try clear c62
                try clear c63
                try clear c64
                try clear c66
                try clear c67
                try clear c68
                try clear c77
                try clear c77b0
                try clear c77b1
                try clear c77b2
                try clear c78
                try clear c78b0
                try clear c78b1
                try clear c78b2
                try clear c79
                try clear c79b0
                try clear c79b1
                try clear c79b2
                try clear c80
                try clear c89
                try clear c89b0
                try clear c89b1
                try clear c89b2
                try clear c93
                try clear c97
                try clear hcz10_0 hcz10_1 hcz10_2
                try clear hcz14_0 hcz14_1 hcz14_2 hcz14_3
                try clear hcz15_0 hcz15_1 hcz15_2
                try clear hcz20_0 hcz20_1 hcz20_2 hcz20_3
                try clear hcz24_0 hcz24_1 hcz24_2 hcz24_3
                try clear hcz26_0 hcz26_1 hcz26_2 hcz26_3
                try clear hcz30_0 hcz30_1 hcz30_2 hcz30_3
                try clear hcz32_0 hcz32_1 hcz32_2 hcz32_3
                try clear hcz37_0 hcz37_1 hcz37_2 hcz37_3
                try clear hcz39_0 hcz39_1 hcz39_2 hcz39_3
                try clear hcz40_0 hcz40_1 hcz40_2
                try clear hcz43_0 hcz43_1 hcz43_2 hcz43_3
                try clear hcz45_0 hcz45_1 hcz45_2 hcz45_3
                try clear hcz46_0 hcz46_1 hcz46_2
                try clear hcz49_0 hcz49_1 hcz49_2 hcz49_3
                try clear hcz51_0 hcz51_1 hcz51_2 hcz51_3
                try clear hcz65_0 hcz65_1 hcz65_2 hcz65_3
                try clear hcz69_0 hcz69_1 hcz69_2 hcz69_3
                try clear hcz71_0 hcz71_1 hcz71_2 hcz71_3
                try clear hcz72_0 hcz72_1 hcz72_2 hcz72_3
                try clear hcz74_0 hcz74_1 hcz74_2 hcz74_3
                try clear hcz75_0 hcz75_1 hcz75_2 hcz75_3
                try clear hfz10_0 hfz10_1 hfz10_2
                try clear hfz14_0 hfz14_1 hfz14_2 hfz14_3
                try clear hfz15_0 hfz15_1 hfz15_2
                try clear hfz20_0 hfz20_1 hfz20_2 hfz20_3
                try clear hfz24_0 hfz24_1 hfz24_2 hfz24_3
                try clear hfz26_0 hfz26_1 hfz26_2 hfz26_3
                try clear hfz30_0 hfz30_1 hfz30_2 hfz30_3
                try clear hfz32_0 hfz32_1 hfz32_2 hfz32_3
                try clear hfz37_0 hfz37_1 hfz37_2 hfz37_3
                try clear hfz39_0 hfz39_1 hfz39_2 hfz39_3
                try clear hfz40_0 hfz40_1 hfz40_2
                try clear hfz43_0 hfz43_1 hfz43_2 hfz43_3
                try clear hfz45_0 hfz45_1 hfz45_2 hfz45_3
                try clear hfz46_0 hfz46_1 hfz46_2
                try clear hfz49_0 hfz49_1 hfz49_2 hfz49_3
                try clear hfz51_0 hfz51_1 hfz51_2 hfz51_3
                try clear hfz65_0 hfz65_1 hfz65_2 hfz65_3
                try clear hfz69_0 hfz69_1 hfz69_2 hfz69_3
                try clear hfz71_0 hfz71_1 hfz71_2 hfz71_3
                try clear hfz72_0 hfz72_1 hfz72_2 hfz72_3
                try clear hfz74_0 hfz74_1 hfz74_2 hfz74_3
                try clear hfz75_0 hfz75_1 hfz75_2 hfz75_3
                try clear p2
                obtain ⟨kq, x152_94, rfl, HA, HJ94, HO_17, HO_18, BK813, BK819, BK825, BK834, BK835, HB⟩ := hcut
                cases kq with
                | zero => exact absurd HA.out (by simp [laws_FnLabelBoxes.j3])
                | succ kj94 =>
                 have H := HA.out; clear HA; simp only [laws_FnLabelBoxes.j3] at H
                 by_cases c99 : x152_94 = true
                 ·
                  subst c99
                  have H1 : (none) = some r := by rw [if_pos rfl] at H; exact H
                  clear H; have H := H1; clear H1; exact absurd H (by simp)
                 ·
                  replace c99 := Bool.eq_false_iff.mpr c99; subst c99
                  have H1 : (laws_FnLabelBoxes.l0 kj94 l0 t842 t845 0) = some r := by rw [if_neg (show ¬ (false = true) by decide)] at H; exact H
                  clear H; have H := H1; clear H1; have H' := Aside0.mk H; clear H
                  go_wp2
                  go_loopg [24] kj94 (fun kq v24 w' => ∃ (x24_5 : Int), v24 = .int .i64 x24_5 ∧ Aside0 (laws_FnLabelBoxes.l0 kq l0 t842 t845 x24_5 = some r) ∧ Aside0 (kq ≤ kj94) ∧ Aside0 (Kd.R k29 29 w' w.heap.size (fun k_ => k_ ≠ gb813) (.slice Ao86 t842.length co86) t842) ∧ Aside0 (Kd.R (Kd.int .i64) 3 w' w.heap.size (fun _ => True) v847 t845) ∧ Aside0 (w'.heap[gb813]? = some (.cells #[.string t809, .int .i64 t810, .int .i64 t811] 29 (0, 0))) ∧ Aside0 (w'.heap[gb819]? = some (.cells #[.int .i64 t814, .int .i64 t815, .int .i64 t816, .int .i64 t817] 26 (0, 0))) ∧ Aside0 (w'.heap[gb825]? = some (.cells #[.int .i64 t820, .int .i64 t821, .int .i64 t822, .int .i64 t823] 26 (0, 0))) ∧ Aside0 (w'.heap[gb834]? = some (.cells #[.int .i64 t826, .int .i64 t827, .int .i64 t828, .int .i64 t829] 26 (0, 0))) ∧ Aside0 (w'.heap[gb835]? = some (.cells #[.int .i64 t830, .int .i64 t831, .int .i64 t832, .int .i64 t833] 26 (0, 0))) ∧ Aside0 (Below w.heap.size w w'))
                  case atStart => exact ⟨(0), (by first | rfl | (simp; done) | (simp [*]; done)), H', ⟨Nat.le_refl _⟩, ⟨kr_ HO_17.out⟩, ⟨kr_ HO_18.out⟩, ⟨bk_ BK813.out⟩, ⟨bk_ BK819.out⟩, ⟨bk_ BK825.out⟩, ⟨bk_ BK834.out⟩, ⟨bk_ BK835.out⟩, ⟨by repeat (first | (with_reducible first | exact HB.out | apply below_alloc | apply pw_below_drewN | apply below_drew1 | refine below_set ?_ GE813.out | refine below_set ?_ GE819.out | refine below_set ?_ GE825.out | refine below_set ?_ GE834.out | refine below_set ?_ GE835.out) | exact HB.out)⟩⟩
                  case round =>
                   as_aux_lemma =>
                    clear H'
                    try clear c1
                    try clear c2
                    try clear p2
                    try clear c3
                    try clear c4
                    try clear c5
                    try clear c6
                    try clear c7
                    try clear c8
                    try clear c9
                    try clear c12
                    try clear c13
                    try clear c14
                    try clear c16
                    try clear c18
                    try clear c19
                    try clear c21
                    try clear c21b0
                    try clear c22
                    try clear c23
                    try clear c25
                    try clear c27
                    try clear c27b0
                    try clear c27b1
                    try clear c27b2
                    try clear c28
                    try clear c29
                    try clear c31
                    try clear c33
                    try clear c34
                    try clear c34b0
                    try clear c34b1
                    try clear c35
                    try clear c36
                    try clear c38
                    try clear c40
                    try clear c41
                    try clear c42
                    try clear c43
                    try clear c44
                    try clear c47
                    try clear c48
                    try clear c49
                    try clear c50
                    try clear c51
                    try clear c52
                    try clear c61
                    try clear c62
                    try clear c63
                    try clear c64
                    try clear c66
                    try clear c67
                    try clear c68
                    try clear c77
                    try clear c77b0
                    try clear c77b1
                    try clear c77b2
                    try clear c78
                    try clear c78b0
                    try clear c78b1
                    try clear c78b2
                    try clear c79
                    try clear c79b0
                    try clear c79b1
                    try clear c79b2
                    try clear c80
                    try clear c89
                    try clear c89b0
                    try clear c89b1
                    try clear c89b2
                    try clear c93
                    try clear c97
                    try clear c99
                    try clear hcz10_0 hcz10_1 hcz10_2
                    try clear hcz14_0 hcz14_1 hcz14_2 hcz14_3
                    try clear hcz15_0 hcz15_1 hcz15_2
                    try clear hcz20_0 hcz20_1 hcz20_2 hcz20_3
                    try clear hcz24_0 hcz24_1 hcz24_2 hcz24_3
                    try clear hcz26_0 hcz26_1 hcz26_2 hcz26_3
                    try clear hcz30_0 hcz30_1 hcz30_2 hcz30_3
                    try clear hcz32_0 hcz32_1 hcz32_2 hcz32_3
                    try clear hcz37_0 hcz37_1 hcz37_2 hcz37_3
                    try clear hcz39_0 hcz39_1 hcz39_2 hcz39_3
                    try clear hcz40_0 hcz40_1 hcz40_2
                    try clear hcz43_0 hcz43_1 hcz43_2 hcz43_3
                    try clear hcz45_0 hcz45_1 hcz45_2 hcz45_3
                    try clear hcz46_0 hcz46_1 hcz46_2
                    try clear hcz49_0 hcz49_1 hcz49_2 hcz49_3
                    try clear hcz51_0 hcz51_1 hcz51_2 hcz51_3
                    try clear hcz65_0 hcz65_1 hcz65_2 hcz65_3
                    try clear hcz69_0 hcz69_1 hcz69_2 hcz69_3
                    try clear hcz71_0 hcz71_1 hcz71_2 hcz71_3
                    try clear hcz72_0 hcz72_1 hcz72_2 hcz72_3
                    try clear hcz74_0 hcz74_1 hcz74_2 hcz74_3
                    try clear hcz75_0 hcz75_1 hcz75_2 hcz75_3
                    try clear hfz10_0 hfz10_1 hfz10_2
                    try clear hfz14_0 hfz14_1 hfz14_2 hfz14_3
                    try clear hfz15_0 hfz15_1 hfz15_2
                    try clear hfz20_0 hfz20_1 hfz20_2 hfz20_3
                    try clear hfz24_0 hfz24_1 hfz24_2 hfz24_3
                    try clear hfz26_0 hfz26_1 hfz26_2 hfz26_3
                    try clear hfz30_0 hfz30_1 hfz30_2 hfz30_3
                    try clear hfz32_0 hfz32_1 hfz32_2 hfz32_3
                    try clear hfz37_0 hfz37_1 hfz37_2 hfz37_3
                    try clear hfz39_0 hfz39_1 hfz39_2 hfz39_3
                    try clear hfz40_0 hfz40_1 hfz40_2
                    try clear hfz43_0 hfz43_1 hfz43_2 hfz43_3
                    try clear hfz45_0 hfz45_1 hfz45_2 hfz45_3
                    try clear hfz46_0 hfz46_1 hfz46_2
                    try clear hfz49_0 hfz49_1 hfz49_2 hfz49_3
                    try clear hfz51_0 hfz51_1 hfz51_2 hfz51_3
                    try clear hfz65_0 hfz65_1 hfz65_2 hfz65_3
                    try clear hfz69_0 hfz69_1 hfz69_2 hfz69_3
                    try clear hfz71_0 hfz71_1 hfz71_2 hfz71_3
                    try clear hfz72_0 hfz72_1 hfz72_2 hfz72_3
                    try clear hfz74_0 hfz74_1 hfz74_2 hfz74_3
                    try clear hfz75_0 hfz75_1 hfz75_2 hfz75_3
                    try clear p2
                    obtain ⟨x24_5, rfl, HA, HK5, HO_17, HO_18, BK813, BK819, BK825, BK834, BK835, HB⟩ := hrel
                    cases gk with
                    | zero => exact absurd HA.out (by simp [laws_FnLabelBoxes.l0])
                    | succ k5 =>
                     have H := HA.out; clear HA; simp only [laws_FnLabelBoxes.l0] at H
                     by_cases c100 : x24_5 < (t845.length : Int)
                     ·
                      rw [if_pos c100] at H
                      have c100b0 : decide (x24_5 < (t845.length : Int)) = true := decide_eq_true c100; clear c100
                      by_cases c101 : 0 ≤ x24_5
                      ·
                       rw [if_pos c101] at H
                       have c101b0 : decide (0 ≤ x24_5) = true := decide_eq_true c101; clear c101; replace H := Option.bind_eq_some_iff.mp H; obtain ⟨⟨t859, t860⟩, A1020, H⟩ := H; replace H : (if t860 = true then (if (t859.length : Int) = 0 then (none) else (laws_FnLabelBoxes.l0 k5 l0 t842 t845 (wrap64 (x24_5 + 1)))) else (none)) = some r := H; have A102 := Aside0.mk A1020; clear A1020
                       by_cases c103 : t860 = true
                       ·
                        subst c103
                        have H1 : (if (t859.length : Int) = 0 then (none) else (laws_FnLabelBoxes.l0 k5 l0 t842 t845 (wrap64 (x24_5 + 1)))) = some r := by rw [if_pos rfl] at H; exact H
                        clear H; have H := H1; clear H1
                        by_cases c104 : (t859.length : Int) = 0
                        ·
                         rw [if_pos c104] at H
                         exact absurd H (by simp)
                        ·
                         rw [if_neg c104] at H
                         have c104b0 : ((t859.length : Int) == 0) = false := beq_eq_false_iff_ne.mpr c104; have c104b1 : ((t859.length : Int) != 0) = true := bne_iff_ne.mpr c104
                         have c104b2 : ¬ (t859 = []) := fun h_ => c104 (by rw [h_]; rfl)
                         have H' := Aside0.mk H; clear H; obtain ⟨Ao105, co105, eo105⟩ := Kd.R_slice HO_18.out; subst eo105; have p858 : 0 ≤ (x24_5 : Int) := dt_; have q858 : x24_5 < (t845.length : Int) := dt_; obtain ⟨ad858, e858, hx858_0⟩ := Kd.at_int (Kd.R_reads' HO_18.out).2.2 x24_5 p858 q858
                         cases e858
                         replace p858 := eq_true p858; replace q858 := eq_true q858
                         go_wp2_with (first | ((with_reducible refine gate_callee (f := 28) rfl ?_); refine ga_ (some 165) Tryd.func28 #[.slice Ao86 t842.length co86, .int .i64 (rd t845 x24_5)] ?_; (with_reducible refine (impl_WaysOf.calls k5 _ _ t842 (rd t845 x24_5) t859 true _ ?side1 ?side2 A102.out).mono ?_); (case side1 => exact kc_ (Kd.R_reads' HO_17.out).2.2); (case side2 => exact (Kd.R_reads' HO_17.out).2.1); rintro e w106 ⟨v861, rfl, ho0, hb⟩; refine ⟨_, rfl, ?_⟩; replace HO_17 := Aside0.mk (Kd.R_below (kr_ HO_17.out) hb); have HO862 := Aside0.mk (Kd.R_lower (Kd.R_new' ho0 (Kd.R_lt (kr_ HO_18.out))) (below_size (by repeat (first | (with_reducible first | exact HB.out | apply below_alloc | apply pw_below_drewN | apply below_drew1 | refine below_set ?_ GE813.out | refine below_set ?_ GE819.out | refine below_set ?_ GE825.out | refine below_set ?_ GE834.out | refine below_set ?_ GE835.out) | exact HB.out)))); replace HO_18 := Aside0.mk (Kd.R_elder' (kr_ HO_18.out) (Kd.R_base ho0) hb); replace BK813 := Aside0.mk (bb_ (bk_ BK813.out) hb); replace BK819 := Aside0.mk (bb_ (bk_ BK819.out) hb); replace BK825 := Aside0.mk (bb_ (bk_ BK825.out) hb); replace BK834 := Aside0.mk (bb_ (bk_ BK834.out) hb); replace BK835 := Aside0.mk (bb_ (bk_ BK835.out) hb); replace HB := Aside0.mk (below_step (by repeat (first | (with_reducible first | exact HB.out | apply below_alloc | apply pw_below_drewN | apply below_drew1 | refine below_set ?_ GE813.out | refine below_set ?_ GE819.out | refine below_set ?_ GE825.out | refine below_set ?_ GE834.out | refine below_set ?_ GE835.out) | exact HB.out)) hb); (try clear hb); (try clear hb2); (try clear hk); (try clear hi); (try clear ho0); obtain ⟨Ao107, co107, eo107⟩ := Kd.R_slice HO862.out; subst eo107))
                         go_roundg k5
                         case measure => have := HJ6.out; have := HJ56.out; have := HJ83.out; have := HJ94.out; have := HK5.out; omega
                         case rel => exact ⟨(wrap64 (x24_5 + 1)), (by first | rfl | (simp; done) | (simp [*]; done)), H', ⟨by have := HJ6.out; have := HJ56.out; have := HJ83.out; have := HJ94.out; have := HK5.out; omega⟩, ⟨kr_ HO_17.out⟩, ⟨krm_ HO_18.out (fun _ hk => trivial)⟩, ⟨bk_ BK813.out⟩, ⟨bk_ BK819.out⟩, ⟨bk_ BK825.out⟩, ⟨bk_ BK834.out⟩, ⟨bk_ BK835.out⟩, ⟨by repeat (first | (with_reducible first | exact HB.out | apply below_alloc | apply pw_below_drewN | apply below_drew1 | refine below_set ?_ GE813.out | refine below_set ?_ GE819.out | refine below_set ?_ GE825.out | refine below_set ?_ GE834.out | refine below_set ?_ GE835.out) | exact HB.out)⟩⟩
                       ·
                        replace c103 := Bool.eq_false_iff.mpr c103; subst c103
                        have H1 : (none) = some r := by rw [if_neg (show ¬ (false = true) by decide)] at H; exact H
                        clear H; have H := H1; clear H1; exact absurd H (by simp)
                      ·
                       rw [if_neg c101] at H
                       exact absurd H (by simp)
                     ·
                      rw [if_neg c100] at H
                      have c100b0 : decide (x24_5 < (t845.length : Int)) = false := decide_eq_false c100; clear c100; replace H := Option.bind_eq_some_iff.mp H; obtain ⟨⟨t863, t864⟩, A1080, H⟩ := H; replace H : ((impl_WaysOf.f k5 t863 t864).bind fun bt867 => ((spec_WaysOf.f k5 t863 t864).bind fun bt871 => (if (bt867.2 == bt871.2) = true then ((laws_rInts.f k5 bt867.1 bt871.1).bind fun t875 => (some t875)) else (none)))) = some r := H; have A108 := Aside0.mk A1080; clear A1080; replace H := Option.bind_eq_some_iff.mp H; obtain ⟨⟨t867, t868⟩, A1090, H⟩ := H; replace H : ((spec_WaysOf.f k5 t863 t864).bind fun bt871 => (if (t868 == bt871.2) = true then ((laws_rInts.f k5 t867 bt871.1).bind fun t875 => (some t875)) else (none))) = some r := H; have A109 := Aside0.mk A1090; clear A1090; replace H := Option.bind_eq_some_iff.mp H; obtain ⟨⟨t871, t872⟩, A1100, H⟩ := H; replace H : (if (t868 == t872) = true then ((laws_rInts.f k5 t867 t871).bind fun t875 => (some t875)) else (none)) = some r := H; have A110 := Aside0.mk A1100; clear A1100
                      by_cases c111 : (t868 == t872) = true
                      ·
                       rw [if_pos c111] at H
                       have c111b0 : (t868 == t872) = true := c111; (try (have c111b1 : decide (t868 = t872) = true := by simpa using c111)); (try (have c111b2 : (t868 == t872) = true := by simpa using c111)); clear c111; replace H := Option.bind_eq_some_iff.mp H; obtain ⟨t875, A1120, H⟩ := H; replace H : (some t875) = some r := H; have A112 := Aside0.mk A1120; clear A1120; obtain rfl := Option.some.inj H; obtain ⟨Ao113, co113, eo113⟩ := Kd.R_slice HO_18.out; subst eo113
                       go_wp2_with (first | ((with_reducible refine gate_callee (f := 53) rfl ?_); refine ga_ (some 177) Tryd.func53 #[.slice A0 l0.length c0] ?_; (with_reducible refine (spec_DrawWaysOf.calls k5 _ _ l0 t863 t864 _ ?side1 ?side2 A108.out).mono ?_); (case side1 => exact kc_ (Kd.C_below HR0.out HB.out)); (case side2 => exact HC0.out); rintro e w114 ⟨v865, rfl, ho0, hb⟩; refine ⟨_, rfl, ?_⟩; replace HO_18 := Aside0.mk (Kd.R_below (kr_ HO_18.out) hb); have HO866 := Aside0.mk (Kd.R_lower (Kd.R_newB (Kd.R_new' ho0 (Kd.R_lt (kr_ HO_17.out))) (g := gb813) (o := .cells #[.string t809, .int .i64 t810, .int .i64 t811] 29 (0, 0)) (bk_ BK813.out)) (below_size (by repeat (first | (with_reducible first | exact HB.out | apply below_alloc | apply pw_below_drewN | apply below_drew1 | refine below_set ?_ GE813.out | refine below_set ?_ GE819.out | refine below_set ?_ GE825.out | refine below_set ?_ GE834.out | refine below_set ?_ GE835.out) | exact HB.out)))); replace HO_17 := Aside0.mk (Kd.R_elder' (kr_ HO_17.out) (Kd.R_base ho0) hb); replace BK813 := Aside0.mk (bb_ (bk_ BK813.out) hb); replace BK819 := Aside0.mk (bb_ (bk_ BK819.out) hb); replace BK825 := Aside0.mk (bb_ (bk_ BK825.out) hb); replace BK834 := Aside0.mk (bb_ (bk_ BK834.out) hb); replace BK835 := Aside0.mk (bb_ (bk_ BK835.out) hb); replace HB := Aside0.mk (below_step (by repeat (first | (with_reducible first | exact HB.out | apply below_alloc | apply pw_below_drewN | apply below_drew1 | refine below_set ?_ GE813.out | refine below_set ?_ GE819.out | refine below_set ?_ GE825.out | refine below_set ?_ GE834.out | refine below_set ?_ GE835.out) | exact HB.out)) hb); (try clear hb); (try clear hb2); (try clear hk); (try clear hi); (try clear ho0); obtain ⟨Ao115, co115, eo115⟩ := Kd.R_slice HO866.out; subst eo115) | ((with_reducible refine gate_callee (f := 28) rfl ?_); refine ga_ (some 183) Tryd.func28 #[.slice Ao115 t863.length co115, .int .i64 t864] ?_; (with_reducible refine (impl_WaysOf.calls k5 _ _ t863 t864 t867 t868 _ ?side1 ?side2 A109.out).mono ?_); (case side1 => exact kc_ (Kd.R_reads' HO866.out).2.2); (case side2 => exact (Kd.R_reads' HO866.out).2.1); rintro e w116 ⟨v869, rfl, ho0, hb⟩; refine ⟨_, rfl, ?_⟩; replace HO_17 := Aside0.mk (Kd.R_below (kr_ HO_17.out) hb); replace HO866 := Aside0.mk (Kd.R_below (kr_ HO866.out) hb); have HO870 := Aside0.mk (Kd.R_lower (Kd.R_new' ho0 (Kd.R_lt (kr_ HO_18.out))) (below_size (by repeat (first | (with_reducible first | exact HB.out | apply below_alloc | apply pw_below_drewN | apply below_drew1 | refine below_set ?_ GE813.out | refine below_set ?_ GE819.out | refine below_set ?_ GE825.out | refine below_set ?_ GE834.out | refine below_set ?_ GE835.out) | exact HB.out)))); replace HO_18 := Aside0.mk (Kd.R_elder' (kr_ HO_18.out) (Kd.R_base ho0) hb); replace BK813 := Aside0.mk (bb_ (bk_ BK813.out) hb); replace BK819 := Aside0.mk (bb_ (bk_ BK819.out) hb); replace BK825 := Aside0.mk (bb_ (bk_ BK825.out) hb); replace BK834 := Aside0.mk (bb_ (bk_ BK834.out) hb); replace BK835 := Aside0.mk (bb_ (bk_ BK835.out) hb); replace HB := Aside0.mk (below_step (by repeat (first | (with_reducible first | exact HB.out | apply below_alloc | apply pw_below_drewN | apply below_drew1 | refine below_set ?_ GE813.out | refine below_set ?_ GE819.out | refine below_set ?_ GE825.out | refine below_set ?_ GE834.out | refine below_set ?_ GE835.out) | exact HB.out)) hb); (try clear hb); (try clear hb2); (try clear hk); (try clear hi); (try clear ho0)) | ((with_reducible refine gate_callee (f := 27) rfl ?_); refine ga_ (some 189) Tryd.func27 #[.slice Ao115 t863.length co115, .int .i64 t864] ?_; (with_reducible refine (spec_WaysOf.calls k5 _ _ t863 t864 t871 t872 _ ?side1 ?side2 A110.out).mono ?_); (case side1 => exact kc_ (Kd.R_reads' HO866.out).2.2); (case side2 => exact (Kd.R_reads' HO866.out).2.1); rintro e w117 ⟨v873, rfl, ho0, hb⟩; refine ⟨_, rfl, ?_⟩; replace HO_17 := Aside0.mk (Kd.R_below (kr_ HO_17.out) hb); replace HO866 := Aside0.mk (Kd.R_below (kr_ HO866.out) hb); have HO874 := Aside0.mk (Kd.R_lower (Kd.R_new' (Kd.R_new' ho0 (Kd.R_lt (kr_ HO_18.out))) (Kd.R_lt (kr_ HO870.out))) (below_size (by repeat (first | (with_reducible first | exact HB.out | apply below_alloc | apply pw_below_drewN | apply below_drew1 | refine below_set ?_ GE813.out | refine below_set ?_ GE819.out | refine below_set ?_ GE825.out | refine below_set ?_ GE834.out | refine below_set ?_ GE835.out) | exact HB.out)))); replace HO_18 := Aside0.mk (Kd.R_elder' (kr_ HO_18.out) (Kd.R_base ho0) hb); replace HO870 := Aside0.mk (Kd.R_elder' (kr_ HO870.out) (Kd.R_base ho0) hb); replace BK813 := Aside0.mk (bb_ (bk_ BK813.out) hb); replace BK819 := Aside0.mk (bb_ (bk_ BK819.out) hb); replace BK825 := Aside0.mk (bb_ (bk_ BK825.out) hb); replace BK834 := Aside0.mk (bb_ (bk_ BK834.out) hb); replace BK835 := Aside0.mk (bb_ (bk_ BK835.out) hb); replace HB := Aside0.mk (below_step (by repeat (first | (with_reducible first | exact HB.out | apply below_alloc | apply pw_below_drewN | apply below_drew1 | refine below_set ?_ GE813.out | refine below_set ?_ GE819.out | refine below_set ?_ GE825.out | refine below_set ?_ GE834.out | refine below_set ?_ GE835.out) | exact HB.out)) hb); (try clear hb); (try clear hb2); (try clear hk); (try clear hi); (try clear ho0); obtain ⟨Ao118, co118, eo118⟩ := Kd.R_slice HO870.out; subst eo118; obtain ⟨Ao119, co119, eo119⟩ := Kd.R_slice HO874.out; subst eo119) | (go_at_call 45; (with_reducible refine (laws_rInts.calls k5 _ _ t867 _ _ t871 t875 _ ?side1 ?side2 ?side3 ?side4 A112.out).mono ?_); (case side1 => exact kc_ (Kd.R_reads' HO870.out).2.2); (case side2 => exact (Kd.R_reads' HO870.out).2.1); (case side3 => exact kc_ (Kd.R_reads' HO874.out).2.2); (case side4 => exact (Kd.R_reads' HO874.out).2.1); rintro e w' ⟨rfl, ⟨nd, rfl⟩⟩))
                       go_ret
                       exact ⟨rr_, by repeat (first | (with_reducible first | exact HB.out | apply below_alloc | apply pw_below_drewN | apply below_drew1 | refine below_set ?_ GE813.out | refine below_set ?_ GE819.out | refine below_set ?_ GE825.out | refine below_set ?_ GE834.out | refine below_set ?_ GE835.out) | exact HB.out)⟩
                      ·
                       rw [if_neg c111] at H
                       exact absurd H (by simp)
end Go.Proofs.YtjkcfpmonpkhhaaDoor.Pr

namespace Go.Proofs.YtjkcfpmonpkhhaaDoorW.Opens
open Go.ChangeShapes Go.WideShapes Go.RowKit
open Go.Deep (open_slice choose_lt)
open Go.Proofs.YtjkcfpmonpkhhaaDoorW.PrintWords
set_option linter.unusedVariables false
set_option linter.unusedSimpArgs false
def Opn {α : Type} (P : Program) (t : TypeId) (d : Kd α) (wf : α → Prop) : Prop :=
 P.cellsOf t = d.sz ∧ ∀ (H : Type) (enc : TypeId × Value → H) (W : World) (fuel : Nat) (cs : List Value) (x : DataW H × List MemPlace),
  DataW.trod enc P W 0 (fun _ => true) true fuel t cs = some x → (∀ n ∈ x.1.weights P t, n ≤ reachBytes) → ∃ y, d.K W y cs ∧ wf y
theorem Opn.int {P : Program} {t : TypeId} {k : IntKind} (hc : P.cellsOf t = 1) (ht : P.underlying t = some (.int k)) : Opn P t (Kd.int k) (fun n => (Lit.int k n).wf = true) :=
 ⟨hc, fun H enc W fuel cs x h _ => by
  obtain ⟨m, rfl, rfl, hw⟩ := DataW.trod_int ht h
  exact ⟨m, rfl, hw⟩⟩
theorem Opn.bool {P : Program} {t : TypeId} (hc : P.cellsOf t = 1) (ht : P.underlying t = some .bool) : Opn P t Kd.bool (fun _ => True) :=
 ⟨hc, fun H enc W fuel cs x h _ => by
  obtain ⟨m, rfl, rfl⟩ := DataW.trod_bool ht h
  exact ⟨m, rfl, trivial⟩⟩
theorem Opn.string {P : Program} {t : TypeId} (hc : P.cellsOf t = 1) (ht : P.underlying t = some .string) : Opn P t Kd.string (fun s => s.size ≤ 140737488351232) :=
 ⟨hc, fun H enc W fuel cs x h hw => by
  obtain ⟨m, rfl, rfl, hm⟩ := DataW.trod_string ht h
  have := hw m.data.toList.length (by simp [DataW.weights])
  rw [Array.length_toList] at this
  exact ⟨m, rfl, this⟩⟩
theorem weightsAll_mem {H : Type} {P : Program} {e : TypeId} : ∀ {l : List (DataW H)} {d : DataW H}, d ∈ l → ∀ n ∈ d.weights P e, n ∈ DataW.weightsAll P e l
 | _ :: r, d, h, n, hn => by
  simp only [DataW.weightsAll, List.mem_append]
  rcases List.mem_cons.1 h with rfl | h
  ·
   exact .inl hn
  ·
   exact .inr (weightsAll_mem h n hn)
theorem Opn.slice {α : Type} (z : α) {P : Program} {t e : TypeId} {d : Kd α} {wf : α → Prop} {B : Nat} (hc : P.cellsOf t = 1) (ht : P.underlying t = some (.slice e)) (hB : P.bytesOf e = B) (h : Opn P e d wf) :
  Opn P t (Kd.slice e d) (fun xs => xs.length ≤ maxLen ∧ xs.length * B ≤ 140737488351232 ∧ ∀ y ∈ xs, wf y) :=
 ⟨hc, fun H enc W fuel cs x hf hw => by
  haveI : Inhabited α := ⟨z⟩
  rcases open_slice ht hf with ⟨rfl, rfl⟩ | ⟨a, len, cap, m, n, D, Pl, rfl, _, hl, hm, hmm, rfl, each⟩
  ·
   exact ⟨[], ⟨none, 0, rfl, Nat.le_refl _, rfl, by simp, fun h => absurd h (Nat.lt_irrefl 0)⟩, by simp, by simp, by simp⟩
  ·
   rw [if_pos rfl] at hmm
   subst hmm
   have hw0 : ∀ n ∈ DataW.weights P t (DataW.slice (H := H) ((List.range len).map D) ((List.range (m - len)).map fun j => D (len + j))), n ≤ reachBytes := hw
   have hww : ∀ i, i < len → ∀ n ∈ (D i).weights P e, n ≤ reachBytes := by
    intro i hi n hn
    refine hw0 n ?_
    simp only [DataW.weights, ht, List.mem_cons, List.mem_append]
    exact .inr (.inl (weightsAll_mem (List.mem_map.2 ⟨i, List.mem_range.2 hi, rfl⟩) n hn))
   have hB2 : len * B ≤ 140737488351232 := by
    have := hw0 ((len + (m - len)) * B) (by simp [DataW.weights, ht, hB])
    refine Nat.le_trans (Nat.mul_le_mul_right _ (by omega)) this
   have hx : ∀ i, i < len → ∃ y, ∃ c : List Value, c.length = d.sz ∧ d.K W y c ∧ wf y ∧ ∀ j u, c[j]? = some u → W.cell? (a.add (i * d.sz + j)) = some u := by
    intro i hi
    obtain ⟨cs', h1, h2⟩ := each i (by omega)
    obtain ⟨y, hy, hwy⟩ := h.2 H enc W n cs' _ h2 (hww i hi)
    obtain ⟨_, hlen, hcell⟩ := World.cells?_some h1
    rw [h.1] at hlen hcell
    refine ⟨y, cs', hlen, hy, hwy, fun j u hu => ?_⟩
    have hj : j < d.sz := by
     have := (List.getElem?_eq_some_iff.1 hu).1
     omega
    have := hcell j hj
    rw [add_add] at this
    exact this.trans hu
   obtain ⟨f, hf'⟩ := choose_lt hx
   refine ⟨(List.range len).map f, ⟨some a, m, by simp, by simpa using hl, by simp, by simp only [maxLen] at hm; simp; omega, fun _ => ⟨a, rfl, fun j p hj => ?_⟩⟩, ?_, ?_, ?_⟩
   ·
    rw [List.getElem?_map] at hj
    have hj' : j < len := by
     by_cases hjl : j < len
     ·
      exact hjl
     ·
      rw [List.getElem?_eq_none (by simp; omega)] at hj
      cases hj
    rw [List.getElem?_range hj'] at hj
    obtain rfl := Option.some.inj hj
    obtain ⟨c, h1, h2, _, h3⟩ := hf' j hj'
    exact ⟨c, h1, h2, h3⟩
   ·
    simp; omega
   ·
    simpa using hB2
   ·
    intro y hy
    obtain ⟨i, hi, rfl⟩ := List.mem_map.1 hy
    obtain ⟨c, _, _, h2, _⟩ := hf' i (List.mem_range.1 hi)
    exact h2⟩
def FOpn {α : Type} (P : Program) (fs : List Field) (off : Nat) (d : Kd α) (wf : α → Prop) : Prop :=
 ∀ (H : Type) (enc : TypeId × Value → H) (W : World) (fuel : Nat) (cs : List Value) (xs : List (DataW H × List MemPlace)),
  xs.length = fs.length → (∀ (i : Nat) (f : Field), fs[i]? = some f → DataW.trod enc P W 0 (fun _ => true) true fuel f.type ((cs.drop f.offset).take (P.cellsOf f.type)) = xs[i]?) →
  (∀ n ∈ DataW.weightsEach P (fs.map (·.type)) (xs.map (·.1)), n ≤ reachBytes) → ∃ y, d.K W y ((cs.drop off).take d.sz) ∧ wf y
theorem FOpn.one {α : Type} {P : Program} {f : Field} {off : Nat} {d : Kd α} {wf : α → Prop} (ho : f.offset = off) (h : Opn P f.type d wf) : FOpn P [f] off d wf := by
 intro H enc W fuel cs xs hl hx hw
 match xs, hl with
 | [x], _ =>
  have h0 := hx 0 f rfl
  rw [ho, h.1] at h0
  exact h.2 H enc W fuel _ x h0 (fun n hn => hw n (by simp only [List.map, DataW.weightsEach, List.mem_append]; exact .inl hn))
theorem FOpn.cons {α β : Type} {P : Program} {f : Field} {fs : List Field} {off : Nat} {d : Kd α} {d' : Kd β} {wf : α → Prop} {wf' : β → Prop} (ho : f.offset = off) (h : Opn P f.type d wf) (h' : FOpn P fs (off + d.sz) d' wf') :
  FOpn P (f :: fs) off (Kd.pair d d') (fun x => wf x.1 ∧ wf' x.2) := by
 intro H enc W fuel cs xs hl hx hw
 match xs, hl with
 | x :: xs, hl =>
  have h0 := hx 0 f rfl
  rw [ho, h.1] at h0
  have hw' : ∀ n ∈ x.1.weights P f.type ++ DataW.weightsEach P (fs.map (·.type)) (xs.map (·.1)), n ≤ reachBytes := hw
  obtain ⟨y, hy, hwy⟩ := h.2 H enc W fuel _ x h0 (fun n hn => hw' n (List.mem_append_left _ hn))
  obtain ⟨y', hy', hwy'⟩ := h' H enc W fuel cs xs (by simpa using hl) (fun i f' hf' => hx (i + 1) f' (by simpa using hf')) (fun n hn => hw' n (List.mem_append_right _ hn))
  refine ⟨(y, y'), ⟨_, _, ?_, hy, hy'⟩, hwy, hwy'⟩
  show (cs.drop off).take (d.sz + d'.sz) = _
  rw [List.take_add, List.drop_drop]
theorem par_weights {H : Type} {P : Program} {ts : List TypeId} {ds : List (DataW H)} {j : Nat} {t : TypeId} {d : DataW H} (h : (DataW.weightsEach P ts ds).all (· ≤ reachBytes) = true) (ht : ts[j]? = some t) (hd : ds[j]? = some d) :
  ∀ n ∈ d.weights P t, n ≤ reachBytes := fun n hn => of_decide_eq_true (List.all_eq_true.1 h n (DataW.weights_mem_each ht hd n hn))
theorem par_slice {α : Type} {H : Type} {enc : TypeId × Value → H} {P : Program} {W : World} {r : Reach} {b0 : Nat} {t e : TypeId} {d : Kd α} {wf : List α → Prop} {v : Value} {D : DataW H} {ps : List MemPlace}
  (ht : P.underlying t = some (.slice e)) (ho : Opn P t (Kd.slice e d) wf) (hv : Value.okWide P W r b0 t v) (hd : DataW.Trod enc P W 0 (fun _ => true) true t v D ps) (hw : ∀ n ∈ D.weights P t, n ≤ reachBytes) :
  ∃ (A : Option Addr) (l : List α) (c : Nat), v = .slice A l.length c ∧ l.length ≤ c ∧ d.C W A l.length l ∧ wf l := by
 obtain ⟨A, len, cap, rfl⟩ := okWide_slice ht hv
 obtain ⟨fuel, hf⟩ := hd
 obtain ⟨l, ⟨A', c, he, hl, hC⟩, hwl⟩ := ho.2 H enc W fuel _ _ hf hw
 have he' : [Value.slice A len cap] = [.slice A' l.length c] := he
 simp only [List.cons.injEq, Value.slice.injEq, and_true] at he'
 obtain ⟨rfl, rfl, rfl⟩ := he'
 exact ⟨_, l, _, rfl, hl, hC, hwl⟩
end Go.Proofs.YtjkcfpmonpkhhaaDoorW.Opens

namespace Go.Proofs.YtjkcfpmonpkhhaaDoor.Pr
open Go.RowKit Go.Proofs.YtjkcfpmonpkhhaaDoorW.PrintWords Go.Proofs.YtjkcfpmonpkhhaaDoorW.PrintLast Go.Proofs.YtjkcfpmonpkhhaaDoorW.Opens
set_option linter.unusedVariables false
def wfL5 (l : List Int) : Prop := l.length ≤ maxLen ∧ l.length * 1 ≤ 140737488351232 ∧ ∀ y ∈ l, (Lit.int .u8 y).wf = true
theorem opnL59 : Opn Tryd.prog 59 (Kd.slice 5 (Kd.int .u8)) wfL5 := Opn.slice (0 : Int) (by kernel_rfl) Tryd.underlying59 (by kernel_rfl) (Opn.int (by kernel_rfl) Tryd.underlying5)
def FnLabelBoxes.Pure : Prop := ∀ (x0 : (List Int)), wfL5 x0 → ∃ k, laws_FnLabelBoxes.f k x0 = some true
end Go.Proofs.YtjkcfpmonpkhhaaDoor.Pr

namespace Go.Proofs.YtjkcfpmonpkhhaaDoor.Pr
open Go.RowKit Go.Proofs.YtjkcfpmonpkhhaaDoorW.PrintWords Go.Proofs.YtjkcfpmonpkhhaaDoorW.PrintLast Go.Proofs.YtjkcfpmonpkhhaaDoorW.PrintMore
attribute [local go_sem] max2_int min2_int max_two min_two max_three min_three max_four min_four   -- for this text's walks alone
set_option linter.unusedVariables false
set_option linter.unusedSimpArgs false
def CountS (gc : Nat) (ys : List (List Int)) (w : World) : Prop := w.heap[gc]? = some (.cells #[.int .i64 (wrap64 (ys.length : Int))] 3 (0, 0))
theorem CountS.nil {gc : Nat} {w : World} (h : w.heap[gc]? = some (.cells #[.int .i64 0] 3 (0, 0))) : CountS gc [] w := by
 have e : wrap64 (([] : List (List Int)).length : Int) = 0 := by
  show wrap64 ((0 : Nat) : Int) = 0
  unfold wrap64
  omega
 unfold CountS
 rw [e]
 exact h
def spec_FirstPlacing.f (k : Nat) (l0 : List (S29)) : Option (List Int × Bool) := (spec_l24Good.f k l0).bind fun t461 => (if t461 = true then (if 0 ≤ (IntKind.u64.wrap ((l0.length : Int))) then ((spec_l24Count.f k l0 (wrap64 ((shl .i64 1 (IntKind.u64.wrap ((l0.length : Int)))) - 1)) (([] : List Int))).bind fun bt465 => (some (bt465.1, decide (bt465.2 > 0)))) else (none)) else (some ((([] : List Int)), false)))
def sc (a b : ByteArray) : ByteArray := a ++ b
theorem sc_in (a b : ByteArray) : a ++ b = sc a b := rfl
def sx (a : ByteArray) (i j : Nat) : ByteArray := a.extract i j
theorem sx_in (a : ByteArray) (i j : Nat) : a.extract i j = sx a i j := rfl
end Go.Proofs.YtjkcfpmonpkhhaaDoor.Pr

namespace Go.Proofs.YtjkcfpmonpkhhaaDoor.Pr.Pure
open Go.RowKit Go.Proofs.YtjkcfpmonpkhhaaDoorW.PrintWords Go.Proofs.YtjkcfpmonpkhhaaDoorW.PrintLast Go.Proofs.YtjkcfpmonpkhhaaDoorW.PrintMore  Go.Lib
set_option linter.unusedVariables false
set_option linter.unusedSimpArgs false
theorem w64 {x : Int} (h1 : -9223372036854775808 ≤ x) (h2 : x ≤ 9223372036854775807) : wrap64 x = x := by
 unfold wrap64
 omega
theorem getD_some {α : Type} (l : List α) (z : α) (i : Nat) (h : i < l.length) : l[i]? = some (l.getD i z) := by
 rw [List.getD_eq_getElem?_getD, List.getElem?_eq_getElem h]
 rfl
theorem obs {α β : Type} (a : α) (f : α → Option β) : (some a).bind f = f a := id (Option.bind_some a f)
def M (l : List UInt8) : ByteArray := ⟨l.toArray⟩
theorem ex_M (b : ByteArray) : ∃ l, b = M l := ⟨b.data.toList, by unfold M; rw [Array.toArray_toList]⟩
theorem M_size (l : List UInt8) : (M l).size = l.length := by simp [M, ByteArray.size]
theorem M_data (l : List UInt8) : (M l).data.toList = l := by simp [M]
theorem M_toList (l : List UInt8) : (M l).toList = l := by rw [ByteArray.toList_eq, M_data]
theorem bt_M (l : List UInt8) (i : Nat) : bt (M l) (i : Int) = ((l.getD i 0).toNat : Int) := by
 have hb := rd_bytesOf (M l) (i : Int)
 rw [← hb]
 unfold rd bytesOf
 rw [M_data, Int.toNat_natCast, List.getD_eq_getElem?_getD, List.getD_eq_getElem?_getD, List.getElem?_map]
 cases l[i]? <;> rfl
theorem drop_at (l : List UInt8) (i : Nat) (h : i < l.length) : l.drop i = l.getD i 0 :: l.drop (i + 1) := by
 rw [List.drop_eq_getElem_cons h, List.getD_eq_getElem?_getD, List.getElem?_eq_getElem h]
 rfl
theorem l1In_eq (a b c : Int) : spec_l1In.f a b c = some (decide (b ≤ a ∧ a ≤ c)) := by
 unfold spec_l1In.f
 by_cases h : b ≤ a
 ·
  rw [if_pos h]; simp [h]
 ·
  rw [if_neg (by omega)]; simp [h]
theorem within_eq (a b c : Int) : impl_within.f a b c = some (decide (b ≤ a ∧ a ≤ c)) := by
 unfold impl_within.f
 by_cases h : b ≤ a
 ·
  rw [if_pos h]; simp [h]
 ·
  rw [if_neg (by omega)]; simp [h]
end Go.Proofs.YtjkcfpmonpkhhaaDoor.Pr.Pure

namespace Go.Proofs.YtjkcfpmonpkhhaaDoor.Pr.Pure
open Go.RowKit Go.Proofs.YtjkcfpmonpkhhaaDoorW.PrintWords Go.Proofs.YtjkcfpmonpkhhaaDoorW.PrintLast Go.Proofs.YtjkcfpmonpkhhaaDoorW.PrintMore Go.Lib
set_option linter.unusedVariables false
set_option linter.unusedSimpArgs false
def small (x : UInt8) : Bool := decide (97 ≤ x.toNat) && decide (x.toNat ≤ 122)
def isW (l : List UInt8) : Bool := decide (1 ≤ l.length) && decide (l.length ≤ 10) && l.all small
theorem word_l0 (l : List UInt8) (hl : l.length ≤ 4611686018427387904) (d : Nat) : ∀ (k i : Nat), i + d = l.length → d < k → spec_l2Word.l0 k (M l) i = some (decide (1 ≤ l.length) && decide (l.length ≤ 10) && (l.drop i).all small) := by
 induction d with
 | zero =>
  intro k i hd hk
  obtain ⟨k, rfl⟩ : ∃ m, k = m + 1 := ⟨k - 1, by omega⟩
  simp only [spec_l2Word.l0]
  rw [M_size, if_neg (by omega), List.drop_of_length_le (by omega), l1In_eq, obs]
  simp only [List.all_nil, Bool.and_true]
  congr 1
  rw [Bool.eq_iff_iff]
  simp
  omega
 | succ d ih =>
  intro k i hd hk
  obtain ⟨k, rfl⟩ : ∃ m, k = m + 1 := ⟨k - 1, by omega⟩
  simp only [spec_l2Word.l0]
  rw [M_size, if_pos (by omega), if_pos (by omega), bt_M, drop_at l i (by omega)]
  generalize l.getD i 0 = x
  rw [w64 (by omega) (by omega)]
  have ih' := ih k (i + 1) (by omega) (by omega)
  rw [show ((i + 1 : Nat) : Int) = (i : Int) + 1 by omega] at ih'
  rw [List.all_cons]
  by_cases h1 : (x.toNat : Int) < 97
  ·
   have : small x = false := by
    unfold small
    have : ¬ 97 ≤ x.toNat := by omega
    simp [this]
   rw [if_pos h1, this]
   simp
  ·
   rw [if_neg h1]
   by_cases h2 : (x.toNat : Int) > 122
   ·
    have : small x = false := by
     unfold small
     have : ¬ x.toNat ≤ 122 := by omega
     simp [this]
    rw [if_pos h2, this]
    simp
   ·
    have : small x = true := by
     unfold small
     have a : 97 ≤ x.toNat := by omega
     have b : x.toNat ≤ 122 := by omega
     simp [a, b]
    rw [if_neg h2, ih', this, Bool.true_and]
theorem word_spec (l : List UInt8) (hl : l.length ≤ 4611686018427387904) {k : Nat} (hk : l.length < k) : spec_l2Word.f k (M l) = some (isW l) := by
 unfold spec_l2Word.f isW
 simpa using word_l0 l hl l.length k 0 (by omega) hk
def letters : List UInt8 := [97, 98, 99, 100, 101, 102, 103, 104, 105, 106, 107, 108, 109, 110, 111, 112, 113, 114, 115, 116, 117, 118, 119, 120, 121, 122]
set_option maxRecDepth 100000 in
theorem letters_small (x : UInt8) : letters.contains x = small x := by
 have : ∀ n : Nat, n < 256 → letters.contains (UInt8.ofNat n) = small (UInt8.ofNat n) := by decide
 have h := this x.toNat x.toNat_lt
 rwa [show UInt8.ofNat x.toNat = x from UInt8.ofNat_toNat] at h
theorem drop_all {p : UInt8 → Bool} : ∀ l : List UInt8, l.dropWhile p = [] ↔ l.all p = true
 | [] => by simp
 | x :: l => by
  by_cases h : p x = true
  ·
   rw [List.dropWhile_cons_of_pos h, drop_all l]
   simp [h]
  ·
   rw [List.dropWhile_cons_of_neg h]
   simp [h]
theorem trim_nil (l : List UInt8) : trimS l letters = [] ↔ l.all small = true := by
 have hp : (fun x => letters.contains x) = small := funext letters_small
 unfold trimS trimLeftS trimRightS
 rw [hp, drop_all]
 constructor
 ·
  intro h
  rw [List.all_reverse] at h
  have h2 : (l.reverse.dropWhile small).all small = true := h
  have h3 : l.reverse.all small = true := by
   rw [← drop_all]
   have h4 := (drop_all _).2 h2
   have : ∀ m : List UInt8, (m.dropWhile small).dropWhile small = m.dropWhile small := by
    intro m
    induction m with
    | nil => rfl
    | cons x m ih =>
     by_cases h : small x = true
     ·
      rw [List.dropWhile_cons_of_pos h, ih]
     ·
      rw [List.dropWhile_cons_of_neg h, List.dropWhile_cons_of_neg h]
   rw [this] at h4
   exact h4
  rwa [List.all_reverse] at h3
 ·
  intro h
  have h3 : l.reverse.all small = true := by rwa [List.all_reverse]
  rw [(drop_all _).2 h3]
  rfl
theorem word_impl (l : List UInt8) (hl : l.length ≤ 4611686018427387904) : impl_isWord.f (M l) = some (isW l) := by
 unfold impl_isWord.f isW
 rw [M_size]
 by_cases h1 : (l.length : Int) ≥ 1
 ·
  rw [if_pos h1]
  by_cases h2 : (l.length : Int) ≤ 10
  ·
   have ht : strings_Trim.f (M l) (M letters) = some (M (trimS l letters)) := by
    unfold strings_Trim.f
    rw [M_size, M_size, M_data, M_data, if_pos (by omega), if_pos (by decide), if_pos (by decide)]
    rfl
   rw [if_pos h2, show (⟨#[97, 98, 99, 100, 101, 102, 103, 104, 105, 106, 107, 108, 109, 110, 111, 112, 113, 114, 115, 116, 117, 118, 119, 120, 121, 122]⟩ : ByteArray) = M letters from rfl, ht, obs, M_toList]
   congr 1
   rw [Bool.eq_iff_iff]
   have a : 1 ≤ l.length := by omega
   have b : l.length ≤ 10 := by omega
   simp only [a, b, decide_true, Bool.true_and, beq_iff_eq]
   exact trim_nil l
  ·
   rw [if_neg h2]
   have b : ¬ l.length ≤ 10 := by omega
   simp [b]
 ·
  rw [if_neg h1]
  have b : ¬ 1 ≤ l.length := by omega
  simp only [b, decide_false, Bool.false_and]
def lab (l : List UInt8) (x y : Int) : Bool := isW l && decide (0 ≤ x ∧ x ≤ 99) && decide (0 ≤ y ∧ y ≤ 99)
def labB (x : S29) : Bool := lab x.f0.data.toList x.f1 x.f2
theorem lab_spec (l : List UInt8) (hl : l.length ≤ 4611686018427387904) (x y : Int) {k : Nat} (hk : l.length < k) : spec_l24One.f k (M l) x y = some (lab l x y) := by
 unfold spec_l24One.f lab
 rw [word_spec l hl hk, obs]
 cases isW l with
 | false => rfl
 | true =>
  rw [if_pos rfl, l1In_eq, obs]
  cases decide (0 ≤ x ∧ x ≤ 99) with
  | false => rfl
  | true =>
   rw [if_pos rfl, l1In_eq, obs]
   rfl
theorem lab_impl (l : List UInt8) (hl : l.length ≤ 4611686018427387904) (x y : Int) : impl_isLabel.f (M l) x y = some (lab l x y) := by
 unfold impl_isLabel.f lab
 rw [word_impl l hl, obs]
 cases isW l with
 | false => rfl
 | true =>
  rw [if_pos rfl, within_eq, obs]
  cases decide (0 ≤ x ∧ x ≤ 99) with
  | false => rfl
  | true =>
   rw [if_pos rfl, within_eq, obs]
   rfl
theorem labB_spec (x : S29) (hx : x.f0.size ≤ 1048576) {k : Nat} (hk : 1048576 < k) : spec_l24One.f k x.f0 x.f1 x.f2 = some (labB x) := by
 obtain ⟨l, hl⟩ := ex_M x.f0
 unfold labB
 rw [hl] at hx ⊢
 rw [M_size] at hx
 rw [M_data]
 exact lab_spec l (by omega) _ _ (by omega)
theorem labB_impl (x : S29) (hx : x.f0.size ≤ 1048576) : impl_isLabel.f x.f0 x.f1 x.f2 = some (labB x) := by
 obtain ⟨l, hl⟩ := ex_M x.f0
 unfold labB
 rw [hl] at hx ⊢
 rw [M_size] at hx
 rw [M_data]
 exact lab_impl l (by omega) _ _
theorem rdLab_drop (l : List S29) (i : Nat) (h : i < l.length) : l.drop i = rd_T29 l (i : Int) :: l.drop (i + 1) := by
 rw [List.drop_eq_getElem_cons h, show rd_T29 l (i : Int) = l.getD (i : Int).toNat _ from rfl, Int.toNat_natCast, List.getD_eq_getElem?_getD, List.getElem?_eq_getElem h]
 rfl
theorem good_l0 (l : List S29) (hs : ∀ x, x ∈ l → x.f0.size ≤ 1048576) (hl : l.length ≤ 4611686018427387904) (d : Nat) : ∀ (k i : Nat), i + d = l.length → 1048577 + d < k →
  spec_l24Good.l0 k l i = some ((l.drop i).all labB && decide (l.length ≤ 6)) := by
 induction d with
 | zero =>
  intro k i hd hk
  obtain ⟨k, rfl⟩ : ∃ m, k = m + 1 := ⟨k - 1, by omega⟩
  simp only [spec_l24Good.l0]
  rw [if_neg (by omega), List.drop_of_length_le (by omega), List.all_nil, Bool.true_and]
  congr 1
  rw [Bool.eq_iff_iff, decide_eq_true_eq, decide_eq_true_eq]
  omega
 | succ d ih =>
  intro k i hd hk
  obtain ⟨k, rfl⟩ : ∃ m, k = m + 1 := ⟨k - 1, by omega⟩
  simp only [spec_l24Good.l0]
  have hm : rd_T29 l i ∈ l := by
   show l.getD (i : Int).toNat _ ∈ l
   rw [Int.toNat_natCast, List.getD_eq_getElem?_getD, List.getElem?_eq_getElem (by omega)]
   exact List.getElem_mem _
  rw [if_pos (by omega), if_pos (by omega), labB_spec _ (hs _ hm) (by omega), obs, rdLab_drop l i (by omega), List.all_cons]
  cases labB (rd_T29 l i) with
  | false =>
   rw [if_neg Bool.false_ne_true]
   rfl
  | true =>
   rw [if_pos rfl, w64 (by omega) (by omega), Bool.true_and]
   exact ih k (i + 1) (by omega) (by omega)
def labs (l : List S29) : Bool := l.all labB && decide (l.length ≤ 6)
theorem good_eq {l : List S29} (hs : ∀ x, x ∈ l → x.f0.size ≤ 1048576) (hl : l.length ≤ 1048576) {k : Nat} (hk : 1048577 + l.length < k) : spec_l24Good.f k l = some (labs l) := by
 unfold spec_l24Good.f labs
 have := good_l0 l hs (by omega) l.length k 0 (by omega) hk
 simpa using this
theorem are_eq {l : List S29} (hs : ∀ x, x ∈ l → x.f0.size ≤ 1048576) : impl_AreLabels.f l = some (labs l) := by
 unfold impl_AreLabels.f labs
 have hx : ∀ x, x ∈ l → impl_isLabel.f x.f0 x.f1 x.f2 = some (labB x) := fun x h => labB_impl x (hs x h)
 by_cases c : (l.length : Int) ≤ 6
 ·
  rw [if_pos c, if_pos (List.all_eq_true.2 fun x h => by rw [hx x h]; rfl), decide_eq_true (show l.length ≤ 6 by omega), Bool.and_true]
  congr 1
  cases h : l.all labB with
  | false =>
   obtain ⟨x, h1, h2⟩ := List.all_eq_false.1 h
   rw [List.any_eq_true.2 ⟨x, h1, by rw [hx x h1]; simpa using h2⟩]
   rfl
  | true =>
   have : (l.any fun x => !(impl_isLabel.f x.f0 x.f1 x.f2).getD false) = false := List.any_eq_false.2 fun x h1 => by
    rw [hx x h1]
    simpa using List.all_eq_true.1 h x h1
   rw [this]
   rfl
 ·
  rw [if_neg c, decide_eq_false (show ¬ l.length ≤ 6 by omega), Bool.and_false]
def meetB (a b c d e f g h : Int) : Bool := (impl_meet.f a b c d e f g h).getD false
theorem meet_eq (a b c d e f g h : Int) : impl_meet.f a b c d e f g h = some (meetB a b c d e f g h) := by
 have : ∃ r, impl_meet.f a b c d e f g h = some r := by
  unfold impl_meet.f
  repeat' split
  all_goals exact ⟨_, rfl⟩
 obtain ⟨r, hr⟩ := this
 unfold meetB
 rw [hr]
 rfl
theorem meet_eq' (a b c d e f g h : Int) : spec_l24Meet.f a b c d e f g h = some (meetB a b c d e f g h) := meet_eq a b c d e f g h
def onB (b0 b1 b2 b3 : Int) : Bool := if b0 ≥ 0 then (if b1 ≥ 0 then (if wrap64 (b0 + b2) ≤ 100 then decide (wrap64 (b1 + b3) ≤ 100) else false) else false) else false
def fitB (l : List S29) (b0 b1 b2 b3 : Int) : Bool := !(l.any fun x => meetB b0 b1 b2 b3 x.f1 x.f2 1 1) && onB b0 b1 b2 b3
theorem free_l0 (l : List S29) (hl : l.length ≤ 1048576) (b0 b1 b2 b3 : Int) (d : Nat) : ∀ (k i : Nat), i + d = l.length → d < k →
  spec_l24Free.l0 k l i b0 b1 b2 b3 = some (!((l.drop i).any fun x => meetB b0 b1 b2 b3 x.f1 x.f2 1 1) && onB b0 b1 b2 b3) := by
 induction d with
 | zero =>
  intro k i hd hk
  obtain ⟨k, rfl⟩ : ∃ m, k = m + 1 := ⟨k - 1, by omega⟩
  simp only [spec_l24Free.l0]
  rw [if_neg (by omega), List.drop_of_length_le (by omega), List.any_nil, Bool.not_false, Bool.true_and]
  unfold onB
  repeat' split
  all_goals first | rfl | contradiction
 | succ d ih =>
  intro k i hd hk
  obtain ⟨k, rfl⟩ : ∃ m, k = m + 1 := ⟨k - 1, by omega⟩
  simp only [spec_l24Free.l0]
  rw [if_pos (by omega), if_pos (by omega), meet_eq', obs, rdLab_drop l i (by omega), List.any_cons]
  cases meetB b0 b1 b2 b3 (rd_T29 l i).f1 (rd_T29 l i).f2 1 1 with
  | true => rfl
  | false =>
   rw [if_neg Bool.false_ne_true, w64 (by omega) (by omega), Bool.false_or]
   exact ih k (i + 1) (by omega) (by omega)
theorem free_spec (l : List S29) (hl : l.length ≤ 1048576) (b0 b1 b2 b3 : Int) {k : Nat} (hk : l.length < k) : spec_l24Free.f k l b0 b1 b2 b3 = some (fitB l b0 b1 b2 b3) := by
 unfold spec_l24Free.f fitB
 have := free_l0 l hl b0 b1 b2 b3 l.length k 0 (by omega) hk
 simpa using this
theorem free_impl (l : List S29) (b0 b1 b2 b3 : Int) : impl_free.f l b0 b1 b2 b3 = some (fitB l b0 b1 b2 b3) := by
 unfold impl_free.f fitB onB
 by_cases c0 : b0 < 0
 ·
  rw [if_pos c0, if_neg (show ¬ b0 ≥ 0 by omega), Bool.and_false]
 ·
  rw [if_neg c0, if_pos (show b0 ≥ 0 by omega)]
  by_cases c1 : b1 < 0
  ·
   rw [if_pos c1, if_neg (show ¬ b1 ≥ 0 by omega), Bool.and_false]
  ·
   rw [if_neg c1, if_pos (show b1 ≥ 0 by omega)]
   by_cases c2 : 100 < wrap64 (b0 + b2)
   ·
    rw [if_pos c2, if_neg (show ¬ wrap64 (b0 + b2) ≤ 100 by omega), Bool.and_false]
   ·
    rw [if_neg c2, if_pos (show wrap64 (b0 + b2) ≤ 100 by omega)]
    by_cases c3 : 100 < wrap64 (b1 + b3)
    ·
     rw [if_pos c3, decide_eq_false (show ¬ wrap64 (b1 + b3) ≤ 100 by omega), Bool.and_false]
    ·
     rw [if_neg c3, if_pos (List.all_eq_true.2 fun x _ => by rw [meet_eq]; rfl), decide_eq_true (show wrap64 (b1 + b3) ≤ 100 by omega), Bool.and_true]
     rfl
def boxT (x : S29) (w : Int) : Int × Int × Int × Int :=
 ((if w ≥ 2 then wrap64 (x.f1 - (x.f0.size : Int)) else wrap64 (x.f1 + 1)), (if Int.tmod w 2 = 1 then wrap64 (x.f2 - 2) else wrap64 (x.f2 + 1)), (x.f0.size : Int), 2)
theorem box_spec (x : S29) (w : Int) : spec_l24Box.f x.f0 x.f1 x.f2 w = some (boxT x w) := rfl
theorem box_impl (x : S29) (w : Int) : impl_boxFor.f x.f0 x.f1 x.f2 w = some (boxT x w) := rfl
def fitW (l : List S29) (x : S29) (w : Int) : Bool := fitB l (boxT x w).1 (boxT x w).2.1 (boxT x w).2.2.1 (boxT x w).2.2.2
def wF (l : List S29) (y : S29) : Nat → Int → List Int
 | 0, _ => []
 | d + 1, i => if fitW l y i = true then i :: wF l y d (i + 1) else wF l y d (i + 1)
theorem wF_len (l : List S29) (y : S29) : ∀ (d : Nat) (i : Int), (wF l y d i).length ≤ d
 | 0, _ => Nat.le_refl _
 | d + 1, i => by
  unfold wF
  have := wF_len l y d (i + 1)
  split
  ·
   rw [List.length_cons]; omega
  ·
   omega
theorem ways_spec (l : List S29) (hl : l.length ≤ 1048576) {a : Int} (h0 : 0 ≤ a) (h1 : a < l.length) (d : Nat) : ∀ (k : Nat) (i : Int) (out : List Int), i + d = 4 → 0 ≤ i → out.length + d ≤ 100 → l.length + d + 2 < k →
  spec_l24Ways.l0 k l a out i = some (out ++ wF l (rd_T29 l a) d i) := by
 induction d with
 | zero =>
  intro k i out hd hi ho hk
  obtain ⟨k, rfl⟩ : ∃ m, k = m + 1 := ⟨k - 1, by omega⟩
  simp only [spec_l24Ways.l0]
  rw [if_neg (by omega)]
  simp [wF]
 | succ d ih =>
  intro k i out hd hi ho hk
  obtain ⟨k, rfl⟩ : ∃ m, k = m + 1 := ⟨k - 1, by omega⟩
  simp only [spec_l24Ways.l0]
  rw [if_pos (by omega), if_pos h0, if_pos h1, box_spec, obs, free_spec l hl _ _ _ _ (by omega), obs, w64 (by omega) (by omega)]
  show (if fitW l (rd_T29 l a) i = true then _ else _) = _
  unfold wF
  cases fitW l (rd_T29 l a) i with
  | false =>
   rw [if_neg Bool.false_ne_true, if_neg Bool.false_ne_true]
   exact ih k (i + 1) out (by omega) (by omega) (by omega) (by omega)
  | true =>
   rw [if_pos rfl, if_pos rfl, if_pos (by omega), ih k (i + 1) (out ++ [i]) (by omega) (by omega) (by rw [List.length_append, List.length_singleton]; omega) (by omega), List.append_assoc]
   rfl
theorem ways_impl (l : List S29) (hl : l.length ≤ 1048576) {a : Int} (h0 : 0 ≤ a) (h1 : a < l.length) (d : Nat) : ∀ (k : Nat) (i : Int) (out : List Int), i + d = 4 → 0 ≤ i → out.length + d ≤ 100 → d < k →
  impl_waysOf.l0 k l a out i = some (out ++ wF l (rd_T29 l a) d i) := by
 induction d with
 | zero =>
  intro k i out hd hi ho hk
  obtain ⟨k, rfl⟩ : ∃ m, k = m + 1 := ⟨k - 1, by omega⟩
  simp only [impl_waysOf.l0]
  rw [if_neg (by omega)]
  simp [wF]
 | succ d ih =>
  intro k i out hd hi ho hk
  obtain ⟨k, rfl⟩ : ∃ m, k = m + 1 := ⟨k - 1, by omega⟩
  simp only [impl_waysOf.l0]
  rw [if_pos (by omega), if_pos h0, if_pos h1, box_impl, obs, free_impl, obs, w64 (by omega) (by omega)]
  show (if fitW l (rd_T29 l a) i = true then _ else _) = _
  unfold wF
  cases fitW l (rd_T29 l a) i with
  | false =>
   rw [if_neg Bool.false_ne_true, if_neg Bool.false_ne_true]
   exact ih k (i + 1) out (by omega) (by omega) (by omega) (by omega)
  | true =>
   rw [if_pos rfl, if_pos rfl, if_pos (by omega), ih k (i + 1) (out ++ [i]) (by omega) (by omega) (by rw [List.length_append, List.length_singleton]; omega) (by omega), List.append_assoc]
   rfl
def waysL (l : List S29) (a : Int) : List Int := wF l (rd_T29 l a) 4 0
theorem waysL_len (l : List S29) (a : Int) : (waysL l a).length ≤ 4 := wF_len l _ 4 0
theorem waysOf_spec {l : List S29} (hl : l.length ≤ 1048576) {a : Int} (h0 : 0 ≤ a) (h1 : a < l.length) {k : Nat} (hk : l.length + 6 < k) : spec_l24Ways.f k l a = some (waysL l a) := by
 unfold spec_l24Ways.f waysL
 rw [ways_spec l hl h0 h1 4 k 0 [] (by omega) (by omega) (by decide) (by omega), List.nil_append]
theorem waysOf_impl {l : List S29} (hl : l.length ≤ 1048576) {a : Int} (h0 : 0 ≤ a) (h1 : a < l.length) {k : Nat} (hk : 6 < k) : impl_waysOf.f k l a = some (waysL l a) := by
 unfold impl_waysOf.f waysL
 rw [ways_impl l hl h0 h1 4 k 0 [] (by omega) (by omega) (by decide) (by omega), List.nil_append]
end Go.Proofs.YtjkcfpmonpkhhaaDoor.Pr.Pure

namespace Go.Proofs.YtjkcfpmonpkhhaaDoor.Pr.Pure
open Go.RowKit Go.Proofs.YtjkcfpmonpkhhaaDoorW.PrintWords Go.Proofs.YtjkcfpmonpkhhaaDoorW.PrintLast Go.Proofs.YtjkcfpmonpkhhaaDoorW.PrintMore Go.Lib
set_option linter.unusedVariables false
abbrev BxT := Int × Int × Int × Int
def bxT (l : List S29) (i : Nat) (w : Int) : BxT := boxT (rd_T29 l (i : Int)) w
def bST (b : BxT) : S26 := ⟨b.1, b.2.1, b.2.2.1, b.2.2.2⟩
def mtT (b c : BxT) : Bool := meetB b.1 b.2.1 b.2.2.1 b.2.2.2 c.1 c.2.1 c.2.2.1 c.2.2.2
def fitT (l : List S29) (b : BxT) : Bool := fitB l b.1 b.2.1 b.2.2.1 b.2.2.2
def anyT_ (bs : List S26) (b : BxT) : Bool := bs.any fun x => meetB b.1 b.2.1 b.2.2.1 b.2.2.2 x.f0 x.f1 x.f2 x.f3
def okT (l : List S29) (i : Nat) (w : Int) (bs : List S26) : Bool := fitT l (bxT l i w) && !(anyT_ bs (bxT l i w))
def anyH (l : List S29) (ws : List Int) (b : BxT) : Nat → Nat → Bool
 | 0, _ => false
 | d + 1, j => (decide (0 ≤ rd ws (j : Int)) && mtT b (bxT l j (rd ws (j : Int)))) || anyH l ws b d (j + 1)
theorem anyH_last (l : List S29) (ws : List Int) (b : BxT) (d : Nat) : ∀ j : Nat, anyH l ws b (d + 1) j = (anyH l ws b d j || (decide (0 ≤ rd ws ((j + d : Nat) : Int)) && mtT b (bxT l (j + d) (rd ws ((j + d : Nat) : Int))))) := by
 induction d with
 | zero =>
  intro j
  show (_ || false) = (false || _)
  rw [Bool.or_false, Bool.false_or, Nat.add_zero]
 | succ d ih =>
  intro j
  show (_ || anyH l ws b (d + 1) (j + 1)) = ((_ || anyH l ws b d (j + 1)) || _)
  rw [ih (j + 1), Bool.or_assoc, show j + 1 + d = j + (d + 1) by omega]
theorem rd_left (ws : List Int) (w : Int) (j : Nat) (h : j < ws.length) : rd (ws ++ [w]) (j : Int) = rd ws (j : Int) := by
 show (ws ++ [w]).getD (j : Int).toNat 0 = ws.getD (j : Int).toNat 0
 rw [Int.toNat_natCast, List.getD_eq_getElem?_getD, List.getD_eq_getElem?_getD, List.getElem?_append_left h]
theorem rd_end (ws : List Int) (w : Int) : rd (ws ++ [w]) (ws.length : Int) = w := by
 show (ws ++ [w]).getD (ws.length : Int).toNat 0 = w
 rw [Int.toNat_natCast, List.getD_eq_getElem?_getD, List.getElem?_append_right (Nat.le_refl _), Nat.sub_self]
 rfl
theorem anyH_ext (l : List S29) (ws : List Int) (w : Int) (b : BxT) (d : Nat) : ∀ j : Nat, j + d ≤ ws.length → anyH l (ws ++ [w]) b d j = anyH l ws b d j := by
 induction d with
 | zero => intro j _; rfl
 | succ d ih =>
  intro j h
  show (_ || anyH l (ws ++ [w]) b d (j + 1)) = (_ || anyH l ws b d (j + 1))
  rw [ih (j + 1) (by omega), rd_left ws w j (by omega)]
theorem anyH_snoc (l : List S29) (ws : List Int) (w : Int) (b : BxT) : anyH l (ws ++ [w]) b (ws.length + 1) 0 = (anyH l ws b ws.length 0 || (decide (0 ≤ w) && mtT b (bxT l ws.length w))) := by
 rw [anyH_last, anyH_ext l ws w b ws.length 0 (by omega), Nat.zero_add, rd_end]
theorem mayT_l0 (l : List S29) (ws : List Int) (hl : l.length ≤ 1048576) (b : BxT) (n : Nat) (hn : n ≤ l.length) (hw : n ≤ ws.length) (d : Nat) : ∀ (k j : Nat), j + d = n → d < k →
  spec_l24May.l0 k l ws n j b.1 b.2.1 b.2.2.1 b.2.2.2 = some (!(anyH l ws b d j)) := by
 induction d with
 | zero =>
  intro k j hd hk
  obtain ⟨k, rfl⟩ : ∃ m, k = m + 1 := ⟨k - 1, by omega⟩
  simp only [spec_l24May.l0]
  rw [if_neg (by omega)]
  rfl
 | succ d ih =>
  intro k j hd hk
  obtain ⟨k, rfl⟩ : ∃ m, k = m + 1 := ⟨k - 1, by omega⟩
  have e := ih k (j + 1) (by omega) (by omega)
  simp only [spec_l24May.l0]
  rw [if_pos (by omega), if_pos (by omega), if_pos (by omega), w64 (by omega) (by omega)]
  show _ = some (!((decide (0 ≤ rd ws (j : Int)) && mtT b (bxT l j (rd ws (j : Int)))) || anyH l ws b d (j + 1)))
  by_cases h3 : rd ws (j : Int) ≥ 0
  ·
   rw [if_pos h3, if_pos (by omega), box_spec, obs, meet_eq', obs, decide_eq_true (show 0 ≤ rd ws (j : Int) from h3), Bool.true_and]
   show (if mtT b (bxT l j (rd ws j)) = true then _ else _) = _
   cases mtT b (bxT l j (rd ws j)) with
   | true => rfl
   | false =>
    rw [if_neg Bool.false_ne_true, Bool.false_or]
    exact e
  ·
   rw [if_neg h3, decide_eq_false (show ¬ 0 ≤ rd ws (j : Int) from h3), Bool.false_and, Bool.false_or]
   exact e
theorem mayT (l : List S29) (ws : List Int) (w : Int) (hl : l.length ≤ 1048576) (hi : ws.length < l.length) {k : Nat} (hk : l.length < k) {bs : List S26} (hI : ∀ b, anyH l ws b ws.length 0 = anyT_ bs b) :
  spec_l24May.f k l (ws ++ [w]) (ws.length : Int) = some (okT l ws.length w bs) := by
 unfold spec_l24May.f
 rw [if_pos (by omega), if_pos (by omega), if_pos (by rw [List.length_append, List.length_singleton]; omega), rd_end, box_spec, obs, free_spec l hl _ _ _ _ hk, obs]
 unfold okT
 show (if fitT l (bxT l ws.length w) = true then _ else _) = _
 cases fitT l (bxT l ws.length w) with
 | false => rfl
 | true =>
  rw [if_pos rfl, Bool.true_and]
  have := mayT_l0 l (ws ++ [w]) hl (bxT l ws.length w) ws.length (by omega) (by rw [List.length_append]; omega) ws.length k 0 (by omega) (by omega)
  rw [anyH_ext l ws w _ ws.length 0 (by omega), hI] at this
  exact this
def en (l : List S29) (sel : Nat → Bool) : Nat → List Int → List S26 → List (List Int)
 | 0, ws, _ => [ws]
 | m + 1, ws, bs => if sel ws.length = true then ([0, 1, 2, 3] : List Int).flatMap (fun w => if okT l ws.length w bs = true then en l sel m (ws ++ [w]) (bs ++ [bST (bxT l ws.length w)]) else []) else en l sel m (ws ++ [-1]) bs
theorem en_len (l : List S29) (sel : Nat → Bool) (m : Nat) : ∀ ws bs, (en l sel m ws bs).length ≤ 4 ^ m := by
 induction m with
 | zero => intro ws bs; exact Nat.le_refl _
 | succ m ih =>
  intro ws bs
  unfold en
  have hp : 4 ^ (m + 1) = 4 ^ m + 4 ^ m + 4 ^ m + 4 ^ m := by rw [Nat.pow_succ]; omega
  by_cases h : sel ws.length = true
  ·
   rw [if_pos h]
   have hw : ∀ w : Int, (if okT l ws.length w bs = true then en l sel m (ws ++ [w]) (bs ++ [bST (bxT l ws.length w)]) else []).length ≤ 4 ^ m := by
    intro w
    split
    ·
     exact ih _ _
    ·
     exact Nat.zero_le _
   have h0 := hw 0
   have h1 := hw 1
   have h2 := hw 2
   have h3 := hw 3
   simp only [List.flatMap_cons, List.flatMap_nil, List.length_append, List.length_nil]
   omega
  ·
   rw [if_neg h]
   have := ih (ws ++ [-1]) bs
   omega
def selO (set : Int) (i : Nat) : Bool := decide (¬ Go.bits .and .i64 (shr .i64 set (i : Int)) 1 = 0)
theorem u64n (n : Nat) (h : n ≤ 1048576) : IntKind.u64.wrap (n : Int) = (n : Int) := by
 have e : IntKind.u64.wrap (n : Int) = (n : Int) % 18446744073709551616 := rfl
 omega
theorem own_eq (ws : List Int) (h : ws.length ≤ 1048576) : spec_l1Own.f ws = some ws := by
 unfold spec_l1Own.f
 rw [obs, if_pos (by simp; omega)]
 rfl
theorem count_eq (l : List S29) (hl : l.length ≤ 6) (set : Int) (m : Nat) : ∀ (k : Nat) (ws : List Int) (bs : List S26), ws.length + m = l.length → (∀ b, anyH l ws b ws.length 0 = anyT_ bs b) → 8 * m + 30 < k →
  spec_l24Count.f k l set ws = some ((en l (selO set) m ws bs).headD [], ((en l (selO set) m ws bs).length : Int)) := by
 induction m with
 | zero =>
  intro k ws bs hm hI hk
  obtain ⟨k, rfl⟩ : ∃ n, k = n + 1 := ⟨k - 1, by omega⟩
  simp only [spec_l24Count.f]
  rw [if_pos (by omega)]
  rfl
 | succ m ih =>
  intro k ws bs hm hI hk
  obtain ⟨k, rfl⟩ : ∃ n, k = n + 1 := ⟨k - 1, by omega⟩
  simp only [spec_l24Count.f]
  rw [if_neg (by omega), u64n ws.length (by omega), if_pos (by omega)]
  unfold en
  by_cases hs : Go.bits .and .i64 (shr .i64 set (ws.length : Int)) 1 = 0
  ·
   rw [if_pos hs, own_eq ws (by omega), obs, if_pos (by omega), show selO set ws.length = false from decide_eq_false (fun h => h hs), if_neg (by decide)]
   have e := ih k (ws ++ [-1]) bs (by rw [List.length_append, List.length_singleton]; omega) (fun b => by
    rw [List.length_append, List.length_singleton, anyH_snoc, decide_eq_false (by decide), Bool.false_and, Bool.or_false]
    exact hI b) (by omega)
   rw [e, obs]
  ·
   rw [if_neg hs, show selO set ws.length = true from decide_eq_true hs, if_pos rfl]
   -- the four ways
   have key : ∀ (d K : Nat) (A : List (List Int)) (w : Int), 0 ≤ w → w + d = 4 → 8 * m + 31 + d < K → A.length + d * 4 ^ m ≤ 100000 →
     spec_l24Count.l0 K l set ws (ws.length : Int) (A.headD []) (A.length : Int) w = some ((A ++ (([0, 1, 2, 3] : List Int).drop w.toNat).flatMap (fun w => if okT l ws.length w bs = true then en l (selO set) m (ws ++ [w]) (bs ++ [bST (bxT l ws.length w)]) else [])).headD [], ((A ++ (([0, 1, 2, 3] : List Int).drop w.toNat).flatMap (fun w => if okT l ws.length w bs = true then en l (selO set) m (ws ++ [w]) (bs ++ [bST (bxT l ws.length w)]) else [])).length : Int)) := by
    intro d
    induction d with
    | zero =>
     intro K A w h0 hd hK hA
     obtain ⟨K, rfl⟩ : ∃ n, K = n + 1 := ⟨K - 1, by omega⟩
     simp only [spec_l24Count.l0]
     rw [if_neg (by omega)]
     obtain rfl : w = 4 := by omega
     simp
    | succ d ihd =>
     intro K A w h0 hd hK hA
     obtain ⟨K, rfl⟩ : ∃ n, K = n + 1 := ⟨K - 1, by omega⟩
     have hmul : (d + 1) * 4 ^ m = d * 4 ^ m + 4 ^ m := Nat.succ_mul ..
     have hA2 : A.length + d * 4 ^ m ≤ 100000 := Nat.le_trans (Nat.add_le_add_left (by rw [hmul]; exact Nat.le_add_right _ _) _) hA
     have ed : ([0, 1, 2, 3] : List Int).drop w.toNat = w :: ([0, 1, 2, 3] : List Int).drop (w + 1).toNat := by
      have h4 : w = 0 ∨ w = 1 ∨ w = 2 ∨ w = 3 := by omega
      rcases h4 with rfl | rfl | rfl | rfl <;> rfl
     simp only [spec_l24Count.l0]
     rw [if_pos (by omega), own_eq ws (by omega), obs, if_pos (by omega), obs, mayT l ws w (by omega) (by omega) (by omega) hI, obs, w64 (x := w + 1) (by omega) (by omega), ed, List.flatMap_cons]
     by_cases ho : okT l ws.length w bs = true
     ·
      rw [ho, if_pos rfl, if_pos rfl]
      have e := ih K (ws ++ [w]) (bs ++ [bST (bxT l ws.length w)]) (by rw [List.length_append, List.length_singleton]; omega) (fun b => by
       rw [List.length_append, List.length_singleton, anyH_snoc, decide_eq_true h0, Bool.true_and, hI b]
       show _ = (bs ++ [_]).any _
       rw [List.any_append]
       congr 1
       show _ = (_ || false)
       rw [Bool.or_false]
       rfl) (by omega)
      have hlen := en_len l (selO set) m (ws ++ [w]) (bs ++ [bST (bxT l ws.length w)])
      generalize en l (selO set) m (ws ++ [w]) (bs ++ [bST (bxT l ws.length w)]) = E at e hlen
      rw [e, obs]
      simp only
      rw [w64 (by omega) (by omega)]
      have hd2 := ihd K (A ++ E) (w + 1) (by omega) (by omega) (by omega) (by rw [List.length_append]; omega)
      rw [List.length_append] at hd2
      rw [← List.append_assoc]
      cases A with
      | nil =>
       rw [if_pos (show (([] : List (List Int)).length : Int) = 0 from rfl)]
       cases E with
       | nil =>
        rw [if_neg (by decide)]
        exact hd2
       | cons p t =>
        rw [if_pos (by rw [List.length_cons]; omega)]
        have e2 : ((([] : List (List Int)).length : Int) + ((p :: t).length : Int)) = ((([] : List (List Int)).length + (p :: t).length : Nat) : Int) := by omega
        rw [e2]
        exact hd2
      | cons p t =>
       rw [if_neg (by rw [List.length_cons]; omega)]
       have e2 : (((p :: t).length : Int) + (E.length : Int)) = (((p :: t).length + E.length : Nat) : Int) := by omega
       rw [e2]
       exact hd2
     ·
      rw [Bool.eq_false_iff.mpr ho, if_neg (by decide), if_neg (by decide), List.nil_append]
      exact ihd K A (w + 1) (by omega) (by omega) (by omega) hA2
   have hpow : 4 ^ m ≤ 4 ^ 6 := Nat.pow_le_pow_right (by decide) (by omega)
   have h6 : (4 : Nat) ^ 6 = 4096 := by decide
   have := key 4 k [] 0 (by omega) (by omega) (by omega) (by rw [List.length_nil]; omega)
   simpa using this
def filt (ws : List Int) : List Int := ws.filter fun x => decide (0 ≤ x)
def sels (sel : Nat → Bool) : Nat → Nat → List Int
 | _, 0 => []
 | i, m + 1 => if sel i = true then (i : Int) :: sels sel (i + 1) m else sels sel (i + 1) m
theorem filt_neg (ws : List Int) : filt (ws ++ [-1]) = filt ws := by
 unfold filt
 rw [List.filter_append]
 simp
theorem filt_pos (ws : List Int) (w : Int) (h : 0 ≤ w) : filt (ws ++ [w]) = filt ws ++ [w] := by
 unfold filt
 rw [List.filter_append]
 simp [h]
theorem hitB_eq (bs : List S26) (b : BxT) : hitB_ bs b.1 b.2.1 b.2.2.1 b.2.2.2 = some (anyT_ bs b) := by
 unfold hitB_
 rw [if_pos (List.all_eq_true.2 fun x _ => by rw [meet_eq]; rfl)]
 rfl
theorem catM_eq (f : Int → Option (List (List Int))) (g : Int → List (List Int)) : ∀ xs, (∀ x ∈ xs, f x = some (g x)) → catM_ f xs = some (xs.flatMap g)
 | [], _ => rfl
 | x :: xs, h => by
  unfold catM_
  rw [h x List.mem_cons_self, obs, catM_eq f g xs (fun y hy => h y (List.mem_cons_of_mem _ hy)), obs, List.flatMap_cons]
theorem plc_eq (l : List S29) (hl : l.length ≤ 1048576) (sel : Nat → Bool) (idx : List Int) (m : Nat) : ∀ (ws pre : List Int) (bs : List S26), ws.length + m = l.length → idx = pre ++ sels sel ws.length m → pre.length = (filt ws).length →
  plc_ l idx (sels sel ws.length m).length (filt ws) bs = some ((en l sel m ws bs).map filt) := by
 induction m with
 | zero =>
  intro ws pre bs hm hi hp
  rfl
 | succ m ih =>
  intro ws pre bs hm hi hp
  unfold sels en
  unfold sels at hi
  by_cases hs : sel ws.length = true
  ·
   rw [if_pos hs] at hi ⊢
   rw [if_pos hs, List.length_cons]
   have hr : rd idx ((filt ws).length : Int) = (ws.length : Int) := by
    rw [hi, ← hp]
    show (pre ++ _ :: _).getD (pre.length : Int).toNat 0 = _
    rw [Int.toNat_natCast, List.getD_eq_getElem?_getD, List.getElem?_append_right (Nat.le_refl _), Nat.sub_self]
    rfl
   simp only [plc_]
   rw [hr, if_pos (by omega), List.map_flatMap]
   refine catM_eq _ _ _ (fun w hw => ?_)
   have hw0 : 0 ≤ w := by
    simp only [List.mem_cons, List.not_mem_nil, or_false] at hw
    omega
   rw [box_impl, obs]
   show ((impl_free.f l (bxT l ws.length w).1 (bxT l ws.length w).2.1 (bxT l ws.length w).2.2.1 (bxT l ws.length w).2.2.2).bind _) = _
   rw [free_impl, obs]
   show (if fitT l (bxT l ws.length w) = true then ((hitB_ bs (bxT l ws.length w).1 (bxT l ws.length w).2.1 (bxT l ws.length w).2.2.1 (bxT l ws.length w).2.2.2).bind _) else _) = _
   unfold okT
   cases fitT l (bxT l ws.length w) with
   | false => rfl
   | true =>
    rw [if_pos rfl, hitB_eq, obs, Bool.true_and]
    cases anyT_ bs (bxT l ws.length w) with
    | true => rfl
    | false =>
     rw [if_neg (by decide), Bool.not_false, if_pos rfl]
     have e := ih (ws ++ [w]) (pre ++ [(ws.length : Int)]) (bs ++ [bST (bxT l ws.length w)]) (by rw [List.length_append, List.length_singleton]; omega) (by rw [hi, List.length_append, List.length_singleton, List.append_assoc]; rfl) (by rw [List.length_append, List.length_singleton, filt_pos ws w hw0, List.length_append, List.length_singleton, hp])
     rw [List.length_append, List.length_singleton, filt_pos ws w hw0] at e
     exact e
  ·
   rw [if_neg hs] at hi ⊢
   rw [if_neg hs]
   have e := ih (ws ++ [-1]) pre bs (by rw [List.length_append, List.length_singleton]; omega) (by rw [hi, List.length_append, List.length_singleton]) (by rw [filt_neg, hp])
   rw [List.length_append, List.length_singleton, filt_neg] at e
   exact e
theorem en_all (l : List S29) (sel : Nat → Bool) (m : Nat) : ∀ (ws : List Int) (bs : List S26), (∀ i, i < ws.length + m → sel i = true) → (∀ x ∈ ws, 0 ≤ x) → ∀ p ∈ en l sel m ws bs, filt p = p := by
 induction m with
 | zero =>
  intro ws bs _ hw p hp
  obtain rfl := List.mem_singleton.1 hp
  exact List.filter_eq_self.2 (fun x hx => decide_eq_true (hw x hx))
 | succ m ih =>
  intro ws bs hs hw p hp
  unfold en at hp
  rw [if_pos (hs ws.length (by omega))] at hp
  obtain ⟨w, hwm, hp⟩ := List.mem_flatMap.1 hp
  have hw0 : 0 ≤ w := by
   simp only [List.mem_cons, List.not_mem_nil, or_false] at hwm
   omega
  split at hp
  ·
   exact ih _ _ (fun i hi => hs i (by rw [List.length_append, List.length_singleton] at hi; omega)) (fun x hx => by
    rcases List.mem_append.1 hx with hx | hx
    ·
     exact hw x hx
    ·
     rw [List.mem_singleton.1 hx]; exact hw0) p hp
  ·
   cases hp
def fullS (n : Nat) : Int := wrap64 ((shl .i64 1 (IntKind.u64.wrap (n : Int))) - 1)
theorem full_all : ((List.range 7).all fun n => (List.range n).all fun i => selO (fullS n) i) = true := by kernel_rfl
theorem full_sel {n i : Nat} (hn : n ≤ 6) (hi : i < n) : selO (fullS n) i = true :=
 List.all_eq_true.1 (List.all_eq_true.1 full_all n (List.mem_range.2 (by omega))) i (List.mem_range.2 hi)
theorem sels_full (sel : Nat → Bool) (m : Nat) : ∀ i, (∀ j, i ≤ j → j < i + m → sel j = true) → sels sel i m = (List.range' i m).map (fun (j : Nat) => (j : Int)) := by
 induction m with
 | zero => intro i _; rfl
 | succ m ih =>
  intro i h
  unfold sels
  rw [if_pos (h i (Nat.le_refl _) (by omega)), ih (i + 1) (fun j h1 h2 => h j (by omega) (by omega)), List.range'_succ]
  rfl
theorem all_l0 (n : Nat) (hn : n ≤ 1048576) (d : Nat) : ∀ (k i : Nat) (acc : List Int), i + d = n → acc.length = i → d < k → impl_allIndices.l0 k acc (n : Int) (i : Int) = some (acc ++ (List.range' i d).map (fun (j : Nat) => (j : Int))) := by
 induction d with
 | zero =>
  intro k i acc hd ha hk
  obtain ⟨k, rfl⟩ : ∃ m, k = m + 1 := ⟨k - 1, by omega⟩
  simp only [impl_allIndices.l0]
  rw [if_neg (by omega)]
  simp
 | succ d ih =>
  intro k i acc hd ha hk
  obtain ⟨k, rfl⟩ : ∃ m, k = m + 1 := ⟨k - 1, by omega⟩
  simp only [impl_allIndices.l0]
  rw [if_pos (by omega), if_pos (by omega), w64 (by omega) (by omega)]
  have e := ih k (i + 1) (acc ++ [(i : Int)]) (by omega) (by rw [List.length_append, List.length_singleton, ha]) (by omega)
  rw [List.range'_succ, List.map_cons]
  rw [List.append_assoc] at e
  exact e
def plcs (l : List S29) : List (List Int) := en l (selO (fullS l.length)) l.length [] []
theorem count_full {l : List S29} (hl : l.length ≤ 6) {k : Nat} (hk : 100 < k) : spec_l24Count.f k l (wrap64 ((shl .i64 1 (IntKind.u64.wrap ((l.length : Int)))) - 1)) ([] : List Int) = some ((plcs l).headD [], ((plcs l).length : Int)) :=
 count_eq l hl (fullS l.length) l.length k [] [] (by simp) (fun b => rfl) (by omega)
theorem plc_full {l : List S29} (hl : l.length ≤ 6) {k : Nat} (hk : 100 < k) : ∃ idx, impl_allIndices.f k (l.length : Int) = some idx ∧ idx.length = l.length ∧ plc_ l idx idx.length [] [] = some (plcs l) := by
 have e1 := all_l0 l.length (by omega) l.length k 0 [] (by omega) rfl (by omega)
 have hs : ∀ j, 0 ≤ j → j < 0 + l.length → selO (fullS l.length) j = true := fun j _ h => full_sel hl (by omega)
 have e2 := sels_full (selO (fullS l.length)) l.length 0 hs
 refine ⟨sels (selO (fullS l.length)) 0 l.length, ?_, by rw [e2, List.length_map, List.length_range'], ?_⟩
 ·
  unfold impl_allIndices.f
  rw [e2]
  simpa using e1
 ·
  have e3 := plc_eq l (by omega) (selO (fullS l.length)) (sels (selO (fullS l.length)) 0 l.length) l.length [] [] [] (by simp) (by simp) rfl
  have e4 : (en l (selO (fullS l.length)) l.length [] []).map filt = plcs l := by
   unfold plcs
   conv => rhs; rw [← List.map_id (en l (selO (fullS l.length)) l.length [] [])]
   exact List.map_congr_left (fun p hp => en_all l _ l.length [] [] (fun i hi => hs i (Nat.zero_le _) (by simpa using hi)) (fun x hx => by cases hx) p hp)
  rw [e4] at e3
  exact e3
theorem plcs_len (l : List S29) (hl : l.length ≤ 6) : (plcs l).length ≤ 4096 := by
 have h1 := en_len l (selO (fullS l.length)) l.length [] []
 have hpow : 4 ^ l.length ≤ 4 ^ 6 := Nat.pow_le_pow_right (by decide) hl
 have h6 : (4 : Nat) ^ 6 = 4096 := by decide
 unfold plcs
 omega
theorem labs_len {m : List S29} (c : labs m = true) : m.length ≤ 6 := by
 unfold labs at c
 rw [Bool.and_eq_true] at c
 exact of_decide_eq_true c.2
theorem en_size (l : List S29) (sel : Nat → Bool) (m : Nat) : ∀ (ws : List Int) (bs : List S26), ∀ p ∈ en l sel m ws bs, p.length = ws.length + m := by
 induction m with
 | zero =>
  intro ws bs p hp
  rw [List.mem_singleton.1 hp]
  rfl
 | succ m ih =>
  intro ws bs p hp
  unfold en at hp
  split at hp
  ·
   obtain ⟨w, hwm, hp⟩ := List.mem_flatMap.1 hp
   split at hp
   ·
    have := ih _ _ p hp
    rw [List.length_append, List.length_singleton] at this
    omega
   ·
    cases hp
  ·
   have := ih _ _ p hp
   rw [List.length_append, List.length_singleton] at this
   omega
theorem head_len (m : List S29) : ((plcs m).headD []).length ≤ m.length := by
 cases h : plcs m with
 | nil => exact Nat.zero_le _
 | cons p t =>
  have := en_size m (selO (fullS m.length)) m.length [] [] p (by unfold plcs at h; rw [h]; exact List.mem_cons_self)
  show p.length ≤ _
  simp at this
  omega
theorem first_both {m : List S29} (hm : ∀ x, x ∈ m → x.f0.size ≤ 1048576) (hl : m.length ≤ 1048576) : ∃ r b, r.length ≤ 6 ∧ (∀ k, 1048790 + m.length ≤ k → spec_FirstPlacing.f k m = some (r, b) ∧ impl_FirstPlacing.f k m = some (r, b)) ∧ (labs m = true → r = (plcs m).headD [] ∧ b = decide (0 < (plcs m).length)) ∧ (labs m = false → b = false) := by
 by_cases c : labs m = true
 ·
  have h6 := labs_len c
  refine ⟨(plcs m).headD [], decide (0 < (plcs m).length), Nat.le_trans (head_len m) h6, fun k hk => ?_, fun _ => ⟨rfl, rfl⟩, fun h => by rw [c] at h; cases h⟩
  obtain ⟨idx, i1, i2, i3⟩ := plc_full h6 (k := k) (by omega)
  have hp := plcs_len m h6
  unfold spec_FirstPlacing.f impl_FirstPlacing.f impl_firstPlacing.f
  have hu : 0 ≤ IntKind.u64.wrap (m.length : Int) := by rw [u64n m.length (by omega)]; omega
  rw [good_eq hm hl (by omega), are_eq hm, obs, obs, if_pos c, if_pos c, if_pos hu, count_full h6 (by omega), obs, i1, obs, if_pos (show idx.length < 1000000 by omega), i3, obs, obs]
  refine ⟨?_, ?_⟩
  ·
   congr 2
   rw [decide_eq_decide]
   omega
  ·
   congr 2
   cases plcs m <;> simp
 ·
  refine ⟨[], false, by decide, fun k hk => ?_, fun h => absurd h c, fun _ => rfl⟩
  unfold spec_FirstPlacing.f impl_FirstPlacing.f
  rw [good_eq hm hl (by omega), are_eq hm, obs, obs, if_neg c, if_neg c]
  exact ⟨rfl, rfl⟩
theorem bit_all : ((List.range 64).all fun s => (List.range 6).all fun i => decide (Go.bits .and .i64 (shr .i64 (s : Int) (i : Int)) 1 = 1) == selO (s : Int) i) = true := by kernel_rfl
theorem bit_sel {s i : Nat} (hs : s < 64) (hi : i < 6) : (Go.bits .and .i64 (shr .i64 (s : Int) (i : Int)) 1 = 1) ↔ selO (s : Int) i = true := by
 have h := List.all_eq_true.1 (List.all_eq_true.1 bit_all s (List.mem_range.2 hs)) i (List.mem_range.2 hi)
 rw [beq_iff_eq] at h
 rw [← h, decide_eq_true_eq]
theorem shl_all : ((List.range 7).all fun n => shl .i64 1 (n : Int) == ((2 ^ n : Nat) : Int)) = true := by kernel_rfl
theorem shl_pow {n : Nat} (hn : n ≤ 6) : shl .i64 1 (n : Int) = ((2 ^ n : Nat) : Int) :=
 beq_iff_eq.1 (List.all_eq_true.1 shl_all n (List.mem_range.2 (by omega)))
theorem sels_len (sel : Nat → Bool) (m : Nat) : ∀ i, (sels sel i m).length ≤ m := by
 induction m with
 | zero => intro i; exact Nat.le_refl _
 | succ m ih =>
  intro i
  have := ih (i + 1)
  unfold sels
  split
  ·
   rw [List.length_cons]; omega
  ·
   omega
def cmpI (a b : Int) : Int := if a < b then -1 else if a > b then 1 else 0
theorem cmp_eq (a b : Int) : cmp_Compare_int.f a b = some (cmpI a b) := by
 unfold cmp_Compare_int.f cmp_isNaN_int.f cmpI
 simp only [obs, bne_self_eq_false, Bool.false_eq_true, if_false]
 by_cases h : a < b
 ·
  rw [if_pos h, if_pos h]
 ·
  rw [if_neg h, if_neg h]
  by_cases h2 : a > b
  ·
   rw [if_pos h2, if_pos h2]
  ·
   rw [if_neg h2, if_neg h2]
def lessB (x y : List Int) : Nat → Nat → Bool
 | 0, _ => decide (x.length < y.length)
 | d + 1, i => if i < x.length ∧ i < y.length then (if rd x (i : Int) = rd y (i : Int) then lessB x y d (i + 1) else decide (rd x (i : Int) < rd y (i : Int))) else decide (x.length < y.length)
theorem less_l0 (x y : List Int) (hx : x.length ≤ 1000) (d : Nat) : ∀ (k i : Nat), i + d = x.length → 2 * d + 4 < k → spec_l5Less.l0 k x y (i : Int) = some (lessB x y (d + 1) i) := by
 induction d with
 | zero =>
  intro k i hd hk
  obtain ⟨k, rfl⟩ : ∃ m, k = m + 2 := ⟨k - 2, by omega⟩
  simp only [spec_l5Less.l0, lessB]
  rw [if_neg (by omega), if_neg (by omega)]
  simp only [spec_l5Less.j1, Bool.false_eq_true, if_false]
  congr 1
  rw [decide_eq_decide]
  omega
 | succ d ih =>
  intro k i hd hk
  obtain ⟨k, rfl⟩ : ∃ m, k = m + 2 := ⟨k - 2, by omega⟩
  simp only [spec_l5Less.l0]
  rw [if_pos (by omega)]
  unfold lessB
  by_cases h : (i : Int) < (y.length : Int)
  ·
   rw [if_pos (show i < x.length ∧ i < y.length from ⟨by omega, by omega⟩), decide_eq_true h]
   simp only [spec_l5Less.j1, if_true]
   rw [if_pos (by omega), if_pos (by omega), if_pos h]
   by_cases e : rd x (i : Int) = rd y (i : Int)
   ·
    rw [if_pos e, if_pos e, w64 (by omega) (by omega)]
    exact ih k (i + 1) (by omega) (by omega)
   ·
    rw [if_neg e, if_neg e]
  ·
   rw [if_neg (show ¬ (i < x.length ∧ i < y.length) by omega), decide_eq_false h]
   simp only [spec_l5Less.j1, Bool.false_eq_true, if_false]
   congr 1
   rw [decide_eq_decide]
   omega
theorem less_eq (x y : List Int) (hx : x.length ≤ 1000) {k : Nat} (hk : 2 * x.length + 4 < k) : spec_l5Less.f k x y = some (lessB x y (x.length + 1) 0) :=
 less_l0 x y hx x.length k 0 (by omega) hk
theorem comp_l0 (x y : List Int) (hx : x.length ≤ 1000) (d : Nat) : ∀ (k i : Nat), i + d = x.length → d < k → ∃ c, slices_Compare_int_int.l0 k x y x (x.length : Int) (i : Int) = some c ∧ (c < 0 ↔ lessB x y (d + 1) i = true) := by
 induction d with
 | zero =>
  intro k i hd hk
  obtain ⟨k, rfl⟩ : ∃ m, k = m + 1 := ⟨k - 1, by omega⟩
  simp only [slices_Compare_int_int.l0, lessB]
  rw [if_neg (by omega), if_neg (show ¬ (i < x.length ∧ i < y.length) by omega), decide_eq_true_eq]
  by_cases h : (x.length : Int) < (y.length : Int)
  ·
   rw [if_pos h]
   exact ⟨_, rfl, by omega⟩
  ·
   rw [if_neg h]
   exact ⟨_, rfl, by omega⟩
 | succ d ih =>
  intro k i hd hk
  obtain ⟨k, rfl⟩ : ∃ m, k = m + 1 := ⟨k - 1, by omega⟩
  simp only [slices_Compare_int_int.l0]
  rw [if_pos (by omega), if_pos (by omega), if_pos (by omega)]
  unfold lessB
  by_cases h : (i : Int) < (y.length : Int)
  ·
   rw [if_pos (show i < x.length ∧ i < y.length from ⟨by omega, by omega⟩), if_neg (by omega), if_pos h, cmp_eq, obs]
   by_cases e : rd x (i : Int) = rd y (i : Int)
   ·
    rw [show cmpI (rd x (i : Int)) (rd y (i : Int)) = 0 from (by unfold cmpI; rw [if_neg (by omega), if_neg (by omega)]), if_pos rfl, if_pos e, w64 (by omega) (by omega)]
    exact ih k (i + 1) (by omega) (by omega)
   ·
    rw [if_neg e, decide_eq_true_eq]
    by_cases h1 : rd x (i : Int) < rd y (i : Int)
    ·
     rw [show cmpI (rd x (i : Int)) (rd y (i : Int)) = -1 from (by unfold cmpI; rw [if_pos h1]), if_neg (by decide)]
     exact ⟨_, rfl, by omega⟩
    ·
     rw [show cmpI (rd x (i : Int)) (rd y (i : Int)) = 1 from (by unfold cmpI; rw [if_neg h1, if_pos (by omega)]), if_neg (by decide)]
     exact ⟨_, rfl, by omega⟩
  ·
   rw [if_neg (show ¬ (i < x.length ∧ i < y.length) by omega), if_pos (by omega), decide_eq_true_eq]
   exact ⟨_, rfl, by omega⟩
theorem or_eq (a b : Int) {k : Nat} (hk : 3 < k) : cmp_Or_int.f k [a, b] = some (if a = 0 then b else a) := by
 obtain ⟨k, rfl⟩ : ∃ m, k = m + 3 := ⟨k - 3, by omega⟩
 unfold cmp_Or_int.f
 show cmp_Or_int.l0 (k + 2 + 1) 0 [a, b] 2 0 = _
 have r0 : rd [a, b] 0 = a := rfl
 have r1 : rd [a, b] 1 = b := rfl
 have w0 : wrap64 (0 + 1) = 1 := w64 (by omega) (by omega)
 have w1 : wrap64 (1 + 1) = 2 := w64 (by omega) (by omega)
 simp only [cmp_Or_int.l0, w0, w1, r0, r1, List.length_cons, List.length_nil]
 by_cases h : a = 0
 ·
  rw [if_pos h]
  by_cases h2 : b = 0
  ·
   simp [h, h2]
  ·
   simp [h, h2]
 ·
  simp [h]
def betterB (x y : List Int) : Bool := decide (y.length < x.length) || (decide (x.length = y.length) && lessB x y (x.length + 1) 0)
def hasP (l : List S29) (s : Nat) : Bool := decide (0 < (en l (selO (s : Int)) l.length [] []).length)
def mostB (l : List S29) : Nat → Nat → List Int → List Int
 | 0, _, best => best
 | d + 1, s, best => mostB l d (s + 1) (if betterB (sels (selO (s : Int)) 0 l.length) best && hasP l s then sels (selO (s : Int)) 0 l.length else best)
theorem mostB_len (l : List S29) (d : Nat) : ∀ s best, best.length ≤ l.length → (mostB l d s best).length ≤ l.length := by
 induction d with
 | zero => intro s best h; exact h
 | succ d ih =>
  intro s best h
  unfold mostB
  refine ih (s + 1) _ ?_
  split
  ·
   exact sels_len _ _ _
  ·
   exact h
theorem first_sel (l : List S29) (hl : l.length ≤ 6) (s : Nat) : ∃ p, impl_firstPlacing.f l (sels (selO (s : Int)) 0 l.length) = some (p, hasP l s) := by
 have h := sels_len (selO (s : Int)) l.length 0
 have e := plc_eq l (by omega) (selO (s : Int)) (sels (selO (s : Int)) 0 l.length) l.length [] [] [] (by simp) (by simp) rfl
 unfold impl_firstPlacing.f
 rw [if_pos (by omega)]
 rw [show filt [] = [] from rfl, show ([] : List Int).length = 0 from rfl] at e
 rw [e, obs]
 refine ⟨((en l (selO (s : Int)) l.length [] []).map filt).headD [], ?_⟩
 unfold hasP
 congr 2
 cases en l (selO (s : Int)) l.length [] [] <;> simp
theorem mostI_l1 (l : List S29) (hl : l.length ≤ 6) (best : List Int) (s : Nat) (hs : s < 64) (N : Int) (d : Nat) : ∀ (K i : Nat) (acc : List Int), i + d = l.length → acc.length ≤ i → d < K →
  ∃ K', K = K' + d + 1 ∧ impl_MostPlaced.l1 K l best (s : Int) acc N (s : Int) (l.length : Int) (i : Int) = impl_MostPlaced.l1 (K' + 1) l best (s : Int) (acc ++ sels (selO (s : Int)) i d) N (s : Int) (l.length : Int) (l.length : Int) := by
 induction d with
 | zero =>
  intro K i acc hd ha hK
  obtain ⟨K, rfl⟩ : ∃ m, K = m + 1 := ⟨K - 1, by omega⟩
  refine ⟨K, by omega, ?_⟩
  rw [show i = l.length by omega]
  unfold sels
  rw [List.append_nil]
 | succ d ih =>
  intro K i acc hd ha hK
  obtain ⟨K, rfl⟩ : ∃ m, K = m + 1 := ⟨K - 1, by omega⟩
  have hb := bit_sel hs (show i < 6 by omega)
  conv => enter [1, K', 2, 1]; unfold impl_MostPlaced.l1
  rw [if_pos (show (i : Int) < (l.length : Int) by omega), if_pos (show (0 : Int) ≤ (i : Int) by omega), w64 (x := (i : Int) + 1) (by omega) (by omega)]
  unfold sels
  by_cases c : selO (s : Int) i = true
  ·
   rw [if_pos (hb.2 c), if_pos (show acc.length < 17592186044416 by omega), if_pos c]
   obtain ⟨K', h1, h2⟩ := ih K (i + 1) (acc ++ [(i : Int)]) (by omega) (by rw [List.length_append, List.length_singleton]; omega) (by omega)
   refine ⟨K', by omega, ?_⟩
   rw [List.append_assoc] at h2
   exact h2
  ·
   rw [if_neg (fun h => c (hb.1 h)), if_neg c]
   obtain ⟨K', h1, h2⟩ := ih K (i + 1) acc (by omega) (by omega) (by omega)
   exact ⟨K', by omega, h2⟩
theorem mostS_l1 (l : List S29) (hl : l.length ≤ 6) (best : List Int) (s : Nat) (hs : s < 64) (d : Nat) : ∀ (K i : Nat) (acc : List Int), i + d = l.length → acc.length ≤ i → d < K →
  ∃ K', K = K' + d + 1 ∧ spec_MostPlaced.l1 K l best (s : Int) acc (i : Int) = spec_MostPlaced.l1 (K' + 1) l best (s : Int) (acc ++ sels (selO (s : Int)) i d) (l.length : Int) := by
 induction d with
 | zero =>
  intro K i acc hd ha hK
  obtain ⟨K, rfl⟩ : ∃ m, K = m + 1 := ⟨K - 1, by omega⟩
  refine ⟨K, by omega, ?_⟩
  rw [show i = l.length by omega]
  unfold sels
  rw [List.append_nil]
 | succ d ih =>
  intro K i acc hd ha hK
  obtain ⟨K, rfl⟩ : ∃ m, K = m + 1 := ⟨K - 1, by omega⟩
  have hb := bit_sel hs (show i < 6 by omega)
  conv => enter [1, K', 2, 1]; unfold spec_MostPlaced.l1
  rw [if_pos (show (i : Int) < (l.length : Int) by omega), u64n i (by omega), if_pos (show (0 : Int) ≤ (i : Int) by omega), w64 (x := (i : Int) + 1) (by omega) (by omega)]
  unfold sels
  by_cases c : selO (s : Int) i = true
  ·
   rw [if_pos (hb.2 c), if_pos (show acc.length < 17592186044416 by omega), if_pos c]
   obtain ⟨K', h1, h2⟩ := ih K (i + 1) (acc ++ [(i : Int)]) (by omega) (by rw [List.length_append, List.length_singleton]; omega) (by omega)
   refine ⟨K', by omega, ?_⟩
   rw [List.append_assoc] at h2
   exact h2
  ·
   rw [if_neg (fun h => c (hb.1 h)), if_neg c]
   obtain ⟨K', h1, h2⟩ := ih K (i + 1) acc (by omega) (by omega) (by omega)
   exact ⟨K', by omega, h2⟩
theorem mostI_l0 (l : List S29) (hl : l.length ≤ 6) (d : Nat) : ∀ (K s : Nat) (best : List Int), s + d = 2 ^ l.length → best.length ≤ l.length → 10 * d + 100 < K → impl_MostPlaced.l0 K l best ((2 ^ l.length : Nat) : Int) (s : Int) = some (mostB l d s best, true) := by
 have hp : 2 ^ l.length ≤ 2 ^ 6 := Nat.pow_le_pow_right (by decide) hl
 have h64 : (2 : Nat) ^ 6 = 64 := by decide
 generalize 2 ^ l.length = N at hp
 induction d with
 | zero =>
  intro K s best hd hb hK
  obtain ⟨K, rfl⟩ : ∃ m, K = m + 1 := ⟨K - 1, by omega⟩
  simp only [impl_MostPlaced.l0]
  rw [if_neg (by omega)]
  rfl
 | succ d ih =>
  intro K s best hd hb hK
  obtain ⟨K, rfl⟩ : ∃ m, K = m + 1 := ⟨K - 1, by omega⟩
  simp only [impl_MostPlaced.l0]
  rw [if_pos (by omega)]
  obtain ⟨K', h1, h2⟩ := mostI_l1 l hl best s (by omega) (N : Int) l.length K 0 [] (by omega) (by simp) (by omega)
  have h2' : impl_MostPlaced.l1 K l best (s : Int) [] (N : Int) (s : Int) (l.length : Int) 0 = _ := h2
  rw [h2', List.nil_append]
  have hx := sels_len (selO (s : Int)) l.length 0
  obtain ⟨p, hf⟩ := first_sel l hl s
  unfold mostB betterB
  generalize hX : sels (selO (s : Int)) 0 l.length = X at hx hf
  obtain ⟨c, hc, hci⟩ := comp_l0 X best (by omega) X.length K' 0 (by omega) (by omega)
  have hc' : slices_Compare_int_int.f K' X best = some c := hc
  simp only [impl_MostPlaced.l1]
  rw [if_neg (by omega), cmp_eq, obs, hc', obs, or_eq _ _ (by omega), obs, hf, w64 (x := (s : Int) + 1) (by omega) (by omega)]
  have step : ∀ b2 : List Int, b2.length ≤ l.length → impl_MostPlaced.l0 K' l b2 (N : Int) ((s : Int) + 1) = some (mostB l d (s + 1) b2, true) := fun b2 hb2 => ih K' (s + 1) b2 (by omega) hb2 (by omega)
  have yes : ((decide (best.length < X.length) || (decide (X.length = best.length) && lessB X best (X.length + 1) 0)) = true) → ¬ (if cmpI (best.length : Int) (X.length : Int) = 0 then c else cmpI (best.length : Int) (X.length : Int)) ≥ 0 := by
   intro h
   unfold cmpI
   rw [Bool.or_eq_true, Bool.and_eq_true, decide_eq_true_eq, decide_eq_true_eq] at h
   rcases h with h | ⟨h, h3⟩
   ·
    rw [if_pos (show (best.length : Int) < (X.length : Int) by omega), if_neg (by decide)]
    decide
   ·
    rw [if_neg (show ¬ (best.length : Int) < (X.length : Int) by omega), if_neg (show ¬ (best.length : Int) > (X.length : Int) by omega), if_pos rfl]
    have := hci.2 h3
    omega
  have no : ((decide (best.length < X.length) || (decide (X.length = best.length) && lessB X best (X.length + 1) 0)) = false) → (if cmpI (best.length : Int) (X.length : Int) = 0 then c else cmpI (best.length : Int) (X.length : Int)) ≥ 0 := by
   intro h
   unfold cmpI
   rw [Bool.or_eq_false_iff, decide_eq_false_iff_not] at h
   obtain ⟨h, h3⟩ := h
   rw [if_neg (show ¬ (best.length : Int) < (X.length : Int) by omega)]
   by_cases e : X.length = best.length
   ·
    rw [if_neg (show ¬ (best.length : Int) > (X.length : Int) by omega), if_pos rfl]
    rw [decide_eq_true e, Bool.true_and] at h3
    have : ¬ c < 0 := fun hh => by have := hci.1 hh; rw [h3] at this; cases this
    omega
   ·
    rw [if_pos (show (best.length : Int) > (X.length : Int) by omega), if_neg (by decide)]
    decide
  cases hq : (decide (best.length < X.length) || (decide (X.length = best.length) && lessB X best (X.length + 1) 0)) with
  | false =>
   rw [if_pos (no hq), Bool.false_and, if_neg (by decide)]
   exact step best hb
  | true =>
   rw [if_neg (yes hq), Bool.true_and, obs]
   cases hasP l s with
   | true =>
    rw [if_pos rfl, if_pos rfl]
    exact step X hx
   | false =>
    rw [if_neg (show ¬ ((p, false) : List Int × Bool).2 = true from Bool.false_ne_true), if_neg (by decide)]
    exact step best hb
theorem mostS_l0 (l : List S29) (hl : l.length ≤ 6) (d : Nat) : ∀ (K s : Nat) (best : List Int), s + d = 2 ^ l.length → best.length ≤ l.length → 10 * d + 200 < K → spec_MostPlaced.l0 K l best (s : Int) = some (mostB l d s best, true) := by
 have hp : 2 ^ l.length ≤ 2 ^ 6 := Nat.pow_le_pow_right (by decide) hl
 have h64 : (2 : Nat) ^ 6 = 64 := by decide
 induction d with
 | zero =>
  intro K s best hd hb hK
  obtain ⟨K, rfl⟩ : ∃ m, K = m + 1 := ⟨K - 1, by omega⟩
  simp only [spec_MostPlaced.l0]
  rw [u64n l.length (by omega), if_pos (by omega), shl_pow hl, if_neg (by omega)]
  rfl
 | succ d ih =>
  intro K s best hd hb hK
  obtain ⟨K, rfl⟩ : ∃ m, K = m + 1 := ⟨K - 1, by omega⟩
  simp only [spec_MostPlaced.l0]
  rw [u64n l.length (by omega), if_pos (by omega), shl_pow hl, if_pos (by omega)]
  obtain ⟨K', h1, h2⟩ := mostS_l1 l hl best s (by omega) l.length K 0 [] (by omega) (by simp) (by omega)
  have h2' : spec_MostPlaced.l1 K l best (s : Int) [] 0 = _ := h2
  rw [h2', List.nil_append]
  have hx := sels_len (selO (s : Int)) l.length 0
  unfold mostB betterB
  generalize hX : sels (selO (s : Int)) 0 l.length = X at hx
  have step : ∀ (k2 : Nat) (b2 : List Int), b2.length ≤ l.length → 10 * d + 200 < k2 → spec_MostPlaced.l0 k2 l b2 ((s : Int) + 1) = some (mostB l d (s + 1) b2, true) := fun k2 b2 hb2 hk2 => ih k2 (s + 1) b2 (by omega) hb2 hk2
  have jf : ∀ k2, 10 * d + 202 < k2 → spec_MostPlaced.j2 k2 l best (s : Int) X false = some (mostB l d (s + 1) (if (true && hasP l s) = true then X else best), true) := by
   intro k2 hk2
   obtain ⟨k2, rfl⟩ : ∃ m, k2 = m + 1 := ⟨k2 - 1, by omega⟩
   simp only [spec_MostPlaced.j2, Bool.false_eq_true, if_false]
   rw [count_eq l hl (s : Int) l.length k2 [] [] (by simp) (fun b => rfl) (by omega), obs, w64 (x := (s : Int) + 1) (by omega) (by omega), Bool.true_and]
   unfold hasP
   simp only
   by_cases h : 0 < (en l (selO (s : Int)) l.length [] []).length
   ·
    rw [if_pos (show ((en l (selO (s : Int)) l.length [] []).length : Int) > 0 by omega), decide_eq_true h, if_pos rfl]
    exact step k2 X hx (by omega)
   ·
    rw [if_neg (show ¬ ((en l (selO (s : Int)) l.length [] []).length : Int) > 0 by omega), decide_eq_false h, if_neg (by decide)]
    exact step k2 best hb (by omega)
  have jt : ∀ k2, 10 * d + 202 < k2 → spec_MostPlaced.j2 k2 l best (s : Int) X true = some (mostB l d (s + 1) (if (false && hasP l s) = true then X else best), true) := by
   intro k2 hk2
   obtain ⟨k2, rfl⟩ : ∃ m, k2 = m + 1 := ⟨k2 - 1, by omega⟩
   simp only [spec_MostPlaced.j2, if_true]
   rw [w64 (x := (s : Int) + 1) (by omega) (by omega), Bool.false_and, if_neg (by decide)]
   exact step k2 best hb (by omega)
  simp only [spec_MostPlaced.l1]
  rw [if_neg (by omega)]
  by_cases c1 : (X.length : Int) < (best.length : Int)
  ·
   rw [if_pos c1, decide_eq_false (show ¬ best.length < X.length by omega), decide_eq_false (show ¬ X.length = best.length by omega), Bool.false_or, Bool.false_and]
   exact jt K' (by omega)
  ·
   rw [if_neg c1]
   by_cases c2 : (X.length : Int) = (best.length : Int)
   ·
    rw [if_pos c2, less_eq X best (by omega) (by omega), obs, decide_eq_false (show ¬ best.length < X.length by omega), decide_eq_true (show X.length = best.length by omega), Bool.false_or, Bool.true_and]
    cases lessB X best (X.length + 1) 0 with
    | true => exact jf K' (by omega)
    | false => exact jt K' (by omega)
   ·
    rw [if_neg c2, decide_eq_true (show best.length < X.length by omega), Bool.true_or]
    exact jf K' (by omega)
end Go.Proofs.YtjkcfpmonpkhhaaDoor.Pr.Pure

namespace Go.Proofs.YtjkcfpmonpkhhaaDoor.Pr.Pure
open Go.RowKit Go.Proofs.YtjkcfpmonpkhhaaDoorW.PrintWords Go.Proofs.YtjkcfpmonpkhhaaDoorW.PrintLast Go.Proofs.YtjkcfpmonpkhhaaDoorW.PrintMore Go.Lib
set_option linter.unusedVariables false
set_option linter.unusedSimpArgs false
theorem wF_mem (l : List S29) (y : S29) (w : Int) (h : fitW l y w = true) (d : Nat) : ∀ i : Int, i ≤ w → w < i + d → w ∈ wF l y d i := by
 induction d with
 | zero => intro i h1 h2; omega
 | succ d ih =>
  intro i h1 h2
  unfold wF
  by_cases e : w = i
  ·
   rw [← e, if_pos h]
   exact List.mem_cons_self
  ·
   have := ih (i + 1) (by omega) (by omega)
   split
   ·
    exact List.mem_cons_of_mem _ this
   ·
    exact this
end Go.Proofs.YtjkcfpmonpkhhaaDoor.Pr.Pure

namespace Go.Proofs.YtjkcfpmonpkhhaaDoor.Pr.Pure
open Go.RowKit Go.Proofs.YtjkcfpmonpkhhaaDoorW.PrintWords Go.Proofs.YtjkcfpmonpkhhaaDoorW.PrintLast Go.Proofs.YtjkcfpmonpkhhaaDoorW.PrintMore Go.Lib
set_option linter.unusedVariables false
theorem bits255 (x : Int) : 0 ≤ Go.bits .and .u64 x 255 ∧ Go.bits .and .u64 x 255 ≤ 255 := by
 have h : (BitVec.ofInt IntKind.u64.bits x &&& BitVec.ofInt IntKind.u64.bits 255).toNat ≤ 255 := by
  rw [BitVec.toNat_and]
  exact Nat.le_trans Nat.and_le_right (by decide)
 have e : Go.bits .and .u64 x 255 = IntKind.u64.wrap (((BitVec.ofInt IntKind.u64.bits x &&& BitVec.ofInt IntKind.u64.bits 255).toNat : Nat) : Int) := rfl
 rw [e]
 generalize (BitVec.ofInt IntKind.u64.bits x &&& BitVec.ofInt IntKind.u64.bits 255).toNat = n at h
 have e2 : IntKind.u64.wrap (n : Int) = (n : Int) := by
  have : IntKind.u64.wrap (n : Int) = (n : Int) % 18446744073709551616 := rfl
  omega
 rw [e2]
 omega
theorem rdI_mem (l : List Int) {i : Int} (h0 : 0 ≤ i) (h1 : i < l.length) : rd l i ∈ l := by
 unfold rd
 rw [List.getD_eq_getElem?_getD, List.getElem?_eq_getElem (by omega)]
 exact List.getElem_mem _
theorem rdB_mem (l : List ByteArray) {i : Int} (h0 : 0 ≤ i) (h1 : i < l.length) : rdOf ByteArray.empty l i ∈ l := by
 unfold rdOf
 rw [List.getD_eq_getElem?_getD, List.getElem?_eq_getElem (by omega)]
 exact List.getElem_mem _
theorem next_ok {c : List Int} (hc : ∀ x, x ∈ c → 0 ≤ x ∧ x ≤ 255) {p : Int} (h0 : 0 ≤ p) (h1 : p ≤ 1000000000) (s : Int) :
  ∃ r q, spec_l1Cur_next.f c p s = some (r, p + 1, q) ∧ 0 ≤ r ∧ r ≤ 255 := by
 have hw : wrap64 (p + 1) = p + 1 := w64 (by omega) (by omega)
 unfold spec_l1Cur_next.f
 rw [hw]
 by_cases a : p < (c.length : Int)
 ·
  have hb := hc _ (rdI_mem c h0 a)
  have hv : wrap64 (rd c p) = rd c p := w64 (by omega) (by omega)
  rw [if_pos a, if_pos h0]
  by_cases b : p + 1 ≤ (c.length : Int)
  ·
   rw [if_pos b, hv]
   exact ⟨_, _, rfl, hb.1, hb.2⟩
  ·
   rw [if_neg b]
   refine ⟨_, _, rfl, ?_⟩
   rw [w64 (by have := bits255; exact Int.le_trans (by decide) (this _).1) (Int.le_trans (bits255 _).2 (by decide))]
   exact bits255 _
 ·
  rw [if_neg a]
  by_cases b : p + 1 ≤ (c.length : Int)
  ·
   rw [if_pos b]
   exact ⟨_, _, rfl, by decide, by decide⟩
  ·
   rw [if_neg b]
   refine ⟨_, _, rfl, ?_⟩
   rw [w64 (by have := bits255; exact Int.le_trans (by decide) (this _).1) (Int.le_trans (bits255 _).2 (by decide))]
   exact bits255 _
theorem tmod_lt {a n : Int} (h : 0 ≤ a) (hn : 0 < n) : 0 ≤ Int.tmod a n ∧ Int.tmod a n < n :=
 ⟨Int.tmod_nonneg _ h, Int.tmod_lt_of_pos _ hn⟩
theorem pick_ok {c : List Int} (hc : ∀ x, x ∈ c → 0 ≤ x ∧ x ≤ 255) {p : Int} (h0 : 0 ≤ p) (h1 : p ≤ 900000000) (s : Int) {n : Int} (hn : 0 < n) :
  ∃ r p1 q, spec_l1Cur_pick.f c p s n = some (r, p1, q) ∧ (0 ≤ r ∧ r < n) ∧ p ≤ p1 ∧ p1 ≤ p + 2 := by
 unfold spec_l1Cur_pick.f
 by_cases a : n ≤ 1
 ·
  rw [if_pos a]
  exact ⟨0, p, s, rfl, ⟨by decide, hn⟩, by omega, by omega⟩
 ·
  obtain ⟨r, q, e, b1, b2⟩ := next_ok hc h0 (by omega) s
  have n0 : ¬ n = 0 := by omega
  rw [if_neg a, e, obs]
  by_cases d : n > 200
  ·
   obtain ⟨r2, q2, e2, d1, d2⟩ := next_ok hc (p := p + 1) (by omega) (by omega) q
   rw [if_pos d, e2, obs, if_neg n0]
   have hw : wrap64 (wrap64 (r * 256) + r2) = r * 256 + r2 := by
    rw [w64 (x := r * 256) (by omega) (by omega), w64 (by omega) (by omega)]
   refine ⟨_, p + 1 + 1, q2, rfl, ?_, by omega, by omega⟩
   simp only
   rw [hw]
   exact tmod_lt (by omega) hn
  ·
   rw [if_neg d, if_neg n0]
   exact ⟨_, p + 1, q, rfl, tmod_lt b1 hn, by omega, by omega⟩
theorem one_ok {c : List Int} (hc : ∀ x, x ∈ c → 0 ≤ x ∧ x ≤ 255) {p : Int} (h0 : 0 ≤ p) (h1 : p ≤ 900000000) (s : Int) {n : Int} (hn : 0 < n) :
  ∃ b p1 q, spec_l1Cur_one.f c p s n = some (b, p1, q) ∧ p ≤ p1 ∧ p1 ≤ p + 2 := by
 obtain ⟨r, p1, q, e, _, a1, a2⟩ := pick_ok hc h0 h1 s hn
 unfold spec_l1Cur_one.f
 rw [e, obs]
 exact ⟨_, p1, q, rfl, a1, a2⟩
theorem among_ok {c : List Int} (hc : ∀ x, x ∈ c → 0 ≤ x ∧ x ≤ 255) {p : Int} (h0 : 0 ≤ p) (h1 : p ≤ 900000000) (s : Int) {l : List Int} (hl : 0 < l.length) :
  ∃ r p1 q, spec_l1Cur_among.f c p s l = some (r, p1, q) ∧ r ∈ l ∧ p ≤ p1 ∧ p1 ≤ p + 2 := by
 obtain ⟨r, p1, q, e, b, a1, a2⟩ := pick_ok hc h0 h1 s (n := (l.length : Int)) (by omega)
 unfold spec_l1Cur_among.f
 rw [e, obs, if_pos b.1, if_pos b.2]
 exact ⟨_, p1, q, rfl, rdI_mem l b.1 b.2, a1, a2⟩
theorem of_ok {c : List Int} (hc : ∀ x, x ∈ c → 0 ≤ x ∧ x ≤ 255) {p : Int} (h0 : 0 ≤ p) (h1 : p ≤ 900000000) (s : Int) {l : List ByteArray} (hl : 0 < l.length) :
  ∃ r p1 q, spec_l1Cur_of.f c p s l = some (r, p1, q) ∧ r ∈ l ∧ p ≤ p1 ∧ p1 ≤ p + 2 := by
 obtain ⟨r, p1, q, e, b, a1, a2⟩ := pick_ok hc h0 h1 s (n := (l.length : Int)) (by omega)
 unfold spec_l1Cur_of.f
 rw [e, obs, if_pos b.1, if_pos b.2]
 exact ⟨_, p1, q, rfl, rdB_mem l b.1 b.2, a1, a2⟩
theorem small_all {L : List ByteArray} (h : L.all (fun x => decide (x.size ≤ 100)) = true) {x : ByteArray} (hx : x ∈ L) : x.size ≤ 100 :=
 of_decide_eq_true (List.all_eq_true.1 h x hx)
theorem label_ok {c : List Int} (hc : ∀ x, x ∈ c → 0 ≤ x ∧ x ≤ 255) {p : Int} (h0 : 0 ≤ p) (h1 : p ≤ 600000000) (s : Int) :
  ∃ n x y p1 q, spec_l1Cur_label.f c p s = some (n, x, y, p1, q) ∧ n.size ≤ 100 ∧ p ≤ p1 ∧ p1 ≤ p + 20 := by
 unfold spec_l1Cur_label.f
 obtain ⟨n, p1, q1, e1, hn, a1, a2⟩ := of_ok hc h0 (by omega) s (l := [(⟨#[97]⟩ : ByteArray), (⟨#[115, 117, 109, 112]⟩ : ByteArray), (⟨#[98, 105, 103]⟩ : ByteArray), (⟨#[104, 97, 108, 108]⟩ : ByteArray), (⟨#[108, 111, 110, 103, 110, 97, 109, 101]⟩ : ByteArray), (⟨#[97, 98, 99, 100, 101, 102, 103, 104, 105, 106]⟩ : ByteArray)]) (by decide)
 have hn' := small_all (by decide) hn
 rw [e1, obs]
 obtain ⟨x, p2, q2, e2, _, b1, b2⟩ := among_ok hc (p := p1) (by omega) (by omega) q1 (l := [0, 5, 9, 12, 13, 99]) (by decide)
 rw [e2, obs]
 obtain ⟨y, p3, q3, e3, _, c1, c2⟩ := among_ok hc (p := p2) (by omega) (by omega) q2 (l := [0, 1, 8, 10, 11, 99]) (by decide)
 rw [e3, obs]
 obtain ⟨r, p4, q4, e4, _, d1, d2⟩ := pick_ok hc (p := p3) (by omega) (by omega) q3 (n := 60) (by decide)
 rw [e4, obs]
 simp only
 by_cases r0 : r = 0
 ·
  rw [if_pos r0]
  obtain ⟨n2, p5, q5, e5, hn2, f1, f2⟩ := of_ok hc (p := p4) (by omega) (by omega) q4 (l := [(⟨#[]⟩ : ByteArray), (⟨#[65]⟩ : ByteArray), (⟨#[97, 98, 99, 100, 101, 102, 103, 104, 105, 106, 107]⟩ : ByteArray)]) (by decide)
  have hn2' := small_all (by decide) hn2
  rw [e5, obs]
  exact ⟨n2, x, y, p5, q5, rfl, hn2', by omega, by omega⟩
 ·
  rw [if_neg r0]
  by_cases r1 : r = 1
  ·
   rw [if_pos r1]
   obtain ⟨n2, p5, q5, e5, _, f1, f2⟩ := among_ok hc (p := p4) (by omega) (by omega) q4 (l := [(-1), 100]) (by decide)
   rw [e5, obs]
   exact ⟨n, n2, y, p5, q5, rfl, hn', by omega, by omega⟩
  ·
   rw [if_neg r1]
   by_cases r2 : r = 2
   ·
    rw [if_pos r2]
    obtain ⟨n2, p5, q5, e5, _, f1, f2⟩ := among_ok hc (p := p4) (by omega) (by omega) q4 (l := [(-1), 100]) (by decide)
    rw [e5, obs]
    exact ⟨n, x, n2, p5, q5, rfl, hn', by omega, by omega⟩
   ·
    rw [if_neg r2]
    exact ⟨n, x, y, p4, q4, rfl, hn', by omega, by omega⟩
def Names (l : List S29) : Prop := ∀ x, x ∈ l → x.f0.size ≤ 1048576
theorem names_add {l : List S29} (h : Names l) {n : ByteArray} (hn : n.size ≤ 100) (x y : Int) : Names (l ++ [⟨n, x, y⟩]) := fun z hz => by
 rcases List.mem_append.1 hz with hz | hz
 ·
  exact h z hz
 ·
  rw [List.mem_singleton.1 hz]
  exact Nat.le_trans hn (by decide)
theorem labels_l1 {c : List Int} (hc : ∀ x, x ∈ c → 0 ≤ x ∧ x ≤ 255) (d : Nat) : ∀ (k : Nat) (l : List S29) (p s : Int), l.length + d = 7 → Names l → d < k → 0 ≤ p → p + 4 * d ≤ 500000000 →
  ∃ r p1 q, spec_l1Cur_labels24.l1 k l c p s = some (r, p1, q) ∧ r.length ≤ 7 ∧ Names r ∧ p ≤ p1 ∧ p1 ≤ p + 4 * d + 4 := by
 induction d with
 | zero =>
  intro k l p s hl hn hk h0 hp
  obtain ⟨k, rfl⟩ : ∃ m, k = m + 1 := ⟨k - 1, by omega⟩
  obtain ⟨r, p1, q, e, hr, a1, a2⟩ := pick_ok hc h0 (by omega) s (n := 2) (by decide)
  simp only [spec_l1Cur_labels24.l1]
  rw [e, obs]
  simp only
  rw [w64 (x := 6 + r) (by omega) (by omega), if_neg (by omega)]
  exact ⟨l, p1, q, rfl, by omega, hn, by omega, by omega⟩
 | succ d ih =>
  intro k l p s hl hn hk h0 hp
  obtain ⟨k, rfl⟩ : ∃ m, k = m + 1 := ⟨k - 1, by omega⟩
  obtain ⟨r, p1, q, e, hr, a1, a2⟩ := pick_ok hc h0 (by omega) s (n := 2) (by decide)
  simp only [spec_l1Cur_labels24.l1]
  rw [e, obs]
  simp only
  rw [w64 (x := 6 + r) (by omega) (by omega)]
  by_cases cc : (l.length : Int) < 6 + r
  ·
   rw [if_pos cc, if_pos (by omega)]
   obtain ⟨r2, p2, q2, e2, b1, b2, b3, b4⟩ := ih k (l ++ [(⟨(⟨#[98]⟩ : ByteArray), wrap64 (10 * (l.length : Int)), 50⟩ : S29)]) p1 q (by rw [List.length_append, List.length_singleton]; omega) (names_add hn (by decide) _ _) (by omega) (by omega) (by omega)
   exact ⟨r2, p2, q2, e2, b1, b2, by omega, by omega⟩
  ·
   rw [if_neg cc]
   exact ⟨l, p1, q, rfl, by omega, hn, by omega, by omega⟩
theorem labels_l0 {c : List Int} (hc : ∀ x, x ∈ c → 0 ≤ x ∧ x ≤ 255) (d : Nat) : ∀ (k : Nat) (l : List S29) (i p s : Int), i = d → l.length + d ≤ 6 → Names l → d + 20 < k → 0 ≤ p → p + 30 * d ≤ 400000000 →
  ∃ r p1 q, spec_l1Cur_labels24.l0 k l i c p s = some (r, p1, q) ∧ r.length ≤ 7 ∧ Names r ∧ p ≤ p1 ∧ p1 ≤ p + 30 * d + 60 := by
 induction d with
 | zero =>
  intro k l i p s hi hl hn hk h0 hp
  obtain ⟨k, rfl⟩ : ∃ m, k = m + 1 := ⟨k - 1, by omega⟩
  simp only [spec_l1Cur_labels24.l0]
  rw [if_neg (by omega)]
  obtain ⟨b, p1, q, e, a1, a2⟩ := one_ok hc h0 (by omega) s (n := 24) (by decide)
  rw [e, obs]
  simp only
  cases b with
  | true =>
   rw [if_pos rfl]
   obtain ⟨r2, p2, q2, e2, b1, b2, b3, b4⟩ := labels_l1 hc (7 - l.length) k l p1 q (by omega) hn (by omega) (by omega) (by omega)
   exact ⟨r2, p2, q2, e2, b1, b2, by omega, by omega⟩
  | false =>
   rw [if_neg (by decide)]
   exact ⟨l, p1, q, rfl, by omega, hn, by omega, by omega⟩
 | succ d ih =>
  intro k l i p s hi hl hn hk h0 hp
  obtain ⟨k, rfl⟩ : ∃ m, k = m + 1 := ⟨k - 1, by omega⟩
  simp only [spec_l1Cur_labels24.l0]
  rw [if_pos (by omega)]
  obtain ⟨n, x, y, p1, q, e, hn1, a1, a2⟩ := label_ok hc h0 (by omega) s
  rw [e, obs]
  simp only
  rw [if_pos (by omega), w64 (x := i - 1) (by omega) (by omega)]
  obtain ⟨r2, p2, q2, e2, b1, b2, b3, b4⟩ := ih k (l ++ [(⟨n, x, y⟩ : S29)]) (i - 1) p1 q (by omega) (by rw [List.length_append, List.length_singleton]; omega) (names_add hn hn1 x y) (by omega) (by omega) (by omega)
  exact ⟨r2, p2, q2, e2, b1, b2, by omega, by omega⟩
theorem labels_ok {c : List Int} (hc : ∀ x, x ∈ c → 0 ≤ x ∧ x ≤ 255) {p : Int} (h0 : 0 ≤ p) (h1 : p ≤ 200000000) (s : Int) {k : Nat} (hk : 40 < k) :
  ∃ r p1 q, spec_l1Cur_labels24.f k c p s = some (r, p1, q) ∧ r.length ≤ 7 ∧ Names r ∧ p ≤ p1 ∧ p1 ≤ p + 300 := by
 unfold spec_l1Cur_labels24.f
 obtain ⟨r, p1, q, e, hr, a1, a2⟩ := pick_ok hc h0 (by omega) s (n := 5) (by decide)
 rw [e, obs]
 simp only
 obtain ⟨r2, p2, q2, e2, b1, b2, b3, b4⟩ := labels_l0 hc r.toNat k [] r p1 q (by omega) (by simp; omega) (fun x hx => by cases hx) (by omega) (by omega) (by omega)
 exact ⟨r2, p2, q2, e2, b1, b2, by omega, by omega⟩
end Go.Proofs.YtjkcfpmonpkhhaaDoor.Pr.Pure

namespace Go.Proofs.YtjkcfpmonpkhhaaDoor.Pr.Pure
open Go.RowKit Go.Proofs.YtjkcfpmonpkhhaaDoorW.PrintWords Go.Proofs.YtjkcfpmonpkhhaaDoorW.PrintLast Go.Proofs.YtjkcfpmonpkhhaaDoorW.PrintMore Go.Proofs.YtjkcfpmonpkhhaaDoorW.Opens
set_option linter.unusedVariables false
set_option linter.unusedSimpArgs false
theorem rInts_l0 (l : List Int) (hl : l.length ≤ 100000) (d : Nat) : ∀ (k i : Nat), i + d = l.length → d < k → laws_rInts.l0 k l l i = some true := by
 induction d with
 | zero =>
  intro k i hd hk
  obtain ⟨k, rfl⟩ : ∃ m, k = m + 1 := ⟨k - 1, by omega⟩
  simp only [laws_rInts.l0]
  rw [if_neg (by omega)]
 | succ d ih =>
  intro k i hd hk
  obtain ⟨k, rfl⟩ : ∃ m, k = m + 1 := ⟨k - 1, by omega⟩
  simp only [laws_rInts.l0]
  rw [if_pos (by omega), if_pos (by omega), if_pos (by omega), if_pos trivial, w64 (by omega) (by omega)]
  exact ih k (i + 1) (by omega) (by omega)
theorem rInts_eq {l : List Int} (hl : l.length ≤ 100000) {k : Nat} (hk : l.length < k) : laws_rInts.f k l l = some true := by
 unfold laws_rInts.f
 rw [if_pos rfl]
 exact rInts_l0 l hl l.length k 0 (by omega) hk
theorem waysOf_in {m : List S29} (hm : Names m) (hl : m.length ≤ 1048576) (c : labs m = true) {i : Int} (h0 : 0 ≤ i) (h1 : i < m.length) {k : Nat} (hk : 6 < k) : impl_WaysOf.f k m i = some (waysL m i, true) := by
 unfold impl_WaysOf.f
 rw [are_eq hm, obs, if_pos c, within_eq, obs, w64 (by omega) (by omega), decide_eq_true (show 0 ≤ i ∧ i ≤ (m.length : Int) - 1 from ⟨h0, by omega⟩), if_pos rfl, waysOf_impl hl h0 h1 hk, obs]
theorem ways_both {m : List S29} (hm : ∀ x, x ∈ m → x.f0.size ≤ 1048576) (hl : m.length ≤ 1048576) (a : Int) :
  ∃ r b, r.length ≤ 4 ∧ ∀ k, 1048590 + m.length ≤ k → spec_WaysOf.f k m a = some (r, b) ∧ impl_WaysOf.f k m a = some (r, b) := by
 by_cases c : labs m = true
 ·
  by_cases c2 : (0 : Int) ≤ a ∧ a ≤ (m.length : Int) - 1
  ·
   refine ⟨waysL m a, true, waysL_len m a, fun k hk => ?_⟩
   unfold spec_WaysOf.f impl_WaysOf.f
   rw [good_eq hm hl (by omega), are_eq hm, obs, obs, if_pos c, if_pos c, w64 (by omega) (by omega), l1In_eq, within_eq, obs, obs, decide_eq_true c2, if_pos rfl, if_pos rfl, waysOf_spec hl c2.1 (by omega) (by omega), waysOf_impl hl c2.1 (by omega) (by omega), obs]
   exact ⟨rfl, rfl⟩
  ·
   refine ⟨[], false, by decide, fun k hk => ?_⟩
   unfold spec_WaysOf.f impl_WaysOf.f
   rw [good_eq hm hl (by omega), are_eq hm, obs, obs, if_pos c, if_pos c, w64 (by omega) (by omega), l1In_eq, within_eq, obs, obs, decide_eq_false c2, if_neg Bool.false_ne_true, if_neg Bool.false_ne_true]
   exact ⟨rfl, rfl⟩
 ·
  refine ⟨[], false, by decide, fun k hk => ?_⟩
  unfold spec_WaysOf.f impl_WaysOf.f
  rw [good_eq hm hl (by omega), are_eq hm, obs, obs, if_neg c, if_neg c]
  exact ⟨rfl, rfl⟩
theorem isLabel_both (l : List UInt8) (hl : l.length ≤ 4611686018427387904) (x y : Int) {k : Nat} (hk : l.length < k) :
  ∃ b, spec_l24One.f k (M l) x y = some b ∧ impl_isLabel.f (M l) x y = some b := by
 unfold spec_l24One.f impl_isLabel.f
 rw [word_spec l hl hk, word_impl l hl, obs, obs]
 cases isW l
 ·
  exact ⟨false, rfl, rfl⟩
 ·
  rw [if_pos rfl, if_pos rfl, l1In_eq, within_eq, obs, obs]
  by_cases h : (0 : Int) ≤ x ∧ x ≤ 99
  ·
   rw [decide_eq_true h, if_pos rfl, if_pos rfl, l1In_eq, within_eq]
   simp only [obs]
   exact ⟨_, rfl, rfl⟩
  ·
   rw [decide_eq_false h, if_neg Bool.false_ne_true, if_neg Bool.false_ne_true]
   exact ⟨_, rfl, rfl⟩
theorem in_tot (a b c : Int) : ∃ r, spec_l1In.f a b c = some r := by
 unfold spec_l1In.f
 split <;> exact ⟨_, rfl⟩
theorem near_tot (a b c d : Int) : ∃ r, spec_l24Near.f a b c d = some r := by
 unfold spec_l24Near.f
 obtain ⟨r1, h1⟩ := in_tot a (-100) 200
 obtain ⟨r2, h2⟩ := in_tot b (-100) 200
 obtain ⟨r3, h3⟩ := in_tot c 0 100
 obtain ⟨r4, h4⟩ := in_tot d 0 100
 rw [h1, h2, h3, h4]
 simp only [Option.bind_some]
 cases r1 <;> cases r2 <;> cases r3 <;> exact ⟨_, rfl⟩
theorem boxFor_is (n : ByteArray) (hn : n.size ≤ 100) (x y w : Int) {k : Nat} (hk : 1000 < k) :
  ∃ a b c d e, spec_BoxFor.f k n x y w = some (a, b, c, d, e) ∧ impl_BoxFor.f n x y w = some (a, b, c, d, e) ∧ (e = true → c = (n.size : Int) ∧ d = 2) := by
 obtain ⟨l, rfl⟩ := ex_M n
 rw [M_size] at hn
 obtain ⟨b, h1, h2⟩ := isLabel_both l (by omega) x y (k := k) (by omega)
 unfold spec_BoxFor.f impl_BoxFor.f
 rw [h1, h2, obs, obs]
 cases b
 ·
  exact ⟨_, _, _, _, _, rfl, rfl, fun h => (by cases h)⟩
 ·
  rw [if_pos rfl, if_pos rfl]
  unfold spec_l24Way.f impl_isPlace.f
  rw [l1In_eq, within_eq]
  simp only [obs]
  by_cases h : (0 : Int) ≤ w ∧ w ≤ 3
  ·
   rw [decide_eq_true h, if_pos rfl, if_pos rfl]
   exact ⟨_, _, _, _, _, rfl, rfl, fun _ => ⟨rfl, rfl⟩⟩
  ·
   rw [decide_eq_false h, if_neg Bool.false_ne_true, if_neg Bool.false_ne_true]
   exact ⟨_, _, _, _, _, rfl, rfl, fun h => (by cases h)⟩
theorem meet_val (a b c d e f g h : Int) : impl_meet.f a b c d e f g h = some (decide (c ≠ 0 ∧ d ≠ 0 ∧ g ≠ 0 ∧ h ≠ 0 ∧ a < wrap64 (e + g) ∧ e < wrap64 (a + c) ∧ b < wrap64 (f + h) ∧ f < wrap64 (b + d))) := by
 unfold impl_meet.f
 by_cases h1 : c = 0
 ·
  simp [h1]
 by_cases h2 : d = 0
 ·
  simp [h2]
 by_cases h3 : g = 0
 ·
  simp [h3]
 by_cases h4 : h = 0
 ·
  simp [h4]
 rw [if_neg h1, if_neg h2, if_neg h3, if_neg h4]
 by_cases h5 : a < wrap64 (e + g)
 ·
  by_cases h6 : e < wrap64 (a + c)
  ·
   by_cases h7 : b < wrap64 (f + h)
   ·
    simp [h1, h2, h3, h4, h5, h6, h7]
   ·
    simp [h7]
  ·
   simp [h6]
 ·
  simp [h5]
theorem meet_sym (a b c d e f g h : Int) : impl_meet.f a b c d e f g h = impl_meet.f e f g h a b c d := by
 rw [meet_val, meet_val]
 congr 1
 rw [decide_eq_decide]
 constructor
 ·
  rintro ⟨h1, h2, h3, h4, h5, h6, h7, h8⟩
  exact ⟨h3, h4, h1, h2, h6, h5, h8, h7⟩
 ·
  rintro ⟨h1, h2, h3, h4, h5, h6, h7, h8⟩
  exact ⟨h3, h4, h1, h2, h6, h5, h8, h7⟩
theorem doMeet_is (a b c d e f g h : Int) : ∃ p q, spec_DoMeet.f a b c d e f g h = some (p, q) ∧ impl_DoMeet.f a b c d e f g h = some (p, q) ∧ impl_DoMeet.f e f g h a b c d = some (p, q) := by
 obtain ⟨r1, h1⟩ := near_tot a b c d
 obtain ⟨r2, h2⟩ := near_tot e f g h
 have hi1 : impl_isBox.f a b c d = some r1 := h1
 have hi2 : impl_isBox.f e f g h = some r2 := h2
 have hm := meet_val a b c d e f g h
 have hs := (meet_sym a b c d e f g h).symm.trans hm
 generalize decide (c ≠ 0 ∧ d ≠ 0 ∧ g ≠ 0 ∧ h ≠ 0 ∧ a < wrap64 (e + g) ∧ e < wrap64 (a + c) ∧ b < wrap64 (f + h) ∧ f < wrap64 (b + d)) = z at hm hs
 have hms : spec_l24Meet.f a b c d e f g h = some z := hm
 unfold spec_DoMeet.f impl_DoMeet.f
 rw [h1, h2, hi1, hi2, hm, hs, hms]
 simp only [obs]
 cases r1 <;> cases r2 <;> exact ⟨_, _, rfl, rfl, rfl⟩
theorem drawBox_ok {c : List Int} (hc : ∀ x, x ∈ c → 0 ≤ x ∧ x ≤ 255) : ∃ n x y w, spec_DrawBoxFor.f c = some (n, x, y, w) ∧ n.size ≤ 100 := by
 unfold spec_DrawBoxFor.f
 rw [show spec_newCur.f c = some (c, 0, 0) from rfl, obs]
 obtain ⟨n, x, y, p1, q1, e1, hn, a1, a2⟩ := label_ok hc (p := 0) (by decide) (by decide) 0
 rw [e1, obs]
 obtain ⟨t, p2, q2, e2, ht, b1, b2⟩ := pick_ok hc (p := p1) (by omega) (by omega) q1 (n := 24) (by decide)
 rw [e2, obs]
 simp only
 rw [if_pos ht]
 have hne : 0 < (drawBoxL_.take (4 + t / 11).toNat).length := by
  rw [List.length_take]
  have : drawBoxL_.length = 6 := by decide
  omega
 obtain ⟨w, p3, q3, e3, _⟩ := among_ok hc (p := p2) (by omega) (by omega) q2 (l := drawBoxL_.take (4 + t / 11).toNat) hne
 rw [e3, obs]
 exact ⟨n, x, y, w, rfl, hn⟩
theorem drawMeet_ok {c : List Int} (hc : ∀ x, x ∈ c → 0 ≤ x ∧ x ≤ 255) : ∃ r1 r2 r3 r4 r5 r6 r7 r8, spec_DrawDoMeet.f c = some (r1, r2, r3, r4, r5, r6, r7, r8) := by
 unfold spec_DrawDoMeet.f
 rw [show spec_newCur.f c = some (c, 0, 0) from rfl, obs]
 obtain ⟨v1, p1, q1, e1, _, a1, b1⟩ := among_ok hc (p := 0) (by decide) (by decide) 0 (l := dmM1_) (by decide)
 rw [e1, obs]
 obtain ⟨v2, p2, q2, e2, _, a2, b2⟩ := among_ok hc (p := p1) (by omega) (by omega) q1 (l := dmM2_) (by decide)
 rw [e2, obs]
 obtain ⟨v3, p3, q3, e3, _, a3, b3⟩ := among_ok hc (p := p2) (by omega) (by omega) q2 (l := dmM3_) (by decide)
 rw [e3, obs]
 obtain ⟨v4, p4, q4, e4, _, a4, b4⟩ := among_ok hc (p := p3) (by omega) (by omega) q3 (l := dmM4_) (by decide)
 rw [e4, obs]
 obtain ⟨v5, p5, q5, e5, _, a5, b5⟩ := among_ok hc (p := p4) (by omega) (by omega) q4 (l := dmL1_) (by decide)
 rw [e5, obs]
 obtain ⟨v6, p6, q6, e6, _, a6, b6⟩ := among_ok hc (p := p5) (by omega) (by omega) q5 (l := dmL2_) (by decide)
 rw [e6, obs]
 obtain ⟨t7, p7, q7, e7, ht7, a7, b7⟩ := pick_ok hc (p := p6) (by omega) (by omega) q6 (n := 24) (by decide)
 rw [e7, obs]
 simp only
 rw [if_pos ht7]
 have h8 : 0 < (dmL3_.take (3 + t7 / 23).toNat).length := by
  rw [List.length_take]
  have : dmL3_.length = 4 := by decide
  omega
 obtain ⟨v8, p8, q8, e8, _, a8, b8⟩ := among_ok hc (p := p7) (by omega) (by omega) q7 (l := dmL3_.take (3 + t7 / 23).toNat) h8
 rw [e8, obs]
 obtain ⟨t9, p9, q9, e9, ht9, a9, b9⟩ := pick_ok hc (p := p8) (by omega) (by omega) q8 (n := 24) (by decide)
 rw [e9, obs]
 simp only
 rw [if_pos ht9]
 have h10 : 0 < (dmL4_.take (3 + t9 / 23).toNat).length := by
  rw [List.length_take]
  have : dmL4_.length = 4 := by decide
  omega
 obtain ⟨v10, p10, q10, e10, _⟩ := among_ok hc (p := p9) (by omega) (by omega) q9 (l := dmL4_.take (3 + t9 / 23).toNat) h10
 rw [e10, obs]
 exact ⟨_, _, _, _, _, _, _, _, rfl⟩
theorem drawMost_ok {c : List Int} (hc : ∀ x, x ∈ c → 0 ≤ x ∧ x ≤ 255) {k : Nat} (hk : 40 < k) : ∃ l, spec_DrawMostPlaced.f k c = some l ∧ l.length ≤ 7 ∧ Names l := by
 unfold spec_DrawMostPlaced.f spec_DrawAreLabels.f
 rw [show spec_newCur.f c = some (c, 0, 0) from rfl, obs]
 obtain ⟨l, p1, q, e, a1, a2, a3, a4⟩ := labels_ok hc (p := 0) (by decide) (by decide) 0 (k := k) hk
 rw [e, obs, obs]
 exact ⟨l, rfl, a1, a2⟩
theorem drawWays_ok {c : List Int} (hc : ∀ x, x ∈ c → 0 ≤ x ∧ x ≤ 255) {k : Nat} (hk : 40 < k) : ∃ l i, spec_DrawWaysOf.f k c = some (l, i) ∧ l.length ≤ 7 ∧ Names l := by
 unfold spec_DrawWaysOf.f
 rw [show spec_newCur.f c = some (c, 0, 0) from rfl, obs]
 obtain ⟨l, p1, q, e, a1, a2, a3, a4⟩ := labels_ok hc (p := 0) (by decide) (by decide) 0 (k := k) hk
 rw [e, obs]
 simp only
 rw [w64 (x := (l.length : Int) + 1) (by omega) (by omega)]
 obtain ⟨t, p2, q2, e2, _, b1, b2⟩ := pick_ok hc (p := p1) (by omega) (by omega) q (n := (l.length : Int) + 1) (by omega)
 rw [e2, obs]
 obtain ⟨t3, p3, q3, e3, _⟩ := pick_ok hc (p := p2) (by omega) (by omega) q2 (n := 20) (by decide)
 rw [e3, obs]
 exact ⟨l, _, rfl, a1, a2⟩
theorem sels_mem (sel : Nat → Bool) (m : Nat) : ∀ (i : Nat) (x : Int), x ∈ sels sel i m → ∃ j : Nat, x = j ∧ i ≤ j ∧ j < i + m ∧ sel j = true := by
 induction m with
 | zero => intro i x h; cases h
 | succ m ih =>
  intro i x h
  unfold sels at h
  by_cases hs : sel i = true
  ·
   rw [if_pos hs] at h
   rcases List.mem_cons.1 h with rfl | h
   ·
    exact ⟨i, rfl, Nat.le_refl _, by omega, hs⟩
   ·
    obtain ⟨j, h1, h2, h3, h4⟩ := ih (i + 1) x h
    exact ⟨j, h1, by omega, by omega, h4⟩
  ·
   rw [if_neg hs] at h
   obtain ⟨j, h1, h2, h3, h4⟩ := ih (i + 1) x h
   exact ⟨j, h1, by omega, by omega, h4⟩
theorem sels_all (sel : Nat → Bool) (m : Nat) : ∀ i : Nat, (sels sel i m).length = m → ∀ j, i ≤ j → j < i + m → sel j = true := by
 induction m with
 | zero => intro i _ j h1 h2; omega
 | succ m ih =>
  intro i h j h1 h2
  have hl := sels_len sel m (i + 1)
  unfold sels at h
  by_cases hs : sel i = true
  ·
   rw [if_pos hs, List.length_cons] at h
   by_cases e : j = i
   ·
    rw [e]; exact hs
   ·
    exact ih (i + 1) (by omega) j (by omega) (by omega)
  ·
   rw [if_neg hs] at h
   omega
theorem en_same (l : List S29) (sel sel' : Nat → Bool) (m : Nat) : ∀ (ws : List Int) (bs : List S26), (∀ i, ws.length ≤ i → i < ws.length + m → sel i = sel' i) → en l sel m ws bs = en l sel' m ws bs := by
 induction m with
 | zero => intro ws bs _; rfl
 | succ m ih =>
  intro ws bs h
  unfold en
  rw [h ws.length (Nat.le_refl _) (by omega)]
  have e : ∀ (w : Int) (bs' : List S26), en l sel m (ws ++ [w]) bs' = en l sel' m (ws ++ [w]) bs' := fun w bs' => ih _ _ (fun i h1 h2 => by
   rw [List.length_append, List.length_singleton] at h1 h2
   exact h i (by omega) (by omega))
  simp only [e]
theorem en_fit (l : List S29) (sel : Nat → Bool) (m : Nat) : ∀ (ws : List Int) (bs : List S26) (p : List Int), p ∈ en l sel m ws bs → ∀ i, ws.length ≤ i → i < ws.length + m → sel i = true → ∃ w : Int, 0 ≤ w ∧ w ≤ 3 ∧ fitT l (bxT l i w) = true := by
 induction m with
 | zero => intro ws bs p _ i h1 h2; omega
 | succ m ih =>
  intro ws bs p hp i h1 h2 hs
  unfold en at hp
  by_cases c : sel ws.length = true
  ·
   rw [if_pos c] at hp
   obtain ⟨w, hw, hp⟩ := List.mem_flatMap.1 hp
   have hw3 : 0 ≤ w ∧ w ≤ 3 := by
    simp only [List.mem_cons, List.not_mem_nil, or_false] at hw
    omega
   by_cases ok : okT l ws.length w bs = true
   ·
    rw [if_pos ok] at hp
    by_cases e : i = ws.length
    ·
     unfold okT at ok
     rw [Bool.and_eq_true] at ok
     exact ⟨w, hw3.1, hw3.2, by rw [e]; exact ok.1⟩
    ·
     exact ih _ _ p hp i (by rw [List.length_append, List.length_singleton]; omega) (by rw [List.length_append, List.length_singleton]; omega) hs
   ·
    rw [if_neg ok] at hp
    cases hp
  ·
   rw [if_neg c] at hp
   by_cases e : i = ws.length
   ·
    rw [e] at hs
    exact absurd hs c
   ·
    exact ih _ _ p hp i (by rw [List.length_append, List.length_singleton]; omega) (by rw [List.length_append, List.length_singleton]; omega) hs
theorem mostB_or (l : List S29) (d : Nat) : ∀ (s : Nat) (best : List Int), mostB l d s best = best ∨ ∃ t, hasP l t = true ∧ mostB l d s best = sels (selO (t : Int)) 0 l.length := by
 induction d with
 | zero => intro s best; exact .inl rfl
 | succ d ih =>
  intro s best
  unfold mostB
  by_cases c : (betterB (sels (selO (s : Int)) 0 l.length) best && hasP l s) = true
  ·
   rw [if_pos c]
   rw [Bool.and_eq_true] at c
   rcases ih (s + 1) (sels (selO (s : Int)) 0 l.length) with h | h
   ·
    exact .inr ⟨s, c.2, h⟩
   ·
    exact .inr h
  ·
   rw [if_neg c]
   exact ih (s + 1) best
theorem mostB_full (l : List S29) (N : Nat) (hN : 0 < N) (hP : hasP l (N - 1) = true) (hX : (sels (selO ((N - 1 : Nat) : Int)) 0 l.length).length = l.length) (d : Nat) : ∀ (s : Nat) (best : List Int), s + (d + 1) = N → best.length ≤ l.length → (mostB l (d + 1) s best).length = l.length := by
 induction d with
 | zero =>
  intro s best hs hb
  obtain rfl : s = N - 1 := by omega
  show (if (betterB (sels (selO ((N - 1 : Nat) : Int)) 0 l.length) best && hasP l (N - 1)) = true then sels (selO ((N - 1 : Nat) : Int)) 0 l.length else best).length = _
  by_cases c : best.length < l.length
  ·
   have : betterB (sels (selO ((N - 1 : Nat) : Int)) 0 l.length) best = true := by
    unfold betterB
    rw [hX, decide_eq_true c, Bool.true_or]
   rw [this, hP, Bool.and_self, if_pos rfl]
   exact hX
  ·
   split
   ·
    exact hX
   ·
    omega
 | succ d ih =>
  intro s best hs hb
  show (mostB l (d + 1) (s + 1) _).length = _
  refine ih (s + 1) _ (by omega) ?_
  split
  ·
   exact sels_len _ _ _
  ·
   exact hb
theorem fulls_all : ((List.range 7).all fun n => (List.range n).all fun i => selO ((2 ^ n - 1 : Nat) : Int) i) = true := by kernel_rfl
theorem fulls_sel {n i : Nat} (hn : n ≤ 6) (hi : i < n) : selO ((2 ^ n - 1 : Nat) : Int) i = true :=
 List.all_eq_true.1 (List.all_eq_true.1 fulls_all n (List.mem_range.2 (by omega))) i (List.mem_range.2 hi)
theorem hasP_full {l : List S29} (hl : l.length ≤ 6) {t : Nat} (h : ∀ i, i < l.length → selO (t : Int) i = true) : hasP l t = decide (0 < (plcs l).length) := by
 unfold hasP plcs
 rw [en_same l (selO (t : Int)) (selO (fullS l.length)) l.length [] [] (fun i _ hi => by
  have hi' : i < l.length := by simpa using hi
  rw [h i hi', full_sel hl hi'])]
theorem most_full {l : List S29} (hl : l.length ≤ 6) : ((mostB l (2 ^ l.length) 0 []).length = l.length) ↔ 0 < (plcs l).length := by
 have hpos : 0 < 2 ^ l.length := Nat.pow_pos (by decide)
 have hfull := hasP_full hl (t := 2 ^ l.length - 1) (fun i hi => fulls_sel hl hi)
 constructor
 ·
  intro h
  rcases mostB_or l (2 ^ l.length) 0 [] with e | ⟨t, ht, e⟩
  ·
   rw [e] at h
   have h0 : l.length = 0 := h.symm
   unfold plcs
   rw [h0]
   exact Nat.zero_lt_one
  ·
   rw [e] at h
   rw [hasP_full hl (fun i hi => sels_all _ _ 0 h i (Nat.zero_le _) (by omega))] at ht
   exact of_decide_eq_true ht
 ·
  intro h
  rw [decide_eq_true h] at hfull
  obtain ⟨d, hd⟩ : ∃ d, 2 ^ l.length = d + 1 := ⟨2 ^ l.length - 1, by omega⟩
  have hX : (sels (selO ((2 ^ l.length - 1 : Nat) : Int)) 0 l.length).length = l.length := by
   rw [sels_full _ _ 0 (fun j _ hj => fulls_sel hl (by omega)), List.length_map, List.length_range']
  have := mostB_full l (2 ^ l.length) hpos hfull hX d 0 [] (by omega) (Nat.zero_le _)
  rw [← hd] at this
  exact this
theorem most_ways {l : List S29} {x : Int} (hx : x ∈ mostB l (2 ^ l.length) 0 []) : 0 ≤ x ∧ x < l.length ∧ (waysL l x).length ≠ 0 := by
 rcases mostB_or l (2 ^ l.length) 0 [] with e | ⟨t, ht, e⟩
 ·
  rw [e] at hx
  cases hx
 ·
  rw [e] at hx
  obtain ⟨j, rfl, _, h2, h3⟩ := sels_mem _ _ 0 x hx
  unfold hasP at ht
  obtain ⟨p, hp⟩ := List.exists_mem_of_length_pos (of_decide_eq_true ht)
  obtain ⟨w, w0, w3, hf⟩ := en_fit l _ _ [] [] p hp j (Nat.zero_le _) (by simpa using h2) h3
  have := List.length_pos_of_mem (show w ∈ waysL l (j : Int) from wF_mem l _ w hf 4 0 w0 (by omega))
  exact ⟨by omega, by omega, by omega⟩
theorem most_is {m : List S29} (hm : Names m) (hl : m.length ≤ 1048576) {k : Nat} (hk : 1048790 + m.length ≤ k) : ∃ r, r.length ≤ 6 ∧ spec_MostPlaced.f k m = some (r, labs m) ∧ impl_MostPlaced.f k m = some (r, labs m) ∧ r = if labs m = true then mostB m (2 ^ m.length) 0 [] else [] := by
 by_cases c : labs m = true
 ·
  have h6 := labs_len c
  have hp : 2 ^ m.length ≤ 2 ^ 6 := Nat.pow_le_pow_right (by decide) h6
  have h64 : (2 : Nat) ^ 6 = 64 := by decide
  refine ⟨mostB m (2 ^ m.length) 0 [], Nat.le_trans (mostB_len m _ 0 [] (Nat.zero_le _)) h6, ?_, ?_, by rw [if_pos c]⟩
  ·
   unfold spec_MostPlaced.f
   rw [obs, good_eq hm hl (by omega), obs, if_pos c, c]
   exact mostS_l0 m h6 (2 ^ m.length) k 0 [] (by omega) (Nat.zero_le _) (by omega)
  ·
   unfold impl_MostPlaced.f
   rw [are_eq hm, obs, if_pos c, shl_pow h6, c]
   exact mostI_l0 m h6 (2 ^ m.length) k 0 [] (by omega) (Nat.zero_le _) (by omega)
 ·
  refine ⟨[], by decide, ?_, ?_, by rw [if_neg c]⟩
  ·
   unfold spec_MostPlaced.f
   rw [obs, good_eq hm hl (by omega), obs, if_neg c, Bool.eq_false_iff.mpr c]
  ·
   unfold impl_MostPlaced.f
   rw [are_eq hm, obs, if_neg c, Bool.eq_false_iff.mpr c]
theorem lawX_end {c : List Int} (hc : ∀ x, x ∈ c → 0 ≤ x ∧ x ≤ 255) {k : Nat} (hk : 1049000 < k) : ((spec_DrawWaysOf.f k c).bind fun bt863 => ((impl_WaysOf.f k bt863.1 bt863.2).bind fun bt867 => ((spec_WaysOf.f k bt863.1 bt863.2).bind fun bt871 => (if (bt867.2 == bt871.2) = true then ((laws_rInts.f k bt867.1 bt871.1).bind fun t875 => (some t875)) else (none))))) = some true := by
 obtain ⟨l, i, e, hl, hn⟩ := drawWays_ok hc (k := k) (by omega)
 obtain ⟨r, b, hr, hk2⟩ := ways_both hn (by omega) i
 rw [e, obs]
 simp only
 rw [(hk2 k (by omega)).2, obs, (hk2 k (by omega)).1, obs]
 simp only [beq_self_eq_true, if_true]
 rw [rInts_eq (by omega) (by omega), obs]
theorem lawX_l0 {c : List Int} (hc : ∀ x, x ∈ c → 0 ≤ x ∧ x ≤ 255) {m : List S29} (hm : Names m) (hl : m.length ≤ 7) {r : List Int} (hr6 : r.length ≤ 6) (hr : ∀ x, x ∈ r → labs m = true ∧ 0 ≤ x ∧ x < m.length ∧ (waysL m x).length ≠ 0) (d : Nat) : ∀ (K i : Nat), i + d = r.length → 1049010 + d < K → laws_FnLabelBoxes.l0 K c m r i = some true := by
 induction d with
 | zero =>
  intro K i hd hK
  obtain ⟨K, rfl⟩ : ∃ m, K = m + 1 := ⟨K - 1, by omega⟩
  simp only [laws_FnLabelBoxes.l0]
  rw [if_neg (by omega)]
  exact lawX_end hc (by omega)
 | succ d ih =>
  intro K i hd hK
  obtain ⟨K, rfl⟩ : ∃ m, K = m + 1 := ⟨K - 1, by omega⟩
  have hmem : rd r (i : Int) ∈ r := by
   show r.getD (i : Int).toNat 0 ∈ r
   rw [Int.toNat_natCast, List.getD_eq_getElem?_getD, List.getElem?_eq_getElem (by omega)]
   exact List.getElem_mem _
  obtain ⟨h1, h2, h3, h4⟩ := hr _ hmem
  simp only [laws_FnLabelBoxes.l0]
  rw [if_pos (by omega), if_pos (by omega), waysOf_in hm (by omega) h1 h2 h3 (by omega), obs]
  simp only [if_true]
  rw [if_neg (by omega), w64 (by omega) (by omega)]
  exact ih K (i + 1) (by omega) (by omega)
theorem FnLabelBoxes : FnLabelBoxes.Pure := by
 intro l0 hw
 have hc' : ∀ x, x ∈ l0 → 0 ≤ x ∧ x ≤ 255 := fun x hx => by
  have h := hw.2.2 x hx
  simp [Lit.wf, IntKind.min, IntKind.max, IntKind.signed, IntKind.bits] at h
  omega
 obtain ⟨K0, hK0⟩ : ∃ K0 : Nat, K0 = 1060000 := ⟨_, rfl⟩
 refine ⟨K0 + 5, ?_⟩
 unfold laws_FnLabelBoxes.f laws_rBig.f
 rw [obs]
 by_cases big : decide ((l0.length : Int) > 65536) = true
 ·
  rw [if_pos big]
 ·
  rw [if_neg big]
  obtain ⟨n, x, y, w, e, hn⟩ := drawBox_ok hc'
  obtain ⟨a, b, cc, d, t, e1, e2, e3⟩ := boxFor_is n hn x y w (k := K0 + 5) (by omega)
  obtain ⟨r1, r2, r3, r4, r5, r6, r7, r8, em⟩ := drawMeet_ok hc'
  obtain ⟨p, q, m1, m2, m3⟩ := doMeet_is r1 r2 r3 r4 r5 r6 r7 r8
  obtain ⟨m, ed, hl, hm⟩ := drawMost_ok hc' (k := K0 + 3) (by omega)
  obtain ⟨r, hr6, s1, s2, hr⟩ := most_is hm (by omega) (k := K0 + 3) (by omega)
  obtain ⟨fr, fb, _, hf, hfb, hff⟩ := first_both hm (by omega)
  have hrw : ∀ x, x ∈ r → labs m = true ∧ 0 ≤ x ∧ x < m.length ∧ (waysL m x).length ≠ 0 := fun x hx => by
   cases c : labs m with
   | false =>
    rw [hr, c, if_neg (by decide)] at hx
    cases hx
   | true =>
    rw [hr, c, if_pos rfl] at hx
    exact ⟨rfl, most_ways hx⟩
  have hj3 : laws_FnLabelBoxes.j3 (K0 + 2) l0 m r false = some true := by
   simp only [laws_FnLabelBoxes.j3, Bool.false_eq_true, if_false]
   exact lawX_l0 hc' hm hl hr6 hrw r.length (K0 + 1) 0 (by omega) (by omega)
  have hj2 : laws_FnLabelBoxes.j2 (K0 + 3) l0 m r (labs m) false = some true := by
   simp only [laws_FnLabelBoxes.j2, Bool.false_eq_true, if_false]
   rw [(hf (K0 + 2) (by omega)).2, obs]
   simp only
   cases c : labs m with
   | false =>
    rw [if_neg (by decide)]
    exact hj3
   | true =>
    rw [if_pos rfl]
    have h6 := labs_len c
    have e9 : fb = ((r.length : Int) == (m.length : Int)) := by
     rw [(hfb c).2, hr, c, if_pos rfl, Bool.eq_iff_iff, decide_eq_true_eq, beq_iff_eq, ← most_full h6]
     omega
    rw [e9, bne_self_eq_false]
    exact hj3
  have hj1 : laws_FnLabelBoxes.j1 (K0 + 4) l0 false = some true := by
   simp only [laws_FnLabelBoxes.j1, Bool.false_eq_true, if_false]
   rw [ed, obs, s2, obs, s1, obs]
   simp only [bne_self_eq_false, Bool.false_eq_true, if_false]
   rw [rInts_eq (by omega) (by omega), obs]
   exact hj2
  have hj0 : laws_FnLabelBoxes.j0 (K0 + 5) l0 false = some true := by
   simp only [laws_FnLabelBoxes.j0, Bool.false_eq_true, if_false]
   rw [em, obs]
   simp only
   rw [m2, obs, m3, obs, m1, obs]
   simp only [bne_self_eq_false, Bool.false_eq_true, if_false]
   exact hj1
  rw [e, obs]
  simp only
  rw [e2, obs, e1, obs]
  simp only [beq_self_eq_true, Bool.not_true, Bool.or_self, bne_self_eq_false, Bool.false_eq_true, if_false]
  cases t with
  | false =>
   rw [if_neg (by decide)]
   exact hj0
  | true =>
   obtain ⟨rfl, rfl⟩ := e3 rfl
   rw [if_pos rfl, if_pos rfl]
   exact hj0
end Go.Proofs.YtjkcfpmonpkhhaaDoor.Pr.Pure

