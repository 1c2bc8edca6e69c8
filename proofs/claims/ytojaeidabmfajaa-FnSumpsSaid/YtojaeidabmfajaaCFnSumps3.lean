/-
What is proved: parts of the law FnSumps: what the functions that it reaches compute, and the plain law.
Conditions: those of each theorem.
-/
import Derived.Test.YtojaeidabmfajaaCFnSumps2
namespace Go.Proofs.Ytojaeidabmfajaa.Pr
open Go.RowKit Go.Proofs.YtojaeidabmfajaaW.PrintWords Go.Proofs.YtojaeidabmfajaaW.PrintLast Go.Proofs.YtojaeidabmfajaaW.PrintMore
attribute [local go_sem] max2_int min2_int max_two min_two max_three min_three max_four min_four   -- for this text's walks alone
set_option linter.unusedVariables false
set_option linter.unusedSimpArgs false
mutual
def spec_l1Cur_readings.l0 : Nat → List (S54) → Int → Int → List Int → Int → Int → Option ((List (S54)) × Int × Int)
 | 0, _, _, _, _, _, _ => none
 | k + 1, x3, x4, x5, x1000, x1001, x1002 => if x5 > 0 then ((spec_l1Cur_among.f x1000 x1001 x1002 (([(-500), (-20), 0, 5, 10, 10, 40, 500] : List Int))).bind fun bt330 => (if x3.length < 8796093022208 then ((spec_l1Cur_among.f x1000 bt330.2.1 bt330.2.2 (([1, 2, 3, 7, 20] : List Int))).bind fun bt339 => (spec_l1Cur_readings.l0 k (x3 ++ [(⟨x4, bt330.1⟩ : S54)]) (wrap64 (x4 + bt339.1)) (wrap64 (x5 - 1)) x1000 bt339.2.1 bt339.2.2)) else (none))) else (if (x3.length : Int) = 0 then (some (x3, x1001, x1002)) else ((spec_l1Cur_pick.f x1000 x1001 x1002 (x3.length : Int)).bind fun bt342 => (if 0 ≤ bt342.1 then (if bt342.1 < (x3.length : Int) then ((spec_l1Cur_pick.f x1000 bt342.2.1 bt342.2.2 50).bind fun bt347 => (if bt347.1 = 0 then (if 0 < (x3.length : Int) then ((spec_l1Cur_among.f x1000 bt347.2.1 bt347.2.2 (([(-1), 1000, (rd_T54 x3 0).f0] : List Int))).bind fun bt354 => (some ((x3.set (bt342.1 : Int).toNat (⟨bt354.1, (rd_T54 x3 bt342.1).f1⟩ : S54)), bt354.2.1, bt354.2.2))) else (none)) else (if bt347.1 = 1 then ((spec_l1Cur_among.f x1000 bt347.2.1 bt347.2.2 (([(-501), 501] : List Int))).bind fun bt361 => (some ((x3.set (bt342.1 : Int).toNat (⟨(rd_T54 x3 bt342.1).f0, bt361.1⟩ : S54)), bt361.2.1, bt361.2.2))) else (if bt347.1 = 2 then (spec_l1Cur_readings.l1 k x3 bt342.1 x1000 bt347.2.1 bt347.2.2 ((rd_T54 x3 bt342.1).f0) ((rd_T54 x3 bt342.1).f1)) else (some ((x3.set (bt342.1 : Int).toNat (⟨(rd_T54 x3 bt342.1).f0, (rd_T54 x3 bt342.1).f1⟩ : S54)), bt347.2.1, bt347.2.2)))))) else (none)) else (none))))
def spec_l1Cur_readings.l1 : Nat → List (S54) → Int → List Int → Int → Int → Int → Int → Option ((List (S54)) × Int × Int)
 | 0, _, _, _, _, _, _, _ => none
 | k + 1, x3, x6, x1000, x1001, x1002, x347000, x347001 => (spec_l1Cur_pick.f x1000 x1001 x1002 2).bind fun bt365 => (if (x3.length : Int) < (wrap64 (15 + bt365.1)) then (if x3.length < 8796093022208 then (spec_l1Cur_readings.l1 k (x3 ++ [(⟨wrap64 (980 + (x3.length : Int)), 2⟩ : S54)]) x6 x1000 bt365.2.1 bt365.2.2 x347000 x347001) else (none)) else (if 0 ≤ x6 then (if x6 < (x3.length : Int) then (some ((x3.set (x6 : Int).toNat (⟨x347000, x347001⟩ : S54)), bt365.2.1, bt365.2.2)) else (none)) else (none)))
end
def spec_l1Cur_readings.f (k : Nat) (s0_0 : List Int) (s0_1 : Int) (s0_2 : Int) : Option ((List (S54)) × Int × Int) := (spec_l1Cur_among.f s0_0 s0_1 s0_2 (([0, 5, 900] : List Int))).bind fun bt321 => ((spec_l1Cur_pick.f s0_0 bt321.2.1 bt321.2.2 7).bind fun bt324 => (spec_l1Cur_readings.l0 k (([] : List (S54))) bt321.1 bt324.1 s0_0 bt324.2.1 bt324.2.2))
set_option maxHeartbeats 8000000 in
set_option maxRecDepth 100000 in
theorem spec_l1Cur_readings.calls (k : Nat) (g : Nat) (s0_0 : List Int) (s0_1 : Int) (s0_2 : Int) (r1 : List (S54)) (r2 : Int) (r3 : Int) (w0 w : World) (hI : IsS90 w0 w g s0_0 s0_1 s0_2) (hB : Below w0.heap.size w0 w) (h : spec_l1Cur_readings.f k s0_0 s0_1 s0_2 = some (r1, r2, r3)) :
  Calls Try.prog 67 #[.pointer (some ⟨g, 0, none⟩)] w fun e w' => ∃ v0_ : Value, e = .returned (v0_) ∧ Kd.R k54 54 w' w.heap.size (fun _ => True) v0_ r1 ∧ IsS90 w0 w' g s0_0 r2 r3 ∧ Below w0.heap.size w0 w' ∧ KeepBut w w' g none := by
 have hu54 := Try.underlying54
 have HI0 := Aside0.mk hI
 have HK := Aside0.mk (KeepBut.refl w g none)
 have HL := Aside0.mk hB.size
 clear hI
 have HW0 := Aside0.mk hB.size
 have HB := Aside0.mk hB
 clear hB
 have H : ((spec_l1Cur_among.f s0_0 s0_1 s0_2 (([0, 5, 900] : List Int))).bind fun bt321 => ((spec_l1Cur_pick.f s0_0 bt321.2.1 bt321.2.2 7).bind fun bt324 => (spec_l1Cur_readings.l0 k (([] : List (S54))) bt321.1 bt324.1 s0_0 bt324.2.1 bt324.2.2))) = some (r1, r2, r3) := h
 clear h
 obtain ⟨y315, hy315⟩ : ∃ y_ : List (S54), y_ = (([] : List (S54))) := ⟨_, rfl⟩
 replace H : ((spec_l1Cur_among.f s0_0 s0_1 s0_2 (([0, 5, 900] : List Int))).bind fun bt321 => ((spec_l1Cur_pick.f s0_0 bt321.2.1 bt321.2.2 7).bind fun bt324 => (spec_l1Cur_readings.l0 k y315 bt321.1 bt324.1 s0_0 bt324.2.1 bt324.2.2))) = some (r1, r2, r3) := by first | (rw [hy315]; with_reducible exact H) | (have H2_ := (Option.bind_some _ _).symm.trans H; rw [hy315]; with_reducible exact H2_) | (have H2_ := (Option.bind_some _ _).symm.trans H; with_reducible exact H2_) | with_reducible exact H | (rw [hy315]; exact H) | exact H
 have Ny315 := Aside0.mk hy315
 clear hy315
 obtain ⟨y318, hy318⟩ : ∃ y_ : List Int, y_ = (([0, 5, 900] : List Int)) := ⟨_, rfl⟩
 replace H : ((spec_l1Cur_among.f s0_0 s0_1 s0_2 y318).bind fun bt321 => ((spec_l1Cur_pick.f s0_0 bt321.2.1 bt321.2.2 7).bind fun bt324 => (spec_l1Cur_readings.l0 k y315 bt321.1 bt324.1 s0_0 bt324.2.1 bt324.2.2))) = some (r1, r2, r3) := by first | (rw [hy318]; with_reducible exact H) | (have H2_ := (Option.bind_some _ _).symm.trans H; rw [hy318]; with_reducible exact H2_) | (have H2_ := (Option.bind_some _ _).symm.trans H; with_reducible exact H2_) | with_reducible exact H | (rw [hy318]; exact H) | exact H
 have Ny318 := Aside0.mk hy318
 clear hy318
 replace H := Option.bind_eq_some_iff.mp H
 obtain ⟨⟨t321, t322, t323⟩, A20, H⟩ := H
 replace H : ((spec_l1Cur_pick.f s0_0 t322 t323 7).bind fun bt324 => (spec_l1Cur_readings.l0 k y315 t321 bt324.1 s0_0 bt324.2.1 bt324.2.2)) = some (r1, r2, r3) := H
 have A2 := Aside0.mk A20
 clear A20
 replace H := Option.bind_eq_some_iff.mp H
 obtain ⟨⟨t324, t325, t326⟩, A30, H⟩ := H
 replace H : (spec_l1Cur_readings.l0 k y315 t321 t324 s0_0 t325 t326) = some (r1, r2, r3) := H
 have A3 := Aside0.mk A30
 clear A30
 have H' := Aside0.mk H
 clear H
 go_enter Try.func67, Try.ntmps67
 go_wp2_with (first | ((with_reducible refine gate_dst (N := 8) rfl ?_); refine Kd.R_lit k54 _ 54 ?hg (N := 8) ?hd (xs := ([] : List (S54))) (inner := []) (ok := fun _ => True) (okp := fun _ => True) ?hr ?hp (fun _ hk => hk) trivial (Below.refl _ _) (Nat.le_refl _) (by simp) ?_; (case hd => rfl); (case hg => rfl); (case hr => first | (go_simp; done) | (go_simp; rfl)); (case hp => exact (Reps.none _ _)); intro v316 w4 ho5 hb hg_ hnew_; clear hg_ hnew_; replace ho5 := ry_ Ny315.out ho5; have HO317 := Aside0.mk (Kd.R_lower ho5 (keep_size (w := w) (g := g) (row := none) (kb0_ HK.out))); replace HK := Aside0.mk (KeepBut.trans (kb0_ HK.out) (KeepBut.of_below hb g none) (.inl rfl)); replace HB := Aside0.mk (below_step (lb1_ HB.out (IsS90.ge HI0.out)) hb); replace HI0 := Aside0.mk (IsS90.below (is90_0 HI0.out) hb); clear hb ho5) | ((with_reducible refine gate_dst (N := 10) rfl ?_); refine Kd.R_lit (Kd.int .i64) _ 3 ?hg (N := 10) ?hd (xs := ([0, 5, 900] : List Int)) (inner := [.int .i64 0, .int .i64 5, .int .i64 900]) (ok := fun _ => True) (okp := fun _ => True) ?hr ?hp (fun _ hk => hk) trivial (Below.refl _ _) (Nat.le_refl _) (by simp) ?_; (case hd => rfl); (case hg => rfl); (case hr => first | (go_simp; done) | (go_simp; rfl)); (case hp => exact (Reps.one (show Kd.M (Kd.int .i64) _ _ _ 0 [.int .i64 0] from rfl) (Reps.one (show Kd.M (Kd.int .i64) _ _ _ 5 [.int .i64 5] from rfl) (Reps.one (show Kd.M (Kd.int .i64) _ _ _ 900 [.int .i64 900] from rfl) (Reps.none _ _))))); intro v319 w6 ho7 hb hg_ hnew_; clear hg_ hnew_; replace ho7 := ry_ Ny318.out ho7; replace HO317 := Aside0.mk (Kd.R_below (kr_ HO317.out) hb); have HO320 := Aside0.mk (Kd.R_lower ho7 (keep_size (w := w) (g := g) (row := none) (kb0_ HK.out))); replace HK := Aside0.mk (KeepBut.trans (kb0_ HK.out) (KeepBut.of_below hb g none) (.inl rfl)); replace HB := Aside0.mk (below_step (lb1_ HB.out (IsS90.ge HI0.out)) hb); replace HI0 := Aside0.mk (IsS90.below (is90_0 HI0.out) hb); clear hb ho7; obtain ⟨Ao8, co8, eo8⟩ := Kd.R_slice HO320.out; subst eo8) | ((with_reducible refine gate_callee (f := 86) rfl ?_); refine ga_ (some 11) Try.func86 #[.pointer (some ⟨g, 0, none⟩), .slice Ao8 y318.length co8] ?_; (with_reducible refine (spec_l1Cur_among.calls g s0_0 s0_1 s0_2 _ _ y318 t321 t322 t323 w0 _ ?side1 ?side2 ?side3 ?side4 ?side5 A2.out).mono ?_); (case side1 => exact is90_0 HI0.out); (case side2 => exact lb1_ HB.out (IsS90.ge HI0.out)); (case side3 => exact kc_ (Kd.R_reads' HO320.out).2.2); (case side4 => exact (Kd.R_reads' HO320.out).2.1); (case side5 => exact far_slice (IsS90.own_ne HI0.out HO320.out (by decide))); rintro e w9 ⟨rfl, hi, hb, hk⟩; refine ⟨_, rfl, ?_⟩; replace HO317 := Aside0.mk (Kd.R_mono (Kd.R_keep (IsS90.apart (show IsS90 w0 _ g s0_0 s0_1 s0_2 from is90_0 HI0.out) (kr_ HO317.out) (by decide)) hk (fun _ h => h.2)) (fun _ h => h.1)); replace HO320 := Aside0.mk (Kd.R_mono (Kd.R_keep (IsS90.apart (show IsS90 w0 _ g s0_0 s0_1 s0_2 from is90_0 HI0.out) (kr_ HO320.out) (by decide)) hk (fun _ h => h.2)) (fun _ h => h.1)); replace HK := Aside0.mk (KeepBut.trans (kb0_ HK.out) hk (.inl rfl)); replace HB := Aside0.mk (hb); replace HI0 := Aside0.mk (hi); (try clear hb); (try clear hb2); (try clear hk); (try clear hi)) | ((with_reducible refine gate_callee (f := 87) rfl ?_); refine ga_ (some 13) Try.func87 #[.pointer (some ⟨g, 0, none⟩), .int .i64 7] ?_; (with_reducible refine (spec_l1Cur_pick.calls g s0_0 t322 t323 7 t324 t325 t326 w0 _ ?side1 ?side2 A3.out).mono ?_); (case side1 => exact is90_0 HI0.out); (case side2 => exact lb1_ HB.out (IsS90.ge HI0.out)); rintro e w10 ⟨rfl, hi, hb, hk⟩; refine ⟨_, rfl, ?_⟩; replace HO317 := Aside0.mk (Kd.R_mono (Kd.R_keep (IsS90.apart (show IsS90 w0 _ g s0_0 t322 t323 from is90_0 HI0.out) (kr_ HO317.out) (by decide)) hk (fun _ h => h.2)) (fun _ h => h.1)); replace HO320 := Aside0.mk (Kd.R_mono (Kd.R_keep (IsS90.apart (show IsS90 w0 _ g s0_0 t322 t323 from is90_0 HI0.out) (kr_ HO320.out) (by decide)) hk (fun _ h => h.2)) (fun _ h => h.1)); replace HK := Aside0.mk (KeepBut.trans (kb0_ HK.out) hk (.inl rfl)); replace HB := Aside0.mk (hb); replace HI0 := Aside0.mk (hi); (try clear hb); (try clear hb2); (try clear hk); (try clear hi)))
 go_loopg [3, 4, 5] k (fun kq v3 v4 v5 w' => ∃ (x3_1 : List (S54)) (x4_1 : Int) (x5_1 : Int) (x1001_1 : Int) (x1002_1 : Int), v4 = .int .i64 x4_1 ∧ v5 = .int .i64 x5_1 ∧ Aside0 (spec_l1Cur_readings.l0 kq x3_1 x4_1 x5_1 s0_0 x1001_1 x1002_1 = some (r1, r2, r3)) ∧ Aside0 (kq ≤ k) ∧ Aside0 (Kd.R k54 54 w' w.heap.size (fun _ => True) v3 x3_1) ∧ Aside0 (IsS90 w0 w' g s0_0 x1001_1 x1002_1) ∧ Aside0 (KeepBut w w' g none) ∧ Aside0 (Below w0.heap.size w0 w'))
 case atStart => exact ⟨(y315), (t321), (t324), (t325), (t326), (by first | rfl | (simp; done) | (simp [*]; done)), (by first | rfl | (simp; done) | (simp [*]; done)), H', ⟨Nat.le_refl _⟩, ⟨kr_ HO317.out⟩, ⟨is90_0 HI0.out⟩, ⟨kb0_ HK.out⟩, ⟨lb1_ HB.out (IsS90.ge HI0.out)⟩⟩
 case round =>
  clear H'
  try clear p2
  try clear c6
  try clear c8
  obtain ⟨x3_1, x4_1, x5_1, x1001_1, x1002_1, rfl, rfl, HA, HK1, HO_3, HI0, HK, HB⟩ := hrel
  cases gk with
  | zero => exact absurd HA.out (by simp [spec_l1Cur_readings.l0])
  | succ k1 =>
   have H := HA.out
   clear HA
   simp only [spec_l1Cur_readings.l0] at H
   by_cases c11 : x5_1 > 0
   ·
    rw [if_pos c11] at H
    have c11b0 : decide (0 < x5_1) = true := decide_eq_true c11
    clear c11
    obtain ⟨y327, hy327⟩ : ∃ y_ : List Int, y_ = (([(-500), (-20), 0, 5, 10, 10, 40, 500] : List Int)) := ⟨_, rfl⟩
    replace H : ((spec_l1Cur_among.f s0_0 x1001_1 x1002_1 y327).bind fun bt330 => (if x3_1.length < 8796093022208 then ((spec_l1Cur_among.f s0_0 bt330.2.1 bt330.2.2 (([1, 2, 3, 7, 20] : List Int))).bind fun bt339 => (spec_l1Cur_readings.l0 k1 (x3_1 ++ [(⟨x4_1, bt330.1⟩ : S54)]) (wrap64 (x4_1 + bt339.1)) (wrap64 (x5_1 - 1)) s0_0 bt339.2.1 bt339.2.2)) else (none))) = some (r1, r2, r3) := by first | (rw [hy327]; with_reducible exact H) | (have H2_ := (Option.bind_some _ _).symm.trans H; rw [hy327]; with_reducible exact H2_) | (have H2_ := (Option.bind_some _ _).symm.trans H; with_reducible exact H2_) | with_reducible exact H | (rw [hy327]; exact H) | exact H
    have Ny327 := Aside0.mk hy327
    clear hy327
    replace H := Option.bind_eq_some_iff.mp H
    obtain ⟨⟨t330, t331, t332⟩, A120, H⟩ := H
    replace H : (if x3_1.length < 8796093022208 then ((spec_l1Cur_among.f s0_0 t331 t332 (([1, 2, 3, 7, 20] : List Int))).bind fun bt339 => (spec_l1Cur_readings.l0 k1 (x3_1 ++ [(⟨x4_1, t330⟩ : S54)]) (wrap64 (x4_1 + bt339.1)) (wrap64 (x5_1 - 1)) s0_0 bt339.2.1 bt339.2.2)) else (none)) = some (r1, r2, r3) := H
    have A12 := Aside0.mk A120
    clear A120
    by_cases c13 : x3_1.length < 8796093022208
    ·
     rw [if_pos c13] at H
     have LMc13 := Aside0.mk c13
     clear c13
     obtain ⟨y333, hy333⟩ : ∃ y_ : List (S54), y_ = (x3_1 ++ [(⟨x4_1, t330⟩ : S54)]) := ⟨_, rfl⟩
     replace H : ((spec_l1Cur_among.f s0_0 t331 t332 (([1, 2, 3, 7, 20] : List Int))).bind fun bt339 => (spec_l1Cur_readings.l0 k1 y333 (wrap64 (x4_1 + bt339.1)) (wrap64 (x5_1 - 1)) s0_0 bt339.2.1 bt339.2.2)) = some (r1, r2, r3) := by first | (rw [hy333]; with_reducible exact H) | (have H2_ := (Option.bind_some _ _).symm.trans H; rw [hy333]; with_reducible exact H2_) | (have H2_ := (Option.bind_some _ _).symm.trans H; with_reducible exact H2_) | with_reducible exact H | (rw [hy333]; exact H) | exact H
     have Ny333 := Aside0.mk hy333
     clear hy333
     obtain ⟨y336, hy336⟩ : ∃ y_ : List Int, y_ = (([1, 2, 3, 7, 20] : List Int)) := ⟨_, rfl⟩
     replace H : ((spec_l1Cur_among.f s0_0 t331 t332 y336).bind fun bt339 => (spec_l1Cur_readings.l0 k1 y333 (wrap64 (x4_1 + bt339.1)) (wrap64 (x5_1 - 1)) s0_0 bt339.2.1 bt339.2.2)) = some (r1, r2, r3) := by first | (rw [hy336]; with_reducible exact H) | (have H2_ := (Option.bind_some _ _).symm.trans H; rw [hy336]; with_reducible exact H2_) | (have H2_ := (Option.bind_some _ _).symm.trans H; with_reducible exact H2_) | with_reducible exact H | (rw [hy336]; exact H) | exact H
     have Ny336 := Aside0.mk hy336
     clear hy336
     replace H := Option.bind_eq_some_iff.mp H
     obtain ⟨⟨t339, t340, t341⟩, A140, H⟩ := H
     replace H : (spec_l1Cur_readings.l0 k1 y333 (wrap64 (x4_1 + t339)) (wrap64 (x5_1 - 1)) s0_0 t340 t341) = some (r1, r2, r3) := H
     have A14 := Aside0.mk A140
     clear A140
     have H' := Aside0.mk H
     clear H
     go_wp2_with (first | ((with_reducible refine gate_dst (N := 21) rfl ?_); refine Kd.R_lit (Kd.int .i64) _ 3 ?hg (N := 21) ?hd (xs := ([(-500), (-20), 0, 5, 10, 10, 40, 500] : List Int)) (inner := [.int .i64 (-500), .int .i64 (-20), .int .i64 0, .int .i64 5, .int .i64 10, .int .i64 10, .int .i64 40, .int .i64 500]) (ok := fun _ => True) (okp := fun _ => True) ?hr ?hp (fun _ hk => hk) trivial (Below.refl _ _) (Nat.le_refl _) (by simp) ?_; (case hd => rfl); (case hg => rfl); (case hr => first | (go_simp; done) | (go_simp; rfl)); (case hp => exact (Reps.one (show Kd.M (Kd.int .i64) _ _ _ (-500) [.int .i64 (-500)] from rfl) (Reps.one (show Kd.M (Kd.int .i64) _ _ _ (-20) [.int .i64 (-20)] from rfl) (Reps.one (show Kd.M (Kd.int .i64) _ _ _ 0 [.int .i64 0] from rfl) (Reps.one (show Kd.M (Kd.int .i64) _ _ _ 5 [.int .i64 5] from rfl) (Reps.one (show Kd.M (Kd.int .i64) _ _ _ 10 [.int .i64 10] from rfl) (Reps.one (show Kd.M (Kd.int .i64) _ _ _ 10 [.int .i64 10] from rfl) (Reps.one (show Kd.M (Kd.int .i64) _ _ _ 40 [.int .i64 40] from rfl) (Reps.one (show Kd.M (Kd.int .i64) _ _ _ 500 [.int .i64 500] from rfl) (Reps.none _ _)))))))))); intro v328 w15 ho16 hb hg_ hnew_; clear hg_ hnew_; replace ho16 := ry_ Ny327.out ho16; replace HO_3 := Aside0.mk (Kd.R_below (kr_ HO_3.out) hb); have HO329 := Aside0.mk (Kd.R_lower ho16 (keep_size (w := w) (g := g) (row := none) (kb0_ HK.out))); replace HK := Aside0.mk (KeepBut.trans (kb0_ HK.out) (KeepBut.of_below hb g none) (.inl rfl)); replace HB := Aside0.mk (below_step (lb1_ HB.out (IsS90.ge HI0.out)) hb); replace HI0 := Aside0.mk (IsS90.below (is90_0 HI0.out) hb); clear hb ho16; obtain ⟨Ao17, co17, eo17⟩ := Kd.R_slice HO329.out; subst eo17) | ((with_reducible refine gate_callee (f := 86) rfl ?_); refine ga_ (some 22) Try.func86 #[.pointer (some ⟨g, 0, none⟩), .slice Ao17 y327.length co17] ?_; (with_reducible refine (spec_l1Cur_among.calls g s0_0 x1001_1 x1002_1 _ _ y327 t330 t331 t332 w0 _ ?side1 ?side2 ?side3 ?side4 ?side5 A12.out).mono ?_); (case side1 => exact is90_0 HI0.out); (case side2 => exact lb1_ HB.out (IsS90.ge HI0.out)); (case side3 => exact kc_ (Kd.R_reads' HO329.out).2.2); (case side4 => exact (Kd.R_reads' HO329.out).2.1); (case side5 => exact far_slice (IsS90.own_ne HI0.out HO329.out (by decide))); rintro e w18 ⟨rfl, hi, hb, hk⟩; refine ⟨_, rfl, ?_⟩; replace HO_3 := Aside0.mk (Kd.R_mono (Kd.R_keep (IsS90.apart (show IsS90 w0 _ g s0_0 x1001_1 x1002_1 from is90_0 HI0.out) (kr_ HO_3.out) (by decide)) hk (fun _ h => h.2)) (fun _ h => h.1)); replace HO329 := Aside0.mk (Kd.R_mono (Kd.R_keep (IsS90.apart (show IsS90 w0 _ g s0_0 x1001_1 x1002_1 from is90_0 HI0.out) (kr_ HO329.out) (by decide)) hk (fun _ h => h.2)) (fun _ h => h.1)); replace HK := Aside0.mk (KeepBut.trans (kb0_ HK.out) hk (.inl rfl)); replace HB := Aside0.mk (hb); replace HI0 := Aside0.mk (hi); (try clear hb); (try clear hb2); (try clear hk); (try clear hi)) | ((with_reducible refine gate_builtin (b := .append) (xs := #[.tmp 18, .tmp 24]) rfl ?_); at_builtin; refine Kd.R_append k54 w.heap.size rfl (.tmp 18) (.tmp 24) 28 54 (.agg #[(.int .i64 0), (.int .i64 0)]) 16 rfl Try.underlying28 info54 rfl (by decide) (by omega) u3 x3_1 (⟨x4_1, t330⟩ : S54) [.int .i64 x4_1, .int .i64 t330] (fun _ => True) (fun _ => False) rfl rfl ?aP (fun _ hk => hk.elim) ?aF ?aO (Below.refl _ _) ?aS ?aL ?_; (case aP => exact k54_mkM _ _ _ (⟨x4_1, t330⟩ : S54)); (case aF => exact (fun _ _ => trivial)); (case aO => exact (kr_ HO_3.out)); (case aS => exact (keep_size (w := w) (g := g) (row := none) (kb0_ HK.out))); (case aL => have := LMc13.out; omega); intro v334 w19 ho hb hg hat; rw [← Ny333.out] at ho; replace HO329 := Aside0.mk (Kd.R_over' (kr_ HO329.out) (Kd.R_typed (kr_ HO_3.out)) (by decide) hg); replace HB := Aside0.mk (below_weaken (lb1_ HB.out (IsS90.ge HI0.out)) HL.out hb); replace HI0 := Aside0.mk (IsS90.grown (is90_0 HI0.out) hg (IsS90.own_ne HI0.out HO_3.out (by decide))); replace HK := Aside0.mk (KeepBut.trans (kb0_ HK.out) (KeepBut.of_grown hg g) (Kd.R_base2 HO_3.out)); have HO335 := Aside0.mk (ho); clear HO_3; clear ho hb hg hat) | ((with_reducible refine gate_dst (N := 28) rfl ?_); refine Kd.R_lit (Kd.int .i64) _ 3 ?hg (N := 28) ?hd (xs := ([1, 2, 3, 7, 20] : List Int)) (inner := [.int .i64 1, .int .i64 2, .int .i64 3, .int .i64 7, .int .i64 20]) (ok := fun _ => True) (okp := fun _ => True) ?hr ?hp (fun _ hk => hk) trivial (Below.refl _ _) (Nat.le_refl _) (by simp) ?_; (case hd => rfl); (case hg => rfl); (case hr => first | (go_simp; done) | (go_simp; rfl)); (case hp => exact (Reps.one (show Kd.M (Kd.int .i64) _ _ _ 1 [.int .i64 1] from rfl) (Reps.one (show Kd.M (Kd.int .i64) _ _ _ 2 [.int .i64 2] from rfl) (Reps.one (show Kd.M (Kd.int .i64) _ _ _ 3 [.int .i64 3] from rfl) (Reps.one (show Kd.M (Kd.int .i64) _ _ _ 7 [.int .i64 7] from rfl) (Reps.one (show Kd.M (Kd.int .i64) _ _ _ 20 [.int .i64 20] from rfl) (Reps.none _ _))))))); intro v337 w20 ho21 hb hg_ hnew_; clear hg_ hnew_; replace ho21 := ry_ Ny336.out ho21; replace HO335 := Aside0.mk (Kd.R_below (kr_ HO335.out) hb); have HO338 := Aside0.mk (Kd.R_lower (Kd.R_new' ho21 (Kd.R_lt (kr_ HO329.out))) (keep_size (w := w) (g := g) (row := none) (kb0_ HK.out))); replace HO329 := Aside0.mk (Kd.R_elder' (kr_ HO329.out) (Kd.R_base ho21) hb); replace HK := Aside0.mk (KeepBut.trans (kb0_ HK.out) (KeepBut.of_below hb g none) (.inl rfl)); replace HB := Aside0.mk (below_step (lb1_ HB.out (IsS90.ge HI0.out)) hb); replace HI0 := Aside0.mk (IsS90.below (is90_0 HI0.out) hb); clear hb ho21; obtain ⟨Ao22, co22, eo22⟩ := Kd.R_slice HO338.out; subst eo22) | ((with_reducible refine gate_callee (f := 86) rfl ?_); refine ga_ (some 29) Try.func86 #[.pointer (some ⟨g, 0, none⟩), .slice Ao22 y336.length co22] ?_; (with_reducible refine (spec_l1Cur_among.calls g s0_0 t331 t332 _ _ y336 t339 t340 t341 w0 _ ?side1 ?side2 ?side3 ?side4 ?side5 A14.out).mono ?_); (case side1 => exact is90_0 HI0.out); (case side2 => exact lb1_ HB.out (IsS90.ge HI0.out)); (case side3 => exact kc_ (Kd.R_reads' HO338.out).2.2); (case side4 => exact (Kd.R_reads' HO338.out).2.1); (case side5 => exact far_slice (IsS90.own_ne HI0.out HO338.out (by decide))); rintro e w23 ⟨rfl, hi, hb, hk⟩; refine ⟨_, rfl, ?_⟩; replace HO329 := Aside0.mk (Kd.R_mono (Kd.R_keep (IsS90.apart (show IsS90 w0 _ g s0_0 t331 t332 from is90_0 HI0.out) (kr_ HO329.out) (by decide)) hk (fun _ h => h.2)) (fun _ h => h.1)); replace HO335 := Aside0.mk (Kd.R_mono (Kd.R_keep (IsS90.apart (show IsS90 w0 _ g s0_0 t331 t332 from is90_0 HI0.out) (kr_ HO335.out) (by decide)) hk (fun _ h => h.2)) (fun _ h => h.1)); replace HO338 := Aside0.mk (Kd.R_mono (Kd.R_keep (IsS90.apart (show IsS90 w0 _ g s0_0 t331 t332 from is90_0 HI0.out) (kr_ HO338.out) (by decide)) hk (fun _ h => h.2)) (fun _ h => h.1)); replace HK := Aside0.mk (KeepBut.trans (kb0_ HK.out) hk (.inl rfl)); replace HB := Aside0.mk (hb); replace HI0 := Aside0.mk (hi); (try clear hb); (try clear hb2); (try clear hk); (try clear hi)))
     go_roundg k1
     case measure => have := HK1.out; omega
     case rel => exact ⟨(y333), (wrap64 (x4_1 + t339)), (wrap64 (x5_1 - 1)), (t340), (t341), (by first | rfl | (simp; done) | (simp [*]; done)), (by first | rfl | (simp; done) | (simp [*]; done)), H', ⟨by have := HK1.out; omega⟩, ⟨kr_ HO335.out⟩, ⟨is90_0 HI0.out⟩, ⟨kb0_ HK.out⟩, ⟨lb1_ HB.out (IsS90.ge HI0.out)⟩⟩
    ·
     rw [if_neg c13] at H
     exact absurd H (by simp)
   ·
    rw [if_neg c11] at H
    have c11b0 : decide (0 < x5_1) = false := decide_eq_false c11
    clear c11
    by_cases c24 : (x3_1.length : Int) = 0
    ·
     rw [if_pos c24] at H
     have c24b0 : ((x3_1.length : Int) == 0) = true := beq_iff_eq.mpr c24
     have c24b1 : ((x3_1.length : Int) != 0) = false := bne_eq_false_iff_eq.mpr c24
     clear c24
     simp only [Option.some.injEq, Prod.mk.injEq] at H
     obtain ⟨rfl, rfl, rfl⟩ := H
     obtain ⟨Ao25, co25, eo25⟩ := Kd.R_slice HO_3.out
     subst eo25
     go_wp2
     go_ret
     exact ⟨_, rr_, kr_ HO_3.out, is90_0 HI0.out, lb1_ HB.out (IsS90.ge HI0.out), kb0_ HK.out⟩
    ·
     rw [if_neg c24] at H
     have c24b0 : ((x3_1.length : Int) == 0) = false := beq_eq_false_iff_ne.mpr c24
     have c24b1 : ((x3_1.length : Int) != 0) = true := bne_iff_ne.mpr c24
     have c24b2 : ¬ (x3_1 = []) := fun h_ => c24 (by rw [h_]; rfl)
     replace H := Option.bind_eq_some_iff.mp H
     obtain ⟨⟨t342, t343, t344⟩, A260, H⟩ := H
     replace H : (if 0 ≤ t342 then (if t342 < (x3_1.length : Int) then ((spec_l1Cur_pick.f s0_0 t343 t344 50).bind fun bt347 => (if bt347.1 = 0 then (if 0 < (x3_1.length : Int) then ((spec_l1Cur_among.f s0_0 bt347.2.1 bt347.2.2 (([(-1), 1000, (rd_T54 x3_1 0).f0] : List Int))).bind fun bt354 => (some ((x3_1.set (t342 : Int).toNat (⟨bt354.1, (rd_T54 x3_1 t342).f1⟩ : S54)), bt354.2.1, bt354.2.2))) else (none)) else (if bt347.1 = 1 then ((spec_l1Cur_among.f s0_0 bt347.2.1 bt347.2.2 (([(-501), 501] : List Int))).bind fun bt361 => (some ((x3_1.set (t342 : Int).toNat (⟨(rd_T54 x3_1 t342).f0, bt361.1⟩ : S54)), bt361.2.1, bt361.2.2))) else (if bt347.1 = 2 then (spec_l1Cur_readings.l1 k1 x3_1 t342 s0_0 bt347.2.1 bt347.2.2 ((rd_T54 x3_1 t342).f0) ((rd_T54 x3_1 t342).f1)) else (some ((x3_1.set (t342 : Int).toNat (⟨(rd_T54 x3_1 t342).f0, (rd_T54 x3_1 t342).f1⟩ : S54)), bt347.2.1, bt347.2.2)))))) else (none)) else (none)) = some (r1, r2, r3) := H
     have A26 := Aside0.mk A260
     clear A260
     by_cases c27 : 0 ≤ t342
     ·
      rw [if_pos c27] at H
      have c27b0 : decide (0 ≤ t342) = true := decide_eq_true c27
      clear c27
      by_cases c28 : t342 < (x3_1.length : Int)
      ·
       rw [if_pos c28] at H
       have c28b0 : decide (t342 < (x3_1.length : Int)) = true := decide_eq_true c28
       clear c28
       replace H := Option.bind_eq_some_iff.mp H
       obtain ⟨⟨t347, t348, t349⟩, A290, H⟩ := H
       replace H : (if t347 = 0 then (if 0 < (x3_1.length : Int) then ((spec_l1Cur_among.f s0_0 t348 t349 (([(-1), 1000, (rd_T54 x3_1 0).f0] : List Int))).bind fun bt354 => (some ((x3_1.set (t342 : Int).toNat (⟨bt354.1, (rd_T54 x3_1 t342).f1⟩ : S54)), bt354.2.1, bt354.2.2))) else (none)) else (if t347 = 1 then ((spec_l1Cur_among.f s0_0 t348 t349 (([(-501), 501] : List Int))).bind fun bt361 => (some ((x3_1.set (t342 : Int).toNat (⟨(rd_T54 x3_1 t342).f0, bt361.1⟩ : S54)), bt361.2.1, bt361.2.2))) else (if t347 = 2 then (spec_l1Cur_readings.l1 k1 x3_1 t342 s0_0 t348 t349 ((rd_T54 x3_1 t342).f0) ((rd_T54 x3_1 t342).f1)) else (some ((x3_1.set (t342 : Int).toNat (⟨(rd_T54 x3_1 t342).f0, (rd_T54 x3_1 t342).f1⟩ : S54)), t348, t349))))) = some (r1, r2, r3) := H
       have A29 := Aside0.mk A290
       clear A290
       by_cases c30 : t347 = 0
       ·
        rw [if_pos c30] at H
        have c30b0 : (t347 == 0) = true := beq_iff_eq.mpr c30; have c30b1 : (t347 != 0) = false := bne_eq_false_iff_eq.mpr c30; clear c30
        by_cases c31 : 0 < (x3_1.length : Int)
        ·
         rw [if_pos c31] at H
         have c31b0 : decide (0 < (x3_1.length : Int)) = true := decide_eq_true c31; have c31b1 : decide (0 < x3_1.length) = true := decide_eq_true (by omega); clear c31
         obtain ⟨y351, hy351⟩ : ∃ y_ : List Int, y_ = (([(-1), 1000, (rd_T54 x3_1 0).f0] : List Int)) := ⟨_, rfl⟩
         replace H : ((spec_l1Cur_among.f s0_0 t348 t349 y351).bind fun bt354 => (some ((x3_1.set (t342 : Int).toNat (⟨bt354.1, (rd_T54 x3_1 t342).f1⟩ : S54)), bt354.2.1, bt354.2.2))) = some (r1, r2, r3) := by first | (rw [hy351]; with_reducible exact H) | (have H2_ := (Option.bind_some _ _).symm.trans H; rw [hy351]; with_reducible exact H2_) | (have H2_ := (Option.bind_some _ _).symm.trans H; with_reducible exact H2_) | with_reducible exact H | (rw [hy351]; exact H) | exact H
         have Ny351 := Aside0.mk hy351; clear hy351; replace H := Option.bind_eq_some_iff.mp H; obtain ⟨⟨t354, t355, t356⟩, A320, H⟩ := H; replace H : (some ((x3_1.set (t342 : Int).toNat (⟨t354, (rd_T54 x3_1 t342).f1⟩ : S54)), t355, t356)) = some (r1, r2, r3) := H; have A32 := Aside0.mk A320; clear A320
         obtain ⟨y357, hy357⟩ : ∃ y_ : List (S54), y_ = (x3_1.set (t342 : Int).toNat (⟨t354, (rd_T54 x3_1 t342).f1⟩ : S54)) := ⟨_, rfl⟩
         replace H : (some (y357, t355, t356)) = some (r1, r2, r3) := by first | (rw [hy357]; with_reducible exact H) | (have H2_ := (Option.bind_some _ _).symm.trans H; rw [hy357]; with_reducible exact H2_) | (have H2_ := (Option.bind_some _ _).symm.trans H; with_reducible exact H2_) | with_reducible exact H | (rw [hy357]; exact H) | exact H
         have Ny357 := Aside0.mk hy357; clear hy357; simp only [Option.some.injEq, Prod.mk.injEq] at H; obtain ⟨rfl, rfl, rfl⟩ := H; obtain ⟨Ao34, co34, eo34⟩ := Kd.R_slice HO_3.out; subst eo34
         go_wp2_with (first | ((with_reducible refine gate_callee (f := 87) rfl ?_); refine ga_ (some 38) Try.func87 #[.pointer (some ⟨g, 0, none⟩), .int .i64 (x3_1.length : Int)] ?_; (with_reducible refine (spec_l1Cur_pick.calls g s0_0 x1001_1 x1002_1 (x3_1.length : Int) t342 t343 t344 w0 _ ?side1 ?side2 A26.out).mono ?_); (case side1 => exact is90_0 HI0.out); (case side2 => exact lb1_ HB.out (IsS90.ge HI0.out)); rintro e w35 ⟨rfl, hi, hb, hk⟩; refine ⟨_, rfl, ?_⟩; replace HO_3 := Aside0.mk (Kd.R_mono (Kd.R_keep (IsS90.apart (show IsS90 w0 _ g s0_0 x1001_1 x1002_1 from is90_0 HI0.out) (kr_ HO_3.out) (by decide)) hk (fun _ h => h.2)) (fun _ h => h.1)); replace HK := Aside0.mk (KeepBut.trans (kb0_ HK.out) hk (.inl rfl)); replace HB := Aside0.mk (hb); replace HI0 := Aside0.mk (hi); (try clear hb); (try clear hb2); (try clear hk); (try clear hi); have p345 : 0 ≤ (t342 : Int) := dt_; have q345 : t342 < (x3_1.length : Int) := dt_; obtain ⟨ad345, e345, hx345_0, hx345_1⟩ := at_T54 (Kd.R_reads' HO_3.out).2.2 t342 p345 q345; cases e345; replace p345 := eq_true p345; replace q345 := eq_true q345) | ((with_reducible refine gate_dst (N := 7) rfl ?_); refine box_event ?hg (N := 7) ?hd (cs := #[.int .i64 0, .int .i64 0]) (t := 54) ?hr ?_; (case hd => rfl); (case hg => rfl); (case hr => first | (go_simp; done) | (go_simp; rfl)); intro gb346 hg w36 hbox hb; replace HO_3 := Aside0.mk (Kd.R_below (Kd.R_elderB (kr_ HO_3.out) gb346 (Nat.le_of_eq hg.symm)) hb); replace HB := Aside0.mk (below_step (lb1_ HB.out (IsS90.ge HI0.out)) hb); have BK346 := Aside0.mk (hbox); have GW346 := Aside0.mk ((by rw [hg]; exact (keep_size (w := w) (g := g) (row := none) (kb0_ HK.out)) : w.heap.size ≤ gb346)); have GE346 := Aside0.mk ((Nat.le_trans HW0.out (by rw [hg]; exact (keep_size (w := w) (g := g) (row := none) (kb0_ HK.out)) : w.heap.size ≤ gb346) : w0.heap.size ≤ gb346)); replace HK := Aside0.mk (KeepBut.trans (kb0_ HK.out) (KeepBut.of_below hb g none) (.inl rfl)); have NB0_346 := Aside0.mk ((by rw [hg]; exact Nat.ne_of_lt (IsS90.lt (show IsS90 w0 _ g s0_0 t343 t344 from is90_0 HI0.out)) : g ≠ gb346)); have NB346_0 := Aside0.mk ((by rw [hg]; exact Nat.ne_of_gt (IsS90.lt (show IsS90 w0 _ g s0_0 t343 t344 from is90_0 HI0.out)) : gb346 ≠ g)); replace HI0 := Aside0.mk (IsS90.below (is90_0 HI0.out) hb); clear hb hbox hg; have hnb37 := NB346_0.out; have hnc37 := NB0_346.out; obtain ⟨hcz38_0, hcz38_1⟩ := cz2_ BK346.out; obtain ⟨hfz38_0, hfz38_1⟩ := fz2_ BK346.out) | ((with_reducible refine gate_callee (f := 87) rfl ?_); refine ga_ (some 44) Try.func87 #[.pointer (some ⟨g, 0, none⟩), .int .i64 50] ?_; (with_reducible refine (spec_l1Cur_pick.calls g s0_0 t343 t344 50 t347 t348 t349 w0 _ ?side1 ?side2 A29.out).mono ?_); (case side1 => exact is90_1 HI0.out NB0_346.out); (case side2 => exact lb2_ HB.out (IsS90.ge HI0.out) GE346.out); rintro e w39 ⟨rfl, hi, hb, hk⟩; refine ⟨_, rfl, ?_⟩; replace HO_3 := Aside0.mk (Kd.R_mono (Kd.R_keep (IsS90.apart (show IsS90 w0 _ g s0_0 t343 t344 from is90_1 HI0.out NB0_346.out) (by (with_reducible repeat (first | apply Kd.R_alloc | apply Kd.R_drewN | apply Kd.R_drew)); exact (Kd.R_mono (Kd.R_far (p := ⟨gb346, 1, none⟩) (Kd.R_far (p := ⟨gb346, 0, none⟩) (Kd.R_mono HO_3.out (fun k_ hk => (⟨hk, hk.2⟩ : _ ∧ k_ ≠ gb346))) (fun _ hk => hk.2) (.int .i64 ((rd_T54 x3_1 t342).f0))) (fun _ hk => hk.2) (.int .i64 ((rd_T54 x3_1 t342).f1))) (fun _ h_ => h_.1))) (by decide)) hk (fun _ h => h.2)) (fun _ h => h.1)); replace BK346 := Aside0.mk (KeepBut.blk hk (g' := gb346) (o := .cells #[.int .i64 ((rd_T54 x3_1 t342).f0), .int .i64 ((rd_T54 x3_1 t342).f1)] 54 (0, 0)) (by (with_reducible repeat (first | refine blk_drewN ?_ _ | refine blk_drew ?_ | refine blk_alloc ?_ _)); exact (p2_ BK346.out _ _)) NB346_0.out (by simp)); replace HK := Aside0.mk (KeepBut.trans (kb1_ HK.out GW346.out) hk (.inl rfl)); replace HB := Aside0.mk (hb); replace HI0 := Aside0.mk (hi); (try clear hb); (try clear hb2); (try clear hk); (try clear hi); have p350 : 0 ≤ (0 : Int) := (by omega); have q350 : 0 < (x3_1.length : Int) := dt_; obtain ⟨ad350, e350, hx350_0, hx350_1⟩ := at_T54 (Kd.R_reads' HO_3.out).2.2 0 p350 q350; obtain rfl : ad345 = ad350 := (by injection e350); have qi350 : (0 < x3_1.length) = True := eq_true (by omega); (try rw [show ((0 : Int)).toNat = 0 from rfl] at hx350_0); (try rw [show 0 * 2 = 0 from rfl] at hx350_0); (try rw [Addr.add_zero'] at hx350_0); (try rw [show ((0 : Int)).toNat = 0 from rfl] at hx350_1); (try rw [show 0 * 2 = 0 from rfl] at hx350_1); (try rw [Addr.add_zero'] at hx350_1); replace p350 := eq_true p350; replace q350 := eq_true q350) | ((with_reducible refine gate_dst (N := 52) rfl ?_); refine Kd.R_lit (Kd.int .i64) _ 3 ?hg (N := 52) ?hd (xs := ([(-1), 1000, (rd_T54 x3_1 0).f0] : List Int)) (inner := [.int .i64 (-1), .int .i64 1000, .int .i64 ((rd_T54 x3_1 0).f0)]) (ok := fun _ => True) (okp := fun _ => True) ?hr ?hp (fun _ hk => hk) trivial (Below.refl _ _) (Nat.le_refl _) (by simp) ?_; (case hd => rfl); (case hg => rfl); (case hr => first | (go_simp; done) | (go_simp; rfl)); (case hp => exact (Reps.one (show Kd.M (Kd.int .i64) _ _ _ (-1) [.int .i64 (-1)] from rfl) (Reps.one (show Kd.M (Kd.int .i64) _ _ _ 1000 [.int .i64 1000] from rfl) (Reps.one (show Kd.M (Kd.int .i64) _ _ _ ((rd_T54 x3_1 0).f0) [.int .i64 ((rd_T54 x3_1 0).f0)] from rfl) (Reps.none _ _))))); intro v352 w40 ho41 hb hg_ hnew_; clear hg_ hnew_; replace ho41 := ry_ Ny351.out ho41; replace HO_3 := Aside0.mk (Kd.R_below (kr_ HO_3.out) hb); have HO353 := Aside0.mk (Kd.R_lower ho41 (keep_size (w := w) (g := g) (row := none) (kb1_ HK.out GW346.out))); replace BK346 := Aside0.mk (bb_ (bk_ BK346.out) hb); replace HK := Aside0.mk (KeepBut.trans (kb1_ HK.out GW346.out) (KeepBut.of_below hb g none) (.inl rfl)); replace HB := Aside0.mk (below_step (lb2_ HB.out (IsS90.ge HI0.out) GE346.out) hb); replace HI0 := Aside0.mk (IsS90.below (is90_1 HI0.out NB0_346.out) hb); clear hb ho41; obtain ⟨Ao42, co42, eo42⟩ := Kd.R_slice HO353.out; subst eo42) | ((with_reducible refine gate_callee (f := 86) rfl ?_); refine ga_ (some 53) Try.func86 #[.pointer (some ⟨g, 0, none⟩), .slice Ao42 y351.length co42] ?_; (with_reducible refine (spec_l1Cur_among.calls g s0_0 t348 t349 _ _ y351 t354 t355 t356 w0 _ ?side1 ?side2 ?side3 ?side4 ?side5 A32.out).mono ?_); (case side1 => exact is90_1 HI0.out NB0_346.out); (case side2 => exact lb2_ HB.out (IsS90.ge HI0.out) GE346.out); (case side3 => exact kc_ (Kd.R_reads' HO353.out).2.2); (case side4 => exact (Kd.R_reads' HO353.out).2.1); (case side5 => exact far_slice (IsS90.own_ne HI0.out HO353.out (by decide))); rintro e w43 ⟨rfl, hi, hb, hk⟩; refine ⟨_, rfl, ?_⟩; replace HO_3 := Aside0.mk (Kd.R_mono (Kd.R_keep (IsS90.apart (show IsS90 w0 _ g s0_0 t348 t349 from is90_1 HI0.out NB0_346.out) (kr_ HO_3.out) (by decide)) hk (fun _ h => h.2)) (fun _ h => h.1)); replace BK346 := Aside0.mk (KeepBut.blk hk (g' := gb346) (o := .cells #[.int .i64 ((rd_T54 x3_1 t342).f0), .int .i64 ((rd_T54 x3_1 t342).f1)] 54 (0, 0)) (bk_ BK346.out) NB346_0.out (by simp)); replace HO353 := Aside0.mk (Kd.R_mono (Kd.R_keep (IsS90.apart (show IsS90 w0 _ g s0_0 t348 t349 from is90_1 HI0.out NB0_346.out) (kr_ HO353.out) (by decide)) hk (fun _ h => h.2)) (fun _ h => h.1)); replace HK := Aside0.mk (KeepBut.trans (kb1_ HK.out GW346.out) hk (.inl rfl)); replace HB := Aside0.mk (hb); replace HI0 := Aside0.mk (hi); (try clear hb); (try clear hb2); (try clear hk); (try clear hi); obtain ⟨hcz44_0, hcz44_1⟩ := cz2_ BK346.out; obtain ⟨hfz44_0, hfz44_1⟩ := fz2_ BK346.out) | ((with_reducible refine gate_store (t := 3) (p := 54) rfl ?_); refine store_event (t := 3) (p := 54) (v := ?vo_w45) (w1 := (w43.setCell ⟨gb346, 0, none⟩ (.int .i64 t354))) ?hg ?ho ?hn ?hr ?_; (case ho => rfl); (case hg => rfl); (case hn => rfl); (case hr => first | (go_simp; done) | (go_simp; rfl)); intro w45 hw; have n0_ : Aside0 (Kd.R k54 54 w45 w.heap.size (fun k_ => k_ ≠ gb346) (.slice (some ad345) x3_1.length co34) x3_1) := ⟨(by rw [hw]; exact (by (with_reducible repeat (first | apply Kd.R_alloc | apply Kd.R_drewN | apply Kd.R_drew)); exact Kd.R_mono (Kd.R_far (p := ⟨gb346, 0, none⟩) (Kd.R_mono HO_3.out (fun k_ hk => (⟨hk, hk.2⟩ : _ ∧ k_ ≠ gb346))) (fun _ hk => hk.2) (.int .i64 t354)) (fun _ hk => hk.1.2)))⟩; have n1_ : Aside0 (Kd.R (Kd.int .i64) 3 w45 w.heap.size (fun _ => True) (.slice Ao42 y351.length co42) y351) := ⟨(by rw [hw]; exact (by (with_reducible repeat (first | apply Kd.R_alloc | apply Kd.R_drewN | apply Kd.R_drew)); exact Kd.R_mono (Kd.R_far (p := ⟨gb346, 0, none⟩) (Kd.R_types HO353.out BK346.out (by decide)) (fun _ hk => hk.2) (.int .i64 t354)) (fun _ hk => trivial)))⟩; have n2_ : Aside0 (w45.heap[gb346]? = some (.cells #[.int .i64 t354, .int .i64 ((rd_T54 x3_1 t342).f1)] 54 (0, 0))) := ⟨(by rw [hw]; exact (by (with_reducible repeat (first | refine blk_drewN ?_ _ | refine blk_drew ?_ | refine blk_alloc ?_ _)); refine blk_put (cs := #[.int .i64 ((rd_T54 x3_1 t342).f0), .int .i64 ((rd_T54 x3_1 t342).f1)]) ?_ 0 _ rfl; (with_reducible repeat (first | refine blk_drewN ?_ _ | refine blk_drew ?_ | refine blk_alloc ?_ _)); exact BK346.out))⟩; have n3_ : Aside0 (IsS90 w0 w45 g s0_0 t355 t356) := ⟨(by rw [hw]; exact (is90_1 HI0.out NB0_346.out))⟩; have n4_ : Aside0 (KeepBut w w45 g none) := ⟨(by rw [hw]; exact (kb1_ HK.out GW346.out))⟩; have n5_ : Aside0 (Below w0.heap.size w0 w45) := ⟨(by rw [hw]; exact (lb2_ HB.out (IsS90.ge HI0.out) GE346.out))⟩; clear hw; clear HO_3; clear HO353; clear BK346; clear HI0; clear HK; clear HB; have HO_3 := n0_; have HO353 := n1_; have BK346 := n2_; have HI0 := n3_; have HK := n4_; have HB := n5_; clear n0_ n1_ n2_ n3_ n4_ n5_; obtain ⟨hcz46_0, hcz46_1⟩ := cz2_ BK346.out; obtain ⟨hfz46_0, hfz46_1⟩ := fz2_ BK346.out; have p33 : 0 ≤ (t342 : Int) := dt_; have q33 : (t342 : Int) < ((x3_1.length : Int) : Int) := dt_; obtain ⟨go33, co33, eo33, gb33, gl33, cl33, HG33⟩ := Kd.R_form HO_3.out (by omega); (first | cases eo33 | (injection eo33 with ea_ en_ ec_; (first | subst ea_ | (injection ea_ with ea_; subst ea_)); subst ec_; clear en_)); have GB33 := Aside0.mk gb33; have GG33 := Aside0.mk HG33; clear gb33 gl33 HG33; (first | simp only [add_plain] at hx345_0 | skip); (first | simp only [add_plain] at hx345_1 | skip); (first | simp only [add_plain] at hx350_0 | skip); (first | simp only [add_plain] at hx350_1 | skip); obtain ⟨ce33, hcl33, hM33, hcc33, hfr33⟩ := Kd.R_elem HO_3.out z54 (t342 : Int) p33 q33; obtain rfl := k54_openM hM33; have hx33_0 : w45.cell? ⟨go33, (t342 : Int).toNat * 2, none⟩ = some (.int .i64 ((rd_T54 x3_1 t342).f0)) := hcc33 0 _ rfl; have hx33_1 : w45.cell? ⟨go33, (t342 : Int).toNat * 2 + 1, none⟩ = some (.int .i64 ((rd_T54 x3_1 t342).f1)) := hcc33 1 _ rfl; have hf33_0 : w45.frozen? ⟨go33, (t342 : Int).toNat * 2, none⟩ = false := hfr33 0; have hf33_1 : w45.frozen? ⟨go33, (t342 : Int).toNat * 2 + 1, none⟩ = false := hfr33 1; clear hcl33 hcc33 hfr33 hM33; replace p33 := eq_true p33; replace q33 := eq_true q33; have HX47 := Aside0.mk (show Kd.R k54 54 w45 w.heap.size (fun k_ => k_ ≠ gb346) (.slice (some ⟨go33, 0, none⟩) x3_1.length co34) x3_1 from (kr_ HO_3.out)); obtain ⟨ce47, hcl47, hM47, hcc47, hfr47⟩ := Kd.R_elem HX47.out z54 (t342 : Int) (dt_) (by have h_ : (t342 : Int) < ((x3_1.length : Int) : Int) := dt_; first | exact h_ | (have e_ := (Kd.R_reads' HO_3.out).1; omega) | simpa using h_); obtain rfl := k54_openM hM47; have HP47 := Kd.R_seg HX47.out (t342 : Int) (dt_) (by have h_ : (t342 : Int) < ((x3_1.length : Int) : Int) := dt_; first | exact h_ | (have e_ := (Kd.R_reads' HO_3.out).1; omega) | simpa using h_) (seg := [.int .i64 t354, .int .i64 ((rd_T54 x3_1 t342).f1)]) (j := 0) hcl47 hcc47 (show 2 ≤ 2 from by decide) (x' := (⟨t354, (rd_T54 x3_1 t342).f1⟩ : S54)) (k54_mkM _ _ _ (⟨t354, (rd_T54 x3_1 t342).f1⟩ : S54) ) (fun _ hk => hk); have hx47_0 := hcc47 0 _ rfl; (try simp only [show (k54).sz = 2 from rfl, Nat.mul_one, Nat.add_zero] at hx47_0); have hf47_0 := hfr47 0; (try simp only [show (k54).sz = 2 from rfl, Nat.mul_one, Nat.add_zero] at hf47_0); have hx47_1 := hcc47 1 _ rfl; (try simp only [show (k54).sz = 2 from rfl, Nat.mul_one, Nat.add_zero] at hx47_1); have hf47_1 := hfr47 1; (try simp only [show (k54).sz = 2 from rfl, Nat.mul_one, Nat.add_zero] at hf47_1); clear hcl47 hcc47 hfr47 hM47) | ((with_reducible refine gate_store (t := 54) (p := 79) rfl ?_); refine store_event (t := 54) (p := 79) (v := ?vo_w48) (w1 := ((w45.setCell ⟨go33, (t342 : Int).toNat * 2, none⟩ (.int .i64 t354)).setCell ⟨go33, (t342 : Int).toNat * 2 + 1, none⟩ (.int .i64 ((rd_T54 x3_1 t342).f1)))) ?hg ?ho ?hn ?hr ?_; (case ho => rfl); (case hg => rfl); (case hn => rfl); (case hr => first | (go_simp; done) | (go_simp; rfl)); intro w48 hw; have hg : w45.grownBy w48 (some go33) := (by rw [hw]; exact HP47.2); have hp_ : Kd.R k54 54 w48 w.heap.size (fun k_ => k_ ≠ gb346) (.slice (some ⟨go33, 0, none⟩) x3_1.length co34) y357 := (by rw [hw, Ny357.out]; exact HP47.1); clear HP47; replace HI0 := Aside0.mk (IsS90.grown (is90_1 HI0.out NB0_346.out) hg (IsS90.own_ne HI0.out HO_3.out (by decide))); replace BK346 := Aside0.mk (blk_grown (g := gb346) (o := .cells #[.int .i64 t354, .int .i64 ((rd_T54 x3_1 t342).f1)] 54 (0, 0)) (bk_ BK346.out) hg (Kd.R_away HO_3.out (fun _ hk => hk))); replace HO353 := Aside0.mk (Kd.R_over' (v := (.slice (some ⟨go33, 0, none⟩) x3_1.length co34)) (kr_ HO353.out) (Kd.R_typed HO_3.out) (by decide) hg); replace HB := Aside0.mk ((by rw [hw]; exact below_set (below_set (HB.out) (Nat.le_trans HL.out GB33.out)) (Nat.le_trans HL.out GB33.out) : Below w0.heap.size w0 w48)); replace HK := Aside0.mk (KeepBut.trans (kb1_ HK.out GW346.out) (KeepBut.of_grown hg g) (Kd.R_base2 HO_3.out)); replace HO_3 := Aside0.mk (hp_); clear hg hw hp_))
         go_ret
         exact ⟨_, rr_, krm_ HO_3.out (fun _ hk => trivial), is90_1 HI0.out NB0_346.out, lb2_ HB.out (IsS90.ge HI0.out) GE346.out, kb1_ HK.out GW346.out⟩
        ·
         rw [if_neg c31] at H
         exact absurd H (by simp)
       ·
        rw [if_neg c30] at H
        have c30b0 : (t347 == 0) = false := beq_eq_false_iff_ne.mpr c30; have c30b1 : (t347 != 0) = true := bne_iff_ne.mpr c30
        by_cases c49 : t347 = 1
        ·
         rw [if_pos c49] at H
         have c49b0 : (t347 == 1) = true := beq_iff_eq.mpr c49; have c49b1 : (t347 != 1) = false := bne_eq_false_iff_eq.mpr c49; clear c49
         obtain ⟨y358, hy358⟩ : ∃ y_ : List Int, y_ = (([(-501), 501] : List Int)) := ⟨_, rfl⟩
         replace H : ((spec_l1Cur_among.f s0_0 t348 t349 y358).bind fun bt361 => (some ((x3_1.set (t342 : Int).toNat (⟨(rd_T54 x3_1 t342).f0, bt361.1⟩ : S54)), bt361.2.1, bt361.2.2))) = some (r1, r2, r3) := by first | (rw [hy358]; with_reducible exact H) | (have H2_ := (Option.bind_some _ _).symm.trans H; rw [hy358]; with_reducible exact H2_) | (have H2_ := (Option.bind_some _ _).symm.trans H; with_reducible exact H2_) | with_reducible exact H | (rw [hy358]; exact H) | exact H
         have Ny358 := Aside0.mk hy358; clear hy358; replace H := Option.bind_eq_some_iff.mp H; obtain ⟨⟨t361, t362, t363⟩, A500, H⟩ := H; replace H : (some ((x3_1.set (t342 : Int).toNat (⟨(rd_T54 x3_1 t342).f0, t361⟩ : S54)), t362, t363)) = some (r1, r2, r3) := H; have A50 := Aside0.mk A500; clear A500
         obtain ⟨y364, hy364⟩ : ∃ y_ : List (S54), y_ = (x3_1.set (t342 : Int).toNat (⟨(rd_T54 x3_1 t342).f0, t361⟩ : S54)) := ⟨_, rfl⟩
         replace H : (some (y364, t362, t363)) = some (r1, r2, r3) := by first | (rw [hy364]; with_reducible exact H) | (have H2_ := (Option.bind_some _ _).symm.trans H; rw [hy364]; with_reducible exact H2_) | (have H2_ := (Option.bind_some _ _).symm.trans H; with_reducible exact H2_) | with_reducible exact H | (rw [hy364]; exact H) | exact H
         have Ny364 := Aside0.mk hy364; clear hy364; simp only [Option.some.injEq, Prod.mk.injEq] at H; obtain ⟨rfl, rfl, rfl⟩ := H; obtain ⟨Ao52, co52, eo52⟩ := Kd.R_slice HO_3.out; subst eo52
         go_wp2_with (first | ((with_reducible refine gate_callee (f := 87) rfl ?_); refine ga_ (some 38) Try.func87 #[.pointer (some ⟨g, 0, none⟩), .int .i64 (x3_1.length : Int)] ?_; (with_reducible refine (spec_l1Cur_pick.calls g s0_0 x1001_1 x1002_1 (x3_1.length : Int) t342 t343 t344 w0 _ ?side1 ?side2 A26.out).mono ?_); (case side1 => exact is90_0 HI0.out); (case side2 => exact lb1_ HB.out (IsS90.ge HI0.out)); rintro e w53 ⟨rfl, hi, hb, hk⟩; refine ⟨_, rfl, ?_⟩; replace HO_3 := Aside0.mk (Kd.R_mono (Kd.R_keep (IsS90.apart (show IsS90 w0 _ g s0_0 x1001_1 x1002_1 from is90_0 HI0.out) (kr_ HO_3.out) (by decide)) hk (fun _ h => h.2)) (fun _ h => h.1)); replace HK := Aside0.mk (KeepBut.trans (kb0_ HK.out) hk (.inl rfl)); replace HB := Aside0.mk (hb); replace HI0 := Aside0.mk (hi); (try clear hb); (try clear hb2); (try clear hk); (try clear hi); have p345 : 0 ≤ (t342 : Int) := dt_; have q345 : t342 < (x3_1.length : Int) := dt_; obtain ⟨ad345, e345, hx345_0, hx345_1⟩ := at_T54 (Kd.R_reads' HO_3.out).2.2 t342 p345 q345; cases e345; replace p345 := eq_true p345; replace q345 := eq_true q345) | ((with_reducible refine gate_dst (N := 7) rfl ?_); refine box_event ?hg (N := 7) ?hd (cs := #[.int .i64 0, .int .i64 0]) (t := 54) ?hr ?_; (case hd => rfl); (case hg => rfl); (case hr => first | (go_simp; done) | (go_simp; rfl)); intro gb346 hg w54 hbox hb; replace HO_3 := Aside0.mk (Kd.R_below (Kd.R_elderB (kr_ HO_3.out) gb346 (Nat.le_of_eq hg.symm)) hb); replace HB := Aside0.mk (below_step (lb1_ HB.out (IsS90.ge HI0.out)) hb); have BK346 := Aside0.mk (hbox); have GW346 := Aside0.mk ((by rw [hg]; exact (keep_size (w := w) (g := g) (row := none) (kb0_ HK.out)) : w.heap.size ≤ gb346)); have GE346 := Aside0.mk ((Nat.le_trans HW0.out (by rw [hg]; exact (keep_size (w := w) (g := g) (row := none) (kb0_ HK.out)) : w.heap.size ≤ gb346) : w0.heap.size ≤ gb346)); replace HK := Aside0.mk (KeepBut.trans (kb0_ HK.out) (KeepBut.of_below hb g none) (.inl rfl)); have NB0_346 := Aside0.mk ((by rw [hg]; exact Nat.ne_of_lt (IsS90.lt (show IsS90 w0 _ g s0_0 t343 t344 from is90_0 HI0.out)) : g ≠ gb346)); have NB346_0 := Aside0.mk ((by rw [hg]; exact Nat.ne_of_gt (IsS90.lt (show IsS90 w0 _ g s0_0 t343 t344 from is90_0 HI0.out)) : gb346 ≠ g)); replace HI0 := Aside0.mk (IsS90.below (is90_0 HI0.out) hb); clear hb hbox hg; have hnb55 := NB346_0.out; have hnc55 := NB0_346.out; obtain ⟨hcz56_0, hcz56_1⟩ := cz2_ BK346.out; obtain ⟨hfz56_0, hfz56_1⟩ := fz2_ BK346.out) | ((with_reducible refine gate_callee (f := 87) rfl ?_); refine ga_ (some 44) Try.func87 #[.pointer (some ⟨g, 0, none⟩), .int .i64 50] ?_; (with_reducible refine (spec_l1Cur_pick.calls g s0_0 t343 t344 50 t347 t348 t349 w0 _ ?side1 ?side2 A29.out).mono ?_); (case side1 => exact is90_1 HI0.out NB0_346.out); (case side2 => exact lb2_ HB.out (IsS90.ge HI0.out) GE346.out); rintro e w57 ⟨rfl, hi, hb, hk⟩; refine ⟨_, rfl, ?_⟩; replace HO_3 := Aside0.mk (Kd.R_mono (Kd.R_keep (IsS90.apart (show IsS90 w0 _ g s0_0 t343 t344 from is90_1 HI0.out NB0_346.out) (by (with_reducible repeat (first | apply Kd.R_alloc | apply Kd.R_drewN | apply Kd.R_drew)); exact (Kd.R_mono (Kd.R_far (p := ⟨gb346, 1, none⟩) (Kd.R_far (p := ⟨gb346, 0, none⟩) (Kd.R_mono HO_3.out (fun k_ hk => (⟨hk, hk.2⟩ : _ ∧ k_ ≠ gb346))) (fun _ hk => hk.2) (.int .i64 ((rd_T54 x3_1 t342).f0))) (fun _ hk => hk.2) (.int .i64 ((rd_T54 x3_1 t342).f1))) (fun _ h_ => h_.1))) (by decide)) hk (fun _ h => h.2)) (fun _ h => h.1)); replace BK346 := Aside0.mk (KeepBut.blk hk (g' := gb346) (o := .cells #[.int .i64 ((rd_T54 x3_1 t342).f0), .int .i64 ((rd_T54 x3_1 t342).f1)] 54 (0, 0)) (by (with_reducible repeat (first | refine blk_drewN ?_ _ | refine blk_drew ?_ | refine blk_alloc ?_ _)); exact (p2_ BK346.out _ _)) NB346_0.out (by simp)); replace HK := Aside0.mk (KeepBut.trans (kb1_ HK.out GW346.out) hk (.inl rfl)); replace HB := Aside0.mk (hb); replace HI0 := Aside0.mk (hi); (try clear hb); (try clear hb2); (try clear hk); (try clear hi)) | ((with_reducible refine gate_dst (N := 58) rfl ?_); refine Kd.R_lit (Kd.int .i64) _ 3 ?hg (N := 58) ?hd (xs := ([(-501), 501] : List Int)) (inner := [.int .i64 (-501), .int .i64 501]) (ok := fun _ => True) (okp := fun _ => True) ?hr ?hp (fun _ hk => hk) trivial (Below.refl _ _) (Nat.le_refl _) (by simp) ?_; (case hd => rfl); (case hg => rfl); (case hr => first | (go_simp; done) | (go_simp; rfl)); (case hp => exact (Reps.one (show Kd.M (Kd.int .i64) _ _ _ (-501) [.int .i64 (-501)] from rfl) (Reps.one (show Kd.M (Kd.int .i64) _ _ _ 501 [.int .i64 501] from rfl) (Reps.none _ _)))); intro v359 w58 ho59 hb hg_ hnew_; clear hg_ hnew_; replace ho59 := ry_ Ny358.out ho59; replace HO_3 := Aside0.mk (Kd.R_below (kr_ HO_3.out) hb); have HO360 := Aside0.mk (Kd.R_lower ho59 (keep_size (w := w) (g := g) (row := none) (kb1_ HK.out GW346.out))); replace BK346 := Aside0.mk (bb_ (bk_ BK346.out) hb); replace HK := Aside0.mk (KeepBut.trans (kb1_ HK.out GW346.out) (KeepBut.of_below hb g none) (.inl rfl)); replace HB := Aside0.mk (below_step (lb2_ HB.out (IsS90.ge HI0.out) GE346.out) hb); replace HI0 := Aside0.mk (IsS90.below (is90_1 HI0.out NB0_346.out) hb); clear hb ho59; obtain ⟨Ao60, co60, eo60⟩ := Kd.R_slice HO360.out; subst eo60) | ((with_reducible refine gate_callee (f := 86) rfl ?_); refine ga_ (some 59) Try.func86 #[.pointer (some ⟨g, 0, none⟩), .slice Ao60 y358.length co60] ?_; (with_reducible refine (spec_l1Cur_among.calls g s0_0 t348 t349 _ _ y358 t361 t362 t363 w0 _ ?side1 ?side2 ?side3 ?side4 ?side5 A50.out).mono ?_); (case side1 => exact is90_1 HI0.out NB0_346.out); (case side2 => exact lb2_ HB.out (IsS90.ge HI0.out) GE346.out); (case side3 => exact kc_ (Kd.R_reads' HO360.out).2.2); (case side4 => exact (Kd.R_reads' HO360.out).2.1); (case side5 => exact far_slice (IsS90.own_ne HI0.out HO360.out (by decide))); rintro e w61 ⟨rfl, hi, hb, hk⟩; refine ⟨_, rfl, ?_⟩; replace HO_3 := Aside0.mk (Kd.R_mono (Kd.R_keep (IsS90.apart (show IsS90 w0 _ g s0_0 t348 t349 from is90_1 HI0.out NB0_346.out) (kr_ HO_3.out) (by decide)) hk (fun _ h => h.2)) (fun _ h => h.1)); replace BK346 := Aside0.mk (KeepBut.blk hk (g' := gb346) (o := .cells #[.int .i64 ((rd_T54 x3_1 t342).f0), .int .i64 ((rd_T54 x3_1 t342).f1)] 54 (0, 0)) (bk_ BK346.out) NB346_0.out (by simp)); replace HO360 := Aside0.mk (Kd.R_mono (Kd.R_keep (IsS90.apart (show IsS90 w0 _ g s0_0 t348 t349 from is90_1 HI0.out NB0_346.out) (kr_ HO360.out) (by decide)) hk (fun _ h => h.2)) (fun _ h => h.1)); replace HK := Aside0.mk (KeepBut.trans (kb1_ HK.out GW346.out) hk (.inl rfl)); replace HB := Aside0.mk (hb); replace HI0 := Aside0.mk (hi); (try clear hb); (try clear hb2); (try clear hk); (try clear hi); obtain ⟨hcz62_0, hcz62_1⟩ := cz2_ BK346.out; obtain ⟨hfz62_0, hfz62_1⟩ := fz2_ BK346.out) | ((with_reducible refine gate_store (t := 3) (p := 60) rfl ?_); refine store_event (t := 3) (p := 60) (v := ?vo_w63) (w1 := (w61.setCell ⟨gb346, 1, none⟩ (.int .i64 t361))) ?hg ?ho ?hn ?hr ?_; (case ho => rfl); (case hg => rfl); (case hn => rfl); (case hr => first | (go_simp; done) | (go_simp; rfl)); intro w63 hw; have n0_ : Aside0 (Kd.R k54 54 w63 w.heap.size (fun k_ => k_ ≠ gb346) (.slice (some ad345) x3_1.length co52) x3_1) := ⟨(by rw [hw]; exact (by (with_reducible repeat (first | apply Kd.R_alloc | apply Kd.R_drewN | apply Kd.R_drew)); exact Kd.R_mono (Kd.R_far (p := ⟨gb346, 1, none⟩) (Kd.R_mono HO_3.out (fun k_ hk => (⟨hk, hk.2⟩ : _ ∧ k_ ≠ gb346))) (fun _ hk => hk.2) (.int .i64 t361)) (fun _ hk => hk.1.2)))⟩; have n1_ : Aside0 (Kd.R (Kd.int .i64) 3 w63 w.heap.size (fun _ => True) (.slice Ao60 y358.length co60) y358) := ⟨(by rw [hw]; exact (by (with_reducible repeat (first | apply Kd.R_alloc | apply Kd.R_drewN | apply Kd.R_drew)); exact Kd.R_mono (Kd.R_far (p := ⟨gb346, 1, none⟩) (Kd.R_types HO360.out BK346.out (by decide)) (fun _ hk => hk.2) (.int .i64 t361)) (fun _ hk => trivial)))⟩; have n2_ : Aside0 (w63.heap[gb346]? = some (.cells #[.int .i64 ((rd_T54 x3_1 t342).f0), .int .i64 t361] 54 (0, 0))) := ⟨(by rw [hw]; exact (by (with_reducible repeat (first | refine blk_drewN ?_ _ | refine blk_drew ?_ | refine blk_alloc ?_ _)); refine blk_put (cs := #[.int .i64 ((rd_T54 x3_1 t342).f0), .int .i64 ((rd_T54 x3_1 t342).f1)]) ?_ 1 _ rfl; (with_reducible repeat (first | refine blk_drewN ?_ _ | refine blk_drew ?_ | refine blk_alloc ?_ _)); exact BK346.out))⟩; have n3_ : Aside0 (IsS90 w0 w63 g s0_0 t362 t363) := ⟨(by rw [hw]; exact (is90_1 HI0.out NB0_346.out))⟩; have n4_ : Aside0 (KeepBut w w63 g none) := ⟨(by rw [hw]; exact (kb1_ HK.out GW346.out))⟩; have n5_ : Aside0 (Below w0.heap.size w0 w63) := ⟨(by rw [hw]; exact (lb2_ HB.out (IsS90.ge HI0.out) GE346.out))⟩; clear hw; clear HO_3; clear HO360; clear BK346; clear HI0; clear HK; clear HB; have HO_3 := n0_; have HO360 := n1_; have BK346 := n2_; have HI0 := n3_; have HK := n4_; have HB := n5_; clear n0_ n1_ n2_ n3_ n4_ n5_; obtain ⟨hcz64_0, hcz64_1⟩ := cz2_ BK346.out; obtain ⟨hfz64_0, hfz64_1⟩ := fz2_ BK346.out; have p51 : 0 ≤ (t342 : Int) := dt_; have q51 : (t342 : Int) < ((x3_1.length : Int) : Int) := dt_; obtain ⟨go51, co51, eo51, gb51, gl51, cl51, HG51⟩ := Kd.R_form HO_3.out (by omega); (first | cases eo51 | (injection eo51 with ea_ en_ ec_; (first | subst ea_ | (injection ea_ with ea_; subst ea_)); subst ec_; clear en_)); have GB51 := Aside0.mk gb51; have GG51 := Aside0.mk HG51; clear gb51 gl51 HG51; (first | simp only [add_plain] at hx345_0 | skip); (first | simp only [add_plain] at hx345_1 | skip); obtain ⟨ce51, hcl51, hM51, hcc51, hfr51⟩ := Kd.R_elem HO_3.out z54 (t342 : Int) p51 q51; obtain rfl := k54_openM hM51; have hx51_0 : w63.cell? ⟨go51, (t342 : Int).toNat * 2, none⟩ = some (.int .i64 ((rd_T54 x3_1 t342).f0)) := hcc51 0 _ rfl; have hx51_1 : w63.cell? ⟨go51, (t342 : Int).toNat * 2 + 1, none⟩ = some (.int .i64 ((rd_T54 x3_1 t342).f1)) := hcc51 1 _ rfl; have hf51_0 : w63.frozen? ⟨go51, (t342 : Int).toNat * 2, none⟩ = false := hfr51 0; have hf51_1 : w63.frozen? ⟨go51, (t342 : Int).toNat * 2 + 1, none⟩ = false := hfr51 1; clear hcl51 hcc51 hfr51 hM51; replace p51 := eq_true p51; replace q51 := eq_true q51; have HX65 := Aside0.mk (show Kd.R k54 54 w63 w.heap.size (fun k_ => k_ ≠ gb346) (.slice (some ⟨go51, 0, none⟩) x3_1.length co52) x3_1 from (kr_ HO_3.out)); obtain ⟨ce65, hcl65, hM65, hcc65, hfr65⟩ := Kd.R_elem HX65.out z54 (t342 : Int) (dt_) (by have h_ : (t342 : Int) < ((x3_1.length : Int) : Int) := dt_; first | exact h_ | (have e_ := (Kd.R_reads' HO_3.out).1; omega) | simpa using h_); obtain rfl := k54_openM hM65; have HP65 := Kd.R_seg HX65.out (t342 : Int) (dt_) (by have h_ : (t342 : Int) < ((x3_1.length : Int) : Int) := dt_; first | exact h_ | (have e_ := (Kd.R_reads' HO_3.out).1; omega) | simpa using h_) (seg := [.int .i64 ((rd_T54 x3_1 t342).f0), .int .i64 t361]) (j := 0) hcl65 hcc65 (show 2 ≤ 2 from by decide) (x' := (⟨(rd_T54 x3_1 t342).f0, t361⟩ : S54)) (k54_mkM _ _ _ (⟨(rd_T54 x3_1 t342).f0, t361⟩ : S54) ) (fun _ hk => hk); have hx65_0 := hcc65 0 _ rfl; (try simp only [show (k54).sz = 2 from rfl, Nat.mul_one, Nat.add_zero] at hx65_0); have hf65_0 := hfr65 0; (try simp only [show (k54).sz = 2 from rfl, Nat.mul_one, Nat.add_zero] at hf65_0); have hx65_1 := hcc65 1 _ rfl; (try simp only [show (k54).sz = 2 from rfl, Nat.mul_one, Nat.add_zero] at hx65_1); have hf65_1 := hfr65 1; (try simp only [show (k54).sz = 2 from rfl, Nat.mul_one, Nat.add_zero] at hf65_1); clear hcl65 hcc65 hfr65 hM65) | ((with_reducible refine gate_store (t := 54) (p := 79) rfl ?_); refine store_event (t := 54) (p := 79) (v := ?vo_w66) (w1 := ((w63.setCell ⟨go51, (t342 : Int).toNat * 2, none⟩ (.int .i64 ((rd_T54 x3_1 t342).f0))).setCell ⟨go51, (t342 : Int).toNat * 2 + 1, none⟩ (.int .i64 t361))) ?hg ?ho ?hn ?hr ?_; (case ho => rfl); (case hg => rfl); (case hn => rfl); (case hr => first | (go_simp; done) | (go_simp; rfl)); intro w66 hw; have hg : w63.grownBy w66 (some go51) := (by rw [hw]; exact HP65.2); have hp_ : Kd.R k54 54 w66 w.heap.size (fun k_ => k_ ≠ gb346) (.slice (some ⟨go51, 0, none⟩) x3_1.length co52) y364 := (by rw [hw, Ny364.out]; exact HP65.1); clear HP65; replace HI0 := Aside0.mk (IsS90.grown (is90_1 HI0.out NB0_346.out) hg (IsS90.own_ne HI0.out HO_3.out (by decide))); replace BK346 := Aside0.mk (blk_grown (g := gb346) (o := .cells #[.int .i64 ((rd_T54 x3_1 t342).f0), .int .i64 t361] 54 (0, 0)) (bk_ BK346.out) hg (Kd.R_away HO_3.out (fun _ hk => hk))); replace HO360 := Aside0.mk (Kd.R_over' (v := (.slice (some ⟨go51, 0, none⟩) x3_1.length co52)) (kr_ HO360.out) (Kd.R_typed HO_3.out) (by decide) hg); replace HB := Aside0.mk ((by rw [hw]; exact below_set (below_set (HB.out) (Nat.le_trans HL.out GB51.out)) (Nat.le_trans HL.out GB51.out) : Below w0.heap.size w0 w66)); replace HK := Aside0.mk (KeepBut.trans (kb1_ HK.out GW346.out) (KeepBut.of_grown hg g) (Kd.R_base2 HO_3.out)); replace HO_3 := Aside0.mk (hp_); clear hg hw hp_))
         go_ret
         exact ⟨_, rr_, krm_ HO_3.out (fun _ hk => trivial), is90_1 HI0.out NB0_346.out, lb2_ HB.out (IsS90.ge HI0.out) GE346.out, kb1_ HK.out GW346.out⟩
        ·
         rw [if_neg c49] at H
         have c49b0 : (t347 == 1) = false := beq_eq_false_iff_ne.mpr c49; have c49b1 : (t347 != 1) = true := bne_iff_ne.mpr c49
         by_cases c67 : t347 = 2
         ·
          rw [if_pos c67] at H
          have c67b0 : (t347 == 2) = true := beq_iff_eq.mpr c67; have c67b1 : (t347 != 2) = false := bne_eq_false_iff_eq.mpr c67; clear c67; have H' := Aside0.mk H; clear H; obtain ⟨Ao68, co68, eo68⟩ := Kd.R_slice HO_3.out; subst eo68
          go_wp2_with (first | ((with_reducible refine gate_callee (f := 87) rfl ?_); refine ga_ (some 38) Try.func87 #[.pointer (some ⟨g, 0, none⟩), .int .i64 (x3_1.length : Int)] ?_; (with_reducible refine (spec_l1Cur_pick.calls g s0_0 x1001_1 x1002_1 (x3_1.length : Int) t342 t343 t344 w0 _ ?side1 ?side2 A26.out).mono ?_); (case side1 => exact is90_0 HI0.out); (case side2 => exact lb1_ HB.out (IsS90.ge HI0.out)); rintro e w69 ⟨rfl, hi, hb, hk⟩; refine ⟨_, rfl, ?_⟩; replace HO_3 := Aside0.mk (Kd.R_mono (Kd.R_keep (IsS90.apart (show IsS90 w0 _ g s0_0 x1001_1 x1002_1 from is90_0 HI0.out) (kr_ HO_3.out) (by decide)) hk (fun _ h => h.2)) (fun _ h => h.1)); replace HK := Aside0.mk (KeepBut.trans (kb0_ HK.out) hk (.inl rfl)); replace HB := Aside0.mk (hb); replace HI0 := Aside0.mk (hi); (try clear hb); (try clear hb2); (try clear hk); (try clear hi); have p345 : 0 ≤ (t342 : Int) := dt_; have q345 : t342 < (x3_1.length : Int) := dt_; obtain ⟨ad345, e345, hx345_0, hx345_1⟩ := at_T54 (Kd.R_reads' HO_3.out).2.2 t342 p345 q345; cases e345; replace p345 := eq_true p345; replace q345 := eq_true q345) | ((with_reducible refine gate_dst (N := 7) rfl ?_); refine box_event ?hg (N := 7) ?hd (cs := #[.int .i64 0, .int .i64 0]) (t := 54) ?hr ?_; (case hd => rfl); (case hg => rfl); (case hr => first | (go_simp; done) | (go_simp; rfl)); intro gb346 hg w70 hbox hb; replace HO_3 := Aside0.mk (Kd.R_below (Kd.R_elderB (kr_ HO_3.out) gb346 (Nat.le_of_eq hg.symm)) hb); replace HB := Aside0.mk (below_step (lb1_ HB.out (IsS90.ge HI0.out)) hb); have BK346 := Aside0.mk (hbox); have GW346 := Aside0.mk ((by rw [hg]; exact (keep_size (w := w) (g := g) (row := none) (kb0_ HK.out)) : w.heap.size ≤ gb346)); have GE346 := Aside0.mk ((Nat.le_trans HW0.out (by rw [hg]; exact (keep_size (w := w) (g := g) (row := none) (kb0_ HK.out)) : w.heap.size ≤ gb346) : w0.heap.size ≤ gb346)); replace HK := Aside0.mk (KeepBut.trans (kb0_ HK.out) (KeepBut.of_below hb g none) (.inl rfl)); have NB0_346 := Aside0.mk ((by rw [hg]; exact Nat.ne_of_lt (IsS90.lt (show IsS90 w0 _ g s0_0 t343 t344 from is90_0 HI0.out)) : g ≠ gb346)); have NB346_0 := Aside0.mk ((by rw [hg]; exact Nat.ne_of_gt (IsS90.lt (show IsS90 w0 _ g s0_0 t343 t344 from is90_0 HI0.out)) : gb346 ≠ g)); replace HI0 := Aside0.mk (IsS90.below (is90_0 HI0.out) hb); clear hb hbox hg; have hnb71 := NB346_0.out; have hnc71 := NB0_346.out; obtain ⟨hcz72_0, hcz72_1⟩ := cz2_ BK346.out; obtain ⟨hfz72_0, hfz72_1⟩ := fz2_ BK346.out) | ((with_reducible refine gate_callee (f := 87) rfl ?_); refine ga_ (some 44) Try.func87 #[.pointer (some ⟨g, 0, none⟩), .int .i64 50] ?_; (with_reducible refine (spec_l1Cur_pick.calls g s0_0 t343 t344 50 t347 t348 t349 w0 _ ?side1 ?side2 A29.out).mono ?_); (case side1 => exact is90_1 HI0.out NB0_346.out); (case side2 => exact lb2_ HB.out (IsS90.ge HI0.out) GE346.out); rintro e w73 ⟨rfl, hi, hb, hk⟩; refine ⟨_, rfl, ?_⟩; replace HO_3 := Aside0.mk (Kd.R_mono (Kd.R_keep (IsS90.apart (show IsS90 w0 _ g s0_0 t343 t344 from is90_1 HI0.out NB0_346.out) (by (with_reducible repeat (first | apply Kd.R_alloc | apply Kd.R_drewN | apply Kd.R_drew)); exact (Kd.R_mono (Kd.R_far (p := ⟨gb346, 1, none⟩) (Kd.R_far (p := ⟨gb346, 0, none⟩) (Kd.R_mono HO_3.out (fun k_ hk => (⟨hk, hk.2⟩ : _ ∧ k_ ≠ gb346))) (fun _ hk => hk.2) (.int .i64 ((rd_T54 x3_1 t342).f0))) (fun _ hk => hk.2) (.int .i64 ((rd_T54 x3_1 t342).f1))) (fun _ h_ => h_.1))) (by decide)) hk (fun _ h => h.2)) (fun _ h => h.1)); replace BK346 := Aside0.mk (KeepBut.blk hk (g' := gb346) (o := .cells #[.int .i64 ((rd_T54 x3_1 t342).f0), .int .i64 ((rd_T54 x3_1 t342).f1)] 54 (0, 0)) (by (with_reducible repeat (first | refine blk_drewN ?_ _ | refine blk_drew ?_ | refine blk_alloc ?_ _)); exact (p2_ BK346.out _ _)) NB346_0.out (by simp)); replace HK := Aside0.mk (KeepBut.trans (kb1_ HK.out GW346.out) hk (.inl rfl)); replace HB := Aside0.mk (hb); replace HI0 := Aside0.mk (hi); (try clear hb); (try clear hb2); (try clear hk); (try clear hi)))
          go_loopg [3] k1 (fun kq v3 w' => ∃ (x3_2 : List (S54)) (x1001_2 : Int) (x1002_2 : Int), Aside0 (spec_l1Cur_readings.l1 kq x3_2 t342 s0_0 x1001_2 x1002_2 ((rd_T54 x3_1 t342).f0) ((rd_T54 x3_1 t342).f1) = some (r1, r2, r3)) ∧ Aside0 (kq ≤ k1) ∧ Aside0 (Kd.R k54 54 w' w.heap.size (fun k_ => k_ ≠ gb346) v3 x3_2) ∧ Aside0 (w'.heap[gb346]? = some (.cells #[.int .i64 ((rd_T54 x3_1 t342).f0), .int .i64 ((rd_T54 x3_1 t342).f1)] 54 (0, 0))) ∧ Aside0 (IsS90 w0 w' g s0_0 x1001_2 x1002_2) ∧ Aside0 (KeepBut w w' g none) ∧ Aside0 (Below w0.heap.size w0 w'))
          case atStart => exact ⟨(x3_1), (t348), (t349), H', ⟨Nat.le_refl _⟩, ⟨krm_ HO_3.out (fun _ hk => hk.2)⟩, ⟨bk_ BK346.out⟩, ⟨is90_1 HI0.out NB0_346.out⟩, ⟨kb1_ HK.out GW346.out⟩, ⟨lb2_ HB.out (IsS90.ge HI0.out) GE346.out⟩⟩
          case round =>
           clear H'
           try clear c1
           try clear c2
           try clear p2
           try clear c3
           try clear p3
           try clear q3
           try clear hx3
           try clear qi3
           try clear hf3
           try clear c4
           try clear hx4
           try clear hf4
           try clear c5
           try clear p5
           try clear q5
           try clear hx5
           try clear hf5
           try clear c6
           try clear p6
           try clear hx6
           try clear hf6
           try clear c7
           try clear c8
           try clear c11
           try clear c11b0
           try clear c13
           try clear c24
           try clear c24b0
           try clear c24b1
           try clear c24b2
           try clear c27
           try clear c27b0
           try clear c28
           try clear c28b0
           try clear c30
           try clear c30b0
           try clear c30b1
           try clear c31
           try clear c31b0
           try clear c31b1
           try clear c33
           try clear p33
           try clear q33
           try clear hx33
           try clear hf33
           try clear p34
           try clear q34
           try clear hx34
           try clear p35
           try clear q35
           try clear hx35
           try clear qi35
           try clear c37
           try clear c47
           try clear hx47
           try clear hf47
           try clear c49
           try clear c49b0
           try clear c49b1
           try clear c51
           try clear p51
           try clear q51
           try clear hx51
           try clear hf51
           try clear c55
           try clear p64
           try clear c65
           try clear hx65
           try clear hf65
           try clear c67
           try clear c67b0
           try clear c67b1
           try clear c71
           try clear hcz38_0 hcz38_1
           try clear hcz44_0 hcz44_1
           try clear hcz46_0 hcz46_1
           try clear hcz56_0 hcz56_1
           try clear hcz62_0 hcz62_1
           try clear hcz64_0 hcz64_1
           try clear hcz72_0 hcz72_1
           try clear hfz38_0 hfz38_1
           try clear hfz44_0 hfz44_1
           try clear hfz46_0 hfz46_1
           try clear hfz56_0 hfz56_1
           try clear hfz62_0 hfz62_1
           try clear hfz64_0 hfz64_1
           try clear hfz72_0 hfz72_1
           try clear hx33_0
           try clear hx33_1
           try clear hx345_0
           try clear hx345_1
           try clear hx350_0
           try clear hx350_1
           try clear hx47_0
           try clear hx47_1
           try clear hx51_0
           try clear hx51_1
           try clear hx65_0
           try clear hx65_1
           try clear p2
           try clear p33
           try clear p345
           try clear p350
           try clear p51
           try clear q33
           try clear q345
           try clear q350
           try clear q51
           obtain ⟨x3_2, x1001_2, x1002_2, HA, HK2, HO_3, BK346, HI0, HK, HB⟩ := hrel
           cases gk with
           | zero => exact absurd HA.out (by simp [spec_l1Cur_readings.l1])
           | succ k2 =>
            have H := HA.out; clear HA; simp only [spec_l1Cur_readings.l1] at H; replace H := Option.bind_eq_some_iff.mp H; obtain ⟨⟨t365, t366, t367⟩, A740, H⟩ := H; replace H : (if (x3_2.length : Int) < (wrap64 (15 + t365)) then (if x3_2.length < 8796093022208 then (spec_l1Cur_readings.l1 k2 (x3_2 ++ [(⟨wrap64 (980 + (x3_2.length : Int)), 2⟩ : S54)]) t342 s0_0 t366 t367 ((rd_T54 x3_1 t342).f0) ((rd_T54 x3_1 t342).f1)) else (none)) else (if 0 ≤ t342 then (if t342 < (x3_2.length : Int) then (some ((x3_2.set (t342 : Int).toNat (⟨((rd_T54 x3_1 t342).f0), ((rd_T54 x3_1 t342).f1)⟩ : S54)), t366, t367)) else (none)) else (none))) = some (r1, r2, r3) := H; have A74 := Aside0.mk A740; clear A740
            by_cases c75 : (x3_2.length : Int) < (wrap64 (15 + t365))
            ·
             rw [if_pos c75] at H
             have c75b0 : decide ((x3_2.length : Int) < (wrap64 (15 + t365))) = true := decide_eq_true c75; clear c75
             by_cases c76 : x3_2.length < 8796093022208
             ·
              rw [if_pos c76] at H
              have LMc76 := Aside0.mk c76; clear c76
              obtain ⟨y368, hy368⟩ : ∃ y_ : List (S54), y_ = (x3_2 ++ [(⟨wrap64 (980 + (x3_2.length : Int)), 2⟩ : S54)]) := ⟨_, rfl⟩
              replace H : (spec_l1Cur_readings.l1 k2 y368 t342 s0_0 t366 t367 ((rd_T54 x3_1 t342).f0) ((rd_T54 x3_1 t342).f1)) = some (r1, r2, r3) := by first | (rw [hy368]; with_reducible exact H) | (have H2_ := (Option.bind_some _ _).symm.trans H; rw [hy368]; with_reducible exact H2_) | (have H2_ := (Option.bind_some _ _).symm.trans H; with_reducible exact H2_) | with_reducible exact H | (rw [hy368]; exact H) | exact H
              have Ny368 := Aside0.mk hy368; clear hy368; have H' := Aside0.mk H; clear H; obtain ⟨Ao77, co77, eo77⟩ := Kd.R_slice HO_3.out; subst eo77
              go_wp2_with (first | ((with_reducible refine gate_callee (f := 87) rfl ?_); refine ga_ (some 66) Try.func87 #[.pointer (some ⟨g, 0, none⟩), .int .i64 2] ?_; (with_reducible refine (spec_l1Cur_pick.calls g s0_0 x1001_2 x1002_2 2 t365 t366 t367 w0 _ ?side1 ?side2 A74.out).mono ?_); (case side1 => exact is90_1 HI0.out NB0_346.out); (case side2 => exact lb2_ HB.out (IsS90.ge HI0.out) GE346.out); rintro e w78 ⟨rfl, hi, hb, hk⟩; refine ⟨_, rfl, ?_⟩; replace HO_3 := Aside0.mk (Kd.R_mono (Kd.R_keep (IsS90.apart (show IsS90 w0 _ g s0_0 x1001_2 x1002_2 from is90_1 HI0.out NB0_346.out) (kr_ HO_3.out) (by decide)) hk (fun _ h => h.2)) (fun _ h => h.1)); replace BK346 := Aside0.mk (KeepBut.blk hk (g' := gb346) (o := .cells #[.int .i64 ((rd_T54 x3_1 t342).f0), .int .i64 ((rd_T54 x3_1 t342).f1)] 54 (0, 0)) (bk_ BK346.out) NB346_0.out (by simp)); replace HK := Aside0.mk (KeepBut.trans (kb1_ HK.out GW346.out) hk (.inl rfl)); replace HB := Aside0.mk (hb); replace HI0 := Aside0.mk (hi); (try clear hb); (try clear hb2); (try clear hk); (try clear hi)) | ((with_reducible refine gate_builtin (b := .append) (xs := #[.tmp 69, .tmp 74]) rfl ?_); at_builtin; refine Kd.R_append k54 w.heap.size rfl (.tmp 69) (.tmp 74) 28 54 (.agg #[(.int .i64 0), (.int .i64 0)]) 16 rfl Try.underlying28 info54 rfl (by decide) (by omega) (.slice Ao77 x3_2.length co77) x3_2 (⟨wrap64 (980 + (x3_2.length : Int)), 2⟩ : S54) [.int .i64 (wrap64 (980 + (x3_2.length : Int))), .int .i64 2] (fun k_ => k_ ≠ gb346) (fun _ => False) rfl rfl ?aP (fun _ hk => hk.elim) ?aF ?aO (Below.refl _ _) ?aS ?aL ?_; (case aP => exact k54_mkM _ _ _ (⟨wrap64 (980 + (x3_2.length : Int)), 2⟩ : S54)); (case aF => exact (fun k_ hk => Kd.freshB (g := gb346) (o := .cells #[.int .i64 ((rd_T54 x3_1 t342).f0), .int .i64 ((rd_T54 x3_1 t342).f1)] 54 (0, 0)) (bk_ BK346.out) k_ hk)); (case aO => exact (kr_ HO_3.out)); (case aS => exact (keep_size (w := w) (g := g) (row := none) (kb1_ HK.out GW346.out))); (case aL => have := LMc76.out; omega); intro v369 w79 ho hb hg hat; rw [← Ny368.out] at ho; replace BK346 := Aside0.mk (blk_grown (g := gb346) (o := .cells #[.int .i64 ((rd_T54 x3_1 t342).f0), .int .i64 ((rd_T54 x3_1 t342).f1)] 54 (0, 0)) (bk_ BK346.out) hg (Kd.R_away HO_3.out (fun _ hk => hk))); replace HB := Aside0.mk (below_weaken (lb2_ HB.out (IsS90.ge HI0.out) GE346.out) HL.out hb); replace HI0 := Aside0.mk (IsS90.grown (is90_1 HI0.out NB0_346.out) hg (IsS90.own_ne HI0.out HO_3.out (by decide))); replace HK := Aside0.mk (KeepBut.trans (kb1_ HK.out GW346.out) (KeepBut.of_grown hg g) (Kd.R_base2 HO_3.out)); have HO370 := Aside0.mk (ho); clear HO_3; clear ho hb hg hat))
              go_roundg k2
              case measure => have := HK1.out; have := HK2.out; omega
              case rel => exact ⟨(y368), (t366), (t367), H', ⟨by have := HK1.out; have := HK2.out; omega⟩, ⟨kr_ HO370.out⟩, ⟨bk_ BK346.out⟩, ⟨is90_1 HI0.out NB0_346.out⟩, ⟨kb1_ HK.out GW346.out⟩, ⟨lb2_ HB.out (IsS90.ge HI0.out) GE346.out⟩⟩
             ·
              rw [if_neg c76] at H
              exact absurd H (by simp)
            ·
             rw [if_neg c75] at H
             have c75b0 : decide ((x3_2.length : Int) < (wrap64 (15 + t365))) = false := decide_eq_false c75; clear c75
             by_cases c80 : 0 ≤ t342
             ·
              rw [if_pos c80] at H
              have c80b0 : decide (0 ≤ t342) = true := decide_eq_true c80; clear c80
              by_cases c81 : t342 < (x3_2.length : Int)
              ·
               rw [if_pos c81] at H
               have c81b0 : decide (t342 < (x3_2.length : Int)) = true := decide_eq_true c81; clear c81
               obtain ⟨y371, hy371⟩ : ∃ y_ : List (S54), y_ = (x3_2.set (t342 : Int).toNat (⟨((rd_T54 x3_1 t342).f0), ((rd_T54 x3_1 t342).f1)⟩ : S54)) := ⟨_, rfl⟩
               replace H : (some (y371, t366, t367)) = some (r1, r2, r3) := by first | (rw [hy371]; with_reducible exact H) | (have H2_ := (Option.bind_some _ _).symm.trans H; rw [hy371]; with_reducible exact H2_) | (have H2_ := (Option.bind_some _ _).symm.trans H; with_reducible exact H2_) | with_reducible exact H | (rw [hy371]; exact H) | exact H
               have Ny371 := Aside0.mk hy371; clear hy371; simp only [Option.some.injEq, Prod.mk.injEq] at H; obtain ⟨rfl, rfl, rfl⟩ := H; obtain ⟨Ao83, co83, eo83⟩ := Kd.R_slice HO_3.out; subst eo83
               go_wp2_with (first | ((with_reducible refine gate_callee (f := 87) rfl ?_); refine ga_ (some 66) Try.func87 #[.pointer (some ⟨g, 0, none⟩), .int .i64 2] ?_; (with_reducible refine (spec_l1Cur_pick.calls g s0_0 x1001_2 x1002_2 2 t365 t366 t367 w0 _ ?side1 ?side2 A74.out).mono ?_); (case side1 => exact is90_1 HI0.out NB0_346.out); (case side2 => exact lb2_ HB.out (IsS90.ge HI0.out) GE346.out); rintro e w84 ⟨rfl, hi, hb, hk⟩; refine ⟨_, rfl, ?_⟩; replace HO_3 := Aside0.mk (Kd.R_mono (Kd.R_keep (IsS90.apart (show IsS90 w0 _ g s0_0 x1001_2 x1002_2 from is90_1 HI0.out NB0_346.out) (kr_ HO_3.out) (by decide)) hk (fun _ h => h.2)) (fun _ h => h.1)); replace BK346 := Aside0.mk (KeepBut.blk hk (g' := gb346) (o := .cells #[.int .i64 ((rd_T54 x3_1 t342).f0), .int .i64 ((rd_T54 x3_1 t342).f1)] 54 (0, 0)) (bk_ BK346.out) NB346_0.out (by simp)); replace HK := Aside0.mk (KeepBut.trans (kb1_ HK.out GW346.out) hk (.inl rfl)); replace HB := Aside0.mk (hb); replace HI0 := Aside0.mk (hi); (try clear hb); (try clear hb2); (try clear hk); (try clear hi); have hnb85 := NB346_0.out; have hnc85 := NB0_346.out; obtain ⟨hcz86_0, hcz86_1⟩ := cz2_ BK346.out; obtain ⟨hfz86_0, hfz86_1⟩ := fz2_ BK346.out; have p82 : 0 ≤ (t342 : Int) := dt_; have q82 : (t342 : Int) < ((x3_2.length : Int) : Int) := dt_; obtain ⟨go82, co82, eo82, gb82, gl82, cl82, HG82⟩ := Kd.R_form HO_3.out (by omega); (first | cases eo82 | (injection eo82 with ea_ en_ ec_; (first | subst ea_ | (injection ea_ with ea_; subst ea_)); subst ec_; clear en_)); have GB82 := Aside0.mk gb82; have GG82 := Aside0.mk HG82; clear gb82 gl82 HG82; obtain ⟨ce82, hcl82, hM82, hcc82, hfr82⟩ := Kd.R_elem HO_3.out z54 (t342 : Int) p82 q82; obtain rfl := k54_openM hM82; have hx82_0 : w84.cell? ⟨go82, (t342 : Int).toNat * 2, none⟩ = some (.int .i64 ((rd_T54 x3_2 t342).f0)) := hcc82 0 _ rfl; have hx82_1 : w84.cell? ⟨go82, (t342 : Int).toNat * 2 + 1, none⟩ = some (.int .i64 ((rd_T54 x3_2 t342).f1)) := hcc82 1 _ rfl; have hf82_0 : w84.frozen? ⟨go82, (t342 : Int).toNat * 2, none⟩ = false := hfr82 0; have hf82_1 : w84.frozen? ⟨go82, (t342 : Int).toNat * 2 + 1, none⟩ = false := hfr82 1; clear hcl82 hcc82 hfr82 hM82; replace p82 := eq_true p82; replace q82 := eq_true q82; have HX87 := Aside0.mk (show Kd.R k54 54 w84 w.heap.size (fun k_ => k_ ≠ gb346) (.slice (some ⟨go82, 0, none⟩) x3_2.length co83) x3_2 from (kr_ HO_3.out)); obtain ⟨ce87, hcl87, hM87, hcc87, hfr87⟩ := Kd.R_elem HX87.out z54 (t342 : Int) (dt_) (by have h_ : (t342 : Int) < ((x3_2.length : Int) : Int) := dt_; first | exact h_ | (have e_ := (Kd.R_reads' HO_3.out).1; omega) | simpa using h_); obtain rfl := k54_openM hM87; have HP87 := Kd.R_seg HX87.out (t342 : Int) (dt_) (by have h_ : (t342 : Int) < ((x3_2.length : Int) : Int) := dt_; first | exact h_ | (have e_ := (Kd.R_reads' HO_3.out).1; omega) | simpa using h_) (seg := [.int .i64 ((rd_T54 x3_1 t342).f0), .int .i64 ((rd_T54 x3_1 t342).f1)]) (j := 0) hcl87 hcc87 (show 2 ≤ 2 from by decide) (x' := (⟨((rd_T54 x3_1 t342).f0), ((rd_T54 x3_1 t342).f1)⟩ : S54)) (k54_mkM _ _ _ (⟨((rd_T54 x3_1 t342).f0), ((rd_T54 x3_1 t342).f1)⟩ : S54) ) (fun _ hk => hk); have hx87_0 := hcc87 0 _ rfl; (try simp only [show (k54).sz = 2 from rfl, Nat.mul_one, Nat.add_zero] at hx87_0); have hf87_0 := hfr87 0; (try simp only [show (k54).sz = 2 from rfl, Nat.mul_one, Nat.add_zero] at hf87_0); have hx87_1 := hcc87 1 _ rfl; (try simp only [show (k54).sz = 2 from rfl, Nat.mul_one, Nat.add_zero] at hx87_1); have hf87_1 := hfr87 1; (try simp only [show (k54).sz = 2 from rfl, Nat.mul_one, Nat.add_zero] at hf87_1); clear hcl87 hcc87 hfr87 hM87) | ((with_reducible refine gate_store (t := 54) (p := 79) rfl ?_); refine store_event (t := 54) (p := 79) (v := ?vo_w88) (w1 := ((w84.setCell ⟨go82, (t342 : Int).toNat * 2, none⟩ (.int .i64 ((rd_T54 x3_1 t342).f0))).setCell ⟨go82, (t342 : Int).toNat * 2 + 1, none⟩ (.int .i64 ((rd_T54 x3_1 t342).f1)))) ?hg ?ho ?hn ?hr ?_; (case ho => rfl); (case hg => rfl); (case hn => rfl); (case hr => first | (go_simp; done) | (go_simp; rfl)); intro w88 hw; have hg : w84.grownBy w88 (some go82) := (by rw [hw]; exact HP87.2); have hp_ : Kd.R k54 54 w88 w.heap.size (fun k_ => k_ ≠ gb346) (.slice (some ⟨go82, 0, none⟩) x3_2.length co83) y371 := (by rw [hw, Ny371.out]; exact HP87.1); clear HP87; replace BK346 := Aside0.mk (blk_grown (g := gb346) (o := .cells #[.int .i64 ((rd_T54 x3_1 t342).f0), .int .i64 ((rd_T54 x3_1 t342).f1)] 54 (0, 0)) (bk_ BK346.out) hg (Kd.R_away HO_3.out (fun _ hk => hk))); replace HI0 := Aside0.mk (IsS90.grown (is90_1 HI0.out NB0_346.out) hg (IsS90.own_ne HI0.out HO_3.out (by decide))); replace HB := Aside0.mk ((by rw [hw]; exact below_set (below_set (HB.out) (Nat.le_trans HL.out GB82.out)) (Nat.le_trans HL.out GB82.out) : Below w0.heap.size w0 w88)); replace HK := Aside0.mk (KeepBut.trans (kb1_ HK.out GW346.out) (KeepBut.of_grown hg g) (Kd.R_base2 HO_3.out)); replace HO_3 := Aside0.mk (hp_); clear hg hw hp_))
               go_ret
               exact ⟨_, rr_, krm_ HO_3.out (fun _ hk => trivial), is90_1 HI0.out NB0_346.out, lb2_ HB.out (IsS90.ge HI0.out) GE346.out, kb1_ HK.out GW346.out⟩
              ·
               rw [if_neg c81] at H
               exact absurd H (by simp)
             ·
              rw [if_neg c80] at H
              exact absurd H (by simp)
         ·
          rw [if_neg c67] at H
          have c67b0 : (t347 == 2) = false := beq_eq_false_iff_ne.mpr c67; have c67b1 : (t347 != 2) = true := bne_iff_ne.mpr c67
          obtain ⟨y372, hy372⟩ : ∃ y_ : List (S54), y_ = (x3_1.set (t342 : Int).toNat (⟨(rd_T54 x3_1 t342).f0, (rd_T54 x3_1 t342).f1⟩ : S54)) := ⟨_, rfl⟩
          replace H : (some (y372, t348, t349)) = some (r1, r2, r3) := by first | (rw [hy372]; with_reducible exact H) | (have H2_ := (Option.bind_some _ _).symm.trans H; rw [hy372]; with_reducible exact H2_) | (have H2_ := (Option.bind_some _ _).symm.trans H; with_reducible exact H2_) | with_reducible exact H | (rw [hy372]; exact H) | exact H
          have Ny372 := Aside0.mk hy372; clear hy372; simp only [Option.some.injEq, Prod.mk.injEq] at H; obtain ⟨rfl, rfl, rfl⟩ := H; obtain ⟨Ao90, co90, eo90⟩ := Kd.R_slice HO_3.out; subst eo90
          go_wp2_with (first | ((with_reducible refine gate_callee (f := 87) rfl ?_); refine ga_ (some 38) Try.func87 #[.pointer (some ⟨g, 0, none⟩), .int .i64 (x3_1.length : Int)] ?_; (with_reducible refine (spec_l1Cur_pick.calls g s0_0 x1001_1 x1002_1 (x3_1.length : Int) t342 t343 t344 w0 _ ?side1 ?side2 A26.out).mono ?_); (case side1 => exact is90_0 HI0.out); (case side2 => exact lb1_ HB.out (IsS90.ge HI0.out)); rintro e w91 ⟨rfl, hi, hb, hk⟩; refine ⟨_, rfl, ?_⟩; replace HO_3 := Aside0.mk (Kd.R_mono (Kd.R_keep (IsS90.apart (show IsS90 w0 _ g s0_0 x1001_1 x1002_1 from is90_0 HI0.out) (kr_ HO_3.out) (by decide)) hk (fun _ h => h.2)) (fun _ h => h.1)); replace HK := Aside0.mk (KeepBut.trans (kb0_ HK.out) hk (.inl rfl)); replace HB := Aside0.mk (hb); replace HI0 := Aside0.mk (hi); (try clear hb); (try clear hb2); (try clear hk); (try clear hi); have p345 : 0 ≤ (t342 : Int) := dt_; have q345 : t342 < (x3_1.length : Int) := dt_; obtain ⟨ad345, e345, hx345_0, hx345_1⟩ := at_T54 (Kd.R_reads' HO_3.out).2.2 t342 p345 q345; cases e345; replace p345 := eq_true p345; replace q345 := eq_true q345) | ((with_reducible refine gate_dst (N := 7) rfl ?_); refine box_event ?hg (N := 7) ?hd (cs := #[.int .i64 0, .int .i64 0]) (t := 54) ?hr ?_; (case hd => rfl); (case hg => rfl); (case hr => first | (go_simp; done) | (go_simp; rfl)); intro gb346 hg w92 hbox hb; replace HO_3 := Aside0.mk (Kd.R_below (Kd.R_elderB (kr_ HO_3.out) gb346 (Nat.le_of_eq hg.symm)) hb); replace HB := Aside0.mk (below_step (lb1_ HB.out (IsS90.ge HI0.out)) hb); have BK346 := Aside0.mk (hbox); have GW346 := Aside0.mk ((by rw [hg]; exact (keep_size (w := w) (g := g) (row := none) (kb0_ HK.out)) : w.heap.size ≤ gb346)); have GE346 := Aside0.mk ((Nat.le_trans HW0.out (by rw [hg]; exact (keep_size (w := w) (g := g) (row := none) (kb0_ HK.out)) : w.heap.size ≤ gb346) : w0.heap.size ≤ gb346)); replace HK := Aside0.mk (KeepBut.trans (kb0_ HK.out) (KeepBut.of_below hb g none) (.inl rfl)); have NB0_346 := Aside0.mk ((by rw [hg]; exact Nat.ne_of_lt (IsS90.lt (show IsS90 w0 _ g s0_0 t343 t344 from is90_0 HI0.out)) : g ≠ gb346)); have NB346_0 := Aside0.mk ((by rw [hg]; exact Nat.ne_of_gt (IsS90.lt (show IsS90 w0 _ g s0_0 t343 t344 from is90_0 HI0.out)) : gb346 ≠ g)); replace HI0 := Aside0.mk (IsS90.below (is90_0 HI0.out) hb); clear hb hbox hg; have hnb93 := NB346_0.out; have hnc93 := NB0_346.out; obtain ⟨hcz94_0, hcz94_1⟩ := cz2_ BK346.out; obtain ⟨hfz94_0, hfz94_1⟩ := fz2_ BK346.out) | ((with_reducible refine gate_callee (f := 87) rfl ?_); refine ga_ (some 44) Try.func87 #[.pointer (some ⟨g, 0, none⟩), .int .i64 50] ?_; (with_reducible refine (spec_l1Cur_pick.calls g s0_0 t343 t344 50 t347 t348 t349 w0 _ ?side1 ?side2 A29.out).mono ?_); (case side1 => exact is90_1 HI0.out NB0_346.out); (case side2 => exact lb2_ HB.out (IsS90.ge HI0.out) GE346.out); rintro e w95 ⟨rfl, hi, hb, hk⟩; refine ⟨_, rfl, ?_⟩; replace HO_3 := Aside0.mk (Kd.R_mono (Kd.R_keep (IsS90.apart (show IsS90 w0 _ g s0_0 t343 t344 from is90_1 HI0.out NB0_346.out) (by (with_reducible repeat (first | apply Kd.R_alloc | apply Kd.R_drewN | apply Kd.R_drew)); exact (Kd.R_mono (Kd.R_far (p := ⟨gb346, 1, none⟩) (Kd.R_far (p := ⟨gb346, 0, none⟩) (Kd.R_mono HO_3.out (fun k_ hk => (⟨hk, hk.2⟩ : _ ∧ k_ ≠ gb346))) (fun _ hk => hk.2) (.int .i64 ((rd_T54 x3_1 t342).f0))) (fun _ hk => hk.2) (.int .i64 ((rd_T54 x3_1 t342).f1))) (fun _ h_ => h_.1))) (by decide)) hk (fun _ h => h.2)) (fun _ h => h.1)); replace BK346 := Aside0.mk (KeepBut.blk hk (g' := gb346) (o := .cells #[.int .i64 ((rd_T54 x3_1 t342).f0), .int .i64 ((rd_T54 x3_1 t342).f1)] 54 (0, 0)) (by (with_reducible repeat (first | refine blk_drewN ?_ _ | refine blk_drew ?_ | refine blk_alloc ?_ _)); exact (p2_ BK346.out _ _)) NB346_0.out (by simp)); replace HK := Aside0.mk (KeepBut.trans (kb1_ HK.out GW346.out) hk (.inl rfl)); replace HB := Aside0.mk (hb); replace HI0 := Aside0.mk (hi); (try clear hb); (try clear hb2); (try clear hk); (try clear hi); obtain ⟨hcz96_0, hcz96_1⟩ := cz2_ BK346.out; obtain ⟨hfz96_0, hfz96_1⟩ := fz2_ BK346.out; have p89 : 0 ≤ (t342 : Int) := dt_; have q89 : (t342 : Int) < ((x3_1.length : Int) : Int) := dt_; obtain ⟨go89, co89, eo89, gb89, gl89, cl89, HG89⟩ := Kd.R_form HO_3.out (by omega); (first | cases eo89 | (injection eo89 with ea_ en_ ec_; (first | subst ea_ | (injection ea_ with ea_; subst ea_)); subst ec_; clear en_)); have GB89 := Aside0.mk gb89; have GG89 := Aside0.mk HG89; clear gb89 gl89 HG89; (first | simp only [add_plain] at hx345_0 | skip); (first | simp only [add_plain] at hx345_1 | skip); obtain ⟨ce89, hcl89, hM89, hcc89, hfr89⟩ := Kd.R_elem HO_3.out z54 (t342 : Int) p89 q89; obtain rfl := k54_openM hM89; have hx89_0 : w95.cell? ⟨go89, (t342 : Int).toNat * 2, none⟩ = some (.int .i64 ((rd_T54 x3_1 t342).f0)) := hcc89 0 _ rfl; have hx89_1 : w95.cell? ⟨go89, (t342 : Int).toNat * 2 + 1, none⟩ = some (.int .i64 ((rd_T54 x3_1 t342).f1)) := hcc89 1 _ rfl; have hf89_0 : w95.frozen? ⟨go89, (t342 : Int).toNat * 2, none⟩ = false := hfr89 0; have hf89_1 : w95.frozen? ⟨go89, (t342 : Int).toNat * 2 + 1, none⟩ = false := hfr89 1; clear hcl89 hcc89 hfr89 hM89; replace p89 := eq_true p89; replace q89 := eq_true q89; have n_ := Aside0.mk (Kd.R_mono (ok' := (fun k_ => k_ ≠ gb346)) HO_3.out (fun k_ hk => hk.2)); clear HO_3; have HO_3 := n_; clear n_; have HX97 := Aside0.mk (show Kd.R k54 54 w95 w.heap.size (fun k_ => k_ ≠ gb346) (.slice (some ⟨go89, 0, none⟩) x3_1.length co90) x3_1 from (kr_ HO_3.out)); obtain ⟨ce97, hcl97, hM97, hcc97, hfr97⟩ := Kd.R_elem HX97.out z54 (t342 : Int) (dt_) (by have h_ : (t342 : Int) < ((x3_1.length : Int) : Int) := dt_; first | exact h_ | (have e_ := (Kd.R_reads' HO_3.out).1; omega) | simpa using h_); obtain rfl := k54_openM hM97; have HP97 := Kd.R_seg HX97.out (t342 : Int) (dt_) (by have h_ : (t342 : Int) < ((x3_1.length : Int) : Int) := dt_; first | exact h_ | (have e_ := (Kd.R_reads' HO_3.out).1; omega) | simpa using h_) (seg := [.int .i64 ((rd_T54 x3_1 t342).f0), .int .i64 ((rd_T54 x3_1 t342).f1)]) (j := 0) hcl97 hcc97 (show 2 ≤ 2 from by decide) (x' := (⟨(rd_T54 x3_1 t342).f0, (rd_T54 x3_1 t342).f1⟩ : S54)) (k54_mkM _ _ _ (⟨(rd_T54 x3_1 t342).f0, (rd_T54 x3_1 t342).f1⟩ : S54) ) (fun _ hk => hk); have hx97_0 := hcc97 0 _ rfl; (try simp only [show (k54).sz = 2 from rfl, Nat.mul_one, Nat.add_zero] at hx97_0); have hf97_0 := hfr97 0; (try simp only [show (k54).sz = 2 from rfl, Nat.mul_one, Nat.add_zero] at hf97_0); have hx97_1 := hcc97 1 _ rfl; (try simp only [show (k54).sz = 2 from rfl, Nat.mul_one, Nat.add_zero] at hx97_1); have hf97_1 := hfr97 1; (try simp only [show (k54).sz = 2 from rfl, Nat.mul_one, Nat.add_zero] at hf97_1); clear hcl97 hcc97 hfr97 hM97) | ((with_reducible refine gate_store (t := 54) (p := 79) rfl ?_); refine store_event (t := 54) (p := 79) (v := ?vo_w98) (w1 := ((w95.setCell ⟨go89, (t342 : Int).toNat * 2, none⟩ (.int .i64 ((rd_T54 x3_1 t342).f0))).setCell ⟨go89, (t342 : Int).toNat * 2 + 1, none⟩ (.int .i64 ((rd_T54 x3_1 t342).f1)))) ?hg ?ho ?hn ?hr ?_; (case ho => rfl); (case hg => rfl); (case hn => rfl); (case hr => first | (go_simp; done) | (go_simp; rfl)); intro w98 hw; have hg : w95.grownBy w98 (some go89) := (by rw [hw]; exact HP97.2); have hp_ : Kd.R k54 54 w98 w.heap.size (fun k_ => k_ ≠ gb346) (.slice (some ⟨go89, 0, none⟩) x3_1.length co90) y372 := (by rw [hw, Ny372.out]; exact HP97.1); clear HP97; replace HI0 := Aside0.mk (IsS90.grown (is90_1 HI0.out NB0_346.out) hg (IsS90.own_ne HI0.out HO_3.out (by decide))); replace BK346 := Aside0.mk (blk_grown (g := gb346) (o := .cells #[.int .i64 ((rd_T54 x3_1 t342).f0), .int .i64 ((rd_T54 x3_1 t342).f1)] 54 (0, 0)) (bk_ BK346.out) hg (Kd.R_away HO_3.out (fun _ hk => hk))); replace HB := Aside0.mk ((by rw [hw]; exact below_set (below_set (HB.out) (Nat.le_trans HL.out GB89.out)) (Nat.le_trans HL.out GB89.out) : Below w0.heap.size w0 w98)); replace HK := Aside0.mk (KeepBut.trans (kb1_ HK.out GW346.out) (KeepBut.of_grown hg g) (Kd.R_base2 HO_3.out)); replace HO_3 := Aside0.mk (hp_); clear hg hw hp_))
          go_ret
          exact ⟨_, rr_, krm_ HO_3.out (fun _ hk => trivial), is90_1 HI0.out NB0_346.out, lb2_ HB.out (IsS90.ge HI0.out) GE346.out, kb1_ HK.out GW346.out⟩
      ·
       rw [if_neg c28] at H
       exact absurd H (by simp)
     ·
      rw [if_neg c27] at H
      exact absurd H (by simp)
def spec_l1Cur_one.f (s0_0 : List Int) (s0_1 : Int) (s0_2 : Int) (a1 : Int) : Option (Bool × Int × Int) := (spec_l1Cur_pick.f s0_0 s0_1 s0_2 a1).bind fun bt373 => (some ((bt373.1 == 0), bt373.2.1, bt373.2.2))
set_option maxHeartbeats 8000000 in
set_option maxRecDepth 100000 in
theorem spec_l1Cur_one.calls (g : Nat) (s0_0 : List Int) (s0_1 : Int) (s0_2 : Int) (a1 : Int) (r1 : Bool) (r2 : Int) (r3 : Int) (w0 w : World) (hI : IsS90 w0 w g s0_0 s0_1 s0_2) (hB : Below w0.heap.size w0 w) (h : spec_l1Cur_one.f s0_0 s0_1 s0_2 a1 = some (r1, r2, r3)) :
  Calls Try.prog 92 #[.pointer (some ⟨g, 0, none⟩), .int .i64 a1] w fun e w' => e = .returned (.bool r1) ∧ IsS90 w0 w' g s0_0 r2 r3 ∧ Below w0.heap.size w0 w' ∧ KeepBut w w' g none := by
 have HI0 := Aside0.mk hI
 have HK := Aside0.mk (KeepBut.refl w g none)
 have HL := Aside0.mk hB.size
 clear hI
 have HW0 := Aside0.mk hB.size
 have HB := Aside0.mk hB
 clear hB
 have H : ((spec_l1Cur_pick.f s0_0 s0_1 s0_2 a1).bind fun bt373 => (some ((bt373.1 == 0), bt373.2.1, bt373.2.2))) = some (r1, r2, r3) := h
 clear h
 replace H := Option.bind_eq_some_iff.mp H
 obtain ⟨⟨t373, t374, t375⟩, A30, H⟩ := H
 replace H : (some ((t373 == 0), t374, t375)) = some (r1, r2, r3) := H
 have A3 := Aside0.mk A30
 clear A30
 simp only [Option.some.injEq, Prod.mk.injEq] at H
 obtain ⟨rfl, rfl, rfl⟩ := H
 go_enter Try.func92, Try.ntmps92
 go_wp2_with (first | ((with_reducible refine gate_callee (f := 87) rfl ?_); refine ga_ (some 7) Try.func87 #[.pointer (some ⟨g, 0, none⟩), .int .i64 a1] ?_; (with_reducible refine (spec_l1Cur_pick.calls g s0_0 s0_1 s0_2 a1 t373 t374 t375 w0 _ ?side1 ?side2 A3.out).mono ?_); (case side1 => exact is90_0 HI0.out); (case side2 => exact lb1_ HB.out (IsS90.ge HI0.out)); rintro e w4 ⟨rfl, hi, hb, hk⟩; refine ⟨_, rfl, ?_⟩; replace HK := Aside0.mk (KeepBut.trans (kb0_ HK.out) hk (.inl rfl)); replace HB := Aside0.mk (hb); replace HI0 := Aside0.mk (hi); (try clear hb); (try clear hb2); (try clear hk); (try clear hi)))
 go_ret
 exact ⟨rr_, is90_0 HI0.out, lb1_ HB.out (IsS90.ge HI0.out), kb0_ HK.out⟩
def spec_l1Cur_hour23.j0 : Nat → List (S54) → Bool → List Int → Int → Int → Option (Int × Int × Int)
 | 0, _, _, _, _, _ => none
 | k + 1, x1, x12, x1000, x1001, x1002 => if x12 = true then ((spec_l1Cur_pick.f x1000 x1001 x1002 (x1.length : Int)).bind fun bt379 => (if 0 ≤ bt379.1 then (if bt379.1 < (x1.length : Int) then ((spec_l1Cur_among.f x1000 bt379.2.1 bt379.2.2 (([0, 1, 2, (-1)] : List Int))).bind fun bt386 => (some (wrap64 (((rd_T54 x1 bt379.1).f0) + bt386.1), bt386.2.1, bt386.2.2))) else (none)) else (none))) else ((spec_l1Cur_among.f x1000 x1001 x1002 (([0, 6, 905, 999, (-1), 1000] : List Int))).bind fun bt392 => (some (bt392.1, bt392.2.1, bt392.2.2)))
def spec_l1Cur_hour23.f (k : Nat) (s0_0 : List Int) (s0_1 : Int) (s0_2 : Int) (l1 : List (S54)) : Option (Int × Int × Int) := if (l1.length : Int) > 0 then ((spec_l1Cur_one.f s0_0 s0_1 s0_2 4).bind fun bt376 => (spec_l1Cur_hour23.j0 k l1 (!bt376.1) s0_0 bt376.2.1 bt376.2.2)) else (spec_l1Cur_hour23.j0 k l1 false s0_0 s0_1 s0_2)
def spec_l1Cur_hour23.T2 : Bool × List (List Nat × List Nat) := (true, [([], []), ([], []), ([], []), ([2], [2]), ([1, 3], [1, 3]), ([0, 4], [0, 4]), ([5], [5]), ([6], [6]), ([], []), ([], []), ([8, 9, 4], [8, 9]), ([7, 10], [7, 10]), ([11, 10, 0, 1, 2, 3, 4, 5, 6, 7, 8, 9, 10, 11], [11])])
def spec_l1Cur_hour23.B2 : List Nat := [0, 0, 0, 4, 14, 31, 63, 127, 0, 0, 798, 2047, 4095]
theorem spec_l1Cur_hour23.tab2 : rtab .any (opsOf Try.f68 2) = spec_l1Cur_hour23.T2 := by kernel_rfl
theorem spec_l1Cur_hour23.bits2 : waitsOk spec_l1Cur_hour23.T2.2 spec_l1Cur_hour23.B2 = true := by kernel_rfl
abbrev spec_l1Cur_hour23.mk0 : Array Bool := #[fF,fF,fF,fF,fF,fF,fF,fF,fF,fF,fF,fF,fF]
abbrev spec_l1Cur_hour23.mk1 : Array Bool := #[tT,fF,fF,fF,fF,fF,fF,fF,fF,fF,fF,fF,fF]
abbrev spec_l1Cur_hour23.mk2 : Array Bool := #[tT,tT,fF,fF,fF,fF,fF,fF,fF,fF,fF,fF,fF]
abbrev spec_l1Cur_hour23.mk3 : Array Bool := #[tT,tT,tT,fF,fF,fF,fF,fF,fF,fF,fF,fF,fF]
abbrev spec_l1Cur_hour23.mk4 : Array Bool := #[tT,tT,tT,fF,fF,fF,fF,fF,tT,fF,fF,fF,fF]
set_option maxHeartbeats 8000000 in
set_option maxRecDepth 100000 in
theorem spec_l1Cur_hour23.calls (k : Nat) (g : Nat) (s0_0 : List Int) (s0_1 : Int) (s0_2 : Int) (A1 : Option Addr) (c1 : Nat) (l1 : List (S54)) (r1 : Int) (r2 : Int) (r3 : Int) (w0 w : World) (hI : IsS90 w0 w g s0_0 s0_1 s0_2) (hB : Below w0.heap.size w0 w) (hr1 : ∀ W_, KeepBut w W_ g none → Kd.C k54 W_ A1 l1.length l1) (hc1 : l1.length ≤ c1) (h : spec_l1Cur_hour23.f k s0_0 s0_1 s0_2 l1 = some (r1, r2, r3)) :
  Calls Try.prog 68 #[.pointer (some ⟨g, 0, none⟩), .slice A1 l1.length c1] w fun e w' => e = .returned (.int .i64 r1) ∧ IsS90 w0 w' g s0_0 r2 r3 ∧ Below w0.heap.size w0 w' ∧ KeepBut w w' g none := by
 have HR1 := Aside0.mk hr1
 have HC1 := Aside0.mk hc1
 clear hr1 hc1
 have HI0 := Aside0.mk hI
 have HK := Aside0.mk (KeepBut.refl w g none)
 have HL := Aside0.mk hB.size
 clear hI
 have HW0 := Aside0.mk hB.size
 have HB := Aside0.mk hB
 clear hB
 have H : (if (l1.length : Int) > 0 then ((spec_l1Cur_one.f s0_0 s0_1 s0_2 4).bind fun bt376 => (spec_l1Cur_hour23.j0 k l1 (!bt376.1) s0_0 bt376.2.1 bt376.2.2)) else (spec_l1Cur_hour23.j0 k l1 false s0_0 s0_1 s0_2)) = some (r1, r2, r3) := h
 clear h
 have HC3 := Aside0.mk H
 clear H
 go_enter Try.func68, Try.ntmps68
 go_upto_region 1 with (fail)
 go_cut [12] (fun v12 wc => ∃ (kq : Nat) (x12_2 : Bool) (x1001_2 : Int) (x1002_2 : Int), v12 = .bool x12_2 ∧ Aside0 (spec_l1Cur_hour23.j0 kq l1 x12_2 s0_0 x1001_2 x1002_2 = some (r1, r2, r3)) ∧ Aside0 (kq ≤ k) ∧ Aside0 (IsS90 w0 wc g s0_0 x1001_2 x1002_2) ∧ Aside0 (KeepBut w wc g none) ∧ Aside0 (Below w0.heap.size w0 wc))
 case first =>
  have H := HC3.out
  clear HC3
  by_cases c4 : (l1.length : Int) > 0
  ·
   rw [if_pos c4] at H
   have c4b0 : decide (0 < (l1.length : Int)) = true := decide_eq_true c4
   have c4b1 : decide (0 < l1.length) = true := decide_eq_true (by omega)
   clear c4
   (first | rw [c4b0] | (simp only [i64_w, i32_w]; rw [c4b0]) | skip)
   replace H := Option.bind_eq_some_iff.mp H
   obtain ⟨⟨t376, t377, t378⟩, A50, H⟩ := H
   replace H : (spec_l1Cur_hour23.j0 k l1 (!t376) s0_0 t377 t378) = some (r1, r2, r3) := H
   have A5 := Aside0.mk A50
   clear A50
   have H' := Aside0.mk H
   clear H
   go_wp2_with (first | (go_at_call 92; (with_reducible refine (spec_l1Cur_one.calls g s0_0 s0_1 s0_2 4 t376 t377 t378 w0 _ ?side1 ?side2 A5.out).mono ?_); (case side1 => exact is90_0 HI0.out); (case side2 => exact lb1_ HB.out (IsS90.ge HI0.out)); rintro e w6 ⟨rfl, hi, hb, hk⟩; replace HK := Aside0.mk (KeepBut.trans (kb0_ HK.out) hk (.inl rfl)); replace HB := Aside0.mk (hb); replace HI0 := Aside0.mk (hi); (try clear hb); (try clear hb2); (try clear hk); (try clear hi)))
   go_meet
   case rel => exact ⟨_, (!t376), (t377), (t378), (by first | rfl | (simp; done) | (simp [*]; done)), H', ⟨by first | omega | exact Nat.le_refl _⟩, ⟨is90_0 HI0.out⟩, ⟨kb0_ HK.out⟩, ⟨lb1_ HB.out (IsS90.ge HI0.out)⟩⟩
  ·
   rw [if_neg c4] at H
   have c4b0 : decide (0 < (l1.length : Int)) = false := decide_eq_false c4
   have c4b1 : decide (0 < l1.length) = false := decide_eq_false (by omega)
   clear c4
   (first | rw [c4b0] | (simp only [i64_w, i32_w]; rw [c4b0]) | skip)
   have H' := Aside0.mk H
   clear H
   go_wp2
   go_meet
   case rel => exact ⟨_, (false), (s0_1), (s0_2), (by first | rfl | (simp; done) | (simp [*]; done)), H', ⟨by first | omega | exact Nat.le_refl _⟩, ⟨is90_0 HI0.out⟩, ⟨kb0_ HK.out⟩, ⟨lb1_ HB.out (IsS90.ge HI0.out)⟩⟩
 case rest =>
  clear HC3
  try clear c1
  try clear p2
  try clear c4
  try clear c4b0
  try clear c4b1
  try clear c6
  obtain ⟨kq, x12_2, x1001_2, x1002_2, rfl, HA, HJ2, HI0, HK, HB⟩ := hcut
  cases kq with
  | zero => exact absurd HA.out (by simp [spec_l1Cur_hour23.j0])
  | succ kj2 =>
   have H := HA.out
   clear HA
   simp only [spec_l1Cur_hour23.j0] at H
   by_cases c7 : x12_2 = true
   ·
    subst c7
    have H1 : ((spec_l1Cur_pick.f s0_0 x1001_2 x1002_2 (l1.length : Int)).bind fun bt379 => (if 0 ≤ bt379.1 then (if bt379.1 < (l1.length : Int) then ((spec_l1Cur_among.f s0_0 bt379.2.1 bt379.2.2 (([0, 1, 2, (-1)] : List Int))).bind fun bt386 => (some (wrap64 (((rd_T54 l1 bt379.1).f0) + bt386.1), bt386.2.1, bt386.2.2))) else (none)) else (none))) = some (r1, r2, r3) := by rw [if_pos rfl] at H; exact H
    clear H
    have H := H1
    clear H1
    replace H := Option.bind_eq_some_iff.mp H
    obtain ⟨⟨t379, t380, t381⟩, A80, H⟩ := H
    replace H : (if 0 ≤ t379 then (if t379 < (l1.length : Int) then ((spec_l1Cur_among.f s0_0 t380 t381 (([0, 1, 2, (-1)] : List Int))).bind fun bt386 => (some (wrap64 (((rd_T54 l1 t379).f0) + bt386.1), bt386.2.1, bt386.2.2))) else (none)) else (none)) = some (r1, r2, r3) := H
    have A8 := Aside0.mk A80
    clear A80
    by_cases c9 : 0 ≤ t379
    ·
     rw [if_pos c9] at H
     have c9b0 : decide (0 ≤ t379) = true := decide_eq_true c9
     clear c9
     by_cases c10 : t379 < (l1.length : Int)
     ·
      rw [if_pos c10] at H
      have c10b0 : decide (t379 < (l1.length : Int)) = true := decide_eq_true c10
      clear c10
      obtain ⟨y383, hy383⟩ : ∃ y_ : List Int, y_ = (([0, 1, 2, (-1)] : List Int)) := ⟨_, rfl⟩
      replace H : ((spec_l1Cur_among.f s0_0 t380 t381 y383).bind fun bt386 => (some (wrap64 (((rd_T54 l1 t379).f0) + bt386.1), bt386.2.1, bt386.2.2))) = some (r1, r2, r3) := by first | (rw [hy383]; with_reducible exact H) | (have H2_ := (Option.bind_some _ _).symm.trans H; rw [hy383]; with_reducible exact H2_) | (have H2_ := (Option.bind_some _ _).symm.trans H; with_reducible exact H2_) | with_reducible exact H | (rw [hy383]; exact H) | exact H
      have Ny383 := Aside0.mk hy383
      clear hy383
      replace H := Option.bind_eq_some_iff.mp H
      obtain ⟨⟨t386, t387, t388⟩, A110, H⟩ := H
      replace H : (some (wrap64 (((rd_T54 l1 t379).f0) + t386), t387, t388)) = some (r1, r2, r3) := H
      have A11 := Aside0.mk A110
      clear A110
      simp only [Option.some.injEq, Prod.mk.injEq] at H
      obtain ⟨rfl, rfl, rfl⟩ := H
      try go_wp2
      replace HI0 := Aside0.mk (IsS90.drew HI0.out)
      replace HK := Aside0.mk (keep_drew HK.out)
      replace HB := Aside0.mk (below_drew1 HB.out)
      have p382 : 0 ≤ (t379 : Int) := dt_
      have q382 : t379 < (l1.length : Int) := dt_
      obtain ⟨ad382, e382, hx382_0, hx382_1⟩ := at_T54 (Kd.C_foot_now HR1.out HK.out) t379 p382 q382
      have hw382_1 := hx382_1
      have hw382_0 := hx382_0
      cases e382
      have hne382_1 := (show (⟨(ad382.add ((t379).toNat * 2)).block, (ad382.add ((t379).toNat * 2)).off + 1, none⟩ : Addr).block ≠ g from by first | (rw [add_block]; exact Kd.foot_ne HR1.out (by omega) (by decide)) | (show (Addr.add _ _).block ≠ _; rw [add_block]; exact Kd.foot_ne HR1.out (by omega) (by decide)) | exact Kd.foot_ne HR1.out (by omega) (by decide) | (dsimp only; exact Kd.foot_ne HR1.out (by omega) (by decide)))
      have hlt382_1 := (Kd.foot_lt HR1.out (by omega) (by decide))
      have hne382_0 := (show ((ad382.add ((t379).toNat * 2)) : Addr).block ≠ g from by first | (rw [add_block]; exact Kd.foot_ne HR1.out (by omega) (by decide)) | (show (Addr.add _ _).block ≠ _; rw [add_block]; exact Kd.foot_ne HR1.out (by omega) (by decide)) | exact Kd.foot_ne HR1.out (by omega) (by decide) | (dsimp only; exact Kd.foot_ne HR1.out (by omega) (by decide)))
      have hlt382_0 := (Kd.foot_lt HR1.out (by omega) (by decide))
      replace p382 := eq_true p382
      replace q382 := eq_true q382
      refine start_ (n := 13) (S := fun w' => True) (ds := []) spec_l1Cur_hour23.mk0 (by kernel_rfl) rfl rfl trivial (fun hHeld => ?_); refine with_tabW spec_l1Cur_hour23.tab2 spec_l1Cur_hour23.bits2 (fun HT_ HW_ => ?_)
      generalize wc.drew = w12 at HI0 HK HB hx382_0 hx382_1 hHeld ⊢
      refine pz_ HT_ 0 (some 13) spec_l1Cur_hour23.mk1 ?_
      refine pz_ HT_ 1 (some 14) spec_l1Cur_hour23.mk2 ?_
      refine pz_ HT_ 2 (some 15) spec_l1Cur_hour23.mk3 ?_
      refine pz_ HT_ 8 (some 21) spec_l1Cur_hour23.mk4 ?_
      refine inv_at [3, 4, 5, 6, 7, 9, 10, 11, 12] (fun a0_ b a w' => ∃ (v384 : Value), a = putSel a0_ b [(3, 16, .int .i64 (l1.length : Int)), (4, 17, .int .i64 t379), (5, 18, .pointer (some (ad382.add ((t379).toNat * 2)))), (6, 19, .pointer (some (ad382.add ((t379).toNat * 2)))), (7, 20, .int .i64 ((rd_T54 l1 t379).f0)), (9, 22, v384), (10, 23, .int .i64 t386), (11, 24, .int .i64 (wrap64 (((rd_T54 l1 t379).f0) + t386))), (12, 4, .int .i64 (wrap64 (((rd_T54 l1 t379).f0) + t386)))] ∧ (b 4 = false → IsS90 w0 w' g s0_0 x1001_2 x1002_2) ∧ (KeepBut w w' g none) ∧ (Below w0.heap.size w0 w') ∧ (b 4 = true → b 10 = false → IsS90 w0 w' g s0_0 t380 t381) ∧ (b 9 = true → Kd.R (Kd.int .i64) 3 w' w.heap.size (fun _ => True) v384 y383) ∧ (b 10 = true → IsS90 w0 w' g s0_0 t387 t388)) HT_.out HW_.out (by kernel_rfl) (by kernel_rfl) ?_ ?_ ?_
      ·
       exact ⟨.bool false, by simp only [putSel, Bool.false_eq_true, if_false], fun _ => HI0.out, HK.out, HB.out, fun h_ => absurd h_ (by decide), fun h_ => absurd h_ (by decide), fun h_ => absurd h_ (by decide)⟩
      ·
       skip
       clear HB HI0 HK
       refine steps_cons ?_ ?_
       ·
        rintro b a w' ⟨v384, ha, Q_HI0, Q_HK, Q_HB, Q_HI0_e4, Q_HO385, Q_HI0_e10⟩ hb_ hon hoff; refine ⟨_, rfl, fun K hK => ?_⟩
        have e15 : a.tmps[15]? = some (.slice (some ad382) l1.length c1) := by rw [ha]; exact (putSel_off rfl).trans rfl
        replace ha := Aside0.mk ha; have HI0 := Aside0.mk (Q_HI0 (hoff 4 (by kernel_rfl))); have HK := Aside0.mk Q_HK; have HB := Aside0.mk Q_HB; refine value_ (w1 := w') (v := .int .i64 (l1.length : Int)) (by rfl) rfl ?_ ?_
        ·
         go_simp; (try simp only [i64_w])
         try rfl
        refine hK.out _ _ ⟨v384, (by rw [ha.out]; exact putSel_upk 0 hb_ rfl rfl rfl), Q_HI0, Q_HK, Q_HB, fun h0_ _ => absurd ((hoff 4 (by kernel_rfl)).symm.trans h0_) (by decide), Q_HO385, fun h0_ => absurd ((hoff 10 (by kernel_rfl)).symm.trans h0_) (by decide)⟩
       refine steps_cons ?_ ?_
       ·
        rintro b a w' ⟨v384, ha, Q_HI0, Q_HK, Q_HB, Q_HI0_e4, Q_HO385, Q_HI0_e10⟩ hb_ hon hoff; refine ⟨_, rfl, fun K hK => ?_⟩
        have e14 : a.tmps[14]? = some (.pointer (some ⟨g, 0, none⟩)) := by rw [ha]; exact (putSel_off rfl).trans rfl
        have e16 : a.tmps[16]? = some (.int .i64 (l1.length : Int)) := by rw [ha]; exact putSel_on (e := (3, 16, .int .i64 (l1.length : Int))) 0 rfl rfl (hon 3 (by kernel_rfl)) rfl
        replace ha := Aside0.mk ha; have HI0 := Aside0.mk (Q_HI0 hb_); have HK := Aside0.mk Q_HK; have HB := Aside0.mk Q_HB; refine goes_ Try.func87 (by kernel_rfl) rfl #[.pointer (some ⟨g, 0, none⟩), .int .i64 (l1.length : Int)] (by rfl) rfl rfl (by first | (simp only [List.map_toArray, List.map_cons, List.map_nil, Act.eval, Array.getD_eq_getD_getElem?, Option.getD_some, e14, e16]; done) | (simp only [List.map_toArray, List.map_cons, List.map_nil, Act.eval, Array.getD_eq_getD_getElem?, Option.getD_some, e14, e16]; rfl)) ?_; (with_reducible refine (spec_l1Cur_pick.calls g s0_0 x1001_2 x1002_2 (l1.length : Int) t379 t380 t381 w0 _ ?side1 ?side2 A8.out).mono ?_); (case side1 => exact is90_0 HI0.out); (case side2 => exact lb1_ HB.out (IsS90.ge HI0.out)); rintro e w13 ⟨rfl, hi, hb, hk⟩; refine ⟨_, rfl, ?_⟩; have n0_ := Aside0.mk (KeepBut.trans (kb0_ HK.out) hk (.inl rfl)); have n1_ := Aside0.mk (hb); have n2_ := Aside0.mk (hi)
        have z_HO385 := fun (h0_ : b 9 = true) => (show Kd.R (Kd.int .i64) 3 w13 w.heap.size (fun _ => True) v384 y383 from by first | exact (Kd.R_mono (Kd.R_keep (IsS90.apart (show IsS90 w0 _ g s0_0 x1001_2 x1002_2 from is90_0 HI0.out) (by (with_reducible repeat (first | apply Kd.R_alloc | apply Kd.R_drewN | apply Kd.R_drew)); exact (Q_HO385 h0_)) (by decide)) hk (fun _ h => h.2)) (fun _ h => h.1)) | exact Kd.R_mono (Kd.R_mono (Kd.R_keep (IsS90.apart (show IsS90 w0 _ g s0_0 x1001_2 x1002_2 from is90_0 HI0.out) (by (with_reducible repeat (first | apply Kd.R_alloc | apply Kd.R_drewN | apply Kd.R_drew)); exact (Q_HO385 h0_)) (by decide)) hk (fun _ h => h.2)) (fun _ h => h.1)) (fun _ h_ => by first | trivial | exact h_ | exact h_.1))
        clear HK; clear HB; clear HI0; have HK := n0_; have HB := n1_; have HI0 := n2_; clear n0_ n1_ n2_; (try clear hb); (try clear hb2); (try clear hk); (try clear hi); refine hK.out _ _ ⟨v384, (by rw [ha.out]; exact putSel_upk 1 hb_ rfl rfl rfl), fun h0_ => absurd ((up_self b 4).symm.trans h0_) (by decide), (kb0_ HK.out), (lb1_ HB.out (IsS90.ge HI0.out)), fun _ _ => (is90_0 HI0.out), z_HO385, fun h0_ => absurd ((hoff 10 (by kernel_rfl)).symm.trans h0_) (by decide)⟩
       refine steps_cons ?_ ?_
       ·
        rintro b a w' ⟨v384, ha, Q_HI0, Q_HK, Q_HB, Q_HI0_e4, Q_HO385, Q_HI0_e10⟩ hb_ hon hoff; refine ⟨_, rfl, fun K hK => ?_⟩
        have e13 : a.tmps[13]? = some (.slice (some ad382) l1.length c1) := by rw [ha]; exact (putSel_off rfl).trans rfl
        have e17 : a.tmps[17]? = some (.int .i64 t379) := by rw [ha]; exact putSel_on (e := (4, 17, .int .i64 t379)) 1 rfl rfl (hon 4 (by kernel_rfl)) rfl
        replace ha := Aside0.mk ha; have HK := Aside0.mk Q_HK; have HB := Aside0.mk Q_HB
        have hs0_ : w'.cell? (ad382.add ((t379).toNat * 2)) = some (.int .i64 ((rd_T54 l1 t379).f0)) := by first | exact hx382_0 | (obtain ⟨ad_, e_, z_⟩ := at_T54 (Kd.C_foot_now HR1.out HK.out) t379 (of_eq_true p382) (of_eq_true q382); injection e_ with e_; subst e_; first | exact z_.1 | exact z_)
        have hs1_ : w'.cell? ⟨(ad382.add ((t379).toNat * 2)).block, (ad382.add ((t379).toNat * 2)).off + 1, none⟩ = some (.int .i64 ((rd_T54 l1 t379).f1)) := by first | exact hx382_1 | (obtain ⟨ad_, e_, z_⟩ := at_T54 (Kd.C_foot_now HR1.out HK.out) t379 (of_eq_true p382) (of_eq_true q382); injection e_ with e_; subst e_; first | exact z_.2 | exact z_)
        refine value_ (w1 := w') (v := .pointer (some (ad382.add ((t379).toNat * 2)))) (by rfl) rfl ?_ ?_
        ·
         go_simp; (try simp only [i64_w])
         try rfl
        refine hK.out _ _ ⟨v384, (by rw [ha.out]; exact putSel_upk 2 hb_ rfl rfl rfl), fun h0_ => absurd ((hon 4 (by kernel_rfl)).symm.trans h0_) (by decide), Q_HK, Q_HB, Q_HI0_e4, Q_HO385, Q_HI0_e10⟩
       refine steps_cons ?_ ?_
       ·
        rintro b a w' ⟨v384, ha, Q_HI0, Q_HK, Q_HB, Q_HI0_e4, Q_HO385, Q_HI0_e10⟩ hb_ hon hoff; refine ⟨_, rfl, fun K hK => ?_⟩
        have e18 : a.tmps[18]? = some (.pointer (some (ad382.add ((t379).toNat * 2)))) := by rw [ha]; exact putSel_on (e := (5, 18, .pointer (some (ad382.add ((t379).toNat * 2))))) 2 rfl rfl (hon 5 (by kernel_rfl)) rfl
        replace ha := Aside0.mk ha; have HK := Aside0.mk Q_HK; have HB := Aside0.mk Q_HB; refine value_ (w1 := w') (v := .pointer (some (ad382.add ((t379).toNat * 2)))) (by rfl) rfl ?_ ?_
        ·
         go_simp; (try simp only [i64_w])
         try rfl
        refine hK.out _ _ ⟨v384, (by rw [ha.out]; exact putSel_upk 3 hb_ rfl rfl rfl), fun h0_ => absurd ((hon 4 (by kernel_rfl)).symm.trans h0_) (by decide), Q_HK, Q_HB, Q_HI0_e4, Q_HO385, Q_HI0_e10⟩
       refine steps_cons ?_ ?_
       ·
        rintro b a w' ⟨v384, ha, Q_HI0, Q_HK, Q_HB, Q_HI0_e4, Q_HO385, Q_HI0_e10⟩ hb_ hon hoff; refine ⟨_, rfl, fun K hK => ?_⟩
        have e19 : a.tmps[19]? = some (.pointer (some (ad382.add ((t379).toNat * 2)))) := by rw [ha]; exact putSel_on (e := (6, 19, .pointer (some (ad382.add ((t379).toNat * 2))))) 3 rfl rfl (hon 6 (by kernel_rfl)) rfl
        replace ha := Aside0.mk ha; have HK := Aside0.mk Q_HK; have HB := Aside0.mk Q_HB
        have hs0_ : w'.cell? (ad382.add ((t379).toNat * 2)) = some (.int .i64 ((rd_T54 l1 t379).f0)) := by first | exact hx382_0 | (obtain ⟨ad_, e_, z_⟩ := at_T54 (Kd.C_foot_now HR1.out HK.out) t379 (of_eq_true p382) (of_eq_true q382); injection e_ with e_; subst e_; first | exact z_.1 | exact z_)
        have hs1_ : w'.cell? ⟨(ad382.add ((t379).toNat * 2)).block, (ad382.add ((t379).toNat * 2)).off + 1, none⟩ = some (.int .i64 ((rd_T54 l1 t379).f1)) := by first | exact hx382_1 | (obtain ⟨ad_, e_, z_⟩ := at_T54 (Kd.C_foot_now HR1.out HK.out) t379 (of_eq_true p382) (of_eq_true q382); injection e_ with e_; subst e_; first | exact z_.2 | exact z_)
        refine value_ (w1 := w') (v := .int .i64 ((rd_T54 l1 t379).f0)) (by rfl) rfl ?_ ?_
        ·
         go_simp; (try simp only [i64_w])
         try rfl
        refine hK.out _ _ ⟨v384, (by rw [ha.out]; exact putSel_upk 4 hb_ rfl rfl rfl), fun h0_ => absurd ((hon 4 (by kernel_rfl)).symm.trans h0_) (by decide), Q_HK, Q_HB, Q_HI0_e4, Q_HO385, Q_HI0_e10⟩
       refine steps_cons ?_ ?_
       ·
        rintro b a w' ⟨v384, ha, Q_HI0, Q_HK, Q_HB, Q_HI0_e4, Q_HO385, Q_HI0_e10⟩ hb_ hon hoff; refine ⟨_, rfl, fun K hK => ?_⟩; replace ha := Aside0.mk ha; have HK := Aside0.mk Q_HK; have HB := Aside0.mk Q_HB; refine Kd.R_lit_step (Kd.int .i64) _ 3 ?hg (N := 22) ?hd (xs := ([0, 1, 2, (-1)] : List Int)) (inner := [.int .i64 0, .int .i64 1, .int .i64 2, .int .i64 (-1)]) (ok := fun _ => True) (okp := fun _ => True) ?hr ?hp (fun _ hk => hk) trivial (Below.refl _ _) (Nat.le_refl _) (by simp) ?_; (case hd => rfl); (case hg => rfl); (case hr => first | (go_simp; done) | (go_simp; rfl)); (case hp => exact (Reps.one (show Kd.M (Kd.int .i64) _ _ _ 0 [.int .i64 0] from rfl) (Reps.one (show Kd.M (Kd.int .i64) _ _ _ 1 [.int .i64 1] from rfl) (Reps.one (show Kd.M (Kd.int .i64) _ _ _ 2 [.int .i64 2] from rfl) (Reps.one (show Kd.M (Kd.int .i64) _ _ _ (-1) [.int .i64 (-1)] from rfl) (Reps.none _ _)))))); intro v384 w13 ho14 hb hg_ hnew_; clear hg_ hnew_; replace ho14 := ry_ Ny383.out ho14; have n0_ := Aside0.mk (Kd.R_lower ho14 (keep_size (w := w) (g := g) (row := none) (kb0_ HK.out))); have n2_ := Aside0.mk (KeepBut.trans (kb0_ HK.out) (KeepBut.of_below hb g none) (.inl rfl)); have n3_ := Aside0.mk (below_step (lb0_ HB.out) hb)
        have z_HI0 := fun (h0_ : b 4 = false) => (show IsS90 w0 w13 g s0_0 x1001_2 x1002_2 from by first | exact (IsS90.below (by repeat (first | (with_reducible first | exact (Q_HI0 h0_) | apply IsS90.alloc | apply IsS90.drewN | apply IsS90.drew | apply IsS90.set_1 | apply IsS90.set_2) | exact (Q_HI0 h0_))) hb))
        have z_HI0_e4 := fun (h0_ : b 4 = true) (h1_ : b 10 = false) => (show IsS90 w0 w13 g s0_0 t380 t381 from by first | exact (IsS90.below (by repeat (first | (with_reducible first | exact (Q_HI0_e4 h0_ h1_) | apply IsS90.alloc | apply IsS90.drewN | apply IsS90.drew | apply IsS90.set_1 | apply IsS90.set_2) | exact (Q_HI0_e4 h0_ h1_))) hb))
        clear HK; clear HB; have HO385 := n0_; have HK := n2_; have HB := n3_; clear n0_ n2_ n3_; clear hb ho14; refine hK.out _ _ ⟨v384, (by rw [ha.out]; exact putSel_upk 5 hb_ rfl rfl rfl), z_HI0, (kb0_ HK.out), (lb0_ HB.out), z_HI0_e4, fun _ => (kr_ HO385.out), fun h0_ => absurd ((hoff 10 (by kernel_rfl)).symm.trans h0_) (by decide)⟩
       refine steps_cons ?_ ?_
       ·
        rintro b a w' ⟨v384, ha, Q_HI0, Q_HK, Q_HB, Q_HI0_e4, Q_HO385, Q_HI0_e10⟩ hb_ hon hoff; refine ⟨_, rfl, fun K hK => ?_⟩
        have e21 : a.tmps[21]? = some (.pointer (some ⟨g, 0, none⟩)) := by rw [ha]; exact (putSel_off rfl).trans rfl
        have e22 : a.tmps[22]? = some (v384) := by rw [ha]; exact putSel_on (e := (9, 22, v384)) 5 rfl rfl (hon 9 (by kernel_rfl)) rfl
        replace ha := Aside0.mk ha; have HK := Aside0.mk Q_HK; have HB := Aside0.mk Q_HB; have HI0 := Aside0.mk (Q_HI0_e4 (hon 4 (by kernel_rfl)) hb_); have HO385 := Aside0.mk (Q_HO385 (hon 9 (by kernel_rfl))); obtain ⟨Ao17, co17, eo17⟩ := Kd.R_slice HO385.out
        (first | subst eo17 | (injection eo17 with f1_ f2_ f3_; have f4_ := f1_.symm; have f5_ := f3_.symm; clear f1_ f2_ f3_; subst f4_; subst f5_))
        refine goes_ Try.func86 (by kernel_rfl) rfl #[.pointer (some ⟨g, 0, none⟩), .slice Ao17 y383.length co17] (by rfl) rfl rfl (by first | (simp only [List.map_toArray, List.map_cons, List.map_nil, Act.eval, Array.getD_eq_getD_getElem?, Option.getD_some, e21, e22]; done) | (simp only [List.map_toArray, List.map_cons, List.map_nil, Act.eval, Array.getD_eq_getD_getElem?, Option.getD_some, e21, e22]; rfl)) ?_; (with_reducible refine (spec_l1Cur_among.calls g s0_0 t380 t381 _ _ y383 t386 t387 t388 w0 _ ?side1 ?side2 ?side3 ?side4 ?side5 A11.out).mono ?_); (case side1 => exact is90_0 HI0.out); (case side2 => exact lb1_ HB.out (IsS90.ge HI0.out)); (case side3 => exact kc_ (Kd.R_reads' HO385.out).2.2); (case side4 => exact (Kd.R_reads' HO385.out).2.1); (case side5 => exact far_slice (IsS90.own_ne HI0.out HO385.out (by decide))); rintro e w18 ⟨rfl, hi, hb, hk⟩; refine ⟨_, rfl, ?_⟩; replace HO385 := Aside0.mk (Kd.R_mono (Kd.R_keep (IsS90.apart (show IsS90 w0 _ g s0_0 t380 t381 from is90_0 HI0.out) (kr_ HO385.out) (by decide)) hk (fun _ h => h.2)) (fun _ h => h.1)); replace HK := Aside0.mk (KeepBut.trans (kb0_ HK.out) hk (.inl rfl)); replace HB := Aside0.mk (hb); replace HI0 := Aside0.mk (hi); (try clear hb); (try clear hb2); (try clear hk); (try clear hi); refine hK.out _ _ ⟨.slice Ao17 y383.length co17, (by rw [ha.out]; exact putSel_upk 6 hb_ rfl rfl rfl), fun h0_ => absurd ((hon 4 (by kernel_rfl)).symm.trans h0_) (by decide), (kb0_ HK.out), (lb1_ HB.out (IsS90.ge HI0.out)), fun _ h1_ => absurd ((up_self b 10).symm.trans h1_) (by decide), fun _ => (kr_ HO385.out), fun _ => (is90_0 HI0.out)⟩
       refine steps_cons ?_ ?_
       ·
        rintro b a w' ⟨v384, ha, Q_HI0, Q_HK, Q_HB, Q_HI0_e4, Q_HO385, Q_HI0_e10⟩ hb_ hon hoff; refine ⟨_, rfl, fun K hK => ?_⟩
        have e20 : a.tmps[20]? = some (.int .i64 ((rd_T54 l1 t379).f0)) := by rw [ha]; exact putSel_on (e := (7, 20, .int .i64 ((rd_T54 l1 t379).f0))) 4 rfl rfl (hon 7 (by kernel_rfl)) rfl
        have e23 : a.tmps[23]? = some (.int .i64 t386) := by rw [ha]; exact putSel_on (e := (10, 23, .int .i64 t386)) 6 rfl rfl (hon 10 (by kernel_rfl)) rfl
        replace ha := Aside0.mk ha; have HK := Aside0.mk Q_HK; have HB := Aside0.mk Q_HB; have HO385 := Aside0.mk (Q_HO385 (hon 9 (by kernel_rfl))); have HI0 := Aside0.mk (Q_HI0_e10 (hon 10 (by kernel_rfl))); refine value_ (w1 := w') (v := .int .i64 (wrap64 (((rd_T54 l1 t379).f0) + t386))) (by rfl) rfl ?_ ?_
        ·
         go_simp; (try simp only [i64_w])
         try rfl
        refine hK.out _ _ ⟨v384, (by rw [ha.out]; exact putSel_upk 7 hb_ rfl rfl rfl), fun h0_ => absurd ((hon 4 (by kernel_rfl)).symm.trans h0_) (by decide), Q_HK, Q_HB, fun _ h1_ => absurd ((hon 10 (by kernel_rfl)).symm.trans h1_) (by decide), Q_HO385, Q_HI0_e10⟩
       refine steps_cons ?_ ?_
       ·
        rintro b a w' ⟨v384, ha, Q_HI0, Q_HK, Q_HB, Q_HI0_e4, Q_HO385, Q_HI0_e10⟩ hb_ hon hoff; refine ⟨_, rfl, fun K hK => ?_⟩
        have e24 : a.tmps[24]? = some (.int .i64 (wrap64 (((rd_T54 l1 t379).f0) + t386))) := by rw [ha]; exact putSel_on (e := (11, 24, .int .i64 (wrap64 (((rd_T54 l1 t379).f0) + t386)))) 7 rfl rfl (hon 11 (by kernel_rfl)) rfl
        replace ha := Aside0.mk ha; have HK := Aside0.mk Q_HK; have HB := Aside0.mk Q_HB; have HO385 := Aside0.mk (Q_HO385 (hon 9 (by kernel_rfl))); have HI0 := Aside0.mk (Q_HI0_e10 (hon 10 (by kernel_rfl))); refine value_ (w1 := w') (v := .int .i64 (wrap64 (((rd_T54 l1 t379).f0) + t386))) (by rfl) rfl ?_ ?_
        ·
         go_simp; (try simp only [i64_w])
         try rfl
        refine hK.out _ _ ⟨v384, (by rw [ha.out]; exact putSel_upk 8 hb_ rfl rfl rfl), fun h0_ => absurd ((hon 4 (by kernel_rfl)).symm.trans h0_) (by decide), Q_HK, Q_HB, fun _ h1_ => absurd ((hon 10 (by kernel_rfl)).symm.trans h1_) (by decide), Q_HO385, Q_HI0_e10⟩
       exact steps_nil
      rintro b a w18 hall ⟨v384, ha, Q_HI0, Q_HK, Q_HB, Q_HI0_e4, Q_HO385, Q_HI0_e10⟩
      clear HB HI0 HK
      have hb3_ := hall 3 (by kernel_rfl)
      have hb4_ := hall 4 (by kernel_rfl)
      have hb5_ := hall 5 (by kernel_rfl)
      have hb6_ := hall 6 (by kernel_rfl)
      have hb7_ := hall 7 (by kernel_rfl)
      have hb9_ := hall 9 (by kernel_rfl)
      have hb10_ := hall 10 (by kernel_rfl)
      have hb11_ := hall 11 (by kernel_rfl)
      have hb12_ := hall 12 (by kernel_rfl)
      subst ha
      simp only [putSel, hb3_, hb4_, hb5_, hb6_, hb7_, hb9_, hb10_, hb11_, hb12_, if_true, Act.put, List.setIfInBounds_toArray, List.set_cons_zero, List.set_cons_succ]
      clear Q_HI0
      have HK := Aside0.mk Q_HK
      clear Q_HK
      have HB := Aside0.mk Q_HB
      clear Q_HB
      clear Q_HI0_e4
      have HO385 := Aside0.mk (Q_HO385 hb9_)
      clear Q_HO385
      have HI0 := Aside0.mk (Q_HI0_e10 hb10_)
      clear Q_HI0_e10
      clear hall hb3_ hb4_ hb5_ hb6_ hb7_ hb9_ hb10_ hb11_ hb12_
      try go_wp2
      go_ret
      exact ⟨rr_, is90_0 HI0.out, lb1_ HB.out (IsS90.ge HI0.out), kb0_ HK.out⟩
     ·
      rw [if_neg c10] at H
      exact absurd H (by simp)
    ·
     rw [if_neg c9] at H
     exact absurd H (by simp)
   ·
    replace c7 := Bool.eq_false_iff.mpr c7
    subst c7
    have H1 : ((spec_l1Cur_among.f s0_0 x1001_2 x1002_2 (([0, 6, 905, 999, (-1), 1000] : List Int))).bind fun bt392 => (some (bt392.1, bt392.2.1, bt392.2.2))) = some (r1, r2, r3) := by rw [if_neg (show ¬ (false = true) by decide)] at H; exact H
    clear H
    have H := H1
    clear H1
    obtain ⟨y389, hy389⟩ : ∃ y_ : List Int, y_ = (([0, 6, 905, 999, (-1), 1000] : List Int)) := ⟨_, rfl⟩
    replace H : ((spec_l1Cur_among.f s0_0 x1001_2 x1002_2 y389).bind fun bt392 => (some (bt392.1, bt392.2.1, bt392.2.2))) = some (r1, r2, r3) := by first | (rw [hy389]; with_reducible exact H) | (have H2_ := (Option.bind_some _ _).symm.trans H; rw [hy389]; with_reducible exact H2_) | (have H2_ := (Option.bind_some _ _).symm.trans H; with_reducible exact H2_) | with_reducible exact H | (rw [hy389]; exact H) | exact H
    have Ny389 := Aside0.mk hy389
    clear hy389
    replace H := Option.bind_eq_some_iff.mp H
    obtain ⟨⟨t392, t393, t394⟩, A190, H⟩ := H
    replace H : (some (t392, t393, t394)) = some (r1, r2, r3) := H
    have A19 := Aside0.mk A190
    clear A190
    simp only [Option.some.injEq, Prod.mk.injEq] at H
    obtain ⟨rfl, rfl, rfl⟩ := H
    go_wp2_with (first | ((with_reducible refine gate_dst (N := 26) rfl ?_); refine Kd.R_lit (Kd.int .i64) _ 3 ?hg (N := 26) ?hd (xs := ([0, 6, 905, 999, (-1), 1000] : List Int)) (inner := [.int .i64 0, .int .i64 6, .int .i64 905, .int .i64 999, .int .i64 (-1), .int .i64 1000]) (ok := fun _ => True) (okp := fun _ => True) ?hr ?hp (fun _ hk => hk) trivial (Below.refl _ _) (Nat.le_refl _) (by simp) ?_; (case hd => rfl); (case hg => rfl); (case hr => first | (go_simp; done) | (go_simp; rfl)); (case hp => exact (Reps.one (show Kd.M (Kd.int .i64) _ _ _ 0 [.int .i64 0] from rfl) (Reps.one (show Kd.M (Kd.int .i64) _ _ _ 6 [.int .i64 6] from rfl) (Reps.one (show Kd.M (Kd.int .i64) _ _ _ 905 [.int .i64 905] from rfl) (Reps.one (show Kd.M (Kd.int .i64) _ _ _ 999 [.int .i64 999] from rfl) (Reps.one (show Kd.M (Kd.int .i64) _ _ _ (-1) [.int .i64 (-1)] from rfl) (Reps.one (show Kd.M (Kd.int .i64) _ _ _ 1000 [.int .i64 1000] from rfl) (Reps.none _ _)))))))); intro v390 w20 ho21 hb hg_ hnew_; clear hg_ hnew_; replace ho21 := ry_ Ny389.out ho21; have HO391 := Aside0.mk (Kd.R_lower ho21 (keep_size (w := w) (g := g) (row := none) (kb0_ HK.out))); replace HK := Aside0.mk (KeepBut.trans (kb0_ HK.out) (KeepBut.of_below hb g none) (.inl rfl)); replace HB := Aside0.mk (below_step (lb1_ HB.out (IsS90.ge HI0.out)) hb); replace HI0 := Aside0.mk (IsS90.below (is90_0 HI0.out) hb); clear hb ho21; obtain ⟨Ao22, co22, eo22⟩ := Kd.R_slice HO391.out; subst eo22) | ((with_reducible refine gate_callee (f := 86) rfl ?_); refine ga_ (some 27) Try.func86 #[.pointer (some ⟨g, 0, none⟩), .slice Ao22 y389.length co22] ?_; (with_reducible refine (spec_l1Cur_among.calls g s0_0 x1001_2 x1002_2 _ _ y389 t392 t393 t394 w0 _ ?side1 ?side2 ?side3 ?side4 ?side5 A19.out).mono ?_); (case side1 => exact is90_0 HI0.out); (case side2 => exact lb1_ HB.out (IsS90.ge HI0.out)); (case side3 => exact kc_ (Kd.R_reads' HO391.out).2.2); (case side4 => exact (Kd.R_reads' HO391.out).2.1); (case side5 => exact far_slice (IsS90.own_ne HI0.out HO391.out (by decide))); rintro e w23 ⟨rfl, hi, hb, hk⟩; refine ⟨_, rfl, ?_⟩; replace HO391 := Aside0.mk (Kd.R_mono (Kd.R_keep (IsS90.apart (show IsS90 w0 _ g s0_0 x1001_2 x1002_2 from is90_0 HI0.out) (kr_ HO391.out) (by decide)) hk (fun _ h => h.2)) (fun _ h => h.1)); replace HK := Aside0.mk (KeepBut.trans (kb0_ HK.out) hk (.inl rfl)); replace HB := Aside0.mk (hb); replace HI0 := Aside0.mk (hi); (try clear hb); (try clear hb2); (try clear hk); (try clear hi)))
    go_ret
    exact ⟨rr_, is90_0 HI0.out, lb1_ HB.out (IsS90.ge HI0.out), kb0_ HK.out⟩
mutual
def spec_l1Cur_sump.j0 : Nat → Bool → List Int → Int → Int → Int → Int → Int → Option (Int × Int × Int × Int × Int)
 | 0, _, _, _, _, _, _, _ => none
 | k + 1, x23, x1000, x1001, x1002, x662000, x662001, x662002 => if x23 = true then (spec_l1Cur_sump.j1 k x1000 x1001 x1002 x662000 x662001 x662001) else (spec_l1Cur_sump.j1 k x1000 x1001 x1002 x662000 x662001 x662002)
def spec_l1Cur_sump.j1 : Nat → List Int → Int → Int → Int → Int → Int → Option (Int × Int × Int × Int × Int)
 | 0, _, _, _, _, _, _ => none
 | k + 1, x1000, x1001, x1002, x662000, x662001, x662002 => (spec_l1Cur_pick.f x1000 x1001 x1002 60).bind fun bt665 => (if bt665.1 = 0 then ((spec_l1Cur_among.f x1000 bt665.2.1 bt665.2.2 (([(-1), 8] : List Int))).bind fun bt671 => (some (bt671.1, x662001, x662002, bt671.2.1, bt671.2.2))) else (if bt665.1 = 1 then ((spec_l1Cur_among.f x1000 bt665.2.1 bt665.2.2 (([(-501), 501] : List Int))).bind fun bt677 => (some (x662000, bt677.1, x662002, bt677.2.1, bt677.2.2))) else (if bt665.1 = 2 then ((spec_l1Cur_among.f x1000 bt665.2.1 bt665.2.2 (([(-501), wrap64 (x662001 + 1)] : List Int))).bind fun bt683 => (some (x662000, x662001, bt683.1, bt683.2.1, bt683.2.2))) else (some (x662000, x662001, x662002, bt665.2.1, bt665.2.2)))))
end
def spec_l1Cur_sump.f (k : Nat) (s0_0 : List Int) (s0_1 : Int) (s0_2 : Int) (a1 : Int) : Option (Int × Int × Int × Int × Int) := (spec_l1Cur_among.f s0_0 s0_1 s0_2 (([(-10), 10, 12, 50, 500] : List Int))).bind fun bt652 => ((spec_l1Cur_among.f s0_0 bt652.2.1 bt652.2.2 (([(-500), (-10), 0, 7, 10] : List Int))).bind fun bt658 => (if bt658.1 > bt652.1 then ((spec_l1Cur_one.f s0_0 bt658.2.1 bt658.2.2 20).bind fun bt662 => (spec_l1Cur_sump.j0 k (!bt662.1) s0_0 bt662.2.1 bt662.2.2 a1 bt652.1 bt658.1)) else (spec_l1Cur_sump.j0 k false s0_0 bt658.2.1 bt658.2.2 a1 bt652.1 bt658.1)))
set_option maxHeartbeats 8000000 in
set_option maxRecDepth 100000 in
theorem spec_l1Cur_sump.calls (k : Nat) (g : Nat) (s0_0 : List Int) (s0_1 : Int) (s0_2 : Int) (a1 : Int) (r1 : Int) (r2 : Int) (r3 : Int) (r4 : Int) (r5 : Int) (w0 w : World) (hI : IsS90 w0 w g s0_0 s0_1 s0_2) (hB : Below w0.heap.size w0 w) (h : spec_l1Cur_sump.f k s0_0 s0_1 s0_2 a1 = some (r1, r2, r3, r4, r5)) :
  Calls Try.prog 84 #[.pointer (some ⟨g, 0, none⟩), .int .i64 a1] w fun e w' => e = .returned (.agg #[.int .i64 r1, .int .i64 r2, .int .i64 r3]) ∧ IsS90 w0 w' g s0_0 r4 r5 ∧ Below w0.heap.size w0 w' ∧ KeepBut w w' g none := by
 have hu30 := Try.underlying30
 have HI0 := Aside0.mk hI
 have HK := Aside0.mk (KeepBut.refl w g none)
 have HL := Aside0.mk hB.size
 clear hI
 have HW0 := Aside0.mk hB.size
 have HB := Aside0.mk hB
 clear hB
 have H : ((spec_l1Cur_among.f s0_0 s0_1 s0_2 (([(-10), 10, 12, 50, 500] : List Int))).bind fun bt652 => ((spec_l1Cur_among.f s0_0 bt652.2.1 bt652.2.2 (([(-500), (-10), 0, 7, 10] : List Int))).bind fun bt658 => (if bt658.1 > bt652.1 then ((spec_l1Cur_one.f s0_0 bt658.2.1 bt658.2.2 20).bind fun bt662 => (spec_l1Cur_sump.j0 k (!bt662.1) s0_0 bt662.2.1 bt662.2.2 a1 bt652.1 bt658.1)) else (spec_l1Cur_sump.j0 k false s0_0 bt658.2.1 bt658.2.2 a1 bt652.1 bt658.1)))) = some (r1, r2, r3, r4, r5) := h
 clear h
 obtain ⟨y649, hy649⟩ : ∃ y_ : List Int, y_ = (([(-10), 10, 12, 50, 500] : List Int)) := ⟨_, rfl⟩
 replace H : ((spec_l1Cur_among.f s0_0 s0_1 s0_2 y649).bind fun bt652 => ((spec_l1Cur_among.f s0_0 bt652.2.1 bt652.2.2 (([(-500), (-10), 0, 7, 10] : List Int))).bind fun bt658 => (if bt658.1 > bt652.1 then ((spec_l1Cur_one.f s0_0 bt658.2.1 bt658.2.2 20).bind fun bt662 => (spec_l1Cur_sump.j0 k (!bt662.1) s0_0 bt662.2.1 bt662.2.2 a1 bt652.1 bt658.1)) else (spec_l1Cur_sump.j0 k false s0_0 bt658.2.1 bt658.2.2 a1 bt652.1 bt658.1)))) = some (r1, r2, r3, r4, r5) := by first | (rw [hy649]; with_reducible exact H) | (have H2_ := (Option.bind_some _ _).symm.trans H; rw [hy649]; with_reducible exact H2_) | (have H2_ := (Option.bind_some _ _).symm.trans H; with_reducible exact H2_) | with_reducible exact H | (rw [hy649]; exact H) | exact H
 have Ny649 := Aside0.mk hy649
 clear hy649
 replace H := Option.bind_eq_some_iff.mp H
 obtain ⟨⟨t652, t653, t654⟩, A30, H⟩ := H
 replace H : ((spec_l1Cur_among.f s0_0 t653 t654 (([(-500), (-10), 0, 7, 10] : List Int))).bind fun bt658 => (if bt658.1 > t652 then ((spec_l1Cur_one.f s0_0 bt658.2.1 bt658.2.2 20).bind fun bt662 => (spec_l1Cur_sump.j0 k (!bt662.1) s0_0 bt662.2.1 bt662.2.2 a1 t652 bt658.1)) else (spec_l1Cur_sump.j0 k false s0_0 bt658.2.1 bt658.2.2 a1 t652 bt658.1))) = some (r1, r2, r3, r4, r5) := H
 have A3 := Aside0.mk A30
 clear A30
 obtain ⟨y655, hy655⟩ : ∃ y_ : List Int, y_ = (([(-500), (-10), 0, 7, 10] : List Int)) := ⟨_, rfl⟩
 replace H : ((spec_l1Cur_among.f s0_0 t653 t654 y655).bind fun bt658 => (if bt658.1 > t652 then ((spec_l1Cur_one.f s0_0 bt658.2.1 bt658.2.2 20).bind fun bt662 => (spec_l1Cur_sump.j0 k (!bt662.1) s0_0 bt662.2.1 bt662.2.2 a1 t652 bt658.1)) else (spec_l1Cur_sump.j0 k false s0_0 bt658.2.1 bt658.2.2 a1 t652 bt658.1))) = some (r1, r2, r3, r4, r5) := by first | (rw [hy655]; with_reducible exact H) | (have H2_ := (Option.bind_some _ _).symm.trans H; rw [hy655]; with_reducible exact H2_) | (have H2_ := (Option.bind_some _ _).symm.trans H; with_reducible exact H2_) | with_reducible exact H | (rw [hy655]; exact H) | exact H
 have Ny655 := Aside0.mk hy655
 clear hy655
 replace H := Option.bind_eq_some_iff.mp H
 obtain ⟨⟨t658, t659, t660⟩, A40, H⟩ := H
 replace H : (if t658 > t652 then ((spec_l1Cur_one.f s0_0 t659 t660 20).bind fun bt662 => (spec_l1Cur_sump.j0 k (!bt662.1) s0_0 bt662.2.1 bt662.2.2 a1 t652 t658)) else (spec_l1Cur_sump.j0 k false s0_0 t659 t660 a1 t652 t658)) = some (r1, r2, r3, r4, r5) := H
 have A4 := Aside0.mk A40
 clear A40
 have HC5 := Aside0.mk H
 clear H
 go_enter Try.func84, Try.ntmps84
 go_upto_region 2 with (first | ((with_reducible refine gate_dst (N := 4) rfl ?_); refine box_event ?hg (N := 4) ?hd (cs := #[.int .i64 0, .int .i64 0, .int .i64 0]) (t := 30) ?hr ?_; (case hd => rfl); (case hg => rfl); (case hr => first | (go_simp; done) | (go_simp; rfl)); intro gb648 hg w6 hbox hb; replace HB := Aside0.mk (below_step (lb1_ HB.out (IsS90.ge HI0.out)) hb); have BK648 := Aside0.mk (hbox); have GW648 := Aside0.mk ((by rw [hg]; exact (keep_size (w := w) (g := g) (row := none) (kb0_ HK.out)) : w.heap.size ≤ gb648)); have GE648 := Aside0.mk ((Nat.le_trans HW0.out (by rw [hg]; exact (keep_size (w := w) (g := g) (row := none) (kb0_ HK.out)) : w.heap.size ≤ gb648) : w0.heap.size ≤ gb648)); replace HK := Aside0.mk (KeepBut.trans (kb0_ HK.out) (KeepBut.of_below hb g none) (.inl rfl)); have NB0_648 := Aside0.mk ((by rw [hg]; exact Nat.ne_of_lt (IsS90.lt (show IsS90 w0 _ g s0_0 s0_1 s0_2 from is90_0 HI0.out)) : g ≠ gb648)); have NB648_0 := Aside0.mk ((by rw [hg]; exact Nat.ne_of_gt (IsS90.lt (show IsS90 w0 _ g s0_0 s0_1 s0_2 from is90_0 HI0.out)) : gb648 ≠ g)); replace HI0 := Aside0.mk (IsS90.below (is90_0 HI0.out) hb); clear hb hbox hg) | ((with_reducible refine gate_dst (N := 8) rfl ?_); refine Kd.R_lit (Kd.int .i64) _ 3 ?hg (N := 8) ?hd (xs := ([(-10), 10, 12, 50, 500] : List Int)) (inner := [.int .i64 (-10), .int .i64 10, .int .i64 12, .int .i64 50, .int .i64 500]) (ok := fun _ => True) (okp := fun _ => True) ?hr ?hp (fun _ hk => hk) trivial (Below.refl _ _) (Nat.le_refl _) (by simp) ?_; (case hd => rfl); (case hg => rfl); (case hr => first | (go_simp; done) | (go_simp; rfl)); (case hp => exact (Reps.one (show Kd.M (Kd.int .i64) _ _ _ (-10) [.int .i64 (-10)] from rfl) (Reps.one (show Kd.M (Kd.int .i64) _ _ _ 10 [.int .i64 10] from rfl) (Reps.one (show Kd.M (Kd.int .i64) _ _ _ 12 [.int .i64 12] from rfl) (Reps.one (show Kd.M (Kd.int .i64) _ _ _ 50 [.int .i64 50] from rfl) (Reps.one (show Kd.M (Kd.int .i64) _ _ _ 500 [.int .i64 500] from rfl) (Reps.none _ _))))))); intro v650 w7 ho8 hb hg_ hnew_; clear hg_ hnew_; replace ho8 := ry_ Ny649.out ho8; have HO651 := Aside0.mk (Kd.R_lower ho8 (keep_size (w := w) (g := g) (row := none) (kb1_ HK.out GW648.out))); replace BK648 := Aside0.mk (bb_ (bk_ BK648.out) hb); replace HK := Aside0.mk (KeepBut.trans (kb1_ HK.out GW648.out) (KeepBut.of_below hb g none) (.inl rfl)); replace HB := Aside0.mk (below_step (lb2_ HB.out (IsS90.ge HI0.out) GE648.out) hb); replace HI0 := Aside0.mk (IsS90.below (is90_1 HI0.out NB0_648.out) hb); clear hb ho8; obtain ⟨Ao9, co9, eo9⟩ := Kd.R_slice HO651.out; subst eo9) | ((with_reducible refine gate_callee (f := 86) rfl ?_); refine ga_ (some 9) Try.func86 #[.pointer (some ⟨g, 0, none⟩), .slice Ao9 y649.length co9] ?_; (with_reducible refine (spec_l1Cur_among.calls g s0_0 s0_1 s0_2 _ _ y649 t652 t653 t654 w0 _ ?side1 ?side2 ?side3 ?side4 ?side5 A3.out).mono ?_); (case side1 => exact is90_1 HI0.out NB0_648.out); (case side2 => exact lb2_ HB.out (IsS90.ge HI0.out) GE648.out); (case side3 => exact kc_ (Kd.R_reads' HO651.out).2.2); (case side4 => exact (Kd.R_reads' HO651.out).2.1); (case side5 => exact far_slice (IsS90.own_ne HI0.out HO651.out (by decide))); rintro e w10 ⟨rfl, hi, hb, hk⟩; refine ⟨_, rfl, ?_⟩; replace BK648 := Aside0.mk (KeepBut.blk hk (g' := gb648) (o := .cells #[.int .i64 0, .int .i64 0, .int .i64 0] 30 (0, 0)) (bk_ BK648.out) NB648_0.out (by simp)); replace HO651 := Aside0.mk (Kd.R_mono (Kd.R_keep (IsS90.apart (show IsS90 w0 _ g s0_0 s0_1 s0_2 from is90_1 HI0.out NB0_648.out) (kr_ HO651.out) (by decide)) hk (fun _ h => h.2)) (fun _ h => h.1)); replace HK := Aside0.mk (KeepBut.trans (kb1_ HK.out GW648.out) hk (.inl rfl)); replace HB := Aside0.mk (hb); replace HI0 := Aside0.mk (hi); (try clear hb); (try clear hb2); (try clear hk); (try clear hi)) | ((with_reducible refine gate_dst (N := 11) rfl ?_); refine Kd.R_lit (Kd.int .i64) _ 3 ?hg (N := 11) ?hd (xs := ([(-500), (-10), 0, 7, 10] : List Int)) (inner := [.int .i64 (-500), .int .i64 (-10), .int .i64 0, .int .i64 7, .int .i64 10]) (ok := fun _ => True) (okp := fun _ => True) ?hr ?hp (fun _ hk => hk) trivial (Below.refl _ _) (Nat.le_refl _) (by simp) ?_; (case hd => rfl); (case hg => rfl); (case hr => first | (go_simp; done) | (go_simp; rfl)); (case hp => exact (Reps.one (show Kd.M (Kd.int .i64) _ _ _ (-500) [.int .i64 (-500)] from rfl) (Reps.one (show Kd.M (Kd.int .i64) _ _ _ (-10) [.int .i64 (-10)] from rfl) (Reps.one (show Kd.M (Kd.int .i64) _ _ _ 0 [.int .i64 0] from rfl) (Reps.one (show Kd.M (Kd.int .i64) _ _ _ 7 [.int .i64 7] from rfl) (Reps.one (show Kd.M (Kd.int .i64) _ _ _ 10 [.int .i64 10] from rfl) (Reps.none _ _))))))); intro v656 w11 ho12 hb hg_ hnew_; clear hg_ hnew_; replace ho12 := ry_ Ny655.out ho12; have HO657 := Aside0.mk (Kd.R_lower (Kd.R_new' ho12 (Kd.R_lt (kr_ HO651.out))) (keep_size (w := w) (g := g) (row := none) (kb1_ HK.out GW648.out))); replace HO651 := Aside0.mk (Kd.R_elder' (kr_ HO651.out) (Kd.R_base ho12) hb); replace BK648 := Aside0.mk (bb_ (bk_ BK648.out) hb); replace HK := Aside0.mk (KeepBut.trans (kb1_ HK.out GW648.out) (KeepBut.of_below hb g none) (.inl rfl)); replace HB := Aside0.mk (below_step (lb2_ HB.out (IsS90.ge HI0.out) GE648.out) hb); replace HI0 := Aside0.mk (IsS90.below (is90_1 HI0.out NB0_648.out) hb); clear hb ho12; obtain ⟨Ao13, co13, eo13⟩ := Kd.R_slice HO657.out; subst eo13) | ((with_reducible refine gate_callee (f := 86) rfl ?_); refine ga_ (some 12) Try.func86 #[.pointer (some ⟨g, 0, none⟩), .slice Ao13 y655.length co13] ?_; (with_reducible refine (spec_l1Cur_among.calls g s0_0 t653 t654 _ _ y655 t658 t659 t660 w0 _ ?side1 ?side2 ?side3 ?side4 ?side5 A4.out).mono ?_); (case side1 => exact is90_1 HI0.out NB0_648.out); (case side2 => exact lb2_ HB.out (IsS90.ge HI0.out) GE648.out); (case side3 => exact kc_ (Kd.R_reads' HO657.out).2.2); (case side4 => exact (Kd.R_reads' HO657.out).2.1); (case side5 => exact far_slice (IsS90.own_ne HI0.out HO657.out (by decide))); rintro e w14 ⟨rfl, hi, hb, hk⟩; refine ⟨_, rfl, ?_⟩; replace BK648 := Aside0.mk (KeepBut.blk hk (g' := gb648) (o := .cells #[.int .i64 0, .int .i64 0, .int .i64 0] 30 (0, 0)) (bk_ BK648.out) NB648_0.out (by simp)); replace HO651 := Aside0.mk (Kd.R_mono (Kd.R_keep (IsS90.apart (show IsS90 w0 _ g s0_0 t653 t654 from is90_1 HI0.out NB0_648.out) (kr_ HO651.out) (by decide)) hk (fun _ h => h.2)) (fun _ h => h.1)); replace HO657 := Aside0.mk (Kd.R_mono (Kd.R_keep (IsS90.apart (show IsS90 w0 _ g s0_0 t653 t654 from is90_1 HI0.out NB0_648.out) (kr_ HO657.out) (by decide)) hk (fun _ h => h.2)) (fun _ h => h.1)); replace HK := Aside0.mk (KeepBut.trans (kb1_ HK.out GW648.out) hk (.inl rfl)); replace HB := Aside0.mk (hb); replace HI0 := Aside0.mk (hi); (try clear hb); (try clear hb2); (try clear hk); (try clear hi)) | ((with_reducible refine gate_dst (N := 5) rfl ?_); refine box_event ?hg (N := 5) ?hd (cs := #[.int .i64 0, .int .i64 0, .int .i64 0]) (t := 30) ?hr ?_; (case hd => rfl); (case hg => rfl); (case hr => first | (go_simp; done) | (go_simp; rfl)); intro gb661 hg w15 hbox hb; replace HO651 := Aside0.mk (Kd.R_below (kr_ HO651.out) hb); replace HO657 := Aside0.mk (Kd.R_below (kr_ HO657.out) hb); replace HB := Aside0.mk (below_step (lb2_ HB.out (IsS90.ge HI0.out) GE648.out) hb); have BK661 := Aside0.mk (hbox); have GW661 := Aside0.mk ((by rw [hg]; exact (keep_size (w := w) (g := g) (row := none) (kb1_ HK.out GW648.out)) : w.heap.size ≤ gb661)); have GE661 := Aside0.mk ((Nat.le_trans HW0.out (by rw [hg]; exact (keep_size (w := w) (g := g) (row := none) (kb1_ HK.out GW648.out)) : w.heap.size ≤ gb661) : w0.heap.size ≤ gb661)); replace HK := Aside0.mk (KeepBut.trans (kb1_ HK.out GW648.out) (KeepBut.of_below hb g none) (.inl rfl)); have NB648_661 := Aside0.mk (nl_ hg BK648.out); have NB661_648 := Aside0.mk (ng_ hg BK648.out); replace BK648 := Aside0.mk (bb_ (bk_ BK648.out) hb); have NB0_661 := Aside0.mk ((by rw [hg]; exact Nat.ne_of_lt (IsS90.lt (show IsS90 w0 _ g s0_0 t659 t660 from is90_1 HI0.out NB0_648.out)) : g ≠ gb661)); have NB661_0 := Aside0.mk ((by rw [hg]; exact Nat.ne_of_gt (IsS90.lt (show IsS90 w0 _ g s0_0 t659 t660 from is90_1 HI0.out NB0_648.out)) : gb661 ≠ g)); replace HI0 := Aside0.mk (IsS90.below (is90_1 HI0.out NB0_648.out) hb); clear hb hbox hg; have hnb16 := NB661_648.out; have hnc16 := NB648_661.out; have hnb17 := NB661_0.out; have hnc17 := NB0_661.out; obtain ⟨hcz18_0, hcz18_1, hcz18_2⟩ := cz3_ BK661.out; obtain ⟨hfz18_0, hfz18_1, hfz18_2⟩ := fz3_ BK661.out))
 (try simp only [Act.put, List.setIfInBounds_toArray, List.set_cons_zero, List.set_cons_succ])
 go_cut [23] (fun v23 wc => ∃ (kq : Nat) (x23_4 : Bool) (x1001_4 : Int) (x1002_4 : Int), v23 = .bool x23_4 ∧ Aside0 (spec_l1Cur_sump.j0 kq x23_4 s0_0 x1001_4 x1002_4 a1 t652 t658 = some (r1, r2, r3, r4, r5)) ∧ Aside0 (kq ≤ k) ∧ Aside0 (wc.heap[gb648]? = some (.cells #[.int .i64 0, .int .i64 0, .int .i64 0] 30 (0, 0))) ∧ Aside0 (wc.heap[gb661]? = some (.cells #[.int .i64 a1, .int .i64 t652, .int .i64 t658] 30 (0, 0))) ∧ Aside0 (IsS90 w0 wc g s0_0 x1001_4 x1002_4) ∧ Aside0 (KeepBut w wc g none) ∧ Aside0 (Below w0.heap.size w0 wc))
 case first =>
  have H := HC5.out
  clear HC5
  by_cases c19 : t658 > t652
  ·
   rw [if_pos c19] at H
   have c19b0 : decide (t652 < t658) = true := decide_eq_true c19
   clear c19
   (first | rw [c19b0] | (simp only [i64_w, i32_w]; rw [c19b0]) | skip)
   replace H := Option.bind_eq_some_iff.mp H
   obtain ⟨⟨t662, t663, t664⟩, A200, H⟩ := H
   replace H : (spec_l1Cur_sump.j0 k (!t662) s0_0 t663 t664 a1 t652 t658) = some (r1, r2, r3, r4, r5) := H
   have A20 := Aside0.mk A200
   clear A200
   have H' := Aside0.mk H
   clear H
   have hnb21 := NB661_648.out
   have hnc21 := NB648_661.out
   have hnb22 := NB661_0.out
   have hnc22 := NB0_661.out
   obtain ⟨hcz23_0, hcz23_1, hcz23_2⟩ := cz3_ BK661.out
   obtain ⟨hfz23_0, hfz23_1, hfz23_2⟩ := fz3_ BK661.out
   go_wp2_with (first | (go_at_call 92; (with_reducible refine (spec_l1Cur_one.calls g s0_0 t659 t660 20 t662 t663 t664 w0 _ ?side1 ?side2 A20.out).mono ?_); (case side1 => exact is90_2 HI0.out NB0_648.out NB0_661.out); (case side2 => exact lb3_ HB.out (IsS90.ge HI0.out) GE648.out GE661.out); rintro e w24 ⟨rfl, hi, hb, hk⟩; replace BK648 := Aside0.mk (KeepBut.blk hk (g' := gb648) (o := .cells #[.int .i64 0, .int .i64 0, .int .i64 0] 30 (0, 0)) (by (with_reducible repeat (first | refine blk_drewN ?_ _ | refine blk_drew ?_ | refine blk_alloc ?_ _)); exact (f3_ BK648.out NB648_661.out _ _ _)) NB648_0.out (by simp)); replace HO651 := Aside0.mk (Kd.R_mono (Kd.R_keep (IsS90.apart (show IsS90 w0 _ g s0_0 t659 t660 from is90_2 HI0.out NB0_648.out NB0_661.out) (kg_ HO651.out BK661.out) (by decide)) hk (fun _ h => h.2)) (fun _ h => h.1)); replace HO657 := Aside0.mk (Kd.R_mono (Kd.R_keep (IsS90.apart (show IsS90 w0 _ g s0_0 t659 t660 from is90_2 HI0.out NB0_648.out NB0_661.out) (kg_ HO657.out BK661.out) (by decide)) hk (fun _ h => h.2)) (fun _ h => h.1)); replace BK661 := Aside0.mk (KeepBut.blk hk (g' := gb661) (o := .cells #[.int .i64 a1, .int .i64 t652, .int .i64 t658] 30 (0, 0)) (by (with_reducible repeat (first | refine blk_drewN ?_ _ | refine blk_drew ?_ | refine blk_alloc ?_ _)); exact (p3_ BK661.out _ _ _)) NB661_0.out (by simp)); replace HK := Aside0.mk (KeepBut.trans (kb2_ HK.out GW648.out GW661.out) hk (.inl rfl)); replace HB := Aside0.mk (hb); replace HI0 := Aside0.mk (hi); (try clear hb); (try clear hb2); (try clear hk); (try clear hi)))
   go_meet
   case rel => exact ⟨_, (!t662), (t663), (t664), (by first | rfl | (simp; done) | (simp [*]; done)), H', ⟨by first | omega | exact Nat.le_refl _⟩, ⟨bk_ BK648.out⟩, ⟨bk_ BK661.out⟩, ⟨is90_2 HI0.out NB0_648.out NB0_661.out⟩, ⟨kb2_ HK.out GW648.out GW661.out⟩, ⟨lb3_ HB.out (IsS90.ge HI0.out) GE648.out GE661.out⟩⟩
  ·
   rw [if_neg c19] at H
   have c19b0 : decide (t652 < t658) = false := decide_eq_false c19
   clear c19
   (first | rw [c19b0] | (simp only [i64_w, i32_w]; rw [c19b0]) | skip)
   have H' := Aside0.mk H
   clear H
   have hnb25 := NB661_648.out
   have hnc25 := NB648_661.out
   have hnb26 := NB661_0.out
   have hnc26 := NB0_661.out
   obtain ⟨hcz27_0, hcz27_1, hcz27_2⟩ := cz3_ BK661.out
   obtain ⟨hfz27_0, hfz27_1, hfz27_2⟩ := fz3_ BK661.out
   go_wp2
   go_meet
   case rel => exact ⟨_, (false), (t659), (t660), (by first | rfl | (simp; done) | (simp [*]; done)), H', ⟨by first | omega | exact Nat.le_refl _⟩, ⟨by (with_reducible repeat (first | refine blk_drewN ?_ _ | refine blk_drew ?_ | refine blk_alloc ?_ _)); exact (f3_ BK648.out NB648_661.out _ _ _)⟩, ⟨by (with_reducible repeat (first | refine blk_drewN ?_ _ | refine blk_drew ?_ | refine blk_alloc ?_ _)); exact (p3_ BK661.out _ _ _)⟩, ⟨is90_2 HI0.out NB0_648.out NB0_661.out⟩, ⟨kb2_ HK.out GW648.out GW661.out⟩, ⟨lb3_ HB.out (IsS90.ge HI0.out) GE648.out GE661.out⟩⟩
 case rest =>
  clear HC5
  try clear c1
  try clear c2
  try clear p2
  try clear c8
  try clear c16
  try clear c17
  try clear c19
  try clear c19b0
  try clear c21
  try clear c22
  try clear c25
  try clear c26
  try clear hcz18_0 hcz18_1 hcz18_2
  try clear hcz23_0 hcz23_1 hcz23_2
  try clear hcz27_0 hcz27_1 hcz27_2
  try clear hfz18_0 hfz18_1 hfz18_2
  try clear hfz23_0 hfz23_1 hfz23_2
  try clear hfz27_0 hfz27_1 hfz27_2
  obtain ⟨kq, x23_4, x1001_4, x1002_4, rfl, HA, HJ4, BK648, BK661, HI0, HK, HB⟩ := hcut
  cases kq with
  | zero => exact absurd HA.out (by simp [spec_l1Cur_sump.j0])
  | succ kj4 =>
   have H := HA.out
   clear HA
   simp only [spec_l1Cur_sump.j0] at H
   have HC28 := Aside0.mk H
   clear H
   go_upto_if 23 with (fail)
   go_cut [] (fun wc => ∃ (kq : Nat) (x662002_27 : Int), Aside0 (spec_l1Cur_sump.j1 kq s0_0 x1001_4 x1002_4 a1 t652 x662002_27 = some (r1, r2, r3, r4, r5)) ∧ Aside0 (kq ≤ kj4) ∧ Aside0 (wc.heap[gb648]? = some (.cells #[.int .i64 0, .int .i64 0, .int .i64 0] 30 (0, 0))) ∧ Aside0 (wc.heap[gb661]? = some (.cells #[.int .i64 a1, .int .i64 t652, .int .i64 x662002_27] 30 (0, 0))) ∧ Aside0 (IsS90 w0 wc g s0_0 x1001_4 x1002_4) ∧ Aside0 (KeepBut w wc g none) ∧ Aside0 (Below w0.heap.size w0 wc))
   case first =>
    have H := HC28.out
    clear HC28
    by_cases c29 : x23_4 = true
    ·
     subst c29
     have H1 : (spec_l1Cur_sump.j1 kj4 s0_0 x1001_4 x1002_4 a1 t652 t652) = some (r1, r2, r3, r4, r5) := by rw [if_pos rfl] at H; exact H
     clear H
     have H := H1
     clear H1
     have H' := Aside0.mk H
     clear H
     have hnb30 := NB661_648.out
     have hnc30 := NB648_661.out
     have hnb31 := NB661_0.out
     have hnc31 := NB0_661.out
     obtain ⟨hcz32_0, hcz32_1, hcz32_2⟩ := cz3_ BK661.out
     obtain ⟨hfz32_0, hfz32_1, hfz32_2⟩ := fz3_ BK661.out
     go_wp2
     go_meet
     case rel => exact ⟨_, (t652), H', ⟨by have := HJ4.out; first | omega | exact Nat.le_refl _⟩, ⟨by (with_reducible repeat (first | refine blk_drewN ?_ _ | refine blk_drew ?_ | refine blk_alloc ?_ _)); exact (blk_far BK648.out NB648_661.out _)⟩, ⟨by (with_reducible repeat (first | refine blk_drewN ?_ _ | refine blk_drew ?_ | refine blk_alloc ?_ _)); refine blk_put (cs := #[.int .i64 a1, .int .i64 t652, .int .i64 t658]) ?_ 2 _ rfl; (with_reducible repeat (first | refine blk_drewN ?_ _ | refine blk_drew ?_ | refine blk_alloc ?_ _)); exact BK661.out⟩, ⟨is90_2 HI0.out NB0_648.out NB0_661.out⟩, ⟨kb2_ HK.out GW648.out GW661.out⟩, ⟨lb3_ HB.out (IsS90.ge HI0.out) GE648.out GE661.out⟩⟩
    ·
     replace c29 := Bool.eq_false_iff.mpr c29
     subst c29
     have H1 : (spec_l1Cur_sump.j1 kj4 s0_0 x1001_4 x1002_4 a1 t652 t658) = some (r1, r2, r3, r4, r5) := by rw [if_neg (show ¬ (false = true) by decide)] at H; exact H
     clear H
     have H := H1
     clear H1
     have H' := Aside0.mk H
     clear H
     go_wp2
     go_meet
     case rel => exact ⟨_, (t658), H', ⟨by have := HJ4.out; first | omega | exact Nat.le_refl _⟩, ⟨bk_ BK648.out⟩, ⟨bk_ BK661.out⟩, ⟨is90_2 HI0.out NB0_648.out NB0_661.out⟩, ⟨kb2_ HK.out GW648.out GW661.out⟩, ⟨lb3_ HB.out (IsS90.ge HI0.out) GE648.out GE661.out⟩⟩
   case rest =>
    clear HC28
    try clear c1
    try clear c2
    try clear p2
    try clear c3
    try clear c8
    try clear c16
    try clear c17
    try clear c19
    try clear c19b0
    try clear c21
    try clear c22
    try clear c25
    try clear c26
    try clear c29
    try clear c30
    try clear c31
    try clear hcz18_0 hcz18_1 hcz18_2
    try clear hcz23_0 hcz23_1 hcz23_2
    try clear hcz27_0 hcz27_1 hcz27_2
    try clear hcz32_0 hcz32_1 hcz32_2
    try clear hfz18_0 hfz18_1 hfz18_2
    try clear hfz23_0 hfz23_1 hfz23_2
    try clear hfz27_0 hfz27_1 hfz27_2
    try clear hfz32_0 hfz32_1 hfz32_2
    try clear p2
    obtain ⟨kq, x662002_27, HA, HJ27, BK648, BK661, HI0, HK, HB⟩ := hcut
    cases kq with
    | zero => exact absurd HA.out (by simp [spec_l1Cur_sump.j1])
    | succ kj27 =>
     have H := HA.out
     clear HA
     simp only [spec_l1Cur_sump.j1] at H
     replace H := Option.bind_eq_some_iff.mp H
     obtain ⟨⟨t665, t666, t667⟩, A330, H⟩ := H
     replace H : (if t665 = 0 then ((spec_l1Cur_among.f s0_0 t666 t667 (([(-1), 8] : List Int))).bind fun bt671 => (some (bt671.1, t652, x662002_27, bt671.2.1, bt671.2.2))) else (if t665 = 1 then ((spec_l1Cur_among.f s0_0 t666 t667 (([(-501), 501] : List Int))).bind fun bt677 => (some (a1, bt677.1, x662002_27, bt677.2.1, bt677.2.2))) else (if t665 = 2 then ((spec_l1Cur_among.f s0_0 t666 t667 (([(-501), wrap64 (t652 + 1)] : List Int))).bind fun bt683 => (some (a1, t652, bt683.1, bt683.2.1, bt683.2.2))) else (some (a1, t652, x662002_27, t666, t667))))) = some (r1, r2, r3, r4, r5) := H
     have A33 := Aside0.mk A330
     clear A330
     by_cases c34 : t665 = 0
     ·
      rw [if_pos c34] at H
      have c34b0 : (t665 == 0) = true := beq_iff_eq.mpr c34
      have c34b1 : (t665 != 0) = false := bne_eq_false_iff_eq.mpr c34
      clear c34
      obtain ⟨y668, hy668⟩ : ∃ y_ : List Int, y_ = (([(-1), 8] : List Int)) := ⟨_, rfl⟩
      replace H : ((spec_l1Cur_among.f s0_0 t666 t667 y668).bind fun bt671 => (some (bt671.1, t652, x662002_27, bt671.2.1, bt671.2.2))) = some (r1, r2, r3, r4, r5) := by first | (rw [hy668]; with_reducible exact H) | (have H2_ := (Option.bind_some _ _).symm.trans H; rw [hy668]; with_reducible exact H2_) | (have H2_ := (Option.bind_some _ _).symm.trans H; with_reducible exact H2_) | with_reducible exact H | (rw [hy668]; exact H) | exact H
      have Ny668 := Aside0.mk hy668
      clear hy668
      replace H := Option.bind_eq_some_iff.mp H
      obtain ⟨⟨t671, t672, t673⟩, A350, H⟩ := H
      replace H : (some (t671, t652, x662002_27, t672, t673)) = some (r1, r2, r3, r4, r5) := H
      have A35 := Aside0.mk A350
      clear A350
      simp only [Option.some.injEq, Prod.mk.injEq] at H
      obtain ⟨rfl, rfl, rfl, rfl, rfl⟩ := H
      go_wp2_with (first | ((with_reducible refine gate_callee (f := 87) rfl ?_); refine ga_ (some 28) Try.func87 #[.pointer (some ⟨g, 0, none⟩), .int .i64 60] ?_; (with_reducible refine (spec_l1Cur_pick.calls g s0_0 x1001_4 x1002_4 60 t665 t666 t667 w0 _ ?side1 ?side2 A33.out).mono ?_); (case side1 => exact is90_2 HI0.out NB0_648.out NB0_661.out); (case side2 => exact lb3_ HB.out (IsS90.ge HI0.out) GE648.out GE661.out); rintro e w36 ⟨rfl, hi, hb, hk⟩; refine ⟨_, rfl, ?_⟩; replace BK648 := Aside0.mk (KeepBut.blk hk (g' := gb648) (o := .cells #[.int .i64 0, .int .i64 0, .int .i64 0] 30 (0, 0)) (bk_ BK648.out) NB648_0.out (by simp)); replace BK661 := Aside0.mk (KeepBut.blk hk (g' := gb661) (o := .cells #[.int .i64 a1, .int .i64 t652, .int .i64 x662002_27] 30 (0, 0)) (bk_ BK661.out) NB661_0.out (by simp)); replace HK := Aside0.mk (KeepBut.trans (kb2_ HK.out GW648.out GW661.out) hk (.inl rfl)); replace HB := Aside0.mk (hb); replace HI0 := Aside0.mk (hi); (try clear hb); (try clear hb2); (try clear hk); (try clear hi)) | ((with_reducible refine gate_dst (N := 32) rfl ?_); refine Kd.R_lit (Kd.int .i64) _ 3 ?hg (N := 32) ?hd (xs := ([(-1), 8] : List Int)) (inner := [.int .i64 (-1), .int .i64 8]) (ok := fun _ => True) (okp := fun _ => True) ?hr ?hp (fun _ hk => hk) trivial (Below.refl _ _) (Nat.le_refl _) (by simp) ?_; (case hd => rfl); (case hg => rfl); (case hr => first | (go_simp; done) | (go_simp; rfl)); (case hp => exact (Reps.one (show Kd.M (Kd.int .i64) _ _ _ (-1) [.int .i64 (-1)] from rfl) (Reps.one (show Kd.M (Kd.int .i64) _ _ _ 8 [.int .i64 8] from rfl) (Reps.none _ _)))); intro v669 w37 ho38 hb hg_ hnew_; clear hg_ hnew_; replace ho38 := ry_ Ny668.out ho38; have HO670 := Aside0.mk (Kd.R_lower ho38 (keep_size (w := w) (g := g) (row := none) (kb2_ HK.out GW648.out GW661.out))); replace BK648 := Aside0.mk (bb_ (bk_ BK648.out) hb); replace BK661 := Aside0.mk (bb_ (bk_ BK661.out) hb); replace HK := Aside0.mk (KeepBut.trans (kb2_ HK.out GW648.out GW661.out) (KeepBut.of_below hb g none) (.inl rfl)); replace HB := Aside0.mk (below_step (lb3_ HB.out (IsS90.ge HI0.out) GE648.out GE661.out) hb); replace HI0 := Aside0.mk (IsS90.below (is90_2 HI0.out NB0_648.out NB0_661.out) hb); clear hb ho38; obtain ⟨Ao39, co39, eo39⟩ := Kd.R_slice HO670.out; subst eo39) | ((with_reducible refine gate_callee (f := 86) rfl ?_); refine ga_ (some 33) Try.func86 #[.pointer (some ⟨g, 0, none⟩), .slice Ao39 y668.length co39] ?_; (with_reducible refine (spec_l1Cur_among.calls g s0_0 t666 t667 _ _ y668 t671 t672 t673 w0 _ ?side1 ?side2 ?side3 ?side4 ?side5 A35.out).mono ?_); (case side1 => exact is90_2 HI0.out NB0_648.out NB0_661.out); (case side2 => exact lb3_ HB.out (IsS90.ge HI0.out) GE648.out GE661.out); (case side3 => exact kc_ (Kd.R_reads' HO670.out).2.2); (case side4 => exact (Kd.R_reads' HO670.out).2.1); (case side5 => exact far_slice (IsS90.own_ne HI0.out HO670.out (by decide))); rintro e w40 ⟨rfl, hi, hb, hk⟩; refine ⟨_, rfl, ?_⟩; replace BK648 := Aside0.mk (KeepBut.blk hk (g' := gb648) (o := .cells #[.int .i64 0, .int .i64 0, .int .i64 0] 30 (0, 0)) (bk_ BK648.out) NB648_0.out (by simp)); replace BK661 := Aside0.mk (KeepBut.blk hk (g' := gb661) (o := .cells #[.int .i64 a1, .int .i64 t652, .int .i64 x662002_27] 30 (0, 0)) (bk_ BK661.out) NB661_0.out (by simp)); replace HO670 := Aside0.mk (Kd.R_mono (Kd.R_keep (IsS90.apart (show IsS90 w0 _ g s0_0 t666 t667 from is90_2 HI0.out NB0_648.out NB0_661.out) (kr_ HO670.out) (by decide)) hk (fun _ h => h.2)) (fun _ h => h.1)); replace HK := Aside0.mk (KeepBut.trans (kb2_ HK.out GW648.out GW661.out) hk (.inl rfl)); replace HB := Aside0.mk (hb); replace HI0 := Aside0.mk (hi); (try clear hb); (try clear hb2); (try clear hk); (try clear hi); have hnb41 := NB661_648.out; have hnc41 := NB648_661.out; have hnb42 := NB661_0.out; have hnc42 := NB0_661.out; obtain ⟨hcz43_0, hcz43_1, hcz43_2⟩ := cz3_ BK661.out; obtain ⟨hfz43_0, hfz43_1, hfz43_2⟩ := fz3_ BK661.out; have hnb44 := NB648_0.out; have hnc44 := NB0_648.out; obtain ⟨hcz45_0, hcz45_1, hcz45_2⟩ := cz3_ BK648.out; obtain ⟨hfz45_0, hfz45_1, hfz45_2⟩ := fz3_ BK648.out))
      refine bodyPost_ret (results_cell_row rfl _ _ gb648 30 #[.int .i64 t671, .int .i64 t652, .int .i64 x662002_27] (0, 0) _ rfl (by (with_reducible repeat (first | refine blk_drewN ?_ _ | refine blk_drew ?_ | refine blk_alloc ?_ _)); refine blk_put (cs := #[.int .i64 t671, .int .i64 t652, .int .i64 0]) ?_ 2 _ rfl; (with_reducible repeat (first | refine blk_drewN ?_ _ | refine blk_drew ?_ | refine blk_alloc ?_ _)); refine blk_put (cs := #[.int .i64 t671, .int .i64 0, .int .i64 0]) ?_ 1 _ rfl; (with_reducible repeat (first | refine blk_drewN ?_ _ | refine blk_drew ?_ | refine blk_alloc ?_ _)); refine blk_put (cs := #[.int .i64 0, .int .i64 0, .int .i64 0]) ?_ 0 _ rfl; (with_reducible repeat (first | refine blk_drewN ?_ _ | refine blk_drew ?_ | refine blk_alloc ?_ _)); refine blk_far ?_ NB648_661.out _; (with_reducible repeat (first | refine blk_drewN ?_ _ | refine blk_drew ?_ | refine blk_alloc ?_ _)); exact BK648.out) Try.underlying30 rfl (by kernel_rfl)) rfl ?_
      exact ⟨rr_, is90_2 HI0.out NB0_648.out NB0_661.out, lb3_ HB.out (IsS90.ge HI0.out) GE648.out GE661.out, kb2_ HK.out GW648.out GW661.out⟩
     ·
      rw [if_neg c34] at H
      have c34b0 : (t665 == 0) = false := beq_eq_false_iff_ne.mpr c34
      have c34b1 : (t665 != 0) = true := bne_iff_ne.mpr c34
      by_cases c46 : t665 = 1
      ·
       rw [if_pos c46] at H
       have c46b0 : (t665 == 1) = true := beq_iff_eq.mpr c46
       have c46b1 : (t665 != 1) = false := bne_eq_false_iff_eq.mpr c46
       clear c46
       obtain ⟨y674, hy674⟩ : ∃ y_ : List Int, y_ = (([(-501), 501] : List Int)) := ⟨_, rfl⟩
       replace H : ((spec_l1Cur_among.f s0_0 t666 t667 y674).bind fun bt677 => (some (a1, bt677.1, x662002_27, bt677.2.1, bt677.2.2))) = some (r1, r2, r3, r4, r5) := by first | (rw [hy674]; with_reducible exact H) | (have H2_ := (Option.bind_some _ _).symm.trans H; rw [hy674]; with_reducible exact H2_) | (have H2_ := (Option.bind_some _ _).symm.trans H; with_reducible exact H2_) | with_reducible exact H | (rw [hy674]; exact H) | exact H
       have Ny674 := Aside0.mk hy674
       clear hy674
       replace H := Option.bind_eq_some_iff.mp H
       obtain ⟨⟨t677, t678, t679⟩, A470, H⟩ := H
       replace H : (some (a1, t677, x662002_27, t678, t679)) = some (r1, r2, r3, r4, r5) := H
       have A47 := Aside0.mk A470
       clear A470
       simp only [Option.some.injEq, Prod.mk.injEq] at H
       obtain ⟨rfl, rfl, rfl, rfl, rfl⟩ := H
       go_wp2_with (first | ((with_reducible refine gate_callee (f := 87) rfl ?_); refine ga_ (some 28) Try.func87 #[.pointer (some ⟨g, 0, none⟩), .int .i64 60] ?_; (with_reducible refine (spec_l1Cur_pick.calls g s0_0 x1001_4 x1002_4 60 t665 t666 t667 w0 _ ?side1 ?side2 A33.out).mono ?_); (case side1 => exact is90_2 HI0.out NB0_648.out NB0_661.out); (case side2 => exact lb3_ HB.out (IsS90.ge HI0.out) GE648.out GE661.out); rintro e w48 ⟨rfl, hi, hb, hk⟩; refine ⟨_, rfl, ?_⟩; replace BK648 := Aside0.mk (KeepBut.blk hk (g' := gb648) (o := .cells #[.int .i64 0, .int .i64 0, .int .i64 0] 30 (0, 0)) (bk_ BK648.out) NB648_0.out (by simp)); replace BK661 := Aside0.mk (KeepBut.blk hk (g' := gb661) (o := .cells #[.int .i64 a1, .int .i64 t652, .int .i64 x662002_27] 30 (0, 0)) (bk_ BK661.out) NB661_0.out (by simp)); replace HK := Aside0.mk (KeepBut.trans (kb2_ HK.out GW648.out GW661.out) hk (.inl rfl)); replace HB := Aside0.mk (hb); replace HI0 := Aside0.mk (hi); (try clear hb); (try clear hb2); (try clear hk); (try clear hi)) | ((with_reducible refine gate_dst (N := 38) rfl ?_); refine Kd.R_lit (Kd.int .i64) _ 3 ?hg (N := 38) ?hd (xs := ([(-501), 501] : List Int)) (inner := [.int .i64 (-501), .int .i64 501]) (ok := fun _ => True) (okp := fun _ => True) ?hr ?hp (fun _ hk => hk) trivial (Below.refl _ _) (Nat.le_refl _) (by simp) ?_; (case hd => rfl); (case hg => rfl); (case hr => first | (go_simp; done) | (go_simp; rfl)); (case hp => exact (Reps.one (show Kd.M (Kd.int .i64) _ _ _ (-501) [.int .i64 (-501)] from rfl) (Reps.one (show Kd.M (Kd.int .i64) _ _ _ 501 [.int .i64 501] from rfl) (Reps.none _ _)))); intro v675 w49 ho50 hb hg_ hnew_; clear hg_ hnew_; replace ho50 := ry_ Ny674.out ho50; have HO676 := Aside0.mk (Kd.R_lower ho50 (keep_size (w := w) (g := g) (row := none) (kb2_ HK.out GW648.out GW661.out))); replace BK648 := Aside0.mk (bb_ (bk_ BK648.out) hb); replace BK661 := Aside0.mk (bb_ (bk_ BK661.out) hb); replace HK := Aside0.mk (KeepBut.trans (kb2_ HK.out GW648.out GW661.out) (KeepBut.of_below hb g none) (.inl rfl)); replace HB := Aside0.mk (below_step (lb3_ HB.out (IsS90.ge HI0.out) GE648.out GE661.out) hb); replace HI0 := Aside0.mk (IsS90.below (is90_2 HI0.out NB0_648.out NB0_661.out) hb); clear hb ho50; obtain ⟨Ao51, co51, eo51⟩ := Kd.R_slice HO676.out; subst eo51) | ((with_reducible refine gate_callee (f := 86) rfl ?_); refine ga_ (some 39) Try.func86 #[.pointer (some ⟨g, 0, none⟩), .slice Ao51 y674.length co51] ?_; (with_reducible refine (spec_l1Cur_among.calls g s0_0 t666 t667 _ _ y674 t677 t678 t679 w0 _ ?side1 ?side2 ?side3 ?side4 ?side5 A47.out).mono ?_); (case side1 => exact is90_2 HI0.out NB0_648.out NB0_661.out); (case side2 => exact lb3_ HB.out (IsS90.ge HI0.out) GE648.out GE661.out); (case side3 => exact kc_ (Kd.R_reads' HO676.out).2.2); (case side4 => exact (Kd.R_reads' HO676.out).2.1); (case side5 => exact far_slice (IsS90.own_ne HI0.out HO676.out (by decide))); rintro e w52 ⟨rfl, hi, hb, hk⟩; refine ⟨_, rfl, ?_⟩; replace BK648 := Aside0.mk (KeepBut.blk hk (g' := gb648) (o := .cells #[.int .i64 0, .int .i64 0, .int .i64 0] 30 (0, 0)) (bk_ BK648.out) NB648_0.out (by simp)); replace BK661 := Aside0.mk (KeepBut.blk hk (g' := gb661) (o := .cells #[.int .i64 a1, .int .i64 t652, .int .i64 x662002_27] 30 (0, 0)) (bk_ BK661.out) NB661_0.out (by simp)); replace HO676 := Aside0.mk (Kd.R_mono (Kd.R_keep (IsS90.apart (show IsS90 w0 _ g s0_0 t666 t667 from is90_2 HI0.out NB0_648.out NB0_661.out) (kr_ HO676.out) (by decide)) hk (fun _ h => h.2)) (fun _ h => h.1)); replace HK := Aside0.mk (KeepBut.trans (kb2_ HK.out GW648.out GW661.out) hk (.inl rfl)); replace HB := Aside0.mk (hb); replace HI0 := Aside0.mk (hi); (try clear hb); (try clear hb2); (try clear hk); (try clear hi); have hnb53 := NB661_648.out; have hnc53 := NB648_661.out; have hnb54 := NB661_0.out; have hnc54 := NB0_661.out; obtain ⟨hcz55_0, hcz55_1, hcz55_2⟩ := cz3_ BK661.out; obtain ⟨hfz55_0, hfz55_1, hfz55_2⟩ := fz3_ BK661.out; have hnb56 := NB648_0.out; have hnc56 := NB0_648.out; obtain ⟨hcz57_0, hcz57_1, hcz57_2⟩ := cz3_ BK648.out; obtain ⟨hfz57_0, hfz57_1, hfz57_2⟩ := fz3_ BK648.out))
       refine bodyPost_ret (results_cell_row rfl _ _ gb648 30 #[.int .i64 a1, .int .i64 t677, .int .i64 x662002_27] (0, 0) _ rfl (by (with_reducible repeat (first | refine blk_drewN ?_ _ | refine blk_drew ?_ | refine blk_alloc ?_ _)); refine blk_put (cs := #[.int .i64 a1, .int .i64 t677, .int .i64 0]) ?_ 2 _ rfl; (with_reducible repeat (first | refine blk_drewN ?_ _ | refine blk_drew ?_ | refine blk_alloc ?_ _)); refine blk_put (cs := #[.int .i64 a1, .int .i64 0, .int .i64 0]) ?_ 1 _ rfl; (with_reducible repeat (first | refine blk_drewN ?_ _ | refine blk_drew ?_ | refine blk_alloc ?_ _)); refine blk_put (cs := #[.int .i64 0, .int .i64 0, .int .i64 0]) ?_ 0 _ rfl; (with_reducible repeat (first | refine blk_drewN ?_ _ | refine blk_drew ?_ | refine blk_alloc ?_ _)); refine blk_far ?_ NB648_661.out _; (with_reducible repeat (first | refine blk_drewN ?_ _ | refine blk_drew ?_ | refine blk_alloc ?_ _)); exact BK648.out) Try.underlying30 rfl (by kernel_rfl)) rfl ?_
       exact ⟨rr_, is90_2 HI0.out NB0_648.out NB0_661.out, lb3_ HB.out (IsS90.ge HI0.out) GE648.out GE661.out, kb2_ HK.out GW648.out GW661.out⟩
      ·
       rw [if_neg c46] at H
       have c46b0 : (t665 == 1) = false := beq_eq_false_iff_ne.mpr c46
       have c46b1 : (t665 != 1) = true := bne_iff_ne.mpr c46
       by_cases c58 : t665 = 2
       ·
        rw [if_pos c58] at H
        have c58b0 : (t665 == 2) = true := beq_iff_eq.mpr c58; have c58b1 : (t665 != 2) = false := bne_eq_false_iff_eq.mpr c58; clear c58
        obtain ⟨y680, hy680⟩ : ∃ y_ : List Int, y_ = (([(-501), wrap64 (t652 + 1)] : List Int)) := ⟨_, rfl⟩
        replace H : ((spec_l1Cur_among.f s0_0 t666 t667 y680).bind fun bt683 => (some (a1, t652, bt683.1, bt683.2.1, bt683.2.2))) = some (r1, r2, r3, r4, r5) := by first | (rw [hy680]; with_reducible exact H) | (have H2_ := (Option.bind_some _ _).symm.trans H; rw [hy680]; with_reducible exact H2_) | (have H2_ := (Option.bind_some _ _).symm.trans H; with_reducible exact H2_) | with_reducible exact H | (rw [hy680]; exact H) | exact H
        have Ny680 := Aside0.mk hy680; clear hy680; replace H := Option.bind_eq_some_iff.mp H; obtain ⟨⟨t683, t684, t685⟩, A590, H⟩ := H; replace H : (some (a1, t652, t683, t684, t685)) = some (r1, r2, r3, r4, r5) := H; have A59 := Aside0.mk A590; clear A590; simp only [Option.some.injEq, Prod.mk.injEq] at H; obtain ⟨rfl, rfl, rfl, rfl, rfl⟩ := H
        go_wp2_with (first | ((with_reducible refine gate_callee (f := 87) rfl ?_); refine ga_ (some 28) Try.func87 #[.pointer (some ⟨g, 0, none⟩), .int .i64 60] ?_; (with_reducible refine (spec_l1Cur_pick.calls g s0_0 x1001_4 x1002_4 60 t665 t666 t667 w0 _ ?side1 ?side2 A33.out).mono ?_); (case side1 => exact is90_2 HI0.out NB0_648.out NB0_661.out); (case side2 => exact lb3_ HB.out (IsS90.ge HI0.out) GE648.out GE661.out); rintro e w60 ⟨rfl, hi, hb, hk⟩; refine ⟨_, rfl, ?_⟩; replace BK648 := Aside0.mk (KeepBut.blk hk (g' := gb648) (o := .cells #[.int .i64 0, .int .i64 0, .int .i64 0] 30 (0, 0)) (bk_ BK648.out) NB648_0.out (by simp)); replace BK661 := Aside0.mk (KeepBut.blk hk (g' := gb661) (o := .cells #[.int .i64 a1, .int .i64 t652, .int .i64 x662002_27] 30 (0, 0)) (bk_ BK661.out) NB661_0.out (by simp)); replace HK := Aside0.mk (KeepBut.trans (kb2_ HK.out GW648.out GW661.out) hk (.inl rfl)); replace HB := Aside0.mk (hb); replace HI0 := Aside0.mk (hi); (try clear hb); (try clear hb2); (try clear hk); (try clear hi); have hnb61 := NB661_648.out; have hnc61 := NB648_661.out; have hnb62 := NB661_0.out; have hnc62 := NB0_661.out; obtain ⟨hcz63_0, hcz63_1, hcz63_2⟩ := cz3_ BK661.out; obtain ⟨hfz63_0, hfz63_1, hfz63_2⟩ := fz3_ BK661.out) | ((with_reducible refine gate_dst (N := 47) rfl ?_); refine Kd.R_lit (Kd.int .i64) _ 3 ?hg (N := 47) ?hd (xs := ([(-501), wrap64 (t652 + 1)] : List Int)) (inner := [.int .i64 (-501), .int .i64 (wrap64 (t652 + 1))]) (ok := fun _ => True) (okp := fun _ => True) ?hr ?hp (fun _ hk => hk) trivial (Below.refl _ _) (Nat.le_refl _) (by simp) ?_; (case hd => rfl); (case hg => rfl); (case hr => first | (go_simp; done) | (go_simp; rfl)); (case hp => exact (Reps.one (show Kd.M (Kd.int .i64) _ _ _ (-501) [.int .i64 (-501)] from rfl) (Reps.one (show Kd.M (Kd.int .i64) _ _ _ (wrap64 (t652 + 1)) [.int .i64 (wrap64 (t652 + 1))] from rfl) (Reps.none _ _)))); intro v681 w64 ho65 hb hg_ hnew_; clear hg_ hnew_; replace ho65 := ry_ Ny680.out ho65; have HO682 := Aside0.mk (Kd.R_lower ho65 (keep_size (w := w) (g := g) (row := none) (kb2_ HK.out GW648.out GW661.out))); replace BK648 := Aside0.mk (bb_ (bk_ BK648.out) hb); replace BK661 := Aside0.mk (bb_ (bk_ BK661.out) hb); replace HK := Aside0.mk (KeepBut.trans (kb2_ HK.out GW648.out GW661.out) (KeepBut.of_below hb g none) (.inl rfl)); replace HB := Aside0.mk (below_step (lb3_ HB.out (IsS90.ge HI0.out) GE648.out GE661.out) hb); replace HI0 := Aside0.mk (IsS90.below (is90_2 HI0.out NB0_648.out NB0_661.out) hb); clear hb ho65; obtain ⟨Ao66, co66, eo66⟩ := Kd.R_slice HO682.out; subst eo66) | ((with_reducible refine gate_callee (f := 86) rfl ?_); refine ga_ (some 48) Try.func86 #[.pointer (some ⟨g, 0, none⟩), .slice Ao66 y680.length co66] ?_; (with_reducible refine (spec_l1Cur_among.calls g s0_0 t666 t667 _ _ y680 t683 t684 t685 w0 _ ?side1 ?side2 ?side3 ?side4 ?side5 A59.out).mono ?_); (case side1 => exact is90_2 HI0.out NB0_648.out NB0_661.out); (case side2 => exact lb3_ HB.out (IsS90.ge HI0.out) GE648.out GE661.out); (case side3 => exact kc_ (Kd.R_reads' HO682.out).2.2); (case side4 => exact (Kd.R_reads' HO682.out).2.1); (case side5 => exact far_slice (IsS90.own_ne HI0.out HO682.out (by decide))); rintro e w67 ⟨rfl, hi, hb, hk⟩; refine ⟨_, rfl, ?_⟩; replace BK648 := Aside0.mk (KeepBut.blk hk (g' := gb648) (o := .cells #[.int .i64 0, .int .i64 0, .int .i64 0] 30 (0, 0)) (bk_ BK648.out) NB648_0.out (by simp)); replace BK661 := Aside0.mk (KeepBut.blk hk (g' := gb661) (o := .cells #[.int .i64 a1, .int .i64 t652, .int .i64 x662002_27] 30 (0, 0)) (bk_ BK661.out) NB661_0.out (by simp)); replace HO682 := Aside0.mk (Kd.R_mono (Kd.R_keep (IsS90.apart (show IsS90 w0 _ g s0_0 t666 t667 from is90_2 HI0.out NB0_648.out NB0_661.out) (kr_ HO682.out) (by decide)) hk (fun _ h => h.2)) (fun _ h => h.1)); replace HK := Aside0.mk (KeepBut.trans (kb2_ HK.out GW648.out GW661.out) hk (.inl rfl)); replace HB := Aside0.mk (hb); replace HI0 := Aside0.mk (hi); (try clear hb); (try clear hb2); (try clear hk); (try clear hi); obtain ⟨hcz68_0, hcz68_1, hcz68_2⟩ := cz3_ BK661.out; obtain ⟨hfz68_0, hfz68_1, hfz68_2⟩ := fz3_ BK661.out; have hnb69 := NB648_0.out; have hnc69 := NB0_648.out; obtain ⟨hcz70_0, hcz70_1, hcz70_2⟩ := cz3_ BK648.out; obtain ⟨hfz70_0, hfz70_1, hfz70_2⟩ := fz3_ BK648.out))
        refine bodyPost_ret (results_cell_row rfl _ _ gb648 30 #[.int .i64 a1, .int .i64 t652, .int .i64 t683] (0, 0) _ rfl (by (with_reducible repeat (first | refine blk_drewN ?_ _ | refine blk_drew ?_ | refine blk_alloc ?_ _)); refine blk_put (cs := #[.int .i64 a1, .int .i64 t652, .int .i64 0]) ?_ 2 _ rfl; (with_reducible repeat (first | refine blk_drewN ?_ _ | refine blk_drew ?_ | refine blk_alloc ?_ _)); refine blk_put (cs := #[.int .i64 a1, .int .i64 0, .int .i64 0]) ?_ 1 _ rfl; (with_reducible repeat (first | refine blk_drewN ?_ _ | refine blk_drew ?_ | refine blk_alloc ?_ _)); refine blk_put (cs := #[.int .i64 0, .int .i64 0, .int .i64 0]) ?_ 0 _ rfl; (with_reducible repeat (first | refine blk_drewN ?_ _ | refine blk_drew ?_ | refine blk_alloc ?_ _)); refine blk_far ?_ NB648_661.out _; (with_reducible repeat (first | refine blk_drewN ?_ _ | refine blk_drew ?_ | refine blk_alloc ?_ _)); exact BK648.out) Try.underlying30 rfl (by kernel_rfl)) rfl ?_; exact ⟨rr_, is90_2 HI0.out NB0_648.out NB0_661.out, lb3_ HB.out (IsS90.ge HI0.out) GE648.out GE661.out, kb2_ HK.out GW648.out GW661.out⟩
       ·
        rw [if_neg c58] at H
        have c58b0 : (t665 == 2) = false := beq_eq_false_iff_ne.mpr c58; have c58b1 : (t665 != 2) = true := bne_iff_ne.mpr c58; simp only [Option.some.injEq, Prod.mk.injEq] at H; obtain ⟨rfl, rfl, rfl, rfl, rfl⟩ := H
        go_wp2_with (first | ((with_reducible refine gate_callee (f := 87) rfl ?_); refine ga_ (some 28) Try.func87 #[.pointer (some ⟨g, 0, none⟩), .int .i64 60] ?_; (with_reducible refine (spec_l1Cur_pick.calls g s0_0 x1001_4 x1002_4 60 t665 t666 t667 w0 _ ?side1 ?side2 A33.out).mono ?_); (case side1 => exact is90_2 HI0.out NB0_648.out NB0_661.out); (case side2 => exact lb3_ HB.out (IsS90.ge HI0.out) GE648.out GE661.out); rintro e w71 ⟨rfl, hi, hb, hk⟩; refine ⟨_, rfl, ?_⟩; replace BK648 := Aside0.mk (KeepBut.blk hk (g' := gb648) (o := .cells #[.int .i64 0, .int .i64 0, .int .i64 0] 30 (0, 0)) (bk_ BK648.out) NB648_0.out (by simp)); replace BK661 := Aside0.mk (KeepBut.blk hk (g' := gb661) (o := .cells #[.int .i64 a1, .int .i64 t652, .int .i64 x662002_27] 30 (0, 0)) (bk_ BK661.out) NB661_0.out (by simp)); replace HK := Aside0.mk (KeepBut.trans (kb2_ HK.out GW648.out GW661.out) hk (.inl rfl)); replace HB := Aside0.mk (hb); replace HI0 := Aside0.mk (hi); (try clear hb); (try clear hb2); (try clear hk); (try clear hi); have hnb72 := NB661_648.out; have hnc72 := NB648_661.out; have hnb73 := NB661_0.out; have hnc73 := NB0_661.out; obtain ⟨hcz74_0, hcz74_1, hcz74_2⟩ := cz3_ BK661.out; obtain ⟨hfz74_0, hfz74_1, hfz74_2⟩ := fz3_ BK661.out; have hnb75 := NB648_0.out; have hnc75 := NB0_648.out; obtain ⟨hcz76_0, hcz76_1, hcz76_2⟩ := cz3_ BK648.out; obtain ⟨hfz76_0, hfz76_1, hfz76_2⟩ := fz3_ BK648.out))
        refine bodyPost_ret (results_cell_row rfl _ _ gb648 30 #[.int .i64 a1, .int .i64 t652, .int .i64 x662002_27] (0, 0) _ rfl (by (with_reducible repeat (first | refine blk_drewN ?_ _ | refine blk_drew ?_ | refine blk_alloc ?_ _)); refine blk_put (cs := #[.int .i64 a1, .int .i64 t652, .int .i64 0]) ?_ 2 _ rfl; (with_reducible repeat (first | refine blk_drewN ?_ _ | refine blk_drew ?_ | refine blk_alloc ?_ _)); refine blk_put (cs := #[.int .i64 a1, .int .i64 0, .int .i64 0]) ?_ 1 _ rfl; (with_reducible repeat (first | refine blk_drewN ?_ _ | refine blk_drew ?_ | refine blk_alloc ?_ _)); refine blk_put (cs := #[.int .i64 0, .int .i64 0, .int .i64 0]) ?_ 0 _ rfl; (with_reducible repeat (first | refine blk_drewN ?_ _ | refine blk_drew ?_ | refine blk_alloc ?_ _)); exact BK648.out) Try.underlying30 rfl (by kernel_rfl)) rfl ?_; exact ⟨rr_, is90_2 HI0.out NB0_648.out NB0_661.out, lb3_ HB.out (IsS90.ge HI0.out) GE648.out GE661.out, kb2_ HK.out GW648.out GW661.out⟩
def spec_DrawIsOpen.f (k : Nat) (l0 : List Int) : Option ((List (S54)) × Int × Int × Int × Int) := (spec_newCur.f l0).bind fun bt687 => ((spec_l1Cur_readings.f k bt687.1 bt687.2.1 bt687.2.2).bind fun bt691 => ((spec_l1Cur_sump.f k bt687.1 bt691.2.1 bt691.2.2 3).bind fun bt696 => ((spec_l1Cur_hour23.f k bt687.1 bt696.2.2.2.1 bt696.2.2.2.2 bt691.1).bind fun bt702 => (some (bt691.1, bt696.1, bt696.2.1, bt696.2.2.1, bt702.1)))))
def spec_DrawIsOpen.T4 : Bool × List (List Nat × List Nat) := (true, [([], []), ([], []), ([], []), ([], []), ([2, 3], [2, 3]), ([0, 4, 0], [0]), ([1, 5, 0, 1, 5], [1]), ([4, 6, 0, 1, 2, 3, 4, 5, 6], [4])])
def spec_DrawIsOpen.B4 : List Nat := [0, 0, 0, 0, 12, 29, 63, 127]
theorem spec_DrawIsOpen.tab4 : rtab .any (opsOf Try.f45 4) = spec_DrawIsOpen.T4 := by kernel_rfl
theorem spec_DrawIsOpen.bits4 : waitsOk spec_DrawIsOpen.T4.2 spec_DrawIsOpen.B4 = true := by kernel_rfl
set_option maxHeartbeats 8000000 in
set_option maxRecDepth 100000 in
theorem spec_DrawIsOpen.calls (k : Nat) (A0 : Option Addr) (c0 : Nat) (l0 : List Int) (r1 : List (S54)) (r2 : Int) (r3 : Int) (r4 : Int) (r5 : Int) (w : World) (hr0 : Kd.C (Kd.int .u8) w A0 l0.length l0) (hc0 : l0.length ≤ c0) (h : spec_DrawIsOpen.f k l0 = some (r1, r2, r3, r4, r5)) :
  Calls Try.prog 45 #[.slice A0 l0.length c0] w fun e w' => ∃ v0_ : Value, e = .returned (.tuple #[v0_, .agg #[.int .i64 r2, .int .i64 r3, .int .i64 r4], .int .i64 r5]) ∧ Kd.R k54 54 w' w.heap.size (fun _ => True) v0_ r1 ∧ Below w.heap.size w w' := by
 have hu30 := Try.underlying30
 have hu90 := Try.underlying90
 have HR0 := Aside0.mk hr0
 have HC0 := Aside0.mk hc0
 clear hr0 hc0
 have HB := Aside0.mk (Below.refl w.heap.size w)
 have H : ((spec_newCur.f l0).bind fun bt687 => ((spec_l1Cur_readings.f k bt687.1 bt687.2.1 bt687.2.2).bind fun bt691 => ((spec_l1Cur_sump.f k bt687.1 bt691.2.1 bt691.2.2 3).bind fun bt696 => ((spec_l1Cur_hour23.f k bt687.1 bt696.2.2.2.1 bt696.2.2.2.2 bt691.1).bind fun bt702 => (some (bt691.1, bt696.1, bt696.2.1, bt696.2.2.1, bt702.1)))))) = some (r1, r2, r3, r4, r5) := h
 clear h
 replace H := Option.bind_eq_some_iff.mp H
 obtain ⟨⟨t687, t688, t689⟩, A20, H⟩ := H
 replace H : ((spec_l1Cur_readings.f k t687 t688 t689).bind fun bt691 => ((spec_l1Cur_sump.f k t687 bt691.2.1 bt691.2.2 3).bind fun bt696 => ((spec_l1Cur_hour23.f k t687 bt696.2.2.2.1 bt696.2.2.2.2 bt691.1).bind fun bt702 => (some (bt691.1, bt696.1, bt696.2.1, bt696.2.2.1, bt702.1))))) = some (r1, r2, r3, r4, r5) := H
 have A2 := Aside0.mk A20
 clear A20
 replace H := Option.bind_eq_some_iff.mp H
 obtain ⟨⟨t691, t694, t695⟩, A30, H⟩ := H
 replace H : ((spec_l1Cur_sump.f k t687 t694 t695 3).bind fun bt696 => ((spec_l1Cur_hour23.f k t687 bt696.2.2.2.1 bt696.2.2.2.2 t691).bind fun bt702 => (some (t691, bt696.1, bt696.2.1, bt696.2.2.1, bt702.1)))) = some (r1, r2, r3, r4, r5) := H
 have A3 := Aside0.mk A30
 clear A30
 replace H := Option.bind_eq_some_iff.mp H
 obtain ⟨⟨t696, t697, t698, t699, t700⟩, A40, H⟩ := H
 replace H : ((spec_l1Cur_hour23.f k t687 t699 t700 t691).bind fun bt702 => (some (t691, t696, t697, t698, bt702.1))) = some (r1, r2, r3, r4, r5) := H
 have A4 := Aside0.mk A40
 clear A40
 replace H := Option.bind_eq_some_iff.mp H
 obtain ⟨⟨t702, t703, t704⟩, A50, H⟩ := H
 replace H : (some (t691, t696, t697, t698, t702)) = some (r1, r2, r3, r4, r5) := H
 have A5 := Aside0.mk A50
 clear A50
 simp only [Option.some.injEq, Prod.mk.injEq] at H
 obtain ⟨rfl, rfl, rfl, rfl, rfl⟩ := H
 go_enter Try.func45, Try.ntmps45
 try go_wp2_with (first | ((with_reducible refine gate_dst (N := 3) rfl ?_); refine box_event ?hg (N := 3) ?hd (cs := #[.int .i64 0, .int .i64 0, .int .i64 0]) (t := 30) ?hr ?_; (case hd => rfl); (case hg => rfl); (case hr => first | (go_simp; done) | (go_simp; rfl)); intro gb686 hg w6 hbox hb; have BK686 := Aside0.mk (hbox); have GW686 := Aside0.mk ((bz_ hg (lb0_ HB.out))); have GE686 := Aside0.mk ((bz_ hg (lb0_ HB.out))); replace HB := Aside0.mk (below_step (lb0_ HB.out) hb); clear hb hbox hg) | ((with_reducible refine gate_dst (N := 10) rfl ?_); refine box_event ?hg (N := 10) ?hd (cs := #[.slice A0 l0.length c0, .int .i64 0, .int .u64 0]) (t := 90) ?hr ?_; (case hd => rfl); (case hg => rfl); (case hr => first | (go_simp; done) | (go_simp; rfl)); intro g690 hg w7 hbx hb2; have hb := below_step (lb1_ HB.out GE686.out) hb2; have hi : IsS90 w w7 g690 t687 t688 t689 := (by have hz_ := A2.out; simp only [spec_newCur.f, Option.some.injEq, Prod.mk.injEq] at hz_; rw [← hz_.1, ← hz_.2.1, ← hz_.2.2]; exact ⟨_, _, hbx, (bz_ hg (lb1_ HB.out GE686.out)), HR0.out⟩); clear hg hbx; replace HB := Aside0.mk (hb); have HI690 := Aside0.mk (hi); have NB690_686 := Aside0.mk (IsS90.ne_blk hi (bb_ (bk_ BK686.out) hb2) (by decide)); have NB686_690 := Aside0.mk (Ne.symm (IsS90.ne_blk hi (bb_ (bk_ BK686.out) hb2) (by decide))); replace BK686 := Aside0.mk (bb_ (bk_ BK686.out) hb2); (try clear hb); (try clear hb2); (try clear hk); (try clear hi)) | ((with_reducible refine gate_callee (f := 67) rfl ?_); refine ga_ (some 12) Try.func67 #[.pointer (some ⟨g690, 0, none⟩)] ?_; (with_reducible refine (spec_l1Cur_readings.calls k g690 t687 t688 t689 t691 t694 t695 w _ ?side1 ?side2 A3.out).mono ?_); (case side1 => exact is90_1 HI690.out NB690_686.out); (case side2 => exact lb2_ HB.out (IsS90.ge HI690.out) GE686.out); rintro e w8 ⟨v692, rfl, ho0, hi, hb, hk⟩; refine ⟨_, rfl, ?_⟩; replace BK686 := Aside0.mk (KeepBut.blk hk (g' := gb686) (o := .cells #[.int .i64 0, .int .i64 0, .int .i64 0] 30 (0, 0)) (bk_ BK686.out) NB686_690.out (by simp)); have HO693 := Aside0.mk (Kd.R_lower ho0 (below_size (lb2_ HB.out (IsS90.ge HI690.out) GE686.out))); replace HB := Aside0.mk (hb); replace HI690 := Aside0.mk (hi); (try clear hb); (try clear hb2); (try clear hk); (try clear hi); (try clear ho0)) | ((with_reducible refine gate_callee (f := 84) rfl ?_); refine ga_ (some 14) Try.func84 #[.pointer (some ⟨g690, 0, none⟩), .int .i64 3] ?_; (with_reducible refine (spec_l1Cur_sump.calls k g690 t687 t694 t695 3 t696 t697 t698 t699 t700 w _ ?side1 ?side2 A4.out).mono ?_); (case side1 => exact is90_1 HI690.out NB690_686.out); (case side2 => exact lb2_ HB.out (IsS90.ge HI690.out) GE686.out); rintro e w9 ⟨rfl, hi, hb, hk⟩; refine ⟨_, rfl, ?_⟩; replace BK686 := Aside0.mk (KeepBut.blk hk (g' := gb686) (o := .cells #[.int .i64 0, .int .i64 0, .int .i64 0] 30 (0, 0)) (bk_ BK686.out) NB686_690.out (by simp)); replace HO693 := Aside0.mk (Kd.R_mono (Kd.R_keep (IsS90.apart (show IsS90 w _ g690 t687 t694 t695 from is90_1 HI690.out NB690_686.out) (kr_ HO693.out) (by decide)) hk (fun _ h => h.2)) (fun _ h => h.1)); replace HB := Aside0.mk (hb); replace HI690 := Aside0.mk (hi); (try clear hb); (try clear hb2); (try clear hk); (try clear hi)) | ((with_reducible refine gate_dst (N := 7) rfl ?_); refine box_event ?hg (N := 7) ?hd (cs := #[.int .i64 0, .int .i64 0, .int .i64 0]) (t := 30) ?hr ?_; (case hd => rfl); (case hg => rfl); (case hr => first | (go_simp; done) | (go_simp; rfl)); intro gb701 hg w10 hbox hb; replace HO693 := Aside0.mk (Kd.R_below (kr_ HO693.out) hb); have BK701 := Aside0.mk (hbox); have GW701 := Aside0.mk (bz_ hg (lb2_ HB.out (IsS90.ge HI690.out) GE686.out)); have GE701 := Aside0.mk (bz_ hg (lb2_ HB.out (IsS90.ge HI690.out) GE686.out)); replace HB := Aside0.mk (below_step (lb2_ HB.out (IsS90.ge HI690.out) GE686.out) hb); have NB686_701 := Aside0.mk (nl_ hg BK686.out); have NB701_686 := Aside0.mk (ng_ hg BK686.out); replace BK686 := Aside0.mk (bb_ (bk_ BK686.out) hb); have NB690_701 := Aside0.mk ((by rw [hg]; exact Nat.ne_of_lt (IsS90.lt (show IsS90 w _ g690 t687 t699 t700 from is90_1 HI690.out NB690_686.out)) : g690 ≠ gb701)); have NB701_690 := Aside0.mk ((by rw [hg]; exact Nat.ne_of_gt (IsS90.lt (show IsS90 w _ g690 t687 t699 t700 from is90_1 HI690.out NB690_686.out)) : gb701 ≠ g690)); replace HI690 := Aside0.mk (IsS90.below (is90_1 HI690.out NB690_686.out) hb); clear hb hbox hg; have hnb11 := NB701_686.out; have hnc11 := NB686_701.out; have hnb12 := NB701_690.out; have hnc12 := NB690_701.out; obtain ⟨hcz13_0, hcz13_1, hcz13_2⟩ := cz3_ BK701.out; obtain ⟨hfz13_0, hfz13_1, hfz13_2⟩ := fz3_ BK701.out))
 have n0_ : Aside0 (Kd.R k54 54 (((w10.setCell ⟨gb701, 0, none⟩ (.int .i64 t696)).setCell ⟨gb701, 1, none⟩ (.int .i64 t697)).setCell ⟨gb701, 2, none⟩ (.int .i64 t698)) w.heap.size (fun _ => True) v692 t691) := ⟨Kd.R_mono (r3_ HO693.out BK701.out (by decide) _ _ _) (fun _ hk => trivial)⟩
 have n1_ : Aside0 ((((w10.setCell ⟨gb701, 0, none⟩ (.int .i64 t696)).setCell ⟨gb701, 1, none⟩ (.int .i64 t697)).setCell ⟨gb701, 2, none⟩ (.int .i64 t698)).heap[gb686]? = some (.cells #[.int .i64 0, .int .i64 0, .int .i64 0] 30 (0, 0))) := ⟨by exact (f3_ BK686.out NB686_701.out _ _ _)⟩
 have n2_ : Aside0 ((((w10.setCell ⟨gb701, 0, none⟩ (.int .i64 t696)).setCell ⟨gb701, 1, none⟩ (.int .i64 t697)).setCell ⟨gb701, 2, none⟩ (.int .i64 t698)).heap[gb701]? = some (.cells #[.int .i64 t696, .int .i64 t697, .int .i64 t698] 30 (0, 0))) := ⟨by exact (p3_ BK701.out _ _ _)⟩
 have n3_ : Aside0 (IsS90 w (((w10.setCell ⟨gb701, 0, none⟩ (.int .i64 t696)).setCell ⟨gb701, 1, none⟩ (.int .i64 t697)).setCell ⟨gb701, 2, none⟩ (.int .i64 t698)) g690 t687 t699 t700) := ⟨is90_2 HI690.out NB690_686.out NB690_701.out⟩
 have n4_ : Aside0 (Below w.heap.size w (((w10.setCell ⟨gb701, 0, none⟩ (.int .i64 t696)).setCell ⟨gb701, 1, none⟩ (.int .i64 t697)).setCell ⟨gb701, 2, none⟩ (.int .i64 t698))) := ⟨lb3_ HB.out (IsS90.ge HI690.out) GE686.out GE701.out⟩
 (try clear HO693)
 (try clear BK686)
 (try clear BK701)
 (try clear HI690)
 (try clear HB)
 generalize (((w10.setCell ⟨gb701, 0, none⟩ (.int .i64 t696)).setCell ⟨gb701, 1, none⟩ (.int .i64 t697)).setCell ⟨gb701, 2, none⟩ (.int .i64 t698)) = w14 at n0_ n1_ n2_ n3_ n4_ ⊢
 have HO693 := n0_
 have BK686 := n1_
 have BK701 := n2_
 have HI690 := n3_
 have HB := n4_
 clear n0_ n1_ n2_ n3_ n4_
 replace HO693 := Aside0.mk (Kd.R_drew HO693.out)
 replace BK686 := Aside0.mk (blk_drew BK686.out)
 replace BK701 := Aside0.mk (blk_drew BK701.out)
 replace HI690 := Aside0.mk (IsS90.drew HI690.out)
 replace HB := Aside0.mk (below_drew1 HB.out)
 obtain ⟨Ao16, co16, eo16⟩ := Kd.R_slice HO693.out
 (first | subst eo16 | (injection eo16 with f1_ f2_ f3_; have f4_ := f1_.symm; have f5_ := f3_.symm; clear f1_ f2_ f3_; subst f4_; subst f5_))
 refine start_ (n := 8) (S := fun w' => w'.cell? ⟨gb701, 0, none⟩ = some (.int .i64 t696) ∧ w'.cell? ⟨gb701, 1, none⟩ = some (.int .i64 t697) ∧ w'.cell? ⟨gb701, 2, none⟩ = some (.int .i64 t698)) (ds := []) #[fF,fF,fF,fF,fF,fF,fF,fF] (by kernel_rfl) rfl rfl ⟨(blk_cell BK701.out 0).trans rfl, (blk_cell BK701.out 1).trans rfl, (blk_cell BK701.out 2).trans rfl⟩ (fun hHeld => ?_); refine with_tabW spec_DrawIsOpen.tab4 spec_DrawIsOpen.bits4 (fun HT_ HW_ => ?_)
 generalize w14.drew = w15 at HO693 BK686 BK701 HI690 HB hHeld ⊢
 refine pz_ HT_ 0 (some 15) #[tT,fF,fF,fF,fF,fF,fF,fF] ?_
 refine pz_ HT_ 2 (some 17) #[tT,fF,tT,fF,fF,fF,fF,fF] ?_
 refine pz_ HT_ 3 (some 18) #[tT,fF,tT,tT,fF,fF,fF,fF] ?_
 refine tk_ HT_ HW_ hHeld 1 (some 16) #[tT,tT,tT,tT,fF,fF,fF,fF] ?_
 refine one_ (i := 4) (N := some 19) #[tT,tT,tT,tT,tT,fF,fF,fF] rfl rfl (one_of HT_.out (by kernel_rfl)) (by decide) (fun K hK => ?_)
 refine gs_ Try.func68 #[.pointer (some ⟨g690, 0, none⟩), .slice Ao16 t691.length co16] ?_
 with_reducible refine (spec_l1Cur_hour23.calls k g690 t687 t699 t700 _ _ t691 t702 t703 t704 w _ ?side1 ?side2 ?side3 ?side4 A5.out).mono ?_
 (case side1 => exact is90_2 HI690.out NB690_686.out NB690_701.out)
 (case side2 => exact lb3_ HB.out (IsS90.ge HI690.out) GE686.out GE701.out)
 (case side3 => exact Kd.C_foot_own (IsS90.apart (show IsS90 w _ g690 t687 t699 t700 from is90_2 HI690.out NB690_686.out NB690_701.out) (kr_ HO693.out) (by decide)) (fun _ h_ => h_.2))
 (case side4 => exact (Kd.R_reads' HO693.out).2.1)
 rintro e w17 ⟨rfl, hi, hb, hk⟩
 refine ⟨_, rfl, ?_⟩
 replace BK686 := Aside0.mk (KeepBut.blk hk (g' := gb686) (o := .cells #[.int .i64 0, .int .i64 0, .int .i64 0] 30 (0, 0)) (bk_ BK686.out) NB686_690.out (by simp))
 replace HO693 := Aside0.mk (Kd.R_mono (Kd.R_keep (IsS90.apart (show IsS90 w _ g690 t687 t699 t700 from is90_2 HI690.out NB690_686.out NB690_701.out) (kr_ HO693.out) (by decide)) hk (fun _ h => h.2)) (fun _ h => h.1))
 replace BK701 := Aside0.mk (KeepBut.blk hk (g' := gb701) (o := .cells #[.int .i64 t696, .int .i64 t697, .int .i64 t698] 30 (0, 0)) (bk_ BK701.out) NB701_690.out (by simp))
 replace HB := Aside0.mk (hb)
 replace HI690 := Aside0.mk (hi)
 (try clear hb)
 (try clear hb2)
 (try clear hk)
 (try clear hi)
 refine hK.out _ _ ⟨(blk_cell BK701.out 0).trans rfl, (blk_cell BK701.out 1).trans rfl, (blk_cell BK701.out 2).trans rfl⟩ (fun hHeld => ?_)
 clear hK K
 refine na_ ?_
 refine pz_ HT_ 5 (some 2) #[tT,tT,tT,tT,tT,tT,fF,fF] ?_
 refine one_ (i := 6) (N := none) #[tT,tT,tT,tT,tT,tT,tT,fF] rfl rfl (one_of HT_.out (by kernel_rfl)) (by decide) (fun K hK => ?_)
 have hs18 : w17.cell? ⟨gb686, 0, none⟩ = some (.int .i64 0) := (blk_cell BK686.out 0).trans rfl
 have hfs18 := blk_frozen BK686.out 0
 have hns18_1 := NB701_686.out
 have hms18_1 := NB686_701.out
 have hs19 : w17.cell? ⟨gb686, 1, none⟩ = some (.int .i64 0) := (blk_cell BK686.out 1).trans rfl
 have hfs19 := blk_frozen BK686.out 1
 have hns19_1 := NB701_686.out
 have hms19_1 := NB686_701.out
 have hs20 : w17.cell? ⟨gb686, 2, none⟩ = some (.int .i64 0) := (blk_cell BK686.out 2).trans rfl
 have hfs20 := blk_frozen BK686.out 2
 have hns20_1 := NB701_686.out
 have hms20_1 := NB686_701.out
 refine skip_ (w1 := ?_) (by rfl) rfl ?_ ?_
 rotate_left
 ·
  go_simp
  rfl
 refine hK.out _ _ ⟨((cell_far (p := ⟨gb686, _, none⟩) NB701_686.out _).trans (((cell_far (p := ⟨gb686, _, none⟩) NB701_686.out _).trans (((cell_far (p := ⟨gb686, _, none⟩) NB701_686.out _).trans (hHeld.1)))))), ((cell_far (p := ⟨gb686, _, none⟩) NB701_686.out _).trans (((cell_far (p := ⟨gb686, _, none⟩) NB701_686.out _).trans (((cell_far (p := ⟨gb686, _, none⟩) NB701_686.out _).trans (hHeld.2.1)))))), ((cell_far (p := ⟨gb686, _, none⟩) NB701_686.out _).trans (((cell_far (p := ⟨gb686, _, none⟩) NB701_686.out _).trans (((cell_far (p := ⟨gb686, _, none⟩) NB701_686.out _).trans (hHeld.2.2))))))⟩ (fun hHeld => ?_)
 clear hK K
 refine pz_ HT_ 7 (some 4) #[tT,tT,tT,tT,tT,tT,tT,tT] ?_
 refine done_ (done_of HT_.out (by kernel_rfl)) ?_
 try go_wp2
 refine bodyPost_ret (results_list (rs := [.tmp 2, .cell 3 30, .tmp 4]) rfl (by simp) (.tmp (.cell gb686 30 #[.int .i64 t696, .int .i64 t697, .int .i64 t698] (0, 0) _ rfl (by (with_reducible repeat (first | refine blk_drewN ?_ _ | refine blk_drew ?_ | refine blk_alloc ?_ _)); refine blk_put (cs := #[.int .i64 t696, .int .i64 t697, .int .i64 0]) ?_ 2 _ rfl; (with_reducible repeat (first | refine blk_drewN ?_ _ | refine blk_drew ?_ | refine blk_alloc ?_ _)); refine blk_put (cs := #[.int .i64 t696, .int .i64 0, .int .i64 0]) ?_ 1 _ rfl; (with_reducible repeat (first | refine blk_drewN ?_ _ | refine blk_drew ?_ | refine blk_alloc ?_ _)); refine blk_put (cs := #[.int .i64 0, .int .i64 0, .int .i64 0]) ?_ 0 _ rfl; (with_reducible repeat (first | refine blk_drewN ?_ _ | refine blk_drew ?_ | refine blk_alloc ?_ _)); exact BK686.out) Try.underlying30 rfl (by kernel_rfl) (.tmp .nil)))) rfl ?_
 exact ⟨_, rr_, by (with_reducible repeat (first | apply Kd.R_alloc | apply Kd.R_drewN | apply Kd.R_drew)); exact Kd.R_mono (r3_ HO693.out BK686.out (by decide) _ _ _) (fun _ hk => trivial), lb3_ HB.out (IsS90.ge HI690.out) GE686.out GE701.out⟩
def laws_rInts.l0 : Nat → List Int → List Int → Int → Option (Bool)
 | 0, _, _, _ => none
 | k + 1, x0, x1, x5 => if x5 < (x0.length : Int) then (if 0 ≤ x5 then (if x5 < (x1.length : Int) then (if (rd x0 x5) = (rd x1 x5) then (laws_rInts.l0 k x0 x1 (wrap64 (x5 + 1))) else (some false)) else (none)) else (none)) else (some true)
def laws_rInts.f (k : Nat) (l0 : List Int) (l1 : List Int) : Option (Bool) := if (l0.length : Int) = (l1.length : Int) then (laws_rInts.l0 k l0 l1 0) else (some false)
set_option maxHeartbeats 8000000 in
set_option maxRecDepth 100000 in
theorem laws_rInts.calls (k : Nat) (A0 : Option Addr) (c0 : Nat) (l0 : List Int) (A1 : Option Addr) (c1 : Nat) (l1 : List Int) (r : Bool) (w : World) (hr0 : Kd.C (Kd.int .i64) w A0 l0.length l0) (hc0 : l0.length ≤ c0) (hr1 : Kd.C (Kd.int .i64) w A1 l1.length l1) (hc1 : l1.length ≤ c1) (h : laws_rInts.f k l0 l1 = some r) :
  Calls Try.prog 49 #[.slice A0 l0.length c0, .slice A1 l1.length c1] w fun e w' => e = .returned (.bool r) ∧ Drawn0 w w' := by
 have HR0 := Aside0.mk hr0
 have HC0 := Aside0.mk hc0
 clear hr0 hc0
 have HR1 := Aside0.mk hr1
 have HC1 := Aside0.mk hc1
 clear hr1 hc1
 have H : (if (l0.length : Int) = (l1.length : Int) then (laws_rInts.l0 k l0 l1 0) else (some false)) = some r := h
 clear h
 by_cases c3 : (l0.length : Int) = (l1.length : Int)
 ·
  rw [if_pos c3] at H
  have c3b0 : ((l0.length : Int) == (l1.length : Int)) = true := beq_iff_eq.mpr c3
  have c3b1 : ((l0.length : Int) != (l1.length : Int)) = false := bne_eq_false_iff_eq.mpr c3
  have c3b2 : (l0.length == l1.length) = true := by first | simpa using c3 | (simp at c3 ⊢; omega)
  clear c3
  have H' := Aside0.mk H
  clear H
  go_enter Try.func49, Try.ntmps49
  go_wp2
  repeat (go_quiet (fail); try go_wp2)
  go_loopg [5] k (fun kq v5 w' => ∃ (x5_1 : Int), v5 = .int .i64 x5_1 ∧ Aside0 (laws_rInts.l0 kq l0 l1 x5_1 = some r) ∧ Aside0 (kq ≤ k) ∧ Drawn0 w w')
  case atStart => exact ⟨(0), (by first | rfl | (simp; done) | (simp [*]; done)), H', ⟨Nat.le_refl _⟩, by repeat (first | exact Drawn0.refl _ | apply Drawn0.step)⟩
  case round =>
   clear H'
   try clear c1
   try clear p2
   try clear c3
   try clear c3b0
   try clear c3b1
   try clear c3b2
   obtain ⟨x5_1, rfl, HA, HK1, ⟨m1, rfl⟩⟩ := hrel
   cases gk with
   | zero => exact absurd HA.out (by simp [laws_rInts.l0])
   | succ k1 =>
    have H := HA.out
    clear HA
    simp only [laws_rInts.l0] at H
    by_cases c4 : x5_1 < (l0.length : Int)
    ·
     rw [if_pos c4] at H
     have c4b0 : decide (x5_1 < (l0.length : Int)) = true := decide_eq_true c4
     clear c4
     by_cases c5 : 0 ≤ x5_1
     ·
      rw [if_pos c5] at H
      have c5b0 : decide (0 ≤ x5_1) = true := decide_eq_true c5
      clear c5
      by_cases c6 : x5_1 < (l1.length : Int)
      ·
       rw [if_pos c6] at H
       have c6b0 : decide (x5_1 < (l1.length : Int)) = true := decide_eq_true c6
       clear c6
       by_cases c7 : (rd l0 x5_1) = (rd l1 x5_1)
       ·
        rw [if_pos c7] at H
        have c7b0 : ((rd l0 x5_1) == (rd l1 x5_1)) = true := beq_iff_eq.mpr c7; have c7b1 : ((rd l0 x5_1) != (rd l1 x5_1)) = false := bne_eq_false_iff_eq.mpr c7; clear c7; have H' := Aside0.mk H; clear H; have p705 : 0 ≤ (x5_1 : Int) := dt_; have q705 : x5_1 < (l0.length : Int) := dt_; obtain ⟨ad705, e705, hx705_0⟩ := Kd.at_int HR0.out x5_1 p705 q705
        cases e705
        replace p705 := eq_true p705; replace q705 := eq_true q705; have p706 : 0 ≤ (x5_1 : Int) := dt_; have q706 : x5_1 < (l1.length : Int) := dt_; obtain ⟨ad706, e706, hx706_0⟩ := Kd.at_int HR1.out x5_1 p706 q706
        cases e706
        replace p706 := eq_true p706; replace q706 := eq_true q706
        go_wp2
        repeat (go_quiet (fail); try go_wp2)
        go_roundg k1
        case measure => have := HK1.out; omega
        case rel => exact ⟨(wrap64 (x5_1 + 1)), (by first | rfl | (simp; done) | (simp [*]; done)), H', ⟨by have := HK1.out; omega⟩, by repeat (first | exact Drawn0.refl _ | apply Drawn0.step)⟩
       ·
        rw [if_neg c7] at H
        have c7b0 : ((rd l0 x5_1) == (rd l1 x5_1)) = false := beq_eq_false_iff_ne.mpr c7; have c7b1 : ((rd l0 x5_1) != (rd l1 x5_1)) = true := bne_iff_ne.mpr c7; obtain rfl := Option.some.inj H; have p705 : 0 ≤ (x5_1 : Int) := dt_; have q705 : x5_1 < (l0.length : Int) := dt_; obtain ⟨ad705, e705, hx705_0⟩ := Kd.at_int HR0.out x5_1 p705 q705
        cases e705
        replace p705 := eq_true p705; replace q705 := eq_true q705; have p706 : 0 ≤ (x5_1 : Int) := dt_; have q706 : x5_1 < (l1.length : Int) := dt_; obtain ⟨ad706, e706, hx706_0⟩ := Kd.at_int HR1.out x5_1 p706 q706
        cases e706
        replace p706 := eq_true p706; replace q706 := eq_true q706
        go_wp2
        repeat (go_quiet (fail); try go_wp2)
        go_ret
        exact ⟨by first | rfl | (simp; done) | (simp [*]; done), by repeat (first | exact Drawn0.refl _ | apply Drawn0.step)⟩
      ·
       rw [if_neg c6] at H
       exact absurd H (by simp)
     ·
      rw [if_neg c5] at H
      exact absurd H (by simp)
    ·
     rw [if_neg c4] at H
     have c4b0 : decide (x5_1 < (l0.length : Int)) = false := decide_eq_false c4
     clear c4
     obtain rfl := Option.some.inj H
     go_wp2
     repeat (go_quiet (fail); try go_wp2)
     go_ret
     exact ⟨by first | rfl | (simp; done) | (simp [*]; done), by repeat (first | exact Drawn0.refl _ | apply Drawn0.step)⟩
 ·
  rw [if_neg c3] at H
  have c3b0 : ((l0.length : Int) == (l1.length : Int)) = false := beq_eq_false_iff_ne.mpr c3
  have c3b1 : ((l0.length : Int) != (l1.length : Int)) = true := bne_iff_ne.mpr c3
  have c3b2 : (l0.length == l1.length) = false := by first | simpa using c3 | (simp at c3 ⊢; omega)
  obtain rfl := Option.some.inj H
  go_enter Try.func49, Try.ntmps49
  go_wp2
  repeat (go_quiet (fail); try go_wp2)
  go_ret
  exact ⟨by first | rfl | (simp; done) | (simp [*]; done), by repeat (first | exact Drawn0.refl _ | apply Drawn0.step)⟩
def laws_rTable.l0 : Nat → List (List Int) → List (List Int) → Int → Option (Bool)
 | 0, _, _, _ => none
 | k + 1, x0, x1, x5 => if x5 < (x0.length : Int) then (if 0 ≤ x5 then (if x5 < (x1.length : Int) then ((laws_rInts.f k (rd_L9 x0 x5) (rd_L9 x1 x5)).bind fun t709 => (if t709 = true then (laws_rTable.l0 k x0 x1 (wrap64 (x5 + 1))) else (some false))) else (none)) else (none)) else (some true)
def laws_rTable.f (k : Nat) (l0 : List (List Int)) (l1 : List (List Int)) : Option (Bool) := if (l0.length : Int) = (l1.length : Int) then (laws_rTable.l0 k l0 l1 0) else (some false)
set_option maxHeartbeats 8000000 in
set_option maxRecDepth 100000 in
theorem laws_rTable.calls (k : Nat) (A0 : Option Addr) (c0 : Nat) (l0 : List (List Int)) (A1 : Option Addr) (c1 : Nat) (l1 : List (List Int)) (r : Bool) (w : World) (hr0 : Kd.C (Kd.slice 3 (Kd.int .i64)) w A0 l0.length l0) (hc0 : l0.length ≤ c0) (hr1 : Kd.C (Kd.slice 3 (Kd.int .i64)) w A1 l1.length l1) (hc1 : l1.length ≤ c1) (h : laws_rTable.f k l0 l1 = some r) :
  Calls Try.prog 46 #[.slice A0 l0.length c0, .slice A1 l1.length c1] w fun e w' => e = .returned (.bool r) ∧ Drawn0 w w' := by
 have HR0 := Aside0.mk hr0
 have HC0 := Aside0.mk hc0
 clear hr0 hc0
 have HR1 := Aside0.mk hr1
 have HC1 := Aside0.mk hc1
 clear hr1 hc1
 have H : (if (l0.length : Int) = (l1.length : Int) then (laws_rTable.l0 k l0 l1 0) else (some false)) = some r := h
 clear h
 by_cases c3 : (l0.length : Int) = (l1.length : Int)
 ·
  rw [if_pos c3] at H
  have c3b0 : ((l0.length : Int) == (l1.length : Int)) = true := beq_iff_eq.mpr c3
  have c3b1 : ((l0.length : Int) != (l1.length : Int)) = false := bne_eq_false_iff_eq.mpr c3
  have c3b2 : (l0.length == l1.length) = true := by first | simpa using c3 | (simp at c3 ⊢; omega)
  clear c3
  have H' := Aside0.mk H
  clear H
  go_enter Try.func46, Try.ntmps46
  go_wp2
  repeat (go_quiet (fail); try go_wp2)
  go_loopg [5] k (fun kq v5 w' => ∃ (x5_1 : Int), v5 = .int .i64 x5_1 ∧ Aside0 (laws_rTable.l0 kq l0 l1 x5_1 = some r) ∧ Aside0 (kq ≤ k) ∧ Drawn0 w w')
  case atStart => exact ⟨(0), (by first | rfl | (simp; done) | (simp [*]; done)), H', ⟨Nat.le_refl _⟩, by repeat (first | exact Drawn0.refl _ | apply Drawn0.step)⟩
  case round =>
   clear H'
   try clear c1
   try clear p2
   try clear c3
   try clear c3b0
   try clear c3b1
   try clear c3b2
   obtain ⟨x5_1, rfl, HA, HK1, ⟨m1, rfl⟩⟩ := hrel
   cases gk with
   | zero => exact absurd HA.out (by simp [laws_rTable.l0])
   | succ k1 =>
    have H := HA.out
    clear HA
    simp only [laws_rTable.l0] at H
    by_cases c4 : x5_1 < (l0.length : Int)
    ·
     rw [if_pos c4] at H
     have c4b0 : decide (x5_1 < (l0.length : Int)) = true := decide_eq_true c4
     clear c4
     by_cases c5 : 0 ≤ x5_1
     ·
      rw [if_pos c5] at H
      have c5b0 : decide (0 ≤ x5_1) = true := decide_eq_true c5
      clear c5
      by_cases c6 : x5_1 < (l1.length : Int)
      ·
       rw [if_pos c6] at H
       have c6b0 : decide (x5_1 < (l1.length : Int)) = true := decide_eq_true c6
       clear c6
       replace H := Option.bind_eq_some_iff.mp H
       obtain ⟨t709, A70, H⟩ := H
       replace H : (if t709 = true then (laws_rTable.l0 k1 l0 l1 (wrap64 (x5_1 + 1))) else (some false)) = some r := H
       have A7 := Aside0.mk A70
       clear A70
       by_cases c8 : t709 = true
       ·
        subst c8
        have H1 : (laws_rTable.l0 k1 l0 l1 (wrap64 (x5_1 + 1))) = some r := by rw [if_pos rfl] at H; exact H
        clear H; have H := H1; clear H1; have H' := Aside0.mk H; clear H; have p707 : 0 ≤ (x5_1 : Int) := dt_; have q707 : x5_1 < (l0.length : Int) := dt_; obtain ⟨ad707, A707_0, c707_0, e707, hx707_0, hl707_0, hi707_0⟩ := at_L9 HR0.out x5_1 p707 q707
        cases e707
        have HR707_0 := Aside0.mk hi707_0; have HC707_0 := Aside0.mk hl707_0; clear hi707_0 hl707_0; replace p707 := eq_true p707; replace q707 := eq_true q707; have p708 : 0 ≤ (x5_1 : Int) := dt_; have q708 : x5_1 < (l1.length : Int) := dt_; obtain ⟨ad708, A708_0, c708_0, e708, hx708_0, hl708_0, hi708_0⟩ := at_L9 HR1.out x5_1 p708 q708
        cases e708
        have HR708_0 := Aside0.mk hi708_0; have HC708_0 := Aside0.mk hl708_0; clear hi708_0 hl708_0; replace p708 := eq_true p708; replace q708 := eq_true q708
        go_wp2_with (first | (go_at_call 49; (with_reducible refine (laws_rInts.calls k1 _ _ (rd_L9 l0 x5_1) _ _ (rd_L9 l1 x5_1) true _ ?side1 ?side2 ?side3 ?side4 A7.out).mono ?_); (case side1 => exact kc_ HR707_0.out); (case side2 => exact HC707_0.out); (case side3 => exact kc_ HR708_0.out); (case side4 => exact HC708_0.out); rintro e w' ⟨rfl, ⟨nd, rfl⟩⟩; (try first | exact ⟨rfl, _, World.drewN_drewN _ _ _⟩ | exact ⟨rfl, _, Eq.trans (World.drewN_drewN _ _ _) (congrArg (World.drewN _) (Nat.add_assoc _ _ _))⟩)))
        repeat (go_quiet (first | (go_at_call 49; (with_reducible refine (laws_rInts.calls k1 _ _ (rd_L9 l0 x5_1) _ _ (rd_L9 l1 x5_1) true _ ?side1 ?side2 ?side3 ?side4 A7.out).mono ?_); (case side1 => exact kc_ HR707_0.out); (case side2 => exact HC707_0.out); (case side3 => exact kc_ HR708_0.out); (case side4 => exact HC708_0.out); rintro e w' ⟨rfl, ⟨nd, rfl⟩⟩; (try first | exact ⟨rfl, _, World.drewN_drewN _ _ _⟩ | exact ⟨rfl, _, Eq.trans (World.drewN_drewN _ _ _) (congrArg (World.drewN _) (Nat.add_assoc _ _ _))⟩))); try go_wp2_with (first | (go_at_call 49; (with_reducible refine (laws_rInts.calls k1 _ _ (rd_L9 l0 x5_1) _ _ (rd_L9 l1 x5_1) true _ ?side1 ?side2 ?side3 ?side4 A7.out).mono ?_); (case side1 => exact kc_ HR707_0.out); (case side2 => exact HC707_0.out); (case side3 => exact kc_ HR708_0.out); (case side4 => exact HC708_0.out); rintro e w' ⟨rfl, ⟨nd, rfl⟩⟩; (try first | exact ⟨rfl, _, World.drewN_drewN _ _ _⟩ | exact ⟨rfl, _, Eq.trans (World.drewN_drewN _ _ _) (congrArg (World.drewN _) (Nat.add_assoc _ _ _))⟩))))
        go_roundg k1
        case measure => have := HK1.out; omega
        case rel => exact ⟨(wrap64 (x5_1 + 1)), (by first | rfl | (simp; done) | (simp [*]; done)), H', ⟨by have := HK1.out; omega⟩, by repeat (first | exact Drawn0.refl _ | apply Drawn0.step)⟩
       ·
        replace c8 := Bool.eq_false_iff.mpr c8; subst c8
        have H1 : (some false) = some r := by rw [if_neg (show ¬ (false = true) by decide)] at H; exact H
        clear H; have H := H1; clear H1; obtain rfl := Option.some.inj H; have p707 : 0 ≤ (x5_1 : Int) := dt_; have q707 : x5_1 < (l0.length : Int) := dt_; obtain ⟨ad707, A707_0, c707_0, e707, hx707_0, hl707_0, hi707_0⟩ := at_L9 HR0.out x5_1 p707 q707
        cases e707
        have HR707_0 := Aside0.mk hi707_0; have HC707_0 := Aside0.mk hl707_0; clear hi707_0 hl707_0; replace p707 := eq_true p707; replace q707 := eq_true q707; have p708 : 0 ≤ (x5_1 : Int) := dt_; have q708 : x5_1 < (l1.length : Int) := dt_; obtain ⟨ad708, A708_0, c708_0, e708, hx708_0, hl708_0, hi708_0⟩ := at_L9 HR1.out x5_1 p708 q708
        cases e708
        have HR708_0 := Aside0.mk hi708_0; have HC708_0 := Aside0.mk hl708_0; clear hi708_0 hl708_0; replace p708 := eq_true p708; replace q708 := eq_true q708
        go_wp2_with (first | (go_at_call 49; (with_reducible refine (laws_rInts.calls k1 _ _ (rd_L9 l0 x5_1) _ _ (rd_L9 l1 x5_1) false _ ?side1 ?side2 ?side3 ?side4 A7.out).mono ?_); (case side1 => exact kc_ HR707_0.out); (case side2 => exact HC707_0.out); (case side3 => exact kc_ HR708_0.out); (case side4 => exact HC708_0.out); rintro e w' ⟨rfl, ⟨nd, rfl⟩⟩; (try first | exact ⟨rfl, _, World.drewN_drewN _ _ _⟩ | exact ⟨rfl, _, Eq.trans (World.drewN_drewN _ _ _) (congrArg (World.drewN _) (Nat.add_assoc _ _ _))⟩)))
        repeat (go_quiet (first | (go_at_call 49; (with_reducible refine (laws_rInts.calls k1 _ _ (rd_L9 l0 x5_1) _ _ (rd_L9 l1 x5_1) false _ ?side1 ?side2 ?side3 ?side4 A7.out).mono ?_); (case side1 => exact kc_ HR707_0.out); (case side2 => exact HC707_0.out); (case side3 => exact kc_ HR708_0.out); (case side4 => exact HC708_0.out); rintro e w' ⟨rfl, ⟨nd, rfl⟩⟩; (try first | exact ⟨rfl, _, World.drewN_drewN _ _ _⟩ | exact ⟨rfl, _, Eq.trans (World.drewN_drewN _ _ _) (congrArg (World.drewN _) (Nat.add_assoc _ _ _))⟩))); try go_wp2_with (first | (go_at_call 49; (with_reducible refine (laws_rInts.calls k1 _ _ (rd_L9 l0 x5_1) _ _ (rd_L9 l1 x5_1) false _ ?side1 ?side2 ?side3 ?side4 A7.out).mono ?_); (case side1 => exact kc_ HR707_0.out); (case side2 => exact HC707_0.out); (case side3 => exact kc_ HR708_0.out); (case side4 => exact HC708_0.out); rintro e w' ⟨rfl, ⟨nd, rfl⟩⟩; (try first | exact ⟨rfl, _, World.drewN_drewN _ _ _⟩ | exact ⟨rfl, _, Eq.trans (World.drewN_drewN _ _ _) (congrArg (World.drewN _) (Nat.add_assoc _ _ _))⟩))))
        go_ret
        exact ⟨by first | rfl | (simp; done) | (simp [*]; done), by repeat (first | exact Drawn0.refl _ | apply Drawn0.step)⟩
      ·
       rw [if_neg c6] at H
       exact absurd H (by simp)
     ·
      rw [if_neg c5] at H
      exact absurd H (by simp)
    ·
     rw [if_neg c4] at H
     have c4b0 : decide (x5_1 < (l0.length : Int)) = false := decide_eq_false c4
     clear c4
     obtain rfl := Option.some.inj H
     go_wp2
     repeat (go_quiet (fail); try go_wp2)
     go_ret
     exact ⟨by first | rfl | (simp; done) | (simp [*]; done), by repeat (first | exact Drawn0.refl _ | apply Drawn0.step)⟩
 ·
  rw [if_neg c3] at H
  have c3b0 : ((l0.length : Int) == (l1.length : Int)) = false := beq_eq_false_iff_ne.mpr c3
  have c3b1 : ((l0.length : Int) != (l1.length : Int)) = true := bne_iff_ne.mpr c3
  have c3b2 : (l0.length == l1.length) = false := by first | simpa using c3 | (simp at c3 ⊢; omega)
  obtain rfl := Option.some.inj H
  go_enter Try.func46, Try.ntmps46
  go_wp2
  repeat (go_quiet (fail); try go_wp2)
  go_ret
  exact ⟨by first | rfl | (simp; done) | (simp [*]; done), by repeat (first | exact Drawn0.refl _ | apply Drawn0.step)⟩
def spec_l1Cur_sumps.l0 : Nat → List (S30) → Int → List Int → Int → Int → Option ((List (S30)) × Int × Int)
 | 0, _, _, _, _, _ => none
 | k + 1, x3, x4, x1000, x1001, x1002 => if x4 < 8 then ((spec_l1Cur_one.f x1000 x1001 x1002 4).bind fun bt720 => (if bt720.1 = true then ((spec_l1Cur_sump.f k x1000 bt720.2.1 bt720.2.2 x4).bind fun bt723 => (if x3.length < 5864062014805 then (spec_l1Cur_sumps.l0 k (x3 ++ [(⟨bt723.1, bt723.2.1, bt723.2.2.1⟩ : S30)]) (wrap64 (x4 + 1)) x1000 bt723.2.2.2.1 bt723.2.2.2.2) else (none))) else (spec_l1Cur_sumps.l0 k x3 (wrap64 (x4 + 1)) x1000 bt720.2.1 bt720.2.2))) else (if (x3.length : Int) > 0 then ((spec_l1Cur_one.f x1000 x1001 x1002 24).bind fun bt713 => (if bt713.1 = true then (if 0 < (x3.length : Int) then (if x3.length < 5864062014805 then (some ((x3 ++ [(⟨(rd_T30 x3 0).f0, (rd_T30 x3 0).f1, (rd_T30 x3 0).f2⟩ : S30)]), bt713.2.1, bt713.2.2)) else (none)) else (none)) else (some (x3, bt713.2.1, bt713.2.2)))) else (some (x3, x1001, x1002)))
def spec_l1Cur_sumps.f (k : Nat) (s0_0 : List Int) (s0_1 : Int) (s0_2 : Int) : Option ((List (S30)) × Int × Int) := spec_l1Cur_sumps.l0 k (([] : List (S30))) 0 s0_0 s0_1 s0_2
set_option maxHeartbeats 8000000 in
set_option maxRecDepth 100000 in
theorem spec_l1Cur_sumps.calls (k : Nat) (g : Nat) (s0_0 : List Int) (s0_1 : Int) (s0_2 : Int) (r1 : List (S30)) (r2 : Int) (r3 : Int) (w0 w : World) (hI : IsS90 w0 w g s0_0 s0_1 s0_2) (hB : Below w0.heap.size w0 w) (h : spec_l1Cur_sumps.f k s0_0 s0_1 s0_2 = some (r1, r2, r3)) :
  Calls Try.prog 85 #[.pointer (some ⟨g, 0, none⟩)] w fun e w' => ∃ v0_ : Value, e = .returned (v0_) ∧ Kd.R k30 30 w' w.heap.size (fun _ => True) v0_ r1 ∧ IsS90 w0 w' g s0_0 r2 r3 ∧ Below w0.heap.size w0 w' ∧ KeepBut w w' g none := by
 have hu30 := Try.underlying30
 have HI0 := Aside0.mk hI
 have HK := Aside0.mk (KeepBut.refl w g none)
 have HL := Aside0.mk hB.size
 clear hI
 have HW0 := Aside0.mk hB.size
 have HB := Aside0.mk hB
 clear hB
 have H : (spec_l1Cur_sumps.l0 k (([] : List (S30))) 0 s0_0 s0_1 s0_2) = some (r1, r2, r3) := h
 clear h
 obtain ⟨y710, hy710⟩ : ∃ y_ : List (S30), y_ = (([] : List (S30))) := ⟨_, rfl⟩
 replace H : (spec_l1Cur_sumps.l0 k y710 0 s0_0 s0_1 s0_2) = some (r1, r2, r3) := by first | (rw [hy710]; with_reducible exact H) | (have H2_ := (Option.bind_some _ _).symm.trans H; rw [hy710]; with_reducible exact H2_) | (have H2_ := (Option.bind_some _ _).symm.trans H; with_reducible exact H2_) | with_reducible exact H | (rw [hy710]; exact H) | exact H
 have Ny710 := Aside0.mk hy710
 clear hy710
 have H' := Aside0.mk H
 clear H
 go_enter Try.func85, Try.ntmps85
 go_wp2_with (first | ((with_reducible refine gate_dst (N := 5) rfl ?_); refine Kd.R_lit k30 _ 30 ?hg (N := 5) ?hd (xs := ([] : List (S30))) (inner := []) (ok := fun _ => True) (okp := fun _ => True) ?hr ?hp (fun _ hk => hk) trivial (Below.refl _ _) (Nat.le_refl _) (by simp) ?_; (case hd => rfl); (case hg => rfl); (case hr => first | (go_simp; done) | (go_simp; rfl)); (case hp => exact (Reps.none _ _)); intro v711 w2 ho3 hb hg_ hnew_; clear hg_ hnew_; replace ho3 := ry_ Ny710.out ho3; have HO712 := Aside0.mk (Kd.R_lower ho3 (keep_size (w := w) (g := g) (row := none) (kb0_ HK.out))); replace HK := Aside0.mk (KeepBut.trans (kb0_ HK.out) (KeepBut.of_below hb g none) (.inl rfl)); replace HB := Aside0.mk (below_step (lb1_ HB.out (IsS90.ge HI0.out)) hb); replace HI0 := Aside0.mk (IsS90.below (is90_0 HI0.out) hb); clear hb ho3))
 go_loopg [3, 4] k (fun kq v3 v4 w' => ∃ (x3_1 : List (S30)) (x4_1 : Int) (x1001_1 : Int) (x1002_1 : Int), v4 = .int .i64 x4_1 ∧ Aside0 (spec_l1Cur_sumps.l0 kq x3_1 x4_1 s0_0 x1001_1 x1002_1 = some (r1, r2, r3)) ∧ Aside0 (kq ≤ k) ∧ Aside0 (Kd.R k30 30 w' w.heap.size (fun _ => True) v3 x3_1) ∧ Aside0 (IsS90 w0 w' g s0_0 x1001_1 x1002_1) ∧ Aside0 (KeepBut w w' g none) ∧ Aside0 (Below w0.heap.size w0 w'))
 case atStart => exact ⟨(y710), (0), (s0_1), (s0_2), (by first | rfl | (simp; done) | (simp [*]; done)), H', ⟨Nat.le_refl _⟩, ⟨kr_ HO712.out⟩, ⟨is90_0 HI0.out⟩, ⟨kb0_ HK.out⟩, ⟨lb1_ HB.out (IsS90.ge HI0.out)⟩⟩
 case round =>
  clear H'
  try clear p2
  obtain ⟨x3_1, x4_1, x1001_1, x1002_1, rfl, HA, HK1, HO_3, HI0, HK, HB⟩ := hrel
  cases gk with
  | zero => exact absurd HA.out (by simp [spec_l1Cur_sumps.l0])
  | succ k1 =>
   have H := HA.out
   clear HA
   simp only [spec_l1Cur_sumps.l0] at H
   by_cases c4 : x4_1 < 8
   ·
    rw [if_pos c4] at H
    have c4b0 : decide (x4_1 < 8) = true := decide_eq_true c4
    clear c4
    replace H := Option.bind_eq_some_iff.mp H
    obtain ⟨⟨t720, t721, t722⟩, A50, H⟩ := H
    replace H : (if t720 = true then ((spec_l1Cur_sump.f k1 s0_0 t721 t722 x4_1).bind fun bt723 => (if x3_1.length < 5864062014805 then (spec_l1Cur_sumps.l0 k1 (x3_1 ++ [(⟨bt723.1, bt723.2.1, bt723.2.2.1⟩ : S30)]) (wrap64 (x4_1 + 1)) s0_0 bt723.2.2.2.1 bt723.2.2.2.2) else (none))) else (spec_l1Cur_sumps.l0 k1 x3_1 (wrap64 (x4_1 + 1)) s0_0 t721 t722)) = some (r1, r2, r3) := H
    have A5 := Aside0.mk A50
    clear A50
    by_cases c6 : t720 = true
    ·
     subst c6
     have H1 : ((spec_l1Cur_sump.f k1 s0_0 t721 t722 x4_1).bind fun bt723 => (if x3_1.length < 5864062014805 then (spec_l1Cur_sumps.l0 k1 (x3_1 ++ [(⟨bt723.1, bt723.2.1, bt723.2.2.1⟩ : S30)]) (wrap64 (x4_1 + 1)) s0_0 bt723.2.2.2.1 bt723.2.2.2.2) else (none))) = some (r1, r2, r3) := by rw [if_pos rfl] at H; exact H
     clear H
     have H := H1
     clear H1
     replace H := Option.bind_eq_some_iff.mp H
     obtain ⟨⟨t723, t724, t725, t726, t727⟩, A70, H⟩ := H
     replace H : (if x3_1.length < 5864062014805 then (spec_l1Cur_sumps.l0 k1 (x3_1 ++ [(⟨t723, t724, t725⟩ : S30)]) (wrap64 (x4_1 + 1)) s0_0 t726 t727) else (none)) = some (r1, r2, r3) := H
     have A7 := Aside0.mk A70
     clear A70
     by_cases c8 : x3_1.length < 5864062014805
     ·
      rw [if_pos c8] at H
      have LMc8 := Aside0.mk c8
      clear c8
      obtain ⟨y728, hy728⟩ : ∃ y_ : List (S30), y_ = (x3_1 ++ [(⟨t723, t724, t725⟩ : S30)]) := ⟨_, rfl⟩
      replace H : (spec_l1Cur_sumps.l0 k1 y728 (wrap64 (x4_1 + 1)) s0_0 t726 t727) = some (r1, r2, r3) := by first | (rw [hy728]; with_reducible exact H) | (have H2_ := (Option.bind_some _ _).symm.trans H; rw [hy728]; with_reducible exact H2_) | (have H2_ := (Option.bind_some _ _).symm.trans H; with_reducible exact H2_) | with_reducible exact H | (rw [hy728]; exact H) | exact H
      have Ny728 := Aside0.mk hy728
      clear hy728
      have H' := Aside0.mk H
      clear H
      go_wp2_with (first | ((with_reducible refine gate_callee (f := 92) rfl ?_); refine ga_ (some 11) Try.func92 #[.pointer (some ⟨g, 0, none⟩), .int .i64 4] ?_; (with_reducible refine (spec_l1Cur_one.calls g s0_0 x1001_1 x1002_1 4 true t721 t722 w0 _ ?side1 ?side2 A5.out).mono ?_); (case side1 => exact is90_0 HI0.out); (case side2 => exact lb1_ HB.out (IsS90.ge HI0.out)); rintro e w9 ⟨rfl, hi, hb, hk⟩; refine ⟨_, rfl, ?_⟩; replace HO_3 := Aside0.mk (Kd.R_mono (Kd.R_keep (IsS90.apart (show IsS90 w0 _ g s0_0 x1001_1 x1002_1 from is90_0 HI0.out) (kr_ HO_3.out) (by decide)) hk (fun _ h => h.2)) (fun _ h => h.1)); replace HK := Aside0.mk (KeepBut.trans (kb0_ HK.out) hk (.inl rfl)); replace HB := Aside0.mk (hb); replace HI0 := Aside0.mk (hi); (try clear hb); (try clear hb2); (try clear hk); (try clear hi)) | ((with_reducible refine gate_callee (f := 84) rfl ?_); refine ga_ (some 15) Try.func84 #[.pointer (some ⟨g, 0, none⟩), .int .i64 x4_1] ?_; (with_reducible refine (spec_l1Cur_sump.calls k1 g s0_0 t721 t722 x4_1 t723 t724 t725 t726 t727 w0 _ ?side1 ?side2 A7.out).mono ?_); (case side1 => exact is90_0 HI0.out); (case side2 => exact lb1_ HB.out (IsS90.ge HI0.out)); rintro e w10 ⟨rfl, hi, hb, hk⟩; refine ⟨_, rfl, ?_⟩; replace HO_3 := Aside0.mk (Kd.R_mono (Kd.R_keep (IsS90.apart (show IsS90 w0 _ g s0_0 t721 t722 from is90_0 HI0.out) (kr_ HO_3.out) (by decide)) hk (fun _ h => h.2)) (fun _ h => h.1)); replace HK := Aside0.mk (KeepBut.trans (kb0_ HK.out) hk (.inl rfl)); replace HB := Aside0.mk (hb); replace HI0 := Aside0.mk (hi); (try clear hb); (try clear hb2); (try clear hk); (try clear hi)) | ((with_reducible refine gate_builtin (b := .append) (xs := #[.tmp 12, .tmp 16]) rfl ?_); at_builtin; refine Kd.R_append k30 w.heap.size rfl (.tmp 12) (.tmp 16) 39 30 (.agg #[(.int .i64 0), (.int .i64 0), (.int .i64 0)]) 24 rfl Try.underlying39 info30 rfl (by decide) (by omega) u3 x3_1 (⟨t723, t724, t725⟩ : S30) [.int .i64 t723, .int .i64 t724, .int .i64 t725] (fun _ => True) (fun _ => False) rfl rfl ?aP (fun _ hk => hk.elim) ?aF ?aO (Below.refl _ _) ?aS ?aL ?_; (case aP => exact k30_mkM _ _ _ (⟨t723, t724, t725⟩ : S30)); (case aF => exact (fun _ _ => trivial)); (case aO => exact (kr_ HO_3.out)); (case aS => exact (keep_size (w := w) (g := g) (row := none) (kb0_ HK.out))); (case aL => have := LMc8.out; omega); intro v729 w11 ho hb hg hat; rw [← Ny728.out] at ho; replace HB := Aside0.mk (below_weaken (lb1_ HB.out (IsS90.ge HI0.out)) HL.out hb); replace HI0 := Aside0.mk (IsS90.grown (is90_0 HI0.out) hg (IsS90.own_ne HI0.out HO_3.out (by decide))); replace HK := Aside0.mk (KeepBut.trans (kb0_ HK.out) (KeepBut.of_grown hg g) (Kd.R_base2 HO_3.out)); have HO730 := Aside0.mk (ho); clear HO_3; clear ho hb hg hat))
      go_roundg k1
      case measure => have := HK1.out; omega
      case rel => exact ⟨(y728), (wrap64 (x4_1 + 1)), (t726), (t727), (by first | rfl | (simp; done) | (simp [*]; done)), H', ⟨by have := HK1.out; omega⟩, ⟨kr_ HO730.out⟩, ⟨is90_0 HI0.out⟩, ⟨kb0_ HK.out⟩, ⟨lb1_ HB.out (IsS90.ge HI0.out)⟩⟩
     ·
      rw [if_neg c8] at H
      exact absurd H (by simp)
    ·
     replace c6 := Bool.eq_false_iff.mpr c6
     subst c6
     have H1 : (spec_l1Cur_sumps.l0 k1 x3_1 (wrap64 (x4_1 + 1)) s0_0 t721 t722) = some (r1, r2, r3) := by rw [if_neg (show ¬ (false = true) by decide)] at H; exact H
     clear H
     have H := H1
     clear H1
     have H' := Aside0.mk H
     clear H
     go_wp2_with (first | ((with_reducible refine gate_callee (f := 92) rfl ?_); refine ga_ (some 11) Try.func92 #[.pointer (some ⟨g, 0, none⟩), .int .i64 4] ?_; (with_reducible refine (spec_l1Cur_one.calls g s0_0 x1001_1 x1002_1 4 false t721 t722 w0 _ ?side1 ?side2 A5.out).mono ?_); (case side1 => exact is90_0 HI0.out); (case side2 => exact lb1_ HB.out (IsS90.ge HI0.out)); rintro e w12 ⟨rfl, hi, hb, hk⟩; refine ⟨_, rfl, ?_⟩; replace HO_3 := Aside0.mk (Kd.R_mono (Kd.R_keep (IsS90.apart (show IsS90 w0 _ g s0_0 x1001_1 x1002_1 from is90_0 HI0.out) (kr_ HO_3.out) (by decide)) hk (fun _ h => h.2)) (fun _ h => h.1)); replace HK := Aside0.mk (KeepBut.trans (kb0_ HK.out) hk (.inl rfl)); replace HB := Aside0.mk (hb); replace HI0 := Aside0.mk (hi); (try clear hb); (try clear hb2); (try clear hk); (try clear hi)))
     go_roundg k1
     case measure => have := HK1.out; omega
     case rel => exact ⟨(x3_1), (wrap64 (x4_1 + 1)), (t721), (t722), (by first | rfl | (simp; done) | (simp [*]; done)), H', ⟨by have := HK1.out; omega⟩, ⟨kr_ HO_3.out⟩, ⟨is90_0 HI0.out⟩, ⟨kb0_ HK.out⟩, ⟨lb1_ HB.out (IsS90.ge HI0.out)⟩⟩
   ·
    rw [if_neg c4] at H
    have c4b0 : decide (x4_1 < 8) = false := decide_eq_false c4
    clear c4
    by_cases c13 : (x3_1.length : Int) > 0
    ·
     rw [if_pos c13] at H
     have c13b0 : decide (0 < (x3_1.length : Int)) = true := decide_eq_true c13
     have c13b1 : decide (0 < x3_1.length) = true := decide_eq_true (by omega)
     clear c13
     replace H := Option.bind_eq_some_iff.mp H
     obtain ⟨⟨t713, t714, t715⟩, A140, H⟩ := H
     replace H : (if t713 = true then (if 0 < (x3_1.length : Int) then (if x3_1.length < 5864062014805 then (some ((x3_1 ++ [(⟨(rd_T30 x3_1 0).f0, (rd_T30 x3_1 0).f1, (rd_T30 x3_1 0).f2⟩ : S30)]), t714, t715)) else (none)) else (none)) else (some (x3_1, t714, t715))) = some (r1, r2, r3) := H
     have A14 := Aside0.mk A140
     clear A140
     by_cases c15 : t713 = true
     ·
      subst c15
      have H1 : (if 0 < (x3_1.length : Int) then (if x3_1.length < 5864062014805 then (some ((x3_1 ++ [(⟨(rd_T30 x3_1 0).f0, (rd_T30 x3_1 0).f1, (rd_T30 x3_1 0).f2⟩ : S30)]), t714, t715)) else (none)) else (none)) = some (r1, r2, r3) := by rw [if_pos rfl] at H; exact H
      clear H
      have H := H1
      clear H1
      by_cases c16 : 0 < (x3_1.length : Int)
      ·
       rw [if_pos c16] at H
       have c16b0 : decide (0 < (x3_1.length : Int)) = true := decide_eq_true c16
       have c16b1 : decide (0 < x3_1.length) = true := decide_eq_true (by omega)
       clear c16
       by_cases c17 : x3_1.length < 5864062014805
       ·
        rw [if_pos c17] at H
        have LMc17 := Aside0.mk c17; clear c17
        obtain ⟨y717, hy717⟩ : ∃ y_ : List (S30), y_ = (x3_1 ++ [(⟨(rd_T30 x3_1 0).f0, (rd_T30 x3_1 0).f1, (rd_T30 x3_1 0).f2⟩ : S30)]) := ⟨_, rfl⟩
        replace H : (some (y717, t714, t715)) = some (r1, r2, r3) := by first | (rw [hy717]; with_reducible exact H) | (have H2_ := (Option.bind_some _ _).symm.trans H; rw [hy717]; with_reducible exact H2_) | (have H2_ := (Option.bind_some _ _).symm.trans H; with_reducible exact H2_) | with_reducible exact H | (rw [hy717]; exact H) | exact H
        have Ny717 := Aside0.mk hy717; clear hy717; simp only [Option.some.injEq, Prod.mk.injEq] at H; obtain ⟨rfl, rfl, rfl⟩ := H; obtain ⟨Ao18, co18, eo18⟩ := Kd.R_slice HO_3.out; subst eo18
        go_wp2_with (first | (go_at_call 92; (with_reducible refine (spec_l1Cur_one.calls g s0_0 x1001_1 x1002_1 24 true t714 t715 w0 _ ?side1 ?side2 A14.out).mono ?_); (case side1 => exact is90_0 HI0.out); (case side2 => exact lb1_ HB.out (IsS90.ge HI0.out)); rintro e w19 ⟨rfl, hi, hb, hk⟩; replace HO_3 := Aside0.mk (Kd.R_mono (Kd.R_keep (IsS90.apart (show IsS90 w0 _ g s0_0 x1001_1 x1002_1 from is90_0 HI0.out) (kr_ HO_3.out) (by decide)) hk (fun _ h => h.2)) (fun _ h => h.1)); replace HK := Aside0.mk (KeepBut.trans (kb0_ HK.out) hk (.inl rfl)); replace HB := Aside0.mk (hb); replace HI0 := Aside0.mk (hi); (try clear hb); (try clear hb2); (try clear hk); (try clear hi); have p716 : 0 ≤ (0 : Int) := (by omega); have q716 : 0 < (x3_1.length : Int) := dt_; obtain ⟨ad716, e716, hx716_0, hx716_1, hx716_2⟩ := at_T30 (Kd.R_reads' HO_3.out).2.2 0 p716 q716; cases e716; have qi716 : (0 < x3_1.length) = True := eq_true (by omega); (try rw [show ((0 : Int)).toNat = 0 from rfl] at hx716_0); (try rw [show 0 * 3 = 0 from rfl] at hx716_0); (try rw [Addr.add_zero'] at hx716_0); (try rw [show ((0 : Int)).toNat = 0 from rfl] at hx716_1); (try rw [show 0 * 3 = 0 from rfl] at hx716_1); (try rw [Addr.add_zero'] at hx716_1); (try rw [show ((0 : Int)).toNat = 0 from rfl] at hx716_2); (try rw [show 0 * 3 = 0 from rfl] at hx716_2); (try rw [Addr.add_zero'] at hx716_2); replace p716 := eq_true p716; replace q716 := eq_true q716) | ((with_reducible refine gate_builtin (b := .append) (xs := #[.tmp 25, .tmp 29]) rfl ?_); at_builtin; refine Kd.R_append k30 w.heap.size rfl (.tmp 25) (.tmp 29) 39 30 (.agg #[(.int .i64 0), (.int .i64 0), (.int .i64 0)]) 24 rfl Try.underlying39 info30 rfl (by decide) (by omega) (.slice (some ad716) x3_1.length co18) x3_1 (⟨(rd_T30 x3_1 0).f0, (rd_T30 x3_1 0).f1, (rd_T30 x3_1 0).f2⟩ : S30) [.int .i64 ((rd_T30 x3_1 0).f0), .int .i64 ((rd_T30 x3_1 0).f1), .int .i64 ((rd_T30 x3_1 0).f2)] (fun _ => True) (fun _ => False) rfl rfl ?aP (fun _ hk => hk.elim) ?aF ?aO (Below.refl _ _) ?aS ?aL ?_; (case aP => exact k30_mkM _ _ _ (⟨(rd_T30 x3_1 0).f0, (rd_T30 x3_1 0).f1, (rd_T30 x3_1 0).f2⟩ : S30)); (case aF => exact (fun _ _ => trivial)); (case aO => exact (kr_ HO_3.out)); (case aS => exact (keep_size (w := w) (g := g) (row := none) (kb0_ HK.out))); (case aL => have := LMc17.out; omega); intro v718 w20 ho hb hg hat; rw [← Ny717.out] at ho; replace HB := Aside0.mk (below_weaken (lb1_ HB.out (IsS90.ge HI0.out)) HL.out hb); replace HI0 := Aside0.mk (IsS90.grown (is90_0 HI0.out) hg (IsS90.own_ne HI0.out HO_3.out (by decide))); replace HK := Aside0.mk (KeepBut.trans (kb0_ HK.out) (KeepBut.of_grown hg g) (Kd.R_base2 HO_3.out)); have HO719 := Aside0.mk (ho); clear HO_3; clear ho hb hg hat))
        go_ret
        exact ⟨_, rr_, kr_ HO719.out, is90_0 HI0.out, lb1_ HB.out (IsS90.ge HI0.out), kb0_ HK.out⟩
       ·
        rw [if_neg c17] at H
        exact absurd H (by simp)
      ·
       rw [if_neg c16] at H
       exact absurd H (by simp)
     ·
      replace c15 := Bool.eq_false_iff.mpr c15
      subst c15
      have H1 : (some (x3_1, t714, t715)) = some (r1, r2, r3) := by rw [if_neg (show ¬ (false = true) by decide)] at H; exact H
      clear H
      have H := H1
      clear H1
      simp only [Option.some.injEq, Prod.mk.injEq] at H
      obtain ⟨rfl, rfl, rfl⟩ := H
      obtain ⟨Ao21, co21, eo21⟩ := Kd.R_slice HO_3.out
      subst eo21
      go_wp2_with (first | (go_at_call 92; (with_reducible refine (spec_l1Cur_one.calls g s0_0 x1001_1 x1002_1 24 false t714 t715 w0 _ ?side1 ?side2 A14.out).mono ?_); (case side1 => exact is90_0 HI0.out); (case side2 => exact lb1_ HB.out (IsS90.ge HI0.out)); rintro e w22 ⟨rfl, hi, hb, hk⟩; replace HO_3 := Aside0.mk (Kd.R_mono (Kd.R_keep (IsS90.apart (show IsS90 w0 _ g s0_0 x1001_1 x1002_1 from is90_0 HI0.out) (kr_ HO_3.out) (by decide)) hk (fun _ h => h.2)) (fun _ h => h.1)); replace HK := Aside0.mk (KeepBut.trans (kb0_ HK.out) hk (.inl rfl)); replace HB := Aside0.mk (hb); replace HI0 := Aside0.mk (hi); (try clear hb); (try clear hb2); (try clear hk); (try clear hi)))
      go_ret
      exact ⟨_, rr_, kr_ HO_3.out, is90_0 HI0.out, lb1_ HB.out (IsS90.ge HI0.out), kb0_ HK.out⟩
    ·
     rw [if_neg c13] at H
     have c13b0 : decide (0 < (x3_1.length : Int)) = false := decide_eq_false c13
     have c13b1 : decide (0 < x3_1.length) = false := decide_eq_false (by omega)
     clear c13
     simp only [Option.some.injEq, Prod.mk.injEq] at H
     obtain ⟨rfl, rfl, rfl⟩ := H
     obtain ⟨Ao23, co23, eo23⟩ := Kd.R_slice HO_3.out
     subst eo23
     go_wp2
     go_ret
     exact ⟨_, rr_, kr_ HO_3.out, is90_0 HI0.out, lb1_ HB.out (IsS90.ge HI0.out), kb0_ HK.out⟩
def drawOpen_ : List Int := [1, 2, 5, 30, 100, 0, 101]
def spec_DrawOpenFor.f (k : Nat) (l0 : List Int) : Option (List S54 × List S30 × Int) :=
 (spec_newCur.f l0).bind fun b0 => (spec_l1Cur_readings.f k b0.1 b0.2.1 b0.2.2).bind fun b1 => (spec_l1Cur_sumps.f k b0.1 b1.2.1 b1.2.2).bind fun b9 => (spec_l1Cur_pick.f b0.1 b9.2.1 b9.2.2 24).bind fun b2 =>
  if 0 ≤ b2.1 ∧ b2.1 < 24 then (spec_l1Cur_among.f b0.1 b2.2.1 b2.2.2 (drawOpen_.take (5 + b2.1 / 11).toNat)).bind fun b3 => some (b1.1, b9.1, b3.1) else none
set_option maxHeartbeats 8000000 in
set_option maxRecDepth 100000 in
theorem spec_DrawOpenFor.calls (k : Nat) (A0 : Option Addr) (c0 : Nat) (l0 : List Int) (r1 : List S54) (r2 : List S30) (r3 : Int) (w : World) (hr0 : Kd.C (Kd.int .u8) w A0 l0.length l0) (hc0 : l0.length ≤ c0) (h : spec_DrawOpenFor.f k l0 = some (r1, r2, r3)) :
  Calls Try.prog 47 #[.slice A0 l0.length c0] w fun e w' => ∃ v0_ v1_ : Value, e = .returned (.tuple #[v0_, v1_, .int .i64 r3]) ∧ Kd.R k54 54 w' w.heap.size (fun _ => True) v0_ r1 ∧ Kd.R k30 30 w' w.heap.size (fun _ => True) v1_ r2 ∧ Below w.heap.size w w' := by
 have hu := Try.underlying90
 have HR0 := Aside0.mk hr0
 have HC0 := Aside0.mk hc0
 clear hr0 hc0
 have HB := Aside0.mk (Below.refl w.heap.size w)
 unfold spec_DrawOpenFor.f at h
 obtain ⟨⟨x, p0, s0⟩, e0, h⟩ := Option.bind_eq_some_iff.mp h
 obtain ⟨⟨l, p1, s1⟩, e1, h⟩ := Option.bind_eq_some_iff.mp h
 obtain ⟨⟨lu, p9, s9⟩, e9, h⟩ := Option.bind_eq_some_iff.mp h
 obtain ⟨⟨t, p2, s2⟩, e2, h⟩ := Option.bind_eq_some_iff.mp h
 by_cases hb : 0 ≤ t ∧ t < 24
 ·
  rw [if_pos hb] at h
  obtain ⟨⟨y, p3, s3⟩, e3, h⟩ := Option.bind_eq_some_iff.mp h
  simp only [Option.some.injEq, Prod.mk.injEq] at h
  obtain ⟨rfl, rfl, rfl⟩ := h
  simp only at e1 e2 e3 e9
  have A0_ := Aside0.mk e0
  have A1_ := Aside0.mk e1
  have A9_ := Aside0.mk e9
  have A2_ := Aside0.mk e2
  obtain ⟨q, hq⟩ : ∃ q, q = drawOpen_.take (5 + t / 11).toNat := ⟨_, rfl⟩
  have hql : (5 + t / 11).toNat = q.length := by rw [hq, List.length_take]; show _ = min _ 7; omega
  have hqt : (q.length : Int) = 5 + t / 11 := by omega
  have hq7 : q.length ≤ 7 := by omega
  rw [← hq] at e3
  have A3_ := Aside0.mk e3
  have HQ := Aside0.mk hq
  have HQL := Aside0.mk hql
  have d1 : wrap64 (Int.tdiv t 11) = t / 11 := by rw [Int.tdiv_eq_ediv_of_nonneg hb.1]; unfold wrap64; omega
  have d2 : wrap64 (5 + t / 11) = 5 + t / 11 := by unfold wrap64; omega
  have d3 : decide (0 ≤ 5 + t / 11) = true := decide_eq_true (by omega)
  clear h e0 e1 e2 e3 e9 hq hql
  go_enter Try.func47, Try.ntmps47
  go_wp2_with (first
   | ((with_reducible refine gate_dst (N := 10) rfl ?_); refine box_event ?hg (N := 10) ?hd (cs := #[.slice A0 l0.length c0, .int .i64 0, .int .u64 0]) (t := 90) ?hr ?_; (case hd => rfl); (case hg => rfl); (case hr => first | (go_simp; done) | (go_simp; rfl)); intro g hg w5 hbx hb2; have hb3 := below_step HB.out hb2; have hi : IsS90 w w5 g x p0 s0 := (by have hz_ := A0_.out; simp only [spec_newCur.f, Option.some.injEq, Prod.mk.injEq] at hz_; rw [← hz_.1, ← hz_.2.1, ← hz_.2.2]; exact ⟨_, _, hbx, (by rw [hg]; exact HB.out.size : w.heap.size ≤ g), HR0.out⟩); clear hg hbx hb2 HB; have HB := Aside0.mk hb3; have HI := Aside0.mk hi; clear hb3 hi)
   | (go_at_call 67; (with_reducible refine (spec_l1Cur_readings.calls k g x p0 s0 l p1 s1 w _ HI.out HB.out A1_.out).mono ?_); rintro e w6 ⟨v, rfl, hR, hi, hb3, hk⟩; have HO := Aside0.mk (Kd.R_lower hR HB.out.size); clear HI HB; have HB := Aside0.mk hb3; have HI := Aside0.mk hi; clear hb3 hi hk hR; obtain ⟨Ao, co, eo⟩ := Kd.R_slice HO.out; subst eo)
   | (go_at_call 85; (with_reducible refine (spec_l1Cur_sumps.calls k g x p1 s1 lu p9 s9 w _ HI.out HB.out A9_.out).mono ?_); rintro e w6 ⟨v, rfl, hR, hi, hb3, hk⟩; have n0 := Aside0.mk (Kd.R_mono (Kd.R_keep (IsS90.apart HI.out HO.out (by decide)) hk (fun _ h => h.2)) (fun _ h => h.1)); have HU := Aside0.mk (Kd.R_lower hR HB.out.size); clear HO HI HB; have HO := n0; have HB := Aside0.mk hb3; have HI := Aside0.mk hi; clear n0 hb3 hi hk hR; obtain ⟨Au, cu, eu⟩ := Kd.R_slice HU.out; subst eu)
   | ((with_reducible refine gate_dst (N := 18) rfl ?_); refine Kd.R_lit (Kd.int .i64) _ 3 ?hg (N := 18) ?hd (xs := drawOpen_) (inner := [.int .i64 1, .int .i64 2, .int .i64 5, .int .i64 30, .int .i64 100, .int .i64 0, .int .i64 101]) (ok := fun _ => True) (okp := fun _ => True) ?hr ?hp (fun _ hk => hk) trivial (Below.refl _ _) (Nat.le_refl _) (by decide) ?_; (case hd => rfl); (case hg => rfl); (case hr => first | (go_simp; done) | (go_simp; rfl)); (case hp => exact (Reps.one (show Kd.M (Kd.int .i64) _ _ _ 1 [.int .i64 1] from rfl) (Reps.one (show Kd.M (Kd.int .i64) _ _ _ 2 [.int .i64 2] from rfl) (Reps.one (show Kd.M (Kd.int .i64) _ _ _ 5 [.int .i64 5] from rfl) (Reps.one (show Kd.M (Kd.int .i64) _ _ _ 30 [.int .i64 30] from rfl) (Reps.one (show Kd.M (Kd.int .i64) _ _ _ 100 [.int .i64 100] from rfl) (Reps.one (show Kd.M (Kd.int .i64) _ _ _ 0 [.int .i64 0] from rfl) (Reps.one (show Kd.M (Kd.int .i64) _ _ _ 101 [.int .i64 101] from rfl) (Reps.none _ _))))))))); intro v7 w7 ho hb3 hg_ hnew_; clear hg_ hnew_; have HO7 := Aside0.mk (Kd.R_lower ho HB.out.size); replace HU := Aside0.mk (Kd.R_below HU.out hb3); have n0 := Aside0.mk (Kd.R_below HO.out hb3); have n1 := Aside0.mk (IsS90.below HI.out hb3); have n2 := Aside0.mk (below_step HB.out hb3); clear HO HI HB hb3 ho; have HO := n0; have HI := n1; have HB := n2; clear n0 n1 n2; obtain ⟨A7, c7, e7⟩ := Kd.R_slice HO7.out; subst e7; have hc7 : drawOpen_.length ≤ c7 := (Kd.R_reads' HO7.out).2.1; have hc7n : 0 ≤ 5 + t / 11 ∧ 5 + t / 11 ≤ (c7 : Int) := (by have : drawOpen_.length = 7 := rfl; omega))
   | (go_at_call 87; (with_reducible refine (spec_l1Cur_pick.calls g x p9 s9 24 t p2 s2 w _ HI.out HB.out A2_.out).mono ?_); rintro e w8 ⟨rfl, hi, hb3, hk⟩; replace HU := Aside0.mk (Kd.R_mono (Kd.R_keep (IsS90.apart HI.out HU.out (by decide)) hk (fun _ h => h.2)) (fun _ h => h.1)); have n0 := Aside0.mk (Kd.R_mono (Kd.R_keep (IsS90.apart HI.out HO.out (by decide)) hk (fun _ h => h.2)) (fun _ h => h.1)); have n1 := Aside0.mk (Kd.R_mono (Kd.R_keep (IsS90.apart HI.out HO7.out (by decide)) hk (fun _ h => h.2)) (fun _ h => h.1)); clear HO HO7 HI HB; have HO := n0; have HO7 := n1; have HI := Aside0.mk hi; have HB := Aside0.mk hb3; clear n0 n1 hi hb3 hk)
   | (rw [HQL.out]; go_at_call 86; (with_reducible refine (spec_l1Cur_among.calls g x p2 s2 _ _ q y p3 s3 w _ HI.out HB.out ?q1 ?q2 ?q3 A3_.out).mono ?_); (case q1 => rw [HQ.out]; exact Kd.C_take (Kd.R_reads' HO7.out).2.2 (by show _ ≤ 7; omega)); (case q2 => have := (Kd.R_reads' HO7.out).2.1; have h7 : drawOpen_.length = 7 := rfl; omega); (case q3 => exact fun ad e1 e2 => far_slice (IsS90.own_ne HI.out HO7.out (by decide)) ad e1 (by show 0 < 7; decide)); rintro e w9 ⟨rfl, hi, hb3, hk⟩; replace HU := Aside0.mk (Kd.R_mono (Kd.R_keep (IsS90.apart HI.out HU.out (by decide)) hk (fun _ h => h.2)) (fun _ h => h.1)); have n0 := Aside0.mk (Kd.R_mono (Kd.R_keep (IsS90.apart HI.out HO.out (by decide)) hk (fun _ h => h.2)) (fun _ h => h.1)); clear HO HO7 HI HB; have HO := n0; have HB := Aside0.mk hb3; clear n0 hi hb3 hk))
  go_ret3
  exact ⟨_, _, rfl, HO.out, HU.out, HB.out⟩
 ·
  rw [if_neg hb] at h
  cases h
def spec_DrawClosedSumps.f (k : Nat) (l0 : List Int) : Option ((List (S54)) × (List (S30)) × Int) := (spec_newCur.f l0).bind fun bt731 => ((spec_l1Cur_readings.f k bt731.1 bt731.2.1 bt731.2.2).bind fun bt735 => ((spec_l1Cur_sumps.f k bt731.1 bt735.2.1 bt735.2.2).bind fun bt740 => ((spec_l1Cur_hour23.f k bt731.1 bt740.2.1 bt740.2.2 bt735.1).bind fun bt745 => (some (bt735.1, bt740.1, bt745.1)))))
set_option maxHeartbeats 8000000 in
set_option maxRecDepth 100000 in
theorem spec_DrawClosedSumps.calls (k : Nat) (A0 : Option Addr) (c0 : Nat) (l0 : List Int) (r1 : List (S54)) (r2 : List (S30)) (r3 : Int) (w : World) (hr0 : Kd.C (Kd.int .u8) w A0 l0.length l0) (hc0 : l0.length ≤ c0) (h : spec_DrawClosedSumps.f k l0 = some (r1, r2, r3)) :
  Calls Try.prog 48 #[.slice A0 l0.length c0] w fun e w' => ∃ v0_ v1_ : Value, e = .returned (.tuple #[v0_, v1_, .int .i64 r3]) ∧ Kd.R k54 54 w' w.heap.size (fun _ => True) v0_ r1 ∧ Kd.R k30 30 w' w.heap.size (fun _ => True) v1_ r2 ∧ Below w.heap.size w w' := by
 have hu90 := Try.underlying90
 have HR0 := Aside0.mk hr0
 have HC0 := Aside0.mk hc0
 clear hr0 hc0
 have HB := Aside0.mk (Below.refl w.heap.size w)
 have H : ((spec_newCur.f l0).bind fun bt731 => ((spec_l1Cur_readings.f k bt731.1 bt731.2.1 bt731.2.2).bind fun bt735 => ((spec_l1Cur_sumps.f k bt731.1 bt735.2.1 bt735.2.2).bind fun bt740 => ((spec_l1Cur_hour23.f k bt731.1 bt740.2.1 bt740.2.2 bt735.1).bind fun bt745 => (some (bt735.1, bt740.1, bt745.1)))))) = some (r1, r2, r3) := h
 clear h
 replace H := Option.bind_eq_some_iff.mp H
 obtain ⟨⟨t731, t732, t733⟩, A20, H⟩ := H
 replace H : ((spec_l1Cur_readings.f k t731 t732 t733).bind fun bt735 => ((spec_l1Cur_sumps.f k t731 bt735.2.1 bt735.2.2).bind fun bt740 => ((spec_l1Cur_hour23.f k t731 bt740.2.1 bt740.2.2 bt735.1).bind fun bt745 => (some (bt735.1, bt740.1, bt745.1))))) = some (r1, r2, r3) := H
 have A2 := Aside0.mk A20
 clear A20
 replace H := Option.bind_eq_some_iff.mp H
 obtain ⟨⟨t735, t738, t739⟩, A30, H⟩ := H
 replace H : ((spec_l1Cur_sumps.f k t731 t738 t739).bind fun bt740 => ((spec_l1Cur_hour23.f k t731 bt740.2.1 bt740.2.2 t735).bind fun bt745 => (some (t735, bt740.1, bt745.1)))) = some (r1, r2, r3) := H
 have A3 := Aside0.mk A30
 clear A30
 replace H := Option.bind_eq_some_iff.mp H
 obtain ⟨⟨t740, t743, t744⟩, A40, H⟩ := H
 replace H : ((spec_l1Cur_hour23.f k t731 t743 t744 t735).bind fun bt745 => (some (t735, t740, bt745.1))) = some (r1, r2, r3) := H
 have A4 := Aside0.mk A40
 clear A40
 replace H := Option.bind_eq_some_iff.mp H
 obtain ⟨⟨t745, t746, t747⟩, A50, H⟩ := H
 replace H : (some (t735, t740, t745)) = some (r1, r2, r3) := H
 have A5 := Aside0.mk A50
 clear A50
 simp only [Option.some.injEq, Prod.mk.injEq] at H
 obtain ⟨rfl, rfl, rfl⟩ := H
 go_enter Try.func48, Try.ntmps48
 go_wp2_with (first | ((with_reducible refine gate_dst (N := 10) rfl ?_); refine box_event ?hg (N := 10) ?hd (cs := #[.slice A0 l0.length c0, .int .i64 0, .int .u64 0]) (t := 90) ?hr ?_; (case hd => rfl); (case hg => rfl); (case hr => first | (go_simp; done) | (go_simp; rfl)); intro g734 hg w6 hbx hb2; have hb := below_step (lb0_ HB.out) hb2; have hi : IsS90 w w6 g734 t731 t732 t733 := (by have hz_ := A2.out; simp only [spec_newCur.f, Option.some.injEq, Prod.mk.injEq] at hz_; rw [← hz_.1, ← hz_.2.1, ← hz_.2.2]; exact ⟨_, _, hbx, (bz_ hg (lb0_ HB.out)), HR0.out⟩); clear hg hbx; replace HB := Aside0.mk (hb); have HI734 := Aside0.mk (hi); (try clear hb); (try clear hb2); (try clear hk); (try clear hi)) | ((with_reducible refine gate_callee (f := 67) rfl ?_); refine ga_ (some 12) Try.func67 #[.pointer (some ⟨g734, 0, none⟩)] ?_; (with_reducible refine (spec_l1Cur_readings.calls k g734 t731 t732 t733 t735 t738 t739 w _ ?side1 ?side2 A3.out).mono ?_); (case side1 => exact is90_0 HI734.out); (case side2 => exact lb1_ HB.out (IsS90.ge HI734.out)); rintro e w7 ⟨v736, rfl, ho0, hi, hb, hk⟩; refine ⟨_, rfl, ?_⟩; have HO737 := Aside0.mk (Kd.R_lower ho0 (below_size (lb1_ HB.out (IsS90.ge HI734.out)))); replace HB := Aside0.mk (hb); replace HI734 := Aside0.mk (hi); (try clear hb); (try clear hb2); (try clear hk); (try clear hi); (try clear ho0)) | ((with_reducible refine gate_callee (f := 85) rfl ?_); refine ga_ (some 14) Try.func85 #[.pointer (some ⟨g734, 0, none⟩)] ?_; (with_reducible refine (spec_l1Cur_sumps.calls k g734 t731 t738 t739 t740 t743 t744 w _ ?side1 ?side2 A4.out).mono ?_); (case side1 => exact is90_0 HI734.out); (case side2 => exact lb1_ HB.out (IsS90.ge HI734.out)); rintro e w8 ⟨v741, rfl, ho0, hi, hb, hk⟩; refine ⟨_, rfl, ?_⟩; replace HO737 := Aside0.mk (Kd.R_mono (Kd.R_keep (IsS90.apart (show IsS90 w _ g734 t731 t738 t739 from is90_0 HI734.out) (kr_ HO737.out) (by decide)) hk (fun _ h => h.2)) (fun _ h => h.1)); have HO742 := Aside0.mk (Kd.R_lower ho0 (below_size (lb1_ HB.out (IsS90.ge HI734.out)))); replace HB := Aside0.mk (hb); replace HI734 := Aside0.mk (hi); (try clear hb); (try clear hb2); (try clear hk); (try clear hi); (try clear ho0); obtain ⟨Ao9, co9, eo9⟩ := Kd.R_slice HO737.out; subst eo9) | ((with_reducible refine gate_callee (f := 68) rfl ?_); refine ga_ (some 19) Try.func68 #[.pointer (some ⟨g734, 0, none⟩), .slice Ao9 t735.length co9] ?_; (with_reducible refine (spec_l1Cur_hour23.calls k g734 t731 t743 t744 _ _ t735 t745 t746 t747 w _ ?side1 ?side2 ?side3 ?side4 A5.out).mono ?_); (case side1 => exact is90_0 HI734.out); (case side2 => exact lb1_ HB.out (IsS90.ge HI734.out)); (case side3 => exact Kd.C_foot_own (IsS90.apart (show IsS90 w _ g734 t731 t743 t744 from is90_0 HI734.out) (kr_ HO737.out) (by decide)) (fun _ h_ => h_.2)); (case side4 => exact (Kd.R_reads' HO737.out).2.1); rintro e w10 ⟨rfl, hi, hb, hk⟩; refine ⟨_, rfl, ?_⟩; replace HO737 := Aside0.mk (Kd.R_mono (Kd.R_keep (IsS90.apart (show IsS90 w _ g734 t731 t743 t744 from is90_0 HI734.out) (kr_ HO737.out) (by decide)) hk (fun _ h => h.2)) (fun _ h => h.1)); replace HO742 := Aside0.mk (Kd.R_mono (Kd.R_keep (IsS90.apart (show IsS90 w _ g734 t731 t743 t744 from is90_0 HI734.out) (kr_ HO742.out) (by decide)) hk (fun _ h => h.2)) (fun _ h => h.1)); replace HB := Aside0.mk (hb); replace HI734 := Aside0.mk (hi); (try clear hb); (try clear hb2); (try clear hk); (try clear hi)))
 go_ret3
 exact ⟨_, _, rr_, kr_ HO737.out, kr_ HO742.out, lb1_ HB.out (IsS90.ge HI734.out)⟩
def spec_AreSumps.f (k : Nat) (l0 : List (S30)) : Option (Bool) := (spec_l23Sumps.f k l0).bind fun t748 => (some t748)
set_option maxHeartbeats 8000000 in
set_option maxRecDepth 100000 in
theorem spec_AreSumps.calls (k : Nat) (A0 : Option Addr) (c0 : Nat) (l0 : List (S30)) (r : Bool) (w : World) (hr0 : Kd.C k30 w A0 l0.length l0) (hc0 : l0.length ≤ c0) (h : spec_AreSumps.f k l0 = some r) :
  Calls Try.prog 51 #[.slice A0 l0.length c0] w fun e w' => e = .returned (.bool r) ∧ Below w.heap.size w w' := by
 have HR0 := Aside0.mk hr0
 have HC0 := Aside0.mk hc0
 clear hr0 hc0
 have HB := Aside0.mk (Below.refl w.heap.size w)
 have H : ((spec_l23Sumps.f k l0).bind fun t748 => (some t748)) = some r := h
 clear h
 replace H := Option.bind_eq_some_iff.mp H
 obtain ⟨t748, A20, H⟩ := H
 replace H : (some t748) = some r := H
 have A2 := Aside0.mk A20
 clear A20
 obtain rfl := Option.some.inj H
 go_enter Try.func51, Try.ntmps51
 go_wp2_with (first | ((with_reducible refine gate_callee (f := 63) rfl ?_); refine ga_ (some 4) Try.func63 #[.slice A0 l0.length c0] ?_; (with_reducible refine (spec_l23Sumps.calls k _ _ l0 t748 _ ?side1 ?side2 A2.out).mono ?_); (case side1 => exact kc_ HR0.out); (case side2 => exact HC0.out); rintro e w3 ⟨rfl, hb⟩; refine ⟨_, rfl, ?_⟩; replace HB := Aside0.mk (below_step (lb0_ HB.out) hb); (try clear hb); (try clear hb2); (try clear hk); (try clear hi)))
 go_ret
 exact ⟨rr_, lb0_ HB.out⟩
def spec_DrawDrownedSumps.f (k : Nat) (l0 : List Int) : Option ((List (S54)) × (List (S30))) := (spec_newCur.f l0).bind fun bt749 => ((spec_l1Cur_readings.f k bt749.1 bt749.2.1 bt749.2.2).bind fun bt753 => ((spec_l1Cur_sumps.f k bt749.1 bt753.2.1 bt753.2.2).bind fun bt758 => (some (bt753.1, bt758.1))))
set_option maxHeartbeats 8000000 in
set_option maxRecDepth 100000 in
theorem spec_DrawDrownedSumps.calls (k : Nat) (A0 : Option Addr) (c0 : Nat) (l0 : List Int) (r1 : List (S54)) (r2 : List (S30)) (w : World) (hr0 : Kd.C (Kd.int .u8) w A0 l0.length l0) (hc0 : l0.length ≤ c0) (h : spec_DrawDrownedSumps.f k l0 = some (r1, r2)) :
  Calls Try.prog 52 #[.slice A0 l0.length c0] w fun e w' => ∃ v0_ v1_ : Value, e = .returned (.tuple #[v0_, v1_]) ∧ Kd.R k54 54 w' w.heap.size (fun _ => True) v0_ r1 ∧ Kd.R k30 30 w' w.heap.size (fun _ => True) v1_ r2 ∧ Below w.heap.size w w' := by
 have hu90 := Try.underlying90
 have HR0 := Aside0.mk hr0
 have HC0 := Aside0.mk hc0
 clear hr0 hc0
 have HB := Aside0.mk (Below.refl w.heap.size w)
 have H : ((spec_newCur.f l0).bind fun bt749 => ((spec_l1Cur_readings.f k bt749.1 bt749.2.1 bt749.2.2).bind fun bt753 => ((spec_l1Cur_sumps.f k bt749.1 bt753.2.1 bt753.2.2).bind fun bt758 => (some (bt753.1, bt758.1))))) = some (r1, r2) := h
 clear h
 replace H := Option.bind_eq_some_iff.mp H
 obtain ⟨⟨t749, t750, t751⟩, A20, H⟩ := H
 replace H : ((spec_l1Cur_readings.f k t749 t750 t751).bind fun bt753 => ((spec_l1Cur_sumps.f k t749 bt753.2.1 bt753.2.2).bind fun bt758 => (some (bt753.1, bt758.1)))) = some (r1, r2) := H
 have A2 := Aside0.mk A20
 clear A20
 replace H := Option.bind_eq_some_iff.mp H
 obtain ⟨⟨t753, t756, t757⟩, A30, H⟩ := H
 replace H : ((spec_l1Cur_sumps.f k t749 t756 t757).bind fun bt758 => (some (t753, bt758.1))) = some (r1, r2) := H
 have A3 := Aside0.mk A30
 clear A30
 replace H := Option.bind_eq_some_iff.mp H
 obtain ⟨⟨t758, t761, t762⟩, A40, H⟩ := H
 replace H : (some (t753, t758)) = some (r1, r2) := H
 have A4 := Aside0.mk A40
 clear A40
 simp only [Option.some.injEq, Prod.mk.injEq] at H
 obtain ⟨rfl, rfl⟩ := H
 go_enter Try.func52, Try.ntmps52
 go_wp2_with (first | ((with_reducible refine gate_dst (N := 8) rfl ?_); refine box_event ?hg (N := 8) ?hd (cs := #[.slice A0 l0.length c0, .int .i64 0, .int .u64 0]) (t := 90) ?hr ?_; (case hd => rfl); (case hg => rfl); (case hr => first | (go_simp; done) | (go_simp; rfl)); intro g752 hg w5 hbx hb2; have hb := below_step (lb0_ HB.out) hb2; have hi : IsS90 w w5 g752 t749 t750 t751 := (by have hz_ := A2.out; simp only [spec_newCur.f, Option.some.injEq, Prod.mk.injEq] at hz_; rw [← hz_.1, ← hz_.2.1, ← hz_.2.2]; exact ⟨_, _, hbx, (bz_ hg (lb0_ HB.out)), HR0.out⟩); clear hg hbx; replace HB := Aside0.mk (hb); have HI752 := Aside0.mk (hi); (try clear hb); (try clear hb2); (try clear hk); (try clear hi)) | ((with_reducible refine gate_callee (f := 67) rfl ?_); refine ga_ (some 10) Try.func67 #[.pointer (some ⟨g752, 0, none⟩)] ?_; (with_reducible refine (spec_l1Cur_readings.calls k g752 t749 t750 t751 t753 t756 t757 w _ ?side1 ?side2 A3.out).mono ?_); (case side1 => exact is90_0 HI752.out); (case side2 => exact lb1_ HB.out (IsS90.ge HI752.out)); rintro e w6 ⟨v754, rfl, ho0, hi, hb, hk⟩; refine ⟨_, rfl, ?_⟩; have HO755 := Aside0.mk (Kd.R_lower ho0 (below_size (lb1_ HB.out (IsS90.ge HI752.out)))); replace HB := Aside0.mk (hb); replace HI752 := Aside0.mk (hi); (try clear hb); (try clear hb2); (try clear hk); (try clear hi); (try clear ho0)) | ((with_reducible refine gate_callee (f := 85) rfl ?_); refine ga_ (some 13) Try.func85 #[.pointer (some ⟨g752, 0, none⟩)] ?_; (with_reducible refine (spec_l1Cur_sumps.calls k g752 t749 t756 t757 t758 t761 t762 w _ ?side1 ?side2 A4.out).mono ?_); (case side1 => exact is90_0 HI752.out); (case side2 => exact lb1_ HB.out (IsS90.ge HI752.out)); rintro e w7 ⟨v759, rfl, ho0, hi, hb, hk⟩; refine ⟨_, rfl, ?_⟩; replace HO755 := Aside0.mk (Kd.R_mono (Kd.R_keep (IsS90.apart (show IsS90 w _ g752 t749 t756 t757 from is90_0 HI752.out) (kr_ HO755.out) (by decide)) hk (fun _ h => h.2)) (fun _ h => h.1)); have HO760 := Aside0.mk (Kd.R_lower ho0 (below_size (lb1_ HB.out (IsS90.ge HI752.out)))); replace HB := Aside0.mk (hb); replace HI752 := Aside0.mk (hi); (try clear hb); (try clear hb2); (try clear hk); (try clear hi); (try clear ho0)))
 go_ret2
 exact ⟨_, _, rr_, kr_ HO755.out, kr_ HO760.out, lb1_ HB.out (IsS90.ge HI752.out)⟩
def laws_rHas.l0 : Nat → List Int → Int → Int → Option (Bool)
 | 0, _, _, _ => none
 | k + 1, x0, x1, x5 => if x5 < (x0.length : Int) then (if 0 ≤ x5 then (if (rd x0 x5) = x1 then (some true) else (laws_rHas.l0 k x0 x1 (wrap64 (x5 + 1)))) else (none)) else (some false)
def laws_rHas.f (k : Nat) (l0 : List Int) (a1 : Int) : Option (Bool) := laws_rHas.l0 k l0 a1 0
set_option maxHeartbeats 8000000 in
set_option maxRecDepth 100000 in
theorem laws_rHas.calls (k : Nat) (A0 : Option Addr) (c0 : Nat) (l0 : List Int) (a1 : Int) (r : Bool) (w : World) (hr0 : Kd.C (Kd.int .i64) w A0 l0.length l0) (hc0 : l0.length ≤ c0) (h : laws_rHas.f k l0 a1 = some r) :
  Calls Try.prog 53 #[.slice A0 l0.length c0, .int .i64 a1] w fun e w' => e = .returned (.bool r) ∧ Drawn0 w w' := by
 have HR0 := Aside0.mk hr0
 have HC0 := Aside0.mk hc0
 clear hr0 hc0
 have H : (laws_rHas.l0 k l0 a1 0) = some r := h
 clear h
 have H' := Aside0.mk H
 clear H
 go_enter Try.func53, Try.ntmps53
 go_wp2
 go_loopg [5] k (fun kq v5 w' => ∃ (x5_1 : Int), v5 = .int .i64 x5_1 ∧ Aside0 (laws_rHas.l0 kq l0 a1 x5_1 = some r) ∧ Aside0 (kq ≤ k) ∧ Drawn0 w w')
 case atStart => exact ⟨(0), (by first | rfl | (simp; done) | (simp [*]; done)), H', ⟨Nat.le_refl _⟩, by repeat (first | exact Drawn0.refl _ | apply Drawn0.step)⟩
 case round =>
  clear H'
  try clear p2
  obtain ⟨x5_1, rfl, HA, HK1, ⟨m1, rfl⟩⟩ := hrel
  cases gk with
  | zero => exact absurd HA.out (by simp [laws_rHas.l0])
  | succ k1 =>
   have H := HA.out
   clear HA
   simp only [laws_rHas.l0] at H
   by_cases c3 : x5_1 < (l0.length : Int)
   ·
    rw [if_pos c3] at H
    have c3b0 : decide (x5_1 < (l0.length : Int)) = true := decide_eq_true c3
    clear c3
    by_cases c4 : 0 ≤ x5_1
    ·
     rw [if_pos c4] at H
     have c4b0 : decide (0 ≤ x5_1) = true := decide_eq_true c4
     clear c4
     by_cases c5 : (rd l0 x5_1) = a1
     ·
      rw [if_pos c5] at H
      have c5b0 : ((rd l0 x5_1) == a1) = true := beq_iff_eq.mpr c5
      have c5b1 : ((rd l0 x5_1) != a1) = false := bne_eq_false_iff_eq.mpr c5
      clear c5
      obtain rfl := Option.some.inj H
      have p763 : 0 ≤ (x5_1 : Int) := dt_
      have q763 : x5_1 < (l0.length : Int) := dt_
      obtain ⟨ad763, e763, hx763_0⟩ := Kd.at_int HR0.out x5_1 p763 q763
      cases e763
      replace p763 := eq_true p763
      replace q763 := eq_true q763
      go_wp2
      go_ret
      exact ⟨by first | rfl | (simp; done) | (simp [*]; done), by repeat (first | exact Drawn0.refl _ | apply Drawn0.step)⟩
     ·
      rw [if_neg c5] at H
      have c5b0 : ((rd l0 x5_1) == a1) = false := beq_eq_false_iff_ne.mpr c5
      have c5b1 : ((rd l0 x5_1) != a1) = true := bne_iff_ne.mpr c5
      have H' := Aside0.mk H
      clear H
      have p763 : 0 ≤ (x5_1 : Int) := dt_
      have q763 : x5_1 < (l0.length : Int) := dt_
      obtain ⟨ad763, e763, hx763_0⟩ := Kd.at_int HR0.out x5_1 p763 q763
      cases e763
      replace p763 := eq_true p763
      replace q763 := eq_true q763
      go_wp2
      go_roundg k1
      case measure => have := HK1.out; omega
      case rel => exact ⟨(wrap64 (x5_1 + 1)), (by first | rfl | (simp; done) | (simp [*]; done)), H', ⟨by have := HK1.out; omega⟩, by repeat (first | exact Drawn0.refl _ | apply Drawn0.step)⟩
    ·
     rw [if_neg c4] at H
     exact absurd H (by simp)
   ·
    rw [if_neg c3] at H
    have c3b0 : decide (x5_1 < (l0.length : Int)) = false := decide_eq_false c3
    clear c3
    obtain rfl := Option.some.inj H
    go_wp2
    go_ret
    exact ⟨by first | rfl | (simp; done) | (simp [*]; done), by repeat (first | exact Drawn0.refl _ | apply Drawn0.step)⟩
end Go.Proofs.Ytojaeidabmfajaa.Pr

