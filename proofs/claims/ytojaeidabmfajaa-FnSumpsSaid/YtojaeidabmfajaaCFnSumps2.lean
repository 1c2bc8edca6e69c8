/-
What is proved: parts of the law FnSumps: what the functions that it reaches compute, and the plain law.
Conditions: those of each theorem.
-/
import Derived.Test.YtojaeidabmfajaaCFnSumps1
namespace Go.Proofs.Ytojaeidabmfajaa.Pr
open Go.RowKit Go.Proofs.YtojaeidabmfajaaW.PrintWords Go.Proofs.YtojaeidabmfajaaW.PrintLast Go.Proofs.YtojaeidabmfajaaW.PrintMore
attribute [local go_sem] max2_int min2_int max_two min_two max_three min_three max_four min_four   -- for this text's walks alone
set_option linter.unusedVariables false
set_option linter.unusedSimpArgs false
mutual
def spec_DrownedSumps.j0 : Nat → List (S54) → List (S30) → List Int → Bool → Option (List Int × Bool)
 | 0, _, _, _, _ => none
 | k + 1, x0, x1, x6, x17 => if x17 = true then (some (x6, false)) else (spec_DrownedSumps.l0 k x0 x1 x6 0)
def spec_DrownedSumps.l0 : Nat → List (S54) → List (S30) → List Int → Int → Option (List Int × Bool)
 | 0, _, _, _, _ => none
 | k + 1, x0, x1, x6, x7 => if x7 < (x1.length : Int) then (spec_DrownedSumps.l1 k x0 x1 x6 x7 0) else (some (x6, true))
def spec_DrownedSumps.l1 : Nat → List (S54) → List (S30) → List Int → Int → Int → Option (List Int × Bool)
 | 0, _, _, _, _, _ => none
 | k + 1, x0, x1, x6, x7, x8 => if x8 < (x0.length : Int) then (if 0 ≤ x8 then (if 0 ≤ x7 then (if x7 < (x1.length : Int) then (if ((rd_T54 x0 x8).f1) > ((rd_T30 x1 x7).f1) then (if x6.length < 17592186044416 then (spec_DrownedSumps.l0 k x0 x1 (x6 ++ [(rd_T30 x1 x7).f0]) (wrap64 (x7 + 1))) else (none)) else (spec_DrownedSumps.l1 k x0 x1 x6 x7 (wrap64 (x8 + 1)))) else (none)) else (none)) else (none)) else (spec_DrownedSumps.l0 k x0 x1 x6 (wrap64 (x7 + 1)))
end
def spec_DrownedSumps.f (k : Nat) (l0 : List (S54)) (l1 : List (S30)) : Option (List Int × Bool) := (some (([] : List Int) : List Int)).bind fun y216 => ((spec_l23Good.f k l0).bind fun t219 => (if t219 = true then ((spec_l23Sumps.f k l1).bind fun t220 => (spec_DrownedSumps.j0 k l0 l1 y216 (!t220))) else (spec_DrownedSumps.j0 k l0 l1 y216 true)))
set_option maxHeartbeats 8000000 in
set_option maxRecDepth 100000 in
theorem spec_DrownedSumps.calls (k : Nat) (A0 : Option Addr) (c0 : Nat) (l0 : List (S54)) (A1 : Option Addr) (c1 : Nat) (l1 : List (S30)) (r1 : List Int) (r2 : Bool) (w : World) (hr0 : Kd.C k54 w A0 l0.length l0) (hc0 : l0.length ≤ c0) (hr1 : Kd.C k30 w A1 l1.length l1) (hc1 : l1.length ≤ c1) (h : spec_DrownedSumps.f k l0 l1 = some (r1, r2)) :
  Calls Try.prog 17 #[.slice A0 l0.length c0, .slice A1 l1.length c1] w fun e w' => ∃ v0_ : Value, e = .returned (.tuple #[v0_, .bool r2]) ∧ Kd.R (Kd.int .i64) 3 w' w.heap.size (fun _ => True) v0_ r1 ∧ Below w.heap.size w w' := by
 have HR0 := Aside0.mk hr0
 have HC0 := Aside0.mk hc0
 clear hr0 hc0
 have HR1 := Aside0.mk hr1
 have HC1 := Aside0.mk hc1
 clear hr1 hc1
 have HB := Aside0.mk (Below.refl w.heap.size w)
 have H : ((some (([] : List Int) : List Int)).bind fun y216 => ((spec_l23Good.f k l0).bind fun t219 => (if t219 = true then ((spec_l23Sumps.f k l1).bind fun t220 => (spec_DrownedSumps.j0 k l0 l1 y216 (!t220))) else (spec_DrownedSumps.j0 k l0 l1 y216 true)))) = some (r1, r2) := h
 clear h
 obtain ⟨y216, hy216⟩ : ∃ y_ : List Int, y_ = (([] : List Int)) := ⟨_, rfl⟩
 replace H : ((spec_l23Good.f k l0).bind fun t219 => (if t219 = true then ((spec_l23Sumps.f k l1).bind fun t220 => (spec_DrownedSumps.j0 k l0 l1 y216 (!t220))) else (spec_DrownedSumps.j0 k l0 l1 y216 true))) = some (r1, r2) := by first | (rw [hy216]; with_reducible exact H) | (have H2_ := (Option.bind_some _ _).symm.trans H; rw [hy216]; with_reducible exact H2_) | (have H2_ := (Option.bind_some _ _).symm.trans H; with_reducible exact H2_) | with_reducible exact H | (rw [hy216]; exact H) | exact H
 have Ny216 := Aside0.mk hy216
 clear hy216
 have HC3 := Aside0.mk H
 clear H
 go_enter Try.func17, Try.ntmps17
 go_upto_region 2 with (first | ((with_reducible refine gate_dst (N := 9) rfl ?_); refine Kd.R_lit (Kd.int .i64) _ 3 ?hg (N := 9) ?hd (xs := ([] : List Int)) (inner := []) (ok := fun _ => True) (okp := fun _ => True) ?hr ?hp (fun _ hk => hk) trivial (Below.refl _ _) (Nat.le_refl _) (by simp) ?_; (case hd => rfl); (case hg => rfl); (case hr => first | (go_simp; done) | (go_simp; rfl)); (case hp => exact (Reps.none _ _)); intro v217 w4 ho5 hb hg_ hnew_; clear hg_ hnew_; replace ho5 := ry_ Ny216.out ho5; have HO218 := Aside0.mk (Kd.R_lower ho5 (below_size (lb0_ HB.out))); replace HB := Aside0.mk (below_step (lb0_ HB.out) hb); clear hb ho5))
 repeat (go_quiet (first | ((with_reducible refine gate_dst (N := 9) rfl ?_); refine Kd.R_lit (Kd.int .i64) _ 3 ?hg (N := 9) ?hd (xs := ([] : List Int)) (inner := []) (ok := fun _ => True) (okp := fun _ => True) ?hr ?hp (fun _ hk => hk) trivial (Below.refl _ _) (Nat.le_refl _) (by simp) ?_; (case hd => rfl); (case hg => rfl); (case hr => first | (go_simp; done) | (go_simp; rfl)); (case hp => exact (Reps.none _ _)); intro v217 w4 ho5 hb hg_ hnew_; clear hg_ hnew_; replace ho5 := ry_ Ny216.out ho5; have HO218 := Aside0.mk (Kd.R_lower ho5 (below_size (lb0_ HB.out))); replace HB := Aside0.mk (below_step (lb0_ HB.out) hb); clear hb ho5)); go_upto_region 2 with (first | ((with_reducible refine gate_dst (N := 9) rfl ?_); refine Kd.R_lit (Kd.int .i64) _ 3 ?hg (N := 9) ?hd (xs := ([] : List Int)) (inner := []) (ok := fun _ => True) (okp := fun _ => True) ?hr ?hp (fun _ hk => hk) trivial (Below.refl _ _) (Nat.le_refl _) (by simp) ?_; (case hd => rfl); (case hg => rfl); (case hr => first | (go_simp; done) | (go_simp; rfl)); (case hp => exact (Reps.none _ _)); intro v217 w4 ho5 hb hg_ hnew_; clear hg_ hnew_; replace ho5 := ry_ Ny216.out ho5; have HO218 := Aside0.mk (Kd.R_lower ho5 (below_size (lb0_ HB.out))); replace HB := Aside0.mk (below_step (lb0_ HB.out) hb); clear hb ho5)))
 (try simp only [Act.put, List.setIfInBounds_toArray, List.set_cons_zero, List.set_cons_succ])
 go_cut [17] (fun v17 wc => ∃ (kq : Nat) (x17_2 : Bool), v17 = .bool x17_2 ∧ Aside0 (spec_DrownedSumps.j0 kq l0 l1 y216 x17_2 = some (r1, r2)) ∧ Aside0 (kq ≤ k) ∧ Aside0 (Kd.R (Kd.int .i64) 3 wc w.heap.size (fun _ => True) v217 y216) ∧ Aside0 (Below w.heap.size w wc))
 case first =>
  have H := HC3.out
  clear HC3
  replace H := Option.bind_eq_some_iff.mp H
  obtain ⟨t219, A60, H⟩ := H
  replace H : (if t219 = true then ((spec_l23Sumps.f k l1).bind fun t220 => (spec_DrownedSumps.j0 k l0 l1 y216 (!t220))) else (spec_DrownedSumps.j0 k l0 l1 y216 true)) = some (r1, r2) := H
  have A6 := Aside0.mk A60
  clear A60
  by_cases c7 : t219 = true
  ·
   subst c7
   have H1 : ((spec_l23Sumps.f k l1).bind fun t220 => (spec_DrownedSumps.j0 k l0 l1 y216 (!t220))) = some (r1, r2) := by rw [if_pos rfl] at H; exact H
   clear H
   have H := H1
   clear H1
   replace H := Option.bind_eq_some_iff.mp H
   obtain ⟨t220, A80, H⟩ := H
   replace H : (spec_DrownedSumps.j0 k l0 l1 y216 (!t220)) = some (r1, r2) := H
   have A8 := Aside0.mk A80
   clear A80
   have H' := Aside0.mk H
   clear H
   go_wp2_with (first | (go_at_call 62; (with_reducible refine (spec_l23Good.calls k _ _ l0 true _ ?side1 ?side2 A6.out).mono ?_); (case side1 => exact kc_ (Kd.C_below HR0.out HB.out)); (case side2 => exact HC0.out); rintro e w9 ⟨rfl, hb⟩; replace HO218 := Aside0.mk (Kd.R_below (kr_ HO218.out) hb); replace HB := Aside0.mk (below_step (lb0_ HB.out) hb); (try clear hb); (try clear hb2); (try clear hk); (try clear hi)) | (go_at_call 63; (with_reducible refine (spec_l23Sumps.calls k _ _ l1 t220 _ ?side1 ?side2 A8.out).mono ?_); (case side1 => exact kc_ (Kd.C_below HR1.out HB.out)); (case side2 => exact HC1.out); rintro e w10 ⟨rfl, hb⟩; replace HO218 := Aside0.mk (Kd.R_below (kr_ HO218.out) hb); replace HB := Aside0.mk (below_step (lb0_ HB.out) hb); (try clear hb); (try clear hb2); (try clear hk); (try clear hi)))
   repeat (go_quiet (first | (go_at_call 62; (with_reducible refine (spec_l23Good.calls k _ _ l0 true _ ?side1 ?side2 A6.out).mono ?_); (case side1 => exact kc_ (Kd.C_below HR0.out HB.out)); (case side2 => exact HC0.out); rintro e w9 ⟨rfl, hb⟩; replace HO218 := Aside0.mk (Kd.R_below (kr_ HO218.out) hb); replace HB := Aside0.mk (below_step (lb0_ HB.out) hb); (try clear hb); (try clear hb2); (try clear hk); (try clear hi)) | (go_at_call 63; (with_reducible refine (spec_l23Sumps.calls k _ _ l1 t220 _ ?side1 ?side2 A8.out).mono ?_); (case side1 => exact kc_ (Kd.C_below HR1.out HB.out)); (case side2 => exact HC1.out); rintro e w10 ⟨rfl, hb⟩; replace HO218 := Aside0.mk (Kd.R_below (kr_ HO218.out) hb); replace HB := Aside0.mk (below_step (lb0_ HB.out) hb); (try clear hb); (try clear hb2); (try clear hk); (try clear hi))); try go_wp2_with (first | (go_at_call 62; (with_reducible refine (spec_l23Good.calls k _ _ l0 true _ ?side1 ?side2 A6.out).mono ?_); (case side1 => exact kc_ (Kd.C_below HR0.out HB.out)); (case side2 => exact HC0.out); rintro e w9 ⟨rfl, hb⟩; replace HO218 := Aside0.mk (Kd.R_below (kr_ HO218.out) hb); replace HB := Aside0.mk (below_step (lb0_ HB.out) hb); (try clear hb); (try clear hb2); (try clear hk); (try clear hi)) | (go_at_call 63; (with_reducible refine (spec_l23Sumps.calls k _ _ l1 t220 _ ?side1 ?side2 A8.out).mono ?_); (case side1 => exact kc_ (Kd.C_below HR1.out HB.out)); (case side2 => exact HC1.out); rintro e w10 ⟨rfl, hb⟩; replace HO218 := Aside0.mk (Kd.R_below (kr_ HO218.out) hb); replace HB := Aside0.mk (below_step (lb0_ HB.out) hb); (try clear hb); (try clear hb2); (try clear hk); (try clear hi))))
   go_meet
   case rel => exact ⟨_, (!t220), (by first | rfl | (simp; done) | (simp [*]; done)), H', ⟨by first | omega | exact Nat.le_refl _⟩, ⟨kr_ HO218.out⟩, ⟨lb0_ HB.out⟩⟩
  ·
   replace c7 := Bool.eq_false_iff.mpr c7
   subst c7
   have H1 : (spec_DrownedSumps.j0 k l0 l1 y216 true) = some (r1, r2) := by rw [if_neg (show ¬ (false = true) by decide)] at H; exact H
   clear H
   have H := H1
   clear H1
   have H' := Aside0.mk H
   clear H
   go_wp2_with (first | (go_at_call 62; (with_reducible refine (spec_l23Good.calls k _ _ l0 false _ ?side1 ?side2 A6.out).mono ?_); (case side1 => exact kc_ (Kd.C_below HR0.out HB.out)); (case side2 => exact HC0.out); rintro e w11 ⟨rfl, hb⟩; replace HO218 := Aside0.mk (Kd.R_below (kr_ HO218.out) hb); replace HB := Aside0.mk (below_step (lb0_ HB.out) hb); (try clear hb); (try clear hb2); (try clear hk); (try clear hi)))
   repeat (go_quiet (first | (go_at_call 62; (with_reducible refine (spec_l23Good.calls k _ _ l0 false _ ?side1 ?side2 A6.out).mono ?_); (case side1 => exact kc_ (Kd.C_below HR0.out HB.out)); (case side2 => exact HC0.out); rintro e w11 ⟨rfl, hb⟩; replace HO218 := Aside0.mk (Kd.R_below (kr_ HO218.out) hb); replace HB := Aside0.mk (below_step (lb0_ HB.out) hb); (try clear hb); (try clear hb2); (try clear hk); (try clear hi))); try go_wp2_with (first | (go_at_call 62; (with_reducible refine (spec_l23Good.calls k _ _ l0 false _ ?side1 ?side2 A6.out).mono ?_); (case side1 => exact kc_ (Kd.C_below HR0.out HB.out)); (case side2 => exact HC0.out); rintro e w11 ⟨rfl, hb⟩; replace HO218 := Aside0.mk (Kd.R_below (kr_ HO218.out) hb); replace HB := Aside0.mk (below_step (lb0_ HB.out) hb); (try clear hb); (try clear hb2); (try clear hk); (try clear hi))))
   go_meet
   case rel => exact ⟨_, (true), (by first | rfl | (simp; done) | (simp [*]; done)), H', ⟨by first | omega | exact Nat.le_refl _⟩, ⟨kr_ HO218.out⟩, ⟨lb0_ HB.out⟩⟩
 case rest =>
  clear HC3
  try clear c1
  try clear p2
  try clear c7
  obtain ⟨kq, x17_2, rfl, HA, HJ2, HO_6, HB⟩ := hcut
  cases kq with
  | zero => exact absurd HA.out (by simp [spec_DrownedSumps.j0])
  | succ kj2 =>
   have H := HA.out
   clear HA
   simp only [spec_DrownedSumps.j0] at H
   by_cases c12 : x17_2 = true
   ·
    subst c12
    have H1 : (some (y216, false)) = some (r1, r2) := by rw [if_pos rfl] at H; exact H
    clear H
    have H := H1
    clear H1
    simp only [Option.some.injEq, Prod.mk.injEq] at H
    obtain ⟨rfl, rfl⟩ := H
    go_wp2
    repeat (go_quiet (fail); try go_wp2)
    go_ret2
    exact ⟨_, rr_, kr_ HO_6.out, lb0_ HB.out⟩
   ·
    replace c12 := Bool.eq_false_iff.mpr c12
    subst c12
    have H1 : (spec_DrownedSumps.l0 kj2 l0 l1 y216 0) = some (r1, r2) := by rw [if_neg (show ¬ (false = true) by decide)] at H; exact H
    clear H
    have H := H1
    clear H1
    have H' := Aside0.mk H
    clear H
    go_wp2
    repeat (go_quiet (fail); try go_wp2)
    go_loopg [6, 7] kj2 (fun kq v6 v7 w' => ∃ (x6_2 : List Int) (x7_2 : Int), v7 = .int .i64 x7_2 ∧ Aside0 (spec_DrownedSumps.l0 kq l0 l1 x6_2 x7_2 = some (r1, r2)) ∧ Aside0 (kq ≤ kj2) ∧ Aside0 (Kd.R (Kd.int .i64) 3 w' w.heap.size (fun _ => True) v6 x6_2) ∧ Aside0 (Below w.heap.size w w'))
    case atStart => exact ⟨(y216), (0), (by first | rfl | (simp; done) | (simp [*]; done)), H', ⟨Nat.le_refl _⟩, ⟨kr_ HO_6.out⟩, ⟨lb0_ HB.out⟩⟩
    case round =>
     clear H'
     try clear c1
     try clear p2
     try clear c7
     try clear c12
     try clear p2
     obtain ⟨x6_2, x7_2, rfl, HA, HK2, HO_6, HB⟩ := hrel
     cases gk with
     | zero => exact absurd HA.out (by simp [spec_DrownedSumps.l0])
     | succ k2 =>
      have H := HA.out
      clear HA
      simp only [spec_DrownedSumps.l0] at H
      by_cases c13 : x7_2 < (l1.length : Int)
      ·
       rw [if_pos c13] at H
       have c13b0 : decide (x7_2 < (l1.length : Int)) = true := decide_eq_true c13
       clear c13
       have H' := Aside0.mk H
       clear H
       go_wp2
       repeat (go_quiet (fail); try go_wp2)
       go_loopg [6, 8] k2 (fun kq v6 v8 w' => ∃ (x6_3 : List Int) (x8_3 : Int), v8 = .int .i64 x8_3 ∧ Aside0 (spec_DrownedSumps.l1 kq l0 l1 x6_3 x7_2 x8_3 = some (r1, r2)) ∧ Aside0 (kq ≤ k2) ∧ Aside0 (Kd.R (Kd.int .i64) 3 w' w.heap.size (fun _ => True) v6 x6_3) ∧ Aside0 (Below w.heap.size w w'))
       case atStart => exact ⟨(x6_2), (0), (by first | rfl | (simp; done) | (simp [*]; done)), H', ⟨Nat.le_refl _⟩, ⟨kr_ HO_6.out⟩, ⟨lb0_ HB.out⟩⟩
       case round =>
        clear H'
        try clear c1
        try clear p2
        try clear c7
        try clear c12
        try clear c13
        try clear c13b0
        try clear p2
        obtain ⟨x6_3, x8_3, rfl, HA, HK3, HO_6, HB⟩ := hrel
        cases gk with
        | zero => exact absurd HA.out (by simp [spec_DrownedSumps.l1])
        | succ k3 =>
         have H := HA.out; clear HA; simp only [spec_DrownedSumps.l1] at H
         by_cases c14 : x8_3 < (l0.length : Int)
         ·
          rw [if_pos c14] at H
          have c14b0 : decide (x8_3 < (l0.length : Int)) = true := decide_eq_true c14; clear c14
          by_cases c15 : 0 ≤ x8_3
          ·
           rw [if_pos c15] at H
           have c15b0 : decide (0 ≤ x8_3) = true := decide_eq_true c15; clear c15
           by_cases c16 : 0 ≤ x7_2
           ·
            rw [if_pos c16] at H
            have c16b0 : decide (0 ≤ x7_2) = true := decide_eq_true c16; clear c16
            by_cases c17 : x7_2 < (l1.length : Int)
            ·
             rw [if_pos c17] at H
             have c17b0 : decide (x7_2 < (l1.length : Int)) = true := decide_eq_true c17; clear c17
             by_cases c18 : ((rd_T54 l0 x8_3).f1) > ((rd_T30 l1 x7_2).f1)
             ·
              rw [if_pos c18] at H
              have c18b0 : decide (((rd_T30 l1 x7_2).f1) < ((rd_T54 l0 x8_3).f1)) = true := decide_eq_true c18; clear c18
              by_cases c19 : x6_3.length < 17592186044416
              ·
               rw [if_pos c19] at H
               have LMc19 := Aside0.mk c19; clear c19
               obtain ⟨y224, hy224⟩ : ∃ y_ : List Int, y_ = (x6_3 ++ [(rd_T30 l1 x7_2).f0]) := ⟨_, rfl⟩
               replace H : (spec_DrownedSumps.l0 k3 l0 l1 y224 (wrap64 (x7_2 + 1))) = some (r1, r2) := by first | (rw [hy224]; with_reducible exact H) | (have H2_ := (Option.bind_some _ _).symm.trans H; rw [hy224]; with_reducible exact H2_) | (have H2_ := (Option.bind_some _ _).symm.trans H; with_reducible exact H2_) | with_reducible exact H | (rw [hy224]; exact H) | exact H
               have Ny224 := Aside0.mk hy224; clear hy224; have H' := Aside0.mk H; clear H; have p221 : 0 ≤ (x8_3 : Int) := dt_; have q221 : x8_3 < (l0.length : Int) := dt_; obtain ⟨ad221, e221, hx221_0, hx221_1⟩ := at_T54 HR0.out x8_3 p221 q221
               cases e221
               replace hx221_0 := bc_ HB.out hx221_0; replace hx221_1 := bc_ HB.out hx221_1; replace p221 := eq_true p221; replace q221 := eq_true q221; have p222 : 0 ≤ (x7_2 : Int) := dt_; have q222 : x7_2 < (l1.length : Int) := dt_; obtain ⟨ad222, e222, hx222_0, hx222_1, hx222_2⟩ := at_T30 HR1.out x7_2 p222 q222
               cases e222
               replace hx222_0 := bc_ HB.out hx222_0; replace hx222_1 := bc_ HB.out hx222_1; replace hx222_2 := bc_ HB.out hx222_2; replace p222 := eq_true p222; replace q222 := eq_true q222; have p223 : 0 ≤ (x7_2 : Int) := dt_; have q223 : x7_2 < (l1.length : Int) := dt_; obtain ⟨ad223, e223, hx223_0, hx223_1, hx223_2⟩ := at_T30 HR1.out x7_2 p223 q223
               obtain rfl : ad222 = ad223 := (by injection e223)
               replace hx223_0 := bc_ HB.out hx223_0; replace hx223_1 := bc_ HB.out hx223_1; replace hx223_2 := bc_ HB.out hx223_2; replace p223 := eq_true p223; replace q223 := eq_true q223
               go_wp2_with (first | ((with_reducible refine gate_builtin (b := .append) (xs := #[.tmp 42, .tmp 48]) rfl ?_); at_builtin; refine Kd.R_append (Kd.int .i64) (w0 := w) w.heap.size rfl (.tmp 42) (.tmp 48) 36 3 (.int .i64 0) 8 rfl Try.underlying36 info3 rfl (by decide) (by omega) u6 x6_3 ((rd_T30 l1 x7_2).f0) [.int .i64 ((rd_T30 l1 x7_2).f0)] (fun _ => True) (fun _ => False) rfl rfl ?aP (fun _ hk => hk.elim) ?aF ?aO ?aB ?aS ?aL ?_; (case aP => exact rfl); (case aB => exact (lb0_ HB.out)); (case aF => exact (fun _ _ => trivial)); (case aO => exact (kr_ HO_6.out)); (case aS => exact (below_size (lb0_ HB.out))); (case aL => have := LMc19.out; omega); intro v225 w20 ho hb hg hat; rw [← Ny224.out] at ho; replace HB := Aside0.mk (hb); have HO226 := Aside0.mk (ho); clear HO_6; clear ho hb hg hat))
               repeat (go_quiet (first | ((with_reducible refine gate_builtin (b := .append) (xs := #[.tmp 42, .tmp 48]) rfl ?_); at_builtin; refine Kd.R_append (Kd.int .i64) (w0 := w) w.heap.size rfl (.tmp 42) (.tmp 48) 36 3 (.int .i64 0) 8 rfl Try.underlying36 info3 rfl (by decide) (by omega) u6 x6_3 ((rd_T30 l1 x7_2).f0) [.int .i64 ((rd_T30 l1 x7_2).f0)] (fun _ => True) (fun _ => False) rfl rfl ?aP (fun _ hk => hk.elim) ?aF ?aO ?aB ?aS ?aL ?_; (case aP => exact rfl); (case aB => exact (lb0_ HB.out)); (case aF => exact (fun _ _ => trivial)); (case aO => exact (kr_ HO_6.out)); (case aS => exact (below_size (lb0_ HB.out))); (case aL => have := LMc19.out; omega); intro v225 w20 ho hb hg hat; rw [← Ny224.out] at ho; replace HB := Aside0.mk (hb); have HO226 := Aside0.mk (ho); clear HO_6; clear ho hb hg hat)); try go_wp2_with (first | ((with_reducible refine gate_builtin (b := .append) (xs := #[.tmp 42, .tmp 48]) rfl ?_); at_builtin; refine Kd.R_append (Kd.int .i64) (w0 := w) w.heap.size rfl (.tmp 42) (.tmp 48) 36 3 (.int .i64 0) 8 rfl Try.underlying36 info3 rfl (by decide) (by omega) u6 x6_3 ((rd_T30 l1 x7_2).f0) [.int .i64 ((rd_T30 l1 x7_2).f0)] (fun _ => True) (fun _ => False) rfl rfl ?aP (fun _ hk => hk.elim) ?aF ?aO ?aB ?aS ?aL ?_; (case aP => exact rfl); (case aB => exact (lb0_ HB.out)); (case aF => exact (fun _ _ => trivial)); (case aO => exact (kr_ HO_6.out)); (case aS => exact (below_size (lb0_ HB.out))); (case aL => have := LMc19.out; omega); intro v225 w20 ho hb hg hat; rw [← Ny224.out] at ho; replace HB := Aside0.mk (hb); have HO226 := Aside0.mk (ho); clear HO_6; clear ho hb hg hat)))
               go_roundg k3
               case measure => have := HJ2.out; have := HK2.out; have := HK3.out; omega
               case rel => exact ⟨(y224), (wrap64 (x7_2 + 1)), (by first | rfl | (simp; done) | (simp [*]; done)), H', ⟨by have := HJ2.out; have := HK2.out; have := HK3.out; omega⟩, ⟨kr_ HO226.out⟩, ⟨lb0_ HB.out⟩⟩
              ·
               rw [if_neg c19] at H
               exact absurd H (by simp)
             ·
              rw [if_neg c18] at H
              have c18b0 : decide (((rd_T30 l1 x7_2).f1) < ((rd_T54 l0 x8_3).f1)) = false := decide_eq_false c18; clear c18; have H' := Aside0.mk H; clear H; have p221 : 0 ≤ (x8_3 : Int) := dt_; have q221 : x8_3 < (l0.length : Int) := dt_; obtain ⟨ad221, e221, hx221_0, hx221_1⟩ := at_T54 HR0.out x8_3 p221 q221
              cases e221
              replace hx221_0 := bc_ HB.out hx221_0; replace hx221_1 := bc_ HB.out hx221_1; replace p221 := eq_true p221; replace q221 := eq_true q221; have p222 : 0 ≤ (x7_2 : Int) := dt_; have q222 : x7_2 < (l1.length : Int) := dt_; obtain ⟨ad222, e222, hx222_0, hx222_1, hx222_2⟩ := at_T30 HR1.out x7_2 p222 q222
              cases e222
              replace hx222_0 := bc_ HB.out hx222_0; replace hx222_1 := bc_ HB.out hx222_1; replace hx222_2 := bc_ HB.out hx222_2; replace p222 := eq_true p222; replace q222 := eq_true q222
              go_wp2
              repeat (go_quiet (fail); try go_wp2)
              go_roundg k3
              case measure => have := HJ2.out; have := HK2.out; have := HK3.out; omega
              case rel => exact ⟨(x6_3), (wrap64 (x8_3 + 1)), (by first | rfl | (simp; done) | (simp [*]; done)), H', ⟨by have := HJ2.out; have := HK2.out; have := HK3.out; omega⟩, ⟨kr_ HO_6.out⟩, ⟨lb0_ HB.out⟩⟩
            ·
             rw [if_neg c17] at H
             exact absurd H (by simp)
           ·
            rw [if_neg c16] at H
            exact absurd H (by simp)
          ·
           rw [if_neg c15] at H
           exact absurd H (by simp)
         ·
          rw [if_neg c14] at H
          have c14b0 : decide (x8_3 < (l0.length : Int)) = false := decide_eq_false c14; clear c14; have H' := Aside0.mk H; clear H
          go_wp2
          repeat (go_quiet (fail); try go_wp2)
          go_roundg k3
          case measure => have := HJ2.out; have := HK2.out; have := HK3.out; omega
          case rel => exact ⟨(x6_3), (wrap64 (x7_2 + 1)), (by first | rfl | (simp; done) | (simp [*]; done)), H', ⟨by have := HJ2.out; have := HK2.out; have := HK3.out; omega⟩, ⟨kr_ HO_6.out⟩, ⟨lb0_ HB.out⟩⟩
      ·
       rw [if_neg c13] at H
       have c13b0 : decide (x7_2 < (l1.length : Int)) = false := decide_eq_false c13
       clear c13
       simp only [Option.some.injEq, Prod.mk.injEq] at H
       obtain ⟨rfl, rfl⟩ := H
       go_wp2
       repeat (go_quiet (fail); try go_wp2)
       go_ret2
       exact ⟨_, rr_, kr_ HO_6.out, lb0_ HB.out⟩
def impl_AreSumps.l0 : Nat → List (S30) → List (S30) → Int → Int → Option (Bool)
 | 0, _, _, _, _ => none
 | k + 1, x0, x5, x6, x7 => if x7 < x6 then (if 0 ≤ x7 then (if x7 < (x5.length : Int) then ((impl_isSump.f ((rd_T30 x5 x7).f0) ((rd_T30 x5 x7).f1) ((rd_T30 x5 x7).f2)).bind fun t237 => (if t237 = true then (if x7 > 0 then (if 0 ≤ (wrap64 (x7 - 1)) then (if (wrap64 (x7 - 1)) < (x0.length : Int) then (if ((rd_T30 x0 (wrap64 (x7 - 1))).f0) ≥ ((rd_T30 x5 x7).f0) then (some false) else (impl_AreSumps.l0 k x0 x5 x6 (wrap64 (x7 + 1)))) else (none)) else (none)) else (impl_AreSumps.l0 k x0 x5 x6 (wrap64 (x7 + 1)))) else (some false))) else (none)) else (none)) else (some true)
def impl_AreSumps.f (k : Nat) (l0 : List (S30)) : Option (Bool) := impl_AreSumps.l0 k l0 l0 (l0.length : Int) 0
def impl_AreSumps.T4 : Bool × List (List Nat × List Nat) := (true, [([], []), ([0], [0]), ([1], [1]), ([2, 1], [2]), ([3], [3]), ([4, 3], [3, 4]), ([5, 3, 3], [3, 5]), ([6], [6]), ([6], [6]), ([8, 6], [6, 8]), ([7, 9, 6], [6, 7, 9]), ([10, 6], [6, 10]), ([11, 6], [6, 11]), ([6], [6]), ([13, 6], [6, 13]), ([12, 14, 6], [6, 12, 14]), ([6, 15, 3], [3, 6, 15]), ([3, 16], [3, 16])])
def impl_AreSumps.B4 : List Nat := [0, 1, 3, 7, 15, 31, 63, 127, 127, 383, 1023, 2047, 4095, 127, 8319, 32767, 65535, 131071]
theorem impl_AreSumps.tab4 : rtab .any (opsOf Try.f50 4) = impl_AreSumps.T4 := by kernel_rfl
theorem impl_AreSumps.bits4 : waitsOk impl_AreSumps.T4.2 impl_AreSumps.B4 = true := by kernel_rfl
abbrev impl_AreSumps.mk0 : Array Bool := #[fF,fF,fF,fF,fF,fF,fF,fF,fF,fF,fF,fF,fF,fF,fF,fF,fF,fF]
abbrev impl_AreSumps.mk1 : Array Bool := #[tT,fF,fF,fF,fF,fF,fF,fF,fF,fF,fF,fF,fF,fF,fF,fF,fF,fF]
abbrev impl_AreSumps.mk2 : Array Bool := #[tT,tT,fF,fF,fF,fF,fF,fF,fF,fF,fF,fF,fF,fF,fF,fF,fF,fF]
abbrev impl_AreSumps.mk3 : Array Bool := #[tT,tT,tT,fF,fF,fF,fF,fF,fF,fF,fF,fF,fF,fF,fF,fF,fF,fF]
abbrev impl_AreSumps.mk4 : Array Bool := #[tT,tT,tT,tT,fF,fF,fF,fF,fF,fF,fF,fF,fF,fF,fF,fF,fF,fF]
abbrev impl_AreSumps.mk5 : Array Bool := #[tT,tT,tT,tT,tT,fF,fF,fF,fF,fF,fF,fF,fF,fF,fF,fF,fF,fF]
abbrev impl_AreSumps.mk6 : Array Bool := #[tT,tT,tT,tT,tT,tT,fF,fF,fF,fF,fF,fF,fF,fF,fF,fF,fF,fF]
abbrev impl_AreSumps.mk7 : Array Bool := #[tT,tT,tT,tT,tT,tT,tT,fF,fF,fF,fF,fF,fF,fF,fF,fF,fF,fF]
abbrev impl_AreSumps.mk8 : Array Bool := #[tT,tT,tT,tT,tT,tT,tT,tT,fF,fF,fF,fF,fF,fF,fF,fF,fF,fF]
abbrev impl_AreSumps.mk9 : Array Bool := #[tT,tT,tT,tT,tT,tT,tT,tT,tT,fF,fF,fF,fF,fF,fF,fF,fF,fF]
abbrev impl_AreSumps.mk10 : Array Bool := #[tT,tT,tT,tT,tT,tT,tT,tT,tT,tT,fF,fF,fF,fF,fF,fF,fF,fF]
abbrev impl_AreSumps.mk11 : Array Bool := #[tT,tT,tT,tT,tT,tT,tT,tT,tT,tT,tT,fF,fF,fF,fF,fF,fF,fF]
abbrev impl_AreSumps.mk12 : Array Bool := #[tT,tT,tT,tT,tT,tT,tT,tT,tT,tT,tT,tT,fF,fF,fF,fF,fF,fF]
abbrev impl_AreSumps.mk13 : Array Bool := #[tT,tT,tT,tT,tT,tT,tT,tT,tT,tT,tT,tT,fF,tT,fF,fF,fF,fF]
abbrev impl_AreSumps.mk14 : Array Bool := #[tT,tT,tT,tT,tT,tT,tT,tT,tT,tT,tT,tT,tT,tT,fF,fF,fF,fF]
abbrev impl_AreSumps.mk15 : Array Bool := #[tT,tT,tT,tT,tT,tT,tT,tT,tT,tT,tT,tT,tT,tT,tT,fF,fF,fF]
abbrev impl_AreSumps.mk16 : Array Bool := #[tT,tT,tT,tT,tT,tT,tT,tT,tT,tT,tT,tT,tT,tT,tT,tT,fF,fF]
abbrev impl_AreSumps.mk17 : Array Bool := #[tT,tT,tT,tT,tT,tT,tT,tT,tT,tT,tT,tT,tT,tT,tT,tT,tT,fF]
abbrev impl_AreSumps.mk18 : Array Bool := #[tT,tT,tT,tT,tT,tT,tT,tT,tT,tT,tT,tT,tT,tT,tT,tT,tT,tT]
abbrev impl_AreSumps.mk19 : Array Bool := #[tT,tT,tT,tT,tT,tT,tT,tT,tT,tT,tT,tT,tT,fF,fF,fF,fF,fF]
set_option maxHeartbeats 8000000 in
set_option maxRecDepth 100000 in
theorem impl_AreSumps.calls (k : Nat) (A0 : Option Addr) (c0 : Nat) (l0 : List (S30)) (r : Bool) (w : World) (hr0 : Kd.C k30 w A0 l0.length l0) (hc0 : l0.length ≤ c0) (h : impl_AreSumps.f k l0 = some r) :
  Calls Try.prog 50 #[.slice A0 l0.length c0] w fun e w' => e = .returned (.bool r) ∧ Below w.heap.size w w' := by
 have hu30 := Try.underlying30
 have HR0 := Aside0.mk hr0
 have HC0 := Aside0.mk hc0
 clear hr0 hc0
 have HB := Aside0.mk (Below.refl w.heap.size w)
 have H : (impl_AreSumps.l0 k l0 l0 (l0.length : Int) 0) = some r := h
 clear h
 have H' := Aside0.mk H
 clear H
 go_enter Try.func50, Try.ntmps50
 go_wp2
 go_loopg [7] k (fun kq v7 w' => ∃ (x7_1 : Int), v7 = .int .i64 x7_1 ∧ Aside0 (impl_AreSumps.l0 kq l0 l0 (l0.length : Int) x7_1 = some r) ∧ Aside0 (kq ≤ k) ∧ Aside0 (Below w.heap.size w w'))
 case atStart => exact ⟨(0), (by first | rfl | (simp; done) | (simp [*]; done)), H', ⟨Nat.le_refl _⟩, ⟨lb0_ HB.out⟩⟩
 case round =>
  clear H'
  obtain ⟨x7_1, rfl, HA, HK1, HB⟩ := hrel
  cases gk with
  | zero => exact absurd HA.out (by simp [impl_AreSumps.l0])
  | succ k1 =>
   have H := HA.out
   clear HA
   simp only [impl_AreSumps.l0] at H
   by_cases c2 : x7_1 < (l0.length : Int)
   ·
    rw [if_pos c2] at H
    have c2b0 : decide (x7_1 < (l0.length : Int)) = true := decide_eq_true c2
    clear c2
    by_cases c3 : 0 ≤ x7_1
    ·
     rw [if_pos c3] at H
     have c3b0 : decide (0 ≤ x7_1) = true := decide_eq_true c3
     clear c3
     by_cases c4 : x7_1 < (l0.length : Int)
     ·
      rw [if_pos c4] at H
      have c4b0 : decide (x7_1 < (l0.length : Int)) = true := decide_eq_true c4
      clear c4
      replace H := Option.bind_eq_some_iff.mp H
      obtain ⟨t237, A50, H⟩ := H
      replace H : (if t237 = true then (if x7_1 > 0 then (if 0 ≤ (wrap64 (x7_1 - 1)) then (if (wrap64 (x7_1 - 1)) < (l0.length : Int) then (if ((rd_T30 l0 (wrap64 (x7_1 - 1))).f0) ≥ ((rd_T30 l0 x7_1).f0) then (some false) else (impl_AreSumps.l0 k1 l0 l0 (l0.length : Int) (wrap64 (x7_1 + 1)))) else (none)) else (none)) else (impl_AreSumps.l0 k1 l0 l0 (l0.length : Int) (wrap64 (x7_1 + 1)))) else (some false)) = some r := H
      have A5 := Aside0.mk A50
      clear A50
      by_cases c6 : t237 = true
      ·
       subst c6
       have H1 : (if x7_1 > 0 then (if 0 ≤ (wrap64 (x7_1 - 1)) then (if (wrap64 (x7_1 - 1)) < (l0.length : Int) then (if ((rd_T30 l0 (wrap64 (x7_1 - 1))).f0) ≥ ((rd_T30 l0 x7_1).f0) then (some false) else (impl_AreSumps.l0 k1 l0 l0 (l0.length : Int) (wrap64 (x7_1 + 1)))) else (none)) else (none)) else (impl_AreSumps.l0 k1 l0 l0 (l0.length : Int) (wrap64 (x7_1 + 1)))) = some r := by rw [if_pos rfl] at H; exact H
       clear H
       have H := H1
       clear H1
       by_cases c7 : x7_1 > 0
       ·
        rw [if_pos c7] at H
        have c7b0 : decide (0 < x7_1) = true := decide_eq_true c7; clear c7
        obtain ⟨ji8, hji8⟩ : ∃ j_ : Int, (wrap64 (x7_1 - 1)) = j_ := ⟨_, rfl⟩
        replace H : (if 0 ≤ (ji8) then (if (ji8) < (l0.length : Int) then (if ((rd_T30 l0 (ji8)).f0) ≥ ((rd_T30 l0 x7_1).f0) then (some false) else (impl_AreSumps.l0 k1 l0 l0 (l0.length : Int) (wrap64 (x7_1 + 1)))) else (none)) else (none)) = some r := by first | (rw [hji8] at H; exact H) | (simp only [hji8] at H ⊢; exact H)
        (try rw [hji8] at A5); have hji8w : (IntKind.i64.wrap (x7_1 - 1)) = ji8 := (i64_w _).trans hji8
        by_cases c9 : 0 ≤ (ji8)
        ·
         rw [if_pos c9] at H
         have c9b0 : decide (0 ≤ (ji8)) = true := decide_eq_true c9; clear c9
         by_cases c10 : (ji8) < (l0.length : Int)
         ·
          rw [if_pos c10] at H
          have c10b0 : decide ((ji8) < (l0.length : Int)) = true := decide_eq_true c10; clear c10
          by_cases c11 : ((rd_T30 l0 (ji8)).f0) ≥ ((rd_T30 l0 x7_1).f0)
          ·
           rw [if_pos c11] at H
           have c11b0 : decide (((rd_T30 l0 x7_1).f0) ≤ ((rd_T30 l0 (ji8)).f0)) = true := decide_eq_true c11; clear c11; obtain rfl := Option.some.inj H; have p235 : 0 ≤ (x7_1 : Int) := dt_; have q235 : x7_1 < (l0.length : Int) := dt_; obtain ⟨ad235, e235, hx235_0, hx235_1, hx235_2⟩ := at_T30 HR0.out x7_1 p235 q235
           cases e235
           replace hx235_0 := bc_ HB.out hx235_0; replace hx235_1 := bc_ HB.out hx235_1; replace hx235_2 := bc_ HB.out hx235_2; replace p235 := eq_true p235; replace q235 := eq_true q235
           try go_wp2_with (first | ((with_reducible refine gate_dst (N := 4) rfl ?_); refine box_event ?hg (N := 4) ?hd (cs := #[.int .i64 0, .int .i64 0, .int .i64 0]) (t := 30) ?hr ?_; (case hd => rfl); (case hg => rfl); (case hr => first | (go_simp; done) | (go_simp; rfl)); intro gb236 hg w12 hbox hb; have BK236 := Aside0.mk (hbox); have GW236 := Aside0.mk ((bz_ hg (lb0_ HB.out))); have GE236 := Aside0.mk ((bz_ hg (lb0_ HB.out))); replace HB := Aside0.mk (below_step (lb0_ HB.out) hb); clear hb hbox hg; obtain ⟨hcz13_0, hcz13_1, hcz13_2⟩ := cz3_ BK236.out; obtain ⟨hfz13_0, hfz13_1, hfz13_2⟩ := fz3_ BK236.out))
           have n0_ : Aside0 ((((w12.setCell ⟨gb236, 0, none⟩ (.int .i64 ((rd_T30 l0 x7_1).f0))).setCell ⟨gb236, 1, none⟩ (.int .i64 ((rd_T30 l0 x7_1).f1))).setCell ⟨gb236, 2, none⟩ (.int .i64 ((rd_T30 l0 x7_1).f2))).heap[gb236]? = some (.cells #[.int .i64 ((rd_T30 l0 x7_1).f0), .int .i64 ((rd_T30 l0 x7_1).f1), .int .i64 ((rd_T30 l0 x7_1).f2)] 30 (0, 0))) := ⟨by exact (p3_ BK236.out _ _ _)⟩
           have n1_ : Aside0 (Below w.heap.size w (((w12.setCell ⟨gb236, 0, none⟩ (.int .i64 ((rd_T30 l0 x7_1).f0))).setCell ⟨gb236, 1, none⟩ (.int .i64 ((rd_T30 l0 x7_1).f1))).setCell ⟨gb236, 2, none⟩ (.int .i64 ((rd_T30 l0 x7_1).f2)))) := ⟨lb1_ HB.out GE236.out⟩
           (try clear BK236); (try clear HB); generalize (((w12.setCell ⟨gb236, 0, none⟩ (.int .i64 ((rd_T30 l0 x7_1).f0))).setCell ⟨gb236, 1, none⟩ (.int .i64 ((rd_T30 l0 x7_1).f1))).setCell ⟨gb236, 2, none⟩ (.int .i64 ((rd_T30 l0 x7_1).f2))) = w14 at n0_ n1_ ⊢; have BK236 := n0_; have HB := n1_; clear n0_ n1_; replace BK236 := Aside0.mk (blk_drew BK236.out); replace HB := Aside0.mk (below_drew1 HB.out); have p238 : 0 ≤ ((ji8) : Int) := dt_; have q238 : (ji8) < (l0.length : Int) := dt_; obtain ⟨ad238, e238, hx238_0, hx238_1, hx238_2⟩ := at_T30 HR0.out (ji8) p238 q238; have hw238_2 := hx238_2; have hw238_1 := hx238_1; have hw238_0 := hx238_0
           obtain rfl : ad235 = ad238 := (by injection e238)
           replace hx238_0 := bc_ HB.out hx238_0; replace hx238_1 := bc_ HB.out hx238_1; replace hx238_2 := bc_ HB.out hx238_2; replace p238 := eq_true p238; replace q238 := eq_true q238; refine start_ (n := 18) (S := fun w' => w'.cell? ⟨gb236, 0, none⟩ = some (.int .i64 ((rd_T30 l0 x7_1).f0)) ∧ w'.cell? ⟨gb236, 1, none⟩ = some (.int .i64 ((rd_T30 l0 x7_1).f1)) ∧ w'.cell? ⟨gb236, 2, none⟩ = some (.int .i64 ((rd_T30 l0 x7_1).f2)) ∧ w'.cell? (ad235.add (((ji8)).toNat * 3)) = some (.int .i64 ((rd_T30 l0 (ji8)).f0)) ∧ w'.cell? ⟨(ad235.add (((ji8)).toNat * 3)).block, (ad235.add (((ji8)).toNat * 3)).off + 1, none⟩ = some (.int .i64 ((rd_T30 l0 (ji8)).f1)) ∧ w'.cell? ⟨(ad235.add (((ji8)).toNat * 3)).block, (ad235.add (((ji8)).toNat * 3)).off + 2, none⟩ = some (.int .i64 ((rd_T30 l0 (ji8)).f2))) (ds := []) impl_AreSumps.mk0 (by kernel_rfl) rfl rfl ⟨(blk_cell BK236.out 0).trans rfl, (blk_cell BK236.out 1).trans rfl, (blk_cell BK236.out 2).trans rfl, (bc_ HB.out hw238_0), (bc_ HB.out hw238_1), (bc_ HB.out hw238_2)⟩ (fun hHeld => ?_); refine with_tabW impl_AreSumps.tab4 impl_AreSumps.bits4 (fun HT_ HW_ => ?_); generalize w14.drew = w15 at BK236 HB hx238_0 hx238_1 hx238_2 hHeld ⊢; refine tk_ HT_ HW_ hHeld 0 (some 12) impl_AreSumps.mk1 ?_; refine one_ (i := 1) (N := some 13) impl_AreSumps.mk2 rfl rfl (one_of HT_.out (by kernel_rfl)) (by decide) (fun K hK => ?_); refine gs_ Try.func59 #[.agg #[.int .i64 ((rd_T30 l0 x7_1).f0), .int .i64 ((rd_T30 l0 x7_1).f1), .int .i64 ((rd_T30 l0 x7_1).f2)]] ?_; (with_reducible refine (impl_isSump.calls ((rd_T30 l0 x7_1).f0) ((rd_T30 l0 x7_1).f1) ((rd_T30 l0 x7_1).f2) true _ A5.out).mono ?_); rintro e w16 ⟨rfl, hb⟩; refine ⟨_, rfl, ?_⟩; replace BK236 := Aside0.mk (bb_ (bk_ BK236.out) hb); replace HB := Aside0.mk (below_step (lb1_ HB.out GE236.out) hb); (try clear hb); (try clear hb2); (try clear hk); (try clear hi); refine hK.out _ _ ⟨(blk_cell BK236.out 0).trans rfl, (blk_cell BK236.out 1).trans rfl, (blk_cell BK236.out 2).trans rfl, ((HB.out.cell (World.block_lt_of_cell? w _ hw238_0)).trans hw238_0), ((HB.out.cell (World.block_lt_of_cell? w _ hw238_1)).trans hw238_1), ((HB.out.cell (World.block_lt_of_cell? w _ hw238_2)).trans hw238_2)⟩ (fun hHeld => ?_); clear hK K; refine na_ ?_; refine pz_ HT_ 2 (some 14) impl_AreSumps.mk3 ?_; refine pz_ HT_ 3 (some 15) impl_AreSumps.mk4 ?_; refine pz_ HT_ 4 (some 16) impl_AreSumps.mk5 ?_; refine pz_ HT_ 5 (some 17) impl_AreSumps.mk6 ?_; refine pz_ HT_ 6 (some 18) impl_AreSumps.mk7 ?_; refine pz_ HT_ 7 (some 19) impl_AreSumps.mk8 ?_; refine pz_ HT_ 8 (some 20) impl_AreSumps.mk9 ?_; refine pz_ HT_ 9 (some 21) impl_AreSumps.mk10 ?_; refine pz_ HT_ 10 (some 22) impl_AreSumps.mk11 ?_; refine pz_ HT_ 11 (some 23) impl_AreSumps.mk12 ?_; refine pz_ HT_ 13 (some 25) impl_AreSumps.mk13 ?_; refine tk_ HT_ HW_ hHeld 12 (some 24) impl_AreSumps.mk14 ?_; refine tk_ HT_ HW_ hHeld 14 (some 26) impl_AreSumps.mk15 ?_; refine pz_ HT_ 15 (some 27) impl_AreSumps.mk16 ?_; refine pz_ HT_ 16 (some 28) impl_AreSumps.mk17 ?_; refine pz_ HT_ 17 (some 29) impl_AreSumps.mk18 ?_; refine done_ (done_of HT_.out (by kernel_rfl)) ?_
           try go_wp2
           go_ret
           exact ⟨by first | rfl | (simp [errW_none, errW_some] <;> rfl) | (simp only [← hji8]; first | rfl | (simp [errW_none, errW_some] <;> rfl)) | (simp [*, errW_none, errW_some] <;> rfl), lb1_ HB.out GE236.out⟩
          ·
           rw [if_neg c11] at H
           have c11b0 : decide (((rd_T30 l0 x7_1).f0) ≤ ((rd_T30 l0 (ji8)).f0)) = false := decide_eq_false c11; clear c11; have H' := Aside0.mk H; clear H; have p235 : 0 ≤ (x7_1 : Int) := dt_; have q235 : x7_1 < (l0.length : Int) := dt_; obtain ⟨ad235, e235, hx235_0, hx235_1, hx235_2⟩ := at_T30 HR0.out x7_1 p235 q235
           cases e235
           replace hx235_0 := bc_ HB.out hx235_0; replace hx235_1 := bc_ HB.out hx235_1; replace hx235_2 := bc_ HB.out hx235_2; replace p235 := eq_true p235; replace q235 := eq_true q235
           try go_wp2_with (first | ((with_reducible refine gate_dst (N := 4) rfl ?_); refine box_event ?hg (N := 4) ?hd (cs := #[.int .i64 0, .int .i64 0, .int .i64 0]) (t := 30) ?hr ?_; (case hd => rfl); (case hg => rfl); (case hr => first | (go_simp; done) | (go_simp; rfl)); intro gb236 hg w17 hbox hb; have BK236 := Aside0.mk (hbox); have GW236 := Aside0.mk ((bz_ hg (lb0_ HB.out))); have GE236 := Aside0.mk ((bz_ hg (lb0_ HB.out))); replace HB := Aside0.mk (below_step (lb0_ HB.out) hb); clear hb hbox hg; obtain ⟨hcz18_0, hcz18_1, hcz18_2⟩ := cz3_ BK236.out; obtain ⟨hfz18_0, hfz18_1, hfz18_2⟩ := fz3_ BK236.out))
           have n0_ : Aside0 ((((w17.setCell ⟨gb236, 0, none⟩ (.int .i64 ((rd_T30 l0 x7_1).f0))).setCell ⟨gb236, 1, none⟩ (.int .i64 ((rd_T30 l0 x7_1).f1))).setCell ⟨gb236, 2, none⟩ (.int .i64 ((rd_T30 l0 x7_1).f2))).heap[gb236]? = some (.cells #[.int .i64 ((rd_T30 l0 x7_1).f0), .int .i64 ((rd_T30 l0 x7_1).f1), .int .i64 ((rd_T30 l0 x7_1).f2)] 30 (0, 0))) := ⟨by exact (p3_ BK236.out _ _ _)⟩
           have n1_ : Aside0 (Below w.heap.size w (((w17.setCell ⟨gb236, 0, none⟩ (.int .i64 ((rd_T30 l0 x7_1).f0))).setCell ⟨gb236, 1, none⟩ (.int .i64 ((rd_T30 l0 x7_1).f1))).setCell ⟨gb236, 2, none⟩ (.int .i64 ((rd_T30 l0 x7_1).f2)))) := ⟨lb1_ HB.out GE236.out⟩
           (try clear BK236); (try clear HB); generalize (((w17.setCell ⟨gb236, 0, none⟩ (.int .i64 ((rd_T30 l0 x7_1).f0))).setCell ⟨gb236, 1, none⟩ (.int .i64 ((rd_T30 l0 x7_1).f1))).setCell ⟨gb236, 2, none⟩ (.int .i64 ((rd_T30 l0 x7_1).f2))) = w19 at n0_ n1_ ⊢; have BK236 := n0_; have HB := n1_; clear n0_ n1_; replace BK236 := Aside0.mk (blk_drew BK236.out); replace HB := Aside0.mk (below_drew1 HB.out); have p238 : 0 ≤ ((ji8) : Int) := dt_; have q238 : (ji8) < (l0.length : Int) := dt_; obtain ⟨ad238, e238, hx238_0, hx238_1, hx238_2⟩ := at_T30 HR0.out (ji8) p238 q238; have hw238_2 := hx238_2; have hw238_1 := hx238_1; have hw238_0 := hx238_0
           obtain rfl : ad235 = ad238 := (by injection e238)
           replace hx238_0 := bc_ HB.out hx238_0; replace hx238_1 := bc_ HB.out hx238_1; replace hx238_2 := bc_ HB.out hx238_2; replace p238 := eq_true p238; replace q238 := eq_true q238; refine start_ (n := 18) (S := fun w' => w'.cell? ⟨gb236, 0, none⟩ = some (.int .i64 ((rd_T30 l0 x7_1).f0)) ∧ w'.cell? ⟨gb236, 1, none⟩ = some (.int .i64 ((rd_T30 l0 x7_1).f1)) ∧ w'.cell? ⟨gb236, 2, none⟩ = some (.int .i64 ((rd_T30 l0 x7_1).f2)) ∧ w'.cell? (ad235.add (((ji8)).toNat * 3)) = some (.int .i64 ((rd_T30 l0 (ji8)).f0)) ∧ w'.cell? ⟨(ad235.add (((ji8)).toNat * 3)).block, (ad235.add (((ji8)).toNat * 3)).off + 1, none⟩ = some (.int .i64 ((rd_T30 l0 (ji8)).f1)) ∧ w'.cell? ⟨(ad235.add (((ji8)).toNat * 3)).block, (ad235.add (((ji8)).toNat * 3)).off + 2, none⟩ = some (.int .i64 ((rd_T30 l0 (ji8)).f2))) (ds := []) impl_AreSumps.mk0 (by kernel_rfl) rfl rfl ⟨(blk_cell BK236.out 0).trans rfl, (blk_cell BK236.out 1).trans rfl, (blk_cell BK236.out 2).trans rfl, (bc_ HB.out hw238_0), (bc_ HB.out hw238_1), (bc_ HB.out hw238_2)⟩ (fun hHeld => ?_); refine with_tabW impl_AreSumps.tab4 impl_AreSumps.bits4 (fun HT_ HW_ => ?_); generalize w19.drew = w20 at BK236 HB hx238_0 hx238_1 hx238_2 hHeld ⊢; refine tk_ HT_ HW_ hHeld 0 (some 12) impl_AreSumps.mk1 ?_; refine one_ (i := 1) (N := some 13) impl_AreSumps.mk2 rfl rfl (one_of HT_.out (by kernel_rfl)) (by decide) (fun K hK => ?_); refine gs_ Try.func59 #[.agg #[.int .i64 ((rd_T30 l0 x7_1).f0), .int .i64 ((rd_T30 l0 x7_1).f1), .int .i64 ((rd_T30 l0 x7_1).f2)]] ?_; (with_reducible refine (impl_isSump.calls ((rd_T30 l0 x7_1).f0) ((rd_T30 l0 x7_1).f1) ((rd_T30 l0 x7_1).f2) true _ A5.out).mono ?_); rintro e w21 ⟨rfl, hb⟩; refine ⟨_, rfl, ?_⟩; replace BK236 := Aside0.mk (bb_ (bk_ BK236.out) hb); replace HB := Aside0.mk (below_step (lb1_ HB.out GE236.out) hb); (try clear hb); (try clear hb2); (try clear hk); (try clear hi); refine hK.out _ _ ⟨(blk_cell BK236.out 0).trans rfl, (blk_cell BK236.out 1).trans rfl, (blk_cell BK236.out 2).trans rfl, ((HB.out.cell (World.block_lt_of_cell? w _ hw238_0)).trans hw238_0), ((HB.out.cell (World.block_lt_of_cell? w _ hw238_1)).trans hw238_1), ((HB.out.cell (World.block_lt_of_cell? w _ hw238_2)).trans hw238_2)⟩ (fun hHeld => ?_); clear hK K; refine na_ ?_; refine pz_ HT_ 2 (some 14) impl_AreSumps.mk3 ?_; refine pz_ HT_ 3 (some 15) impl_AreSumps.mk4 ?_; refine pz_ HT_ 4 (some 16) impl_AreSumps.mk5 ?_; refine pz_ HT_ 5 (some 17) impl_AreSumps.mk6 ?_; refine pz_ HT_ 6 (some 18) impl_AreSumps.mk7 ?_; refine pz_ HT_ 7 (some 19) impl_AreSumps.mk8 ?_; refine pz_ HT_ 8 (some 20) impl_AreSumps.mk9 ?_; refine pz_ HT_ 9 (some 21) impl_AreSumps.mk10 ?_; refine pz_ HT_ 10 (some 22) impl_AreSumps.mk11 ?_; refine pz_ HT_ 11 (some 23) impl_AreSumps.mk12 ?_; refine pz_ HT_ 13 (some 25) impl_AreSumps.mk13 ?_; refine tk_ HT_ HW_ hHeld 12 (some 24) impl_AreSumps.mk14 ?_; refine tk_ HT_ HW_ hHeld 14 (some 26) impl_AreSumps.mk15 ?_; refine pz_ HT_ 15 (some 27) impl_AreSumps.mk16 ?_; refine pz_ HT_ 16 (some 28) impl_AreSumps.mk17 ?_; refine pz_ HT_ 17 (some 29) impl_AreSumps.mk18 ?_; refine done_ (done_of HT_.out (by kernel_rfl)) ?_
           try go_wp2
           go_roundg k1
           case measure => have := HK1.out; omega
           case rel => exact ⟨(wrap64 (x7_1 + 1)), (by first | rfl | (simp; done) | (simp [*]; done)), H', ⟨by have := HK1.out; omega⟩, ⟨lb1_ HB.out GE236.out⟩⟩
         ·
          rw [if_neg c10] at H
          exact absurd H (by simp)
        ·
         rw [if_neg c9] at H
         exact absurd H (by simp)
       ·
        rw [if_neg c7] at H
        have c7b0 : decide (0 < x7_1) = false := decide_eq_false c7; clear c7; have H' := Aside0.mk H; clear H; have p235 : 0 ≤ (x7_1 : Int) := dt_; have q235 : x7_1 < (l0.length : Int) := dt_; obtain ⟨ad235, e235, hx235_0, hx235_1, hx235_2⟩ := at_T30 HR0.out x7_1 p235 q235
        cases e235
        replace hx235_0 := bc_ HB.out hx235_0; replace hx235_1 := bc_ HB.out hx235_1; replace hx235_2 := bc_ HB.out hx235_2; replace p235 := eq_true p235; replace q235 := eq_true q235
        try go_wp2_with (first | ((with_reducible refine gate_dst (N := 4) rfl ?_); refine box_event ?hg (N := 4) ?hd (cs := #[.int .i64 0, .int .i64 0, .int .i64 0]) (t := 30) ?hr ?_; (case hd => rfl); (case hg => rfl); (case hr => first | (go_simp; done) | (go_simp; rfl)); intro gb236 hg w22 hbox hb; have BK236 := Aside0.mk (hbox); have GW236 := Aside0.mk ((bz_ hg (lb0_ HB.out))); have GE236 := Aside0.mk ((bz_ hg (lb0_ HB.out))); replace HB := Aside0.mk (below_step (lb0_ HB.out) hb); clear hb hbox hg; obtain ⟨hcz23_0, hcz23_1, hcz23_2⟩ := cz3_ BK236.out; obtain ⟨hfz23_0, hfz23_1, hfz23_2⟩ := fz3_ BK236.out))
        have n0_ : Aside0 ((((w22.setCell ⟨gb236, 0, none⟩ (.int .i64 ((rd_T30 l0 x7_1).f0))).setCell ⟨gb236, 1, none⟩ (.int .i64 ((rd_T30 l0 x7_1).f1))).setCell ⟨gb236, 2, none⟩ (.int .i64 ((rd_T30 l0 x7_1).f2))).heap[gb236]? = some (.cells #[.int .i64 ((rd_T30 l0 x7_1).f0), .int .i64 ((rd_T30 l0 x7_1).f1), .int .i64 ((rd_T30 l0 x7_1).f2)] 30 (0, 0))) := ⟨by exact (p3_ BK236.out _ _ _)⟩
        have n1_ : Aside0 (Below w.heap.size w (((w22.setCell ⟨gb236, 0, none⟩ (.int .i64 ((rd_T30 l0 x7_1).f0))).setCell ⟨gb236, 1, none⟩ (.int .i64 ((rd_T30 l0 x7_1).f1))).setCell ⟨gb236, 2, none⟩ (.int .i64 ((rd_T30 l0 x7_1).f2)))) := ⟨lb1_ HB.out GE236.out⟩
        (try clear BK236); (try clear HB); generalize (((w22.setCell ⟨gb236, 0, none⟩ (.int .i64 ((rd_T30 l0 x7_1).f0))).setCell ⟨gb236, 1, none⟩ (.int .i64 ((rd_T30 l0 x7_1).f1))).setCell ⟨gb236, 2, none⟩ (.int .i64 ((rd_T30 l0 x7_1).f2))) = w24 at n0_ n1_ ⊢; have BK236 := n0_; have HB := n1_; clear n0_ n1_; replace BK236 := Aside0.mk (blk_drew BK236.out); replace HB := Aside0.mk (below_drew1 HB.out); refine start_ (n := 18) (S := fun w' => w'.cell? ⟨gb236, 0, none⟩ = some (.int .i64 ((rd_T30 l0 x7_1).f0)) ∧ w'.cell? ⟨gb236, 1, none⟩ = some (.int .i64 ((rd_T30 l0 x7_1).f1)) ∧ w'.cell? ⟨gb236, 2, none⟩ = some (.int .i64 ((rd_T30 l0 x7_1).f2))) (ds := []) impl_AreSumps.mk0 (by kernel_rfl) rfl rfl ⟨(blk_cell BK236.out 0).trans rfl, (blk_cell BK236.out 1).trans rfl, (blk_cell BK236.out 2).trans rfl⟩ (fun hHeld => ?_); refine with_tabW impl_AreSumps.tab4 impl_AreSumps.bits4 (fun HT_ HW_ => ?_); generalize w24.drew = w25 at BK236 HB hHeld ⊢; refine tk_ HT_ HW_ hHeld 0 (some 12) impl_AreSumps.mk1 ?_; refine one_ (i := 1) (N := some 13) impl_AreSumps.mk2 rfl rfl (one_of HT_.out (by kernel_rfl)) (by decide) (fun K hK => ?_); refine gs_ Try.func59 #[.agg #[.int .i64 ((rd_T30 l0 x7_1).f0), .int .i64 ((rd_T30 l0 x7_1).f1), .int .i64 ((rd_T30 l0 x7_1).f2)]] ?_; (with_reducible refine (impl_isSump.calls ((rd_T30 l0 x7_1).f0) ((rd_T30 l0 x7_1).f1) ((rd_T30 l0 x7_1).f2) true _ A5.out).mono ?_); rintro e w26 ⟨rfl, hb⟩; refine ⟨_, rfl, ?_⟩; replace BK236 := Aside0.mk (bb_ (bk_ BK236.out) hb); replace HB := Aside0.mk (below_step (lb1_ HB.out GE236.out) hb); (try clear hb); (try clear hb2); (try clear hk); (try clear hi); refine hK.out _ _ ⟨(blk_cell BK236.out 0).trans rfl, (blk_cell BK236.out 1).trans rfl, (blk_cell BK236.out 2).trans rfl⟩ (fun hHeld => ?_); clear hK K; refine na_ ?_; refine pz_ HT_ 2 (some 14) impl_AreSumps.mk3 ?_; refine pz_ HT_ 3 (some 15) impl_AreSumps.mk4 ?_; refine pz_ HT_ 4 (some 16) impl_AreSumps.mk5 ?_; refine pz_ HT_ 5 (some 17) impl_AreSumps.mk6 ?_; refine pz_ HT_ 6 (some 18) impl_AreSumps.mk7 ?_; refine pu_ HT_ 7 (some 19) impl_AreSumps.mk8 ?_; refine pu_ HT_ 8 (some 20) impl_AreSumps.mk9 ?_; refine pu_ HT_ 9 (some 21) impl_AreSumps.mk10 ?_; refine pu_ HT_ 10 (some 22) impl_AreSumps.mk11 ?_; refine pu_ HT_ 11 (some 23) impl_AreSumps.mk12 ?_; refine pu_ HT_ 12 (some 24) impl_AreSumps.mk19 ?_; refine pu_ HT_ 13 (some 25) impl_AreSumps.mk14 ?_; refine pu_ HT_ 14 (some 26) impl_AreSumps.mk15 ?_; refine pu_ HT_ 15 (some 27) impl_AreSumps.mk16 ?_; refine pz_ HT_ 16 (some 28) impl_AreSumps.mk17 ?_; refine pz_ HT_ 17 (some 29) impl_AreSumps.mk18 ?_; refine done_ (done_of HT_.out (by kernel_rfl)) ?_
        try go_wp2
        go_roundg k1
        case measure => have := HK1.out; omega
        case rel => exact ⟨(wrap64 (x7_1 + 1)), (by first | rfl | (simp; done) | (simp [*]; done)), H', ⟨by have := HK1.out; omega⟩, ⟨lb1_ HB.out GE236.out⟩⟩
      ·
       replace c6 := Bool.eq_false_iff.mpr c6
       subst c6
       have H1 : (some false) = some r := by rw [if_neg (show ¬ (false = true) by decide)] at H; exact H
       clear H
       have H := H1
       clear H1
       obtain rfl := Option.some.inj H
       have p235 : 0 ≤ (x7_1 : Int) := dt_
       have q235 : x7_1 < (l0.length : Int) := dt_
       obtain ⟨ad235, e235, hx235_0, hx235_1, hx235_2⟩ := at_T30 HR0.out x7_1 p235 q235
       cases e235
       replace hx235_0 := bc_ HB.out hx235_0
       replace hx235_1 := bc_ HB.out hx235_1
       replace hx235_2 := bc_ HB.out hx235_2
       replace p235 := eq_true p235
       replace q235 := eq_true q235
       try go_wp2_with (first | ((with_reducible refine gate_dst (N := 4) rfl ?_); refine box_event ?hg (N := 4) ?hd (cs := #[.int .i64 0, .int .i64 0, .int .i64 0]) (t := 30) ?hr ?_; (case hd => rfl); (case hg => rfl); (case hr => first | (go_simp; done) | (go_simp; rfl)); intro gb236 hg w27 hbox hb; have BK236 := Aside0.mk (hbox); have GW236 := Aside0.mk ((bz_ hg (lb0_ HB.out))); have GE236 := Aside0.mk ((bz_ hg (lb0_ HB.out))); replace HB := Aside0.mk (below_step (lb0_ HB.out) hb); clear hb hbox hg; obtain ⟨hcz28_0, hcz28_1, hcz28_2⟩ := cz3_ BK236.out; obtain ⟨hfz28_0, hfz28_1, hfz28_2⟩ := fz3_ BK236.out))
       have n0_ : Aside0 ((((w27.setCell ⟨gb236, 0, none⟩ (.int .i64 ((rd_T30 l0 x7_1).f0))).setCell ⟨gb236, 1, none⟩ (.int .i64 ((rd_T30 l0 x7_1).f1))).setCell ⟨gb236, 2, none⟩ (.int .i64 ((rd_T30 l0 x7_1).f2))).heap[gb236]? = some (.cells #[.int .i64 ((rd_T30 l0 x7_1).f0), .int .i64 ((rd_T30 l0 x7_1).f1), .int .i64 ((rd_T30 l0 x7_1).f2)] 30 (0, 0))) := ⟨by exact (p3_ BK236.out _ _ _)⟩
       have n1_ : Aside0 (Below w.heap.size w (((w27.setCell ⟨gb236, 0, none⟩ (.int .i64 ((rd_T30 l0 x7_1).f0))).setCell ⟨gb236, 1, none⟩ (.int .i64 ((rd_T30 l0 x7_1).f1))).setCell ⟨gb236, 2, none⟩ (.int .i64 ((rd_T30 l0 x7_1).f2)))) := ⟨lb1_ HB.out GE236.out⟩
       (try clear BK236)
       (try clear HB)
       generalize (((w27.setCell ⟨gb236, 0, none⟩ (.int .i64 ((rd_T30 l0 x7_1).f0))).setCell ⟨gb236, 1, none⟩ (.int .i64 ((rd_T30 l0 x7_1).f1))).setCell ⟨gb236, 2, none⟩ (.int .i64 ((rd_T30 l0 x7_1).f2))) = w29 at n0_ n1_ ⊢
       have BK236 := n0_
       have HB := n1_
       clear n0_ n1_
       replace BK236 := Aside0.mk (blk_drew BK236.out)
       replace HB := Aside0.mk (below_drew1 HB.out)
       refine start_ (n := 18) (S := fun w' => w'.cell? ⟨gb236, 0, none⟩ = some (.int .i64 ((rd_T30 l0 x7_1).f0)) ∧ w'.cell? ⟨gb236, 1, none⟩ = some (.int .i64 ((rd_T30 l0 x7_1).f1)) ∧ w'.cell? ⟨gb236, 2, none⟩ = some (.int .i64 ((rd_T30 l0 x7_1).f2))) (ds := []) impl_AreSumps.mk0 (by kernel_rfl) rfl rfl ⟨(blk_cell BK236.out 0).trans rfl, (blk_cell BK236.out 1).trans rfl, (blk_cell BK236.out 2).trans rfl⟩ (fun hHeld => ?_); refine with_tabW impl_AreSumps.tab4 impl_AreSumps.bits4 (fun HT_ HW_ => ?_)
       generalize w29.drew = w30 at BK236 HB hHeld ⊢
       refine tk_ HT_ HW_ hHeld 0 (some 12) impl_AreSumps.mk1 ?_
       refine one_ (i := 1) (N := some 13) impl_AreSumps.mk2 rfl rfl (one_of HT_.out (by kernel_rfl)) (by decide) (fun K hK => ?_)
       refine gs_ Try.func59 #[.agg #[.int .i64 ((rd_T30 l0 x7_1).f0), .int .i64 ((rd_T30 l0 x7_1).f1), .int .i64 ((rd_T30 l0 x7_1).f2)]] ?_
       with_reducible refine (impl_isSump.calls ((rd_T30 l0 x7_1).f0) ((rd_T30 l0 x7_1).f1) ((rd_T30 l0 x7_1).f2) false _ A5.out).mono ?_
       rintro e w31 ⟨rfl, hb⟩
       refine ⟨_, rfl, ?_⟩
       replace BK236 := Aside0.mk (bb_ (bk_ BK236.out) hb)
       replace HB := Aside0.mk (below_step (lb1_ HB.out GE236.out) hb)
       (try clear hb)
       (try clear hb2)
       (try clear hk)
       (try clear hi)
       refine hK.out _ _ ⟨(blk_cell BK236.out 0).trans rfl, (blk_cell BK236.out 1).trans rfl, (blk_cell BK236.out 2).trans rfl⟩ (fun hHeld => ?_)
       clear hK K
       refine na_ ?_
       refine pz_ HT_ 2 (some 14) impl_AreSumps.mk3 ?_
       refine pz_ HT_ 3 (some 15) impl_AreSumps.mk4 ?_
       refine pu_ HT_ 4 (some 16) impl_AreSumps.mk5 ?_
       refine pu_ HT_ 5 (some 17) impl_AreSumps.mk6 ?_
       refine pu_ HT_ 6 (some 18) impl_AreSumps.mk7 ?_
       refine pu_ HT_ 7 (some 19) impl_AreSumps.mk8 ?_
       refine pu_ HT_ 8 (some 20) impl_AreSumps.mk9 ?_
       refine pu_ HT_ 9 (some 21) impl_AreSumps.mk10 ?_
       refine pu_ HT_ 10 (some 22) impl_AreSumps.mk11 ?_
       refine pu_ HT_ 11 (some 23) impl_AreSumps.mk12 ?_
       refine pu_ HT_ 12 (some 24) impl_AreSumps.mk19 ?_
       refine pu_ HT_ 13 (some 25) impl_AreSumps.mk14 ?_
       refine pu_ HT_ 14 (some 26) impl_AreSumps.mk15 ?_
       refine pu_ HT_ 15 (some 27) impl_AreSumps.mk16 ?_
       refine pu_ HT_ 16 (some 28) impl_AreSumps.mk17 ?_
       refine pz_ HT_ 17 (some 29) impl_AreSumps.mk18 ?_
       refine done_ (done_of HT_.out (by kernel_rfl)) ?_
       try go_wp2
       go_ret
       exact ⟨rr_, lb1_ HB.out GE236.out⟩
     ·
      rw [if_neg c4] at H
      exact absurd H (by simp)
    ·
     rw [if_neg c3] at H
     exact absurd H (by simp)
   ·
    rw [if_neg c2] at H
    have c2b0 : decide (x7_1 < (l0.length : Int)) = false := decide_eq_false c2
    clear c2
    obtain rfl := Option.some.inj H
    go_wp2
    go_ret
    exact ⟨rr_, lb0_ HB.out⟩
theorem heap_new_ (w : World) (cs : Array Value) (t : TypeId) : (w.alloc (.cells cs t)).heap[w.heap.size]? = some (.cells cs t (0, 0)) := by
 show (w.heap.push _)[w.heap.size]? = _
 simp
def idxP {α : Type} (p : α → Bool) (l : List α) : Int := if l.any p then (l.findIdx p : Int) else -1
theorem idxP_hit {α : Type} (p : α → Bool) (z : α) (l : List α) (k : Nat) (hk : k < l.length) (h : p (l.getD k z) = true) (hb : ∀ j, j < k → p (l.getD j z) = false) : idxP p l = k := by
 have hf : l.findIdx p = k := by
  rw [List.findIdx_eq hk]
  refine ⟨by rw [List.getD_eq_getElem?_getD, List.getElem?_eq_getElem hk] at h; exact h, fun j hj => ?_⟩
  have := hb j hj
  rw [List.getD_eq_getElem?_getD, List.getElem?_eq_getElem (by omega)] at this
  exact this
 unfold idxP
 rw [if_pos, hf]
 rw [List.any_eq_true]
 refine ⟨l[k], List.getElem_mem hk, ?_⟩
 rw [List.getD_eq_getElem?_getD, List.getElem?_eq_getElem hk] at h
 exact h
theorem idxP_miss {α : Type} (p : α → Bool) (z : α) (l : List α) (hb : ∀ j, j < l.length → p (l.getD j z) = false) : idxP p l = -1 := by
 unfold idxP
 rw [if_neg]
 rw [List.any_eq_true]
 rintro ⟨x, hx, hp⟩
 obtain ⟨j, hj, rfl⟩ := List.mem_iff_getElem.1 hx
 have := hb j hj
 rw [List.getD_eq_getElem?_getD, List.getElem?_eq_getElem hj] at this
 rw [show (some l[j]).getD z = l[j] from rfl, hp] at this
 cases this
theorem idxP_any {α : Type} (p : α → Bool) (l : List α) : decide (0 ≤ idxP p l) = l.any p := by
 unfold idxP
 split
 ·
  rename_i h
  rw [h]
  simp
 ·
  rename_i h
  rw [Bool.eq_false_iff.mpr h]
  rfl
set_option maxHeartbeats 4000000 in
theorem idx_Sump.calls (p : S30 → Bool) (g : Nat) (lb : Array Value) (eg : ∀ args w, (callFunc g args).run Try.prog w = .ok (.enter g args) w) (A0 : Option Addr) (c0 : Nat) (l0 : List S30) (w : World) (hr0 : Kd.C k30 w A0 l0.length l0) (hc0 : l0.length ≤ c0)
  (hp : ∀ (W : World) (x : S30), x ∈ l0 → Below w.heap.size w W → Calls Try.prog g (#[.agg #[.int .i64 x.f0, .int .i64 x.f1, .int .i64 x.f2]] ++ lb) W fun e w' => e = .returned (.bool (p x)) ∧ Below w.heap.size w w') :
  Calls Try.prog 96 #[.slice A0 l0.length c0, .func (.func g) #[] lb] w fun e w' => e = .returned (.int .i64 (idxP p l0)) ∧ Below w.heap.size w w' := by
 have hL : l0.length ≤ 9223372036854775807 := hr0.2.1
 have HP := Aside0.mk hp
 have HR := Aside0.mk hr0
 clear hp hr0
 go_enter Try.func96, Try.ntmps96
 go_wp2
 go_loopg [5, 8] l0.length (fun gg _ s8 wr => ∃ kk : Nat, kk ≤ l0.length ∧ l0.length - kk ≤ gg ∧ s8 = .int .i64 kk ∧ Aside0 (Below w.heap.size w wr) ∧ Aside0 (∀ j, j < kk → p (l0.getD j z30) = false))
 case atStart => exact ⟨0, Nat.zero_le _, by omega, rfl, ⟨Below.refl _ w⟩, ⟨fun j hj => absurd hj (Nat.not_lt_zero _)⟩⟩
 case round =>
  obtain ⟨kk, hkk, hg, rfl, BW, AA⟩ := hrel
  by_cases hlt : kk < l0.length
  ·
   have hltz : (kk : Int) < (l0.length : Int) := by omega
   have hk0 : (0 : Int) ≤ (kk : Int) := by omega
   obtain ⟨ad, e0, hx0, hx1, hx2⟩ := at_T30 HR.out (kk : Int) hk0 hltz
   replace hx0 := (BW.out.cell (World.block_lt_of_cell? w _ hx0)).trans hx0
   replace hx1 := (BW.out.cell (World.block_lt_of_cell? w _ hx1)).trans hx1
   replace hx2 := (BW.out.cell (World.block_lt_of_cell? w _ hx2)).trans hx2
   have hm : rd_T30 l0 (kk : Int) ∈ l0 := by
    show l0.getD (kk : Int).toNat _ ∈ l0
    rw [Int.toNat_natCast, List.getD_eq_getElem?_getD, List.getElem?_eq_getElem hlt]
    exact List.getElem_mem hlt
   have hcall := HP.out wr (rd_T30 l0 (kk : Int)) hm BW.out
   have hpk : Aside0 (p (rd_T30 l0 (kk : Int)) = p (l0.getD kk z30)) := ⟨rfl⟩
   clear hm
   generalize rd_T30 l0 (kk : Int) = y at hx0 hx1 hx2 hcall hpk
   subst e0
   rw [Int.toNat_natCast] at hx0 hx1 hx2
   cases hq : p y with
   | true =>
    rw [hq] at hcall
    go_wp2_with (go_at_fn g; refine hcall.mono ?_; rintro e w' ⟨rfl, hb'⟩)
    go_ret
    refine ⟨?_, hb'⟩
    rw [idxP_hit p z30 l0 kk hlt (hpk.out.symm.trans hq) AA.out]
    rfl
   | false =>
    rw [hq] at hcall
    go_wp2_with (go_at_fn g; refine hcall.mono ?_; rintro e w' ⟨rfl, hb'⟩)
    go_roundg (l0.length - (kk + 1))
    case measure => omega
    case rel =>
     refine ⟨kk + 1, by omega, by omega, by go_num, ⟨hb'⟩, ⟨fun j hj => ?_⟩⟩
     by_cases e : j = kk
     ·
      subst e
      exact hpk.out.symm.trans hq
     ·
      exact AA.out j (by omega)
  ·
   have hltz : ¬ (kk : Int) < (l0.length : Int) := by omega
   have hkl : kk = l0.length := by omega
   go_wp2
   go_ret
   refine ⟨?_, BW.out⟩
   rw [idxP_miss p z30 l0 (fun j hj => AA.out j (by omega))]
   rfl
set_option maxHeartbeats 4000000 in
theorem cont_Sump.calls (p : S30 → Bool) (g : Nat) (lb : Array Value) (eg : ∀ args w, (callFunc g args).run Try.prog w = .ok (.enter g args) w) (A0 : Option Addr) (c0 : Nat) (l0 : List S30) (w : World) (hr0 : Kd.C k30 w A0 l0.length l0) (hc0 : l0.length ≤ c0)
  (hp : ∀ (W : World) (x : S30), x ∈ l0 → Below w.heap.size w W → Calls Try.prog g (#[.agg #[.int .i64 x.f0, .int .i64 x.f1, .int .i64 x.f2]] ++ lb) W fun e w' => e = .returned (.bool (p x)) ∧ Below w.heap.size w w') :
  Calls Try.prog 82 #[.slice A0 l0.length c0, .func (.func g) #[] lb] w fun e w' => e = .returned (.bool (l0.any p)) ∧ Below w.heap.size w w' := by
 rw [← idxP_any p l0]
 have hcon := idx_Sump.calls p g lb eg A0 c0 l0 w hr0 hc0 hp
 generalize idxP p l0 = r at hcon ⊢
 have HC := Aside0.mk hcon
 clear hcon hp hr0
 go_enter Try.func82, Try.ntmps82
 go_wp2_with (go_at_call 96; refine HC.out.mono ?_; rintro e w' ⟨rfl, hb'⟩)
 go_ret
 exact ⟨rfl, hb'⟩
def stepS (acc : List (Int × Int)) (x : Int) : List (Int × Int) :=
 match acc.getLast? with
 | some s => if s.2 = x - 1 then acc.dropLast ++ [(s.1, x)] else acc ++ [(x, x)]
 | none => [(x, x)]
def spansB (p : Int → Bool) : Nat → Int → List (Int × Int) → List (Int × Int)
 | 0, _, acc => acc
 | n + 1, x, acc => spansB p n (x + 1) (if p x = true then stepS acc x else acc)
theorem stepS_ext (Q : List (Int × Int)) (a x : Int) : stepS (Q ++ [(a, x - 1)]) x = Q ++ [(a, x)] := by
 unfold stepS
 rw [List.getLast?_concat]
 simp
theorem stepS_new (acc : List (Int × Int)) (x : Int) (h : ∀ s, acc.getLast? = some s → s.2 ≠ x - 1) : stepS acc x = acc ++ [(x, x)] := by
 unfold stepS
 split
 ·
  rename_i s hs
  rw [if_neg (h s hs)]
 ·
  rename_i hs
  rw [List.getLast?_eq_none_iff.1 hs]
  rfl
def kref_ : Kd Nat := Kd.scalar (fun b => .slice (some ⟨b, 0, none⟩) 2 2) (fun _ => rfl)
structure SpS (w : World) (base : Nat) (v : Value) (P : List (Nat × Int × Int)) : Prop where
 row : kref_.R 36 w base (fun _ => True) v (P.map (·.1))
 cel : ∀ p ∈ P, base ≤ p.1 ∧ w.heap[p.1]? = some (.cells #[.int .i64 p.2.1, .int .i64 p.2.2] 3 (0, 0))
 nod : (P.map (·.1)).Nodup
namespace SpS
variable {w w1 : World} {base b : Nat} {v v1 : Value} {P Q : List (Nat × Int × Int)} {x y : Int}
theorem nil (w : World) (base : Nat) : SpS w base (.slice none 0 0) [] := ⟨Kd.R_nil _ _ _ _ _, fun p hp => absurd hp List.not_mem_nil, List.nodup_nil⟩
theorem lower {base' : Nat} (h : SpS w base v P) (hb : base' ≤ base) : SpS w base' v P :=
 ⟨Kd.R_lower h.row hb, fun p hp => ⟨Nat.le_trans hb (h.cel p hp).1, (h.cel p hp).2⟩, h.nod⟩
theorem below (h : SpS w base v P) (hb : Below w.heap.size w w1) : SpS w1 base v P :=
 ⟨Kd.R_below h.row hb, fun p hp => ⟨(h.cel p hp).1, blk_below (h.cel p hp).2 hb⟩, h.nod⟩
theorem put (h : SpS w base v (Q ++ [(b, x, y)])) (y' : Int) : SpS (w.setCell ⟨b, 1, none⟩ (.int .i64 y')) base v (Q ++ [(b, x, y')]) := by
 have hc := h.cel (b, x, y) (by simp)
 refine ⟨?_, fun p hp => ?_, ?_⟩
 ·
  have := Kd.R_set h.row hc.2 (fun q hq => by rw [List.mem_singleton.1 hq]; decide) 1 (.int .i64 y')
  simpa using this
 ·
  rcases List.mem_append.1 hp with hp | hp
  ·
   refine ⟨(h.cel p (List.mem_append_left _ hp)).1, blk_far (h.cel p (List.mem_append_left _ hp)).2 (fun e => ?_) _⟩
   have hn := h.nod
   rw [List.map_append, List.nodup_append] at hn
   exact hn.2.2 _ (List.mem_map_of_mem hp) _ (by simp) e
  ·
   obtain rfl := List.mem_singleton.1 hp
   exact ⟨hc.1, blk_put hc.2 1 _ rfl⟩
 ·
  have := h.nod
  simpa using this
theorem app (h : SpS w base v P) (h1 : kref_.R 36 w1 base (fun _ => True) v1 (P.map (·.1) ++ [b])) (hg : w.grownBy w1 v.ownBlock) (hbb : base ≤ b) (hb : w.heap[b]? = some (.cells #[.int .i64 x, .int .i64 y] 3 (0, 0))) (hn : ∀ p ∈ P, p.1 ≠ b) : SpS w1 base v1 (P ++ [(b, x, y)]) := by
 obtain ⟨inner, ho⟩ := Kd.R_own h.row
 refine ⟨by rw [List.map_append]; exact h1, fun p hp => ?_, ?_⟩
 ·
  rcases List.mem_append.1 hp with hp | hp
  ·
   exact ⟨(h.cel p hp).1, blk_grown (h.cel p hp).2 hg (own_ne ho (h.cel p hp).2 (by decide))⟩
  ·
   obtain rfl := List.mem_singleton.1 hp
   exact ⟨hbb, blk_grown hb hg (own_ne ho hb (by decide))⟩
 ·
  rw [List.map_append, List.nodup_append]
  refine ⟨h.nod, by simp, fun a ha c hc e => ?_⟩
  obtain ⟨p, hp, rfl⟩ := List.mem_map.1 ha
  obtain rfl := List.mem_singleton.1 hc
  exact hn p hp e
theorem rows (h : SpS w base v P) : (Kd.slice 3 (Kd.int .i64)).R 36 w base (fun _ => True) v (P.map fun p => [p.2.1, p.2.2]) := by
 obtain ⟨h0, inner, ho, hr⟩ := h.row
 have ho' : w.ownsRow base 36 1 v (P.map fun p => [p.2.1, p.2.2]).length inner := by
  rw [List.length_map] at ho ⊢
  exact ho
 refine ⟨fun _ _ => trivial, inner, ho', ?_, ?_⟩
 ·
  rw [hr.1, List.length_map, List.length_map]
  rfl
 ·
  intro j p hj
  rw [List.getElem?_map] at hj
  obtain ⟨q, hq, rfl⟩ := Option.map_eq_some_iff.1 hj
  have h1 := hr.2 j q.1 (by rw [List.getElem?_map, hq]; rfl)
  have hc := h.cel q (List.mem_of_getElem? hq)
  refine ⟨_, h1, Kd.R_of_own ⟨rfl, .inr ⟨q.1, 2, _, rfl, hc.1, hc.2, Nat.le_refl _, by decide, rfl, rfl⟩⟩ (fun k hk => ⟨trivial, fun he => ?_⟩)⟩
  have e : q.1 = k := by simpa [Value.ownBlock] using hk
  exact own_ne ho hc.2 (by decide) (by rw [e]; exact he)
theorem rowsS (h : SpS w base v P) : Kd.S (Kd.slice 3 (Kd.int .i64)) 36 w base (fun _ => True) v (P.map fun p => [p.2.1, p.2.2]) := by
 obtain ⟨h0, inner, ho, hr⟩ := h.row
 have ho' : w.ownsRow base 36 1 v (P.map fun p => [p.2.1, p.2.2]).zipIdx.length inner := by
  rw [List.length_zipIdx, List.length_map]
  rw [List.length_map] at ho
  exact ho
 refine ⟨fun k => P.findIdx (fun p => p.1 == k), fun _ _ => trivial, inner, ho', ?_, ?_⟩
 ·
  rw [hr.1, List.length_zipIdx, List.length_map, List.length_map]
  rfl
 ·
  intro j p hj
  rw [List.getElem?_zipIdx, List.getElem?_map] at hj
  obtain ⟨x1, hx1, rfl⟩ := Option.map_eq_some_iff.1 hj
  obtain ⟨q, hq, rfl⟩ := Option.map_eq_some_iff.1 hx1
  have h1 := hr.2 j q.1 (by rw [List.getElem?_map, hq]; rfl)
  have hc := h.cel q (List.mem_of_getElem? hq)
  obtain ⟨hjl, hqe⟩ := List.getElem?_eq_some_iff.1 hq
  have hf : P.findIdx (fun p => p.1 == q.1) = j := by
   rw [List.findIdx_eq hjl]
   refine ⟨by rw [hqe]; exact beq_self_eq_true _, fun i hi => ?_⟩
   have hn := List.pairwise_iff_getElem.1 h.nod i j (by rw [List.length_map]; omega) (by rw [List.length_map]; exact hjl) hi
   rw [List.getElem_map, List.getElem_map, hqe] at hn
   exact beq_eq_false_iff_ne.mpr hn
  refine ⟨_, h1, Kd.R_of_own ⟨rfl, .inr ⟨q.1, 2, _, rfl, hc.1, hc.2, Nat.le_refl _, by decide, rfl, rfl⟩⟩ (fun k hk => ⟨⟨trivial, fun he => ?_⟩, ?_⟩)⟩
  ·
   have e : q.1 = k := by simpa [Value.ownBlock] using hk
   exact own_ne ho hc.2 (by decide) (by rw [e]; exact he)
  ·
   have e : q.1 = k := by simpa [Value.ownBlock] using hk
   rw [← e]
   show P.findIdx (fun p => p.1 == q.1) = 0 + j
   rw [hf, Nat.zero_add]
theorem form (h : SpS w base v (Q ++ [(b, x, y)])) : ∃ ad c, v = .slice (some ad) (Q.length + 1) c ∧ w.cell? (ad.add Q.length) = some (.slice (some ⟨b, 0, none⟩) 2 2) ∧ w.cell? ⟨b, 1, none⟩ = some (.int .i64 y) ∧ w.frozen? ⟨b, 1, none⟩ = false := by
 obtain ⟨A, c, e, hl, hC⟩ := Kd.R_reads h.row
 obtain ⟨ad, rfl, hc⟩ := ReadsOf.at_ (Kd.reads_of_C (enc := fun b => Value.slice (some ⟨b, 0, none⟩) 2 2) (d := (0 : Nat)) (h1 := fun _ => rfl) hC) (Q.length : Int) (by omega) (by rw [List.length_map, List.length_append, List.length_singleton]; omega)
 have hb := (h.cel (b, x, y) (by simp)).2
 refine ⟨ad, c, by rw [e]; simp, ?_, (blk_cell hb 1).trans rfl, blk_frozen hb 1⟩
 rw [Int.toNat_natCast] at hc
 rw [hc]
 simp [rdOf]
theorem slice_ (h : SpS w base v P) : ∃ A c, v = .slice A P.length c ∧ P.length ≤ c := by
 obtain ⟨A, c, e, hl, hC⟩ := Kd.R_reads h.row
 rw [List.length_map] at e hl
 exact ⟨A, c, e, hl⟩
end SpS
theorem SpS.fresh_ {w : World} {base g : Nat} {v : Value} {P : List (Nat × Int × Int)} (h : SpS w base v P) (hg : g = w.heap.size) : ∀ p ∈ P, p.1 ≠ g := fun p hp e => by
 have := blk_lt (h.cel p hp).2
 omega
section
variable {P : Program} {ops : Array Oper} {rest : List Oper} {o : Oper} {a : Act} {Q : Exit → Act → World → Prop}
theorem lit_event {W : World} (hgd : o.guard = none) {N : Tmp} (_hd : o.dst = some N) {cs : Array Value} {t : TypeId} {n : Nat}
  (hrun : (execOp a.eval o).run P W = .ok (.value (.slice (some ⟨W.heap.size, 0, none⟩) n n)) (W.alloc (.cells cs t)))
  (h : ∀ g, g = W.heap.size → ∀ w1, w1.heap[g]? = some (.cells cs t (0, 0)) → Below W.heap.size W w1 → wpList P ops Q rest (a.put o.dst (.slice (some ⟨g, 0, none⟩) n n)) w1) : wpList P ops Q (o :: rest) a W :=
 Kd.event_run hgd hrun (h _ rfl _ (blk_new W _) (below_alloc (Below.refl _ _) _))
end
set_option maxHeartbeats 8000000 in
set_option maxRecDepth 100000 in
theorem spansS_.calls (p : Int → Bool) (g : Nat) (lb : Array Value) (eg : ∀ args w, (callFunc g args).run Try.prog w = .ok (.enter g args) w) (a0 a1 : Int) (w : World) (h0 : 0 ≤ a0) (h1 : a1 ≤ 1000000)
  (hp : ∀ (W : World) (x : Int), a0 ≤ x → x ≤ a1 → Below w.heap.size w W → Calls Try.prog g (#[.int .i64 x] ++ lb) W fun e w' => e = .returned (.bool (p x)) ∧ Below W.heap.size W w') :
  Calls Try.prog 77 #[.int .i64 a0, .int .i64 a1, .func (.func g) #[] lb] w fun e w' => ∃ (v0_ : Value) (P : List (Nat × Int × Int)), e = .returned v0_ ∧ SpS w' w.heap.size v0_ P ∧ P.map (·.2) = spansB p (a1 - a0 + 1).toNat a0 [] ∧ Below w.heap.size w w' := by
 have HP := Aside0.mk hp
 clear hp
 obtain ⟨n, hn⟩ : ∃ n, (a1 - a0 + 1).toNat = n := ⟨_, rfl⟩
 rw [hn]
 obtain ⟨R, hR⟩ : ∃ R, spansB p n a0 [] = R := ⟨_, rfl⟩
 rw [hR]
 have HR0 := Aside0.mk hR
 clear hR
 go_enter Try.func77, Try.ntmps77
 go_wp2
 go_loopg [7, 8] n (fun gg v7 v8 wr => ∃ (kk : Nat) (P : List (Nat × Int × Int)), kk ≤ n ∧ n - kk ≤ gg ∧ v8 = .int .i64 (a0 + kk) ∧ P.length ≤ kk ∧ Aside0 (spansB p (n - kk) (a0 + kk) (P.map (·.2)) = R) ∧ Aside0 (SpS wr w.heap.size v7 P) ∧ Aside0 (Below w.heap.size w wr))
 case atStart => exact ⟨0, [], Nat.zero_le _, by omega, by simp, Nat.le_refl _, ⟨by simpa using HR0.out⟩, ⟨SpS.nil _ _⟩, ⟨Below.refl _ _⟩⟩
 case round =>
  obtain ⟨kk, P, hkk, hgg, rfl, hPl, HA, HS, BW⟩ := hrel
  by_cases hlt : kk < n
  ·
   obtain ⟨x, hx⟩ : ∃ x, x = a0 + (kk : Int) := ⟨_, rfl⟩
   have hxa : a0 ≤ x := by omega
   have hx1 : x ≤ a1 := by omega
   have hcall := HP.out wr x hxa hx1 BW.out
   have hA := HA.out
   rw [show n - kk = (n - (kk + 1)) + 1 by omega] at hA
   unfold spansB at hA
   have hw1 : wrap64 (x + 1) = x + 1 := by
    unfold wrap64
    omega
   have hw2 : wrap64 (x - 1) = x - 1 := by
    unfold wrap64
    omega
   rw [← hx] at hA ⊢
   have hxn : a0 + ((kk + 1 : Nat) : Int) = x + 1 := by omega
   have HX := Aside0.mk hx
   have HN := Aside0.mk hn
   have HG := Aside0.mk hgg
   have HL := Aside0.mk hPl
   clear HA hx hn hgg hPl hxa
   cases hq : p x with
   | false =>
    rw [hq] at hcall hA
    simp only [Bool.false_eq_true, if_false] at hA
    have HC := Aside0.mk hcall
    have HA := Aside0.mk hA
    clear hcall hA hq
    go_wp2_with (go_at_fn g; refine HC.out.mono ?_; rintro e w3 ⟨rfl, hb3⟩; have BW3 := Aside0.mk (below_step BW.out hb3); have HS3 := Aside0.mk (HS.out.below hb3); clear hb3)
    go_roundg (n - (kk + 1))
    case measure => have := HG.out; omega
    case rel => exact ⟨kk + 1, P, by omega, by omega, by first | (rw [hxn]; done) | (rw [hxn]; go_num), by have := HL.out; omega, ⟨by rw [hxn]; exact HA.out⟩, HS3, BW3⟩
   | true =>
    rw [hq] at hcall hA
    simp only [if_true] at hA
    have HC := Aside0.mk hcall
    clear hcall hq
    rcases List.eq_nil_or_concat P with rfl | ⟨Q, ⟨b, a, y⟩, rfl⟩
    ·
     rw [stepS_new _ _ (fun s hs => by simp at hs)] at hA
     have HA := Aside0.mk hA
     clear hA
     obtain ⟨A, c, e7, hc⟩ := HS.out.slice_
     obtain ⟨m, hm⟩ : ∃ m, ([] : List (Nat × Int × Int)).length = m := ⟨_, rfl⟩
     rw [hm] at e7
     subst e7
     have hw3 : wrap64 ((m : Int) - 1) = -1 := by
      have h0 : m = 0 := hm.symm
      unfold wrap64
      omega
     clear hc hm
     go_wp2_with (first | (go_at_fn g; refine HC.out.mono ?_; rintro e w3 ⟨rfl, hb3⟩; have BW3 := Aside0.mk (below_step BW.out hb3); have HS3 := Aside0.mk (HS.out.below hb3); clear hb3) | ((with_reducible refine gate_dst (N := 45) rfl ?_); refine lit_event ?hg (N := 45) ?hd (cs := #[.int .i64 x, .int .i64 x]) (t := 3) (n := 2) ?hr ?_; (case hd => rfl); (case hg => rfl); (case hr => first | (go_simp; done) | (go_simp; rfl)); intro gn hgn w4 hbox hb4; have HGN := Aside0.mk hgn; have BX := Aside0.mk hbox; have BW4 := Aside0.mk (below_step BW3.out hb4); have HS4 := Aside0.mk (HS3.out.below hb4); have HGL := Aside0.mk (HS3.out.fresh_ hgn); have HBB := Aside0.mk (show w.heap.size ≤ gn from by rw [hgn]; exact below_size BW3.out); clear hgn hbox hb4) | ((with_reducible refine gate_builtin (b := .append) (xs := #[.tmp 42, .tmp 46]) rfl ?_); at_builtin; refine Kd.R_append kref_ (w0 := w) w.heap.size rfl (.tmp 42) (.tmp 46) 60 36 (.slice none 0 0) 24 rfl Try.underlying60 info36 rfl (by decide) (by omega) _ _ gn [.slice (some ⟨gn, 0, none⟩) 2 2] (fun _ => True) (fun _ => False) rfl (by first | (go_simp; done) | (go_simp; rfl)) ?aP (fun _ hk => hk.elim) (fun _ _ => trivial) HS4.out.row BW4.out (below_size BW4.out) ?aL ?_; (case aP => exact rfl); (case aL => exact (by have := HL.out; omega : (0 + 1) * 24 ≤ 140737488355328)); intro v9 w9 ho hb hg hat; have HS9 := Aside0.mk (HS4.out.app ho hg HBB.out BX.out HGL.out); have BW9 := Aside0.mk hb; clear ho hb hg hat))
     go_roundg (n - (kk + 1))
     case measure => have := HG.out; omega
     case rel => exact ⟨kk + 1, [] ++ [(gn, x, x)], by omega, by omega, by first | (rw [hxn]; done) | (rw [hxn]; go_num), by have := HL.out; simp, ⟨by rw [hxn]; exact HA.out⟩, HS9, BW9⟩
    ·
     rw [List.concat_eq_append] at HL hA HS
     obtain ⟨ad, c, e7, hx0, hx2, hfz⟩ := HS.out.form
     obtain ⟨m, hm⟩ : ∃ m, Q.length + 1 = m := ⟨_, rfl⟩
     rw [hm] at e7
     subst e7
     obtain ⟨q, hq⟩ : ∃ q, Q.length = q := ⟨_, rfl⟩
     rw [hq] at hx0
     have hw3 : wrap64 ((m : Int) - 1) = (q : Int) := by
      have := HL.out
      rw [List.length_append, List.length_singleton] at this
      unfold wrap64
      omega
     have hz0 : (0 : Int) ≤ (q : Int) := by omega
     have hz1 : (q : Int) < (m : Int) := by omega
     clear hm hq
     by_cases hy : y = x - 1
     ·
      subst hy
      rw [List.map_append, List.map_cons, List.map_nil, stepS_ext] at hA
      have HA := Aside0.mk hA
      clear hA
      go_wp2_with (go_at_fn g; refine HC.out.mono ?_; rintro e w3 ⟨rfl, hb3⟩; have BW3 := Aside0.mk (below_step BW.out hb3); have HS3 := Aside0.mk (HS.out.below hb3); replace hx0 := pw_cell_below hb3 hx0; replace hx2 := pw_cell_below hb3 hx2; replace hfz := blk_frozen (HS3.out.cel (b, a, x - 1) (by simp)).2 1; clear hb3)
      go_roundg (n - (kk + 1))
      case measure => have := HG.out; omega
      case rel => exact ⟨kk + 1, Q ++ [(b, a, x)], by omega, by omega, by first | (rw [hxn]; done) | (rw [hxn]; go_num), by have := HL.out; simp at this ⊢; omega, ⟨by rw [hxn]; simpa using HA.out⟩, ⟨HS3.out.put x⟩, ⟨below_set BW3.out (HS3.out.cel (b, a, x - 1) (by simp)).1⟩⟩
     ·
      rw [stepS_new _ _ (fun s hs => by rw [List.map_append, List.map_cons, List.map_nil, List.getLast?_concat] at hs; obtain rfl := Option.some.inj hs; exact hy)] at hA
      have n0 : (y == x - 1) = false := beq_eq_false_iff_ne.mpr hy
      have n1 : decide (y = x - 1) = false := decide_eq_false hy
      have HA := Aside0.mk hA
      clear hA hy
      go_wp2_with (first | (go_at_fn g; refine HC.out.mono ?_; rintro e w3 ⟨rfl, hb3⟩; have BW3 := Aside0.mk (below_step BW.out hb3); have HS3 := Aside0.mk (HS.out.below hb3); replace hx0 := pw_cell_below hb3 hx0; replace hx2 := pw_cell_below hb3 hx2; replace hfz := blk_frozen (HS3.out.cel (b, a, y) (by simp)).2 1; clear hb3) | ((with_reducible refine gate_dst (N := 45) rfl ?_); refine lit_event ?hg (N := 45) ?hd (cs := #[.int .i64 x, .int .i64 x]) (t := 3) (n := 2) ?hr ?_; (case hd => rfl); (case hg => rfl); (case hr => first | (go_simp; done) | (go_simp; rfl)); intro gn hgn w4 hbox hb4; have HGN := Aside0.mk hgn; have BX := Aside0.mk hbox; have BW4 := Aside0.mk (below_step BW3.out hb4); have HS4 := Aside0.mk (HS3.out.below hb4); have HGL := Aside0.mk (HS3.out.fresh_ hgn); have HBB := Aside0.mk (show w.heap.size ≤ gn from by rw [hgn]; exact below_size BW3.out); clear hgn hbox hb4) | ((with_reducible refine gate_builtin (b := .append) (xs := #[.tmp 42, .tmp 46]) rfl ?_); at_builtin; refine Kd.R_append kref_ (w0 := w) w.heap.size rfl (.tmp 42) (.tmp 46) 60 36 (.slice none 0 0) 24 rfl Try.underlying60 info36 rfl (by decide) (by omega) _ _ gn [.slice (some ⟨gn, 0, none⟩) 2 2] (fun _ => True) (fun _ => False) rfl (by first | (go_simp; done) | (go_simp; rfl)) ?aP (fun _ hk => hk.elim) (fun _ _ => trivial) HS4.out.row BW4.out (below_size BW4.out) ?aL ?_; (case aP => exact rfl); (case aL => have := HL.out; simp at this ⊢; omega); intro v9 w9 ho hb hg hat; have HS9 := Aside0.mk (HS4.out.app ho hg HBB.out BX.out HGL.out); have BW9 := Aside0.mk hb; clear ho hb hg hat))
      go_roundg (n - (kk + 1))
      case measure => have := HG.out; omega
      case rel => exact ⟨kk + 1, (Q ++ [(b, a, y)]) ++ [(gn, x, x)], by omega, by omega, by first | (rw [hxn]; done) | (rw [hxn]; go_num), by have := HL.out; simp at this ⊢; omega, ⟨by rw [hxn]; simpa using HA.out⟩, HS9, BW9⟩
  ·
   have hltz : ¬ a0 + (kk : Int) ≤ a1 := by omega
   have hA := HA.out
   rw [show n - kk = 0 by omega] at hA
   unfold spansB at hA
   go_wp2
   go_ret
   exact ⟨_, rfl, P, HS.out, hA, BW.out⟩
theorem spans_.calls (p : Int → Bool) (g : Nat) (lb : Array Value) (eg : ∀ args w, (callFunc g args).run Try.prog w = .ok (.enter g args) w) (a0 a1 : Int) (w : World) (h0 : 0 ≤ a0) (h1 : a1 ≤ 1000000)
  (hp : ∀ (W : World) (x : Int), a0 ≤ x → x ≤ a1 → Below w.heap.size w W → Calls Try.prog g (#[.int .i64 x] ++ lb) W fun e w' => e = .returned (.bool (p x)) ∧ Below W.heap.size W w') :
  Calls Try.prog 77 #[.int .i64 a0, .int .i64 a1, .func (.func g) #[] lb] w fun e w' => ∃ v0_ : Value, e = .returned v0_ ∧ (Kd.slice 3 (Kd.int .i64)).R 36 w' w.heap.size (fun _ => True) v0_ ((spansB p (a1 - a0 + 1).toNat a0 []).map fun s => [s.1, s.2]) ∧ Below w.heap.size w w' := by
 refine (spansS_.calls p g lb eg a0 a1 w h0 h1 hp).mono ?_
 rintro e w' ⟨v, P, rfl, hS, hP, hB⟩
 refine ⟨v, rfl, ?_, hB⟩
 rw [← hP, List.map_map]
 exact hS.rows
end Go.Proofs.Ytojaeidabmfajaa.Pr

namespace Go.Proofs.Ytojaeidabmfajaa.Pr
open Go.RowKit Go.Proofs.YtojaeidabmfajaaW.PrintWords Go.Proofs.YtojaeidabmfajaaW.PrintLast Go.Proofs.YtojaeidabmfajaaW.PrintMore
attribute [local go_sem] max2_int min2_int max_two min_two max_three min_three max_four min_four   -- for this text's walks alone
set_option linter.unusedVariables false
set_option linter.unusedSimpArgs false
set_option maxHeartbeats 4000000 in
theorem idxR.calls (p : S54 → Bool) (g : Nat) (lb : Array Value) (eg : ∀ args w, (callFunc g args).run Try.prog w = .ok (.enter g args) w) (A0 : Option Addr) (c0 : Nat) (l0 : List S54) (w : World) (hr0 : Kd.C k54 w A0 l0.length l0) (hc0 : l0.length ≤ c0)
  (hp : ∀ (W : World) (x : S54), x ∈ l0 → Below w.heap.size w W → Calls Try.prog g (#[.agg #[.int .i64 x.f0, .int .i64 x.f1]] ++ lb) W fun e w' => e = .returned (.bool (p x)) ∧ Below w.heap.size w w') :
  Calls Try.prog 91 #[.slice A0 l0.length c0, .func (.func g) #[] lb] w fun e w' => e = .returned (.int .i64 (idxP p l0)) ∧ Below w.heap.size w w' := by
 have hL : l0.length ≤ 9223372036854775807 := hr0.2.1
 have HP := Aside0.mk hp
 have HR := Aside0.mk hr0
 clear hp hr0
 go_enter Try.func91, Try.ntmps91
 go_wp2
 go_loopg [5, 8] l0.length (fun gg _ s8 wr => ∃ kk : Nat, kk ≤ l0.length ∧ l0.length - kk ≤ gg ∧ s8 = .int .i64 kk ∧ Aside0 (Below w.heap.size w wr) ∧ Aside0 (∀ j, j < kk → p (l0.getD j z54) = false))
 case atStart => exact ⟨0, Nat.zero_le _, by omega, rfl, ⟨Below.refl _ w⟩, ⟨fun j hj => absurd hj (Nat.not_lt_zero _)⟩⟩
 case round =>
  obtain ⟨kk, hkk, hg, rfl, BW, AA⟩ := hrel
  by_cases hlt : kk < l0.length
  ·
   have hltz : (kk : Int) < (l0.length : Int) := by omega
   have hk0 : (0 : Int) ≤ (kk : Int) := by omega
   obtain ⟨ad, e0, hx0, hx1⟩ := at_T54 HR.out (kk : Int) hk0 hltz
   replace hx0 := (BW.out.cell (World.block_lt_of_cell? w _ hx0)).trans hx0
   replace hx1 := (BW.out.cell (World.block_lt_of_cell? w _ hx1)).trans hx1
   have hm : rd_T54 l0 (kk : Int) ∈ l0 := by
    show l0.getD (kk : Int).toNat _ ∈ l0
    rw [Int.toNat_natCast, List.getD_eq_getElem?_getD, List.getElem?_eq_getElem hlt]
    exact List.getElem_mem hlt
   have hcall := HP.out wr (rd_T54 l0 (kk : Int)) hm BW.out
   have hpk : Aside0 (p (rd_T54 l0 (kk : Int)) = p (l0.getD kk z54)) := ⟨rfl⟩
   clear hm
   generalize rd_T54 l0 (kk : Int) = y at hx0 hx1 hcall hpk
   subst e0
   rw [Int.toNat_natCast] at hx0 hx1
   cases hq : p y with
   | true =>
    rw [hq] at hcall
    go_wp2_with (go_at_fn g; refine hcall.mono ?_; rintro e w' ⟨rfl, hb'⟩)
    go_ret
    refine ⟨?_, hb'⟩
    rw [idxP_hit p z54 l0 kk hlt (hpk.out.symm.trans hq) AA.out]
    rfl
   | false =>
    rw [hq] at hcall
    go_wp2_with (go_at_fn g; refine hcall.mono ?_; rintro e w' ⟨rfl, hb'⟩)
    go_roundg (l0.length - (kk + 1))
    case measure => omega
    case rel =>
     refine ⟨kk + 1, by omega, by omega, by go_num, ⟨hb'⟩, ⟨fun j hj => ?_⟩⟩
     by_cases e : j = kk
     ·
      subst e
      exact hpk.out.symm.trans hq
     ·
      exact AA.out j (by omega)
  ·
   have hltz : ¬ (kk : Int) < (l0.length : Int) := by omega
   have hkl : kk = l0.length := by omega
   go_wp2
   go_ret
   refine ⟨?_, BW.out⟩
   rw [idxP_miss p z54 l0 (fun j hj => AA.out j (by omega))]
   rfl
set_option maxHeartbeats 4000000 in
theorem containsR.calls (p : S54 → Bool) (g : Nat) (lb : Array Value) (eg : ∀ args w, (callFunc g args).run Try.prog w = .ok (.enter g args) w) (A0 : Option Addr) (c0 : Nat) (l0 : List S54) (w : World) (hr0 : Kd.C k54 w A0 l0.length l0) (hc0 : l0.length ≤ c0)
  (hp : ∀ (W : World) (x : S54), x ∈ l0 → Below w.heap.size w W → Calls Try.prog g (#[.agg #[.int .i64 x.f0, .int .i64 x.f1]] ++ lb) W fun e w' => e = .returned (.bool (p x)) ∧ Below w.heap.size w w') :
  Calls Try.prog 64 #[.slice A0 l0.length c0, .func (.func g) #[] lb] w fun e w' => e = .returned (.bool (l0.any p)) ∧ Below w.heap.size w w' := by
 rw [← idxP_any p l0]
 have hcon := idxR.calls p g lb eg A0 c0 l0 w hr0 hc0 hp
 generalize idxP p l0 = r at hcon ⊢
 have HC := Aside0.mk hcon
 clear hcon hp hr0
 go_enter Try.func64, Try.ntmps64
 go_wp2_with (go_at_call 91; refine HC.out.mono ?_; rintro e w' ⟨rfl, hb'⟩)
 go_ret
 exact ⟨rfl, hb'⟩
set_option maxHeartbeats 4000000 in
theorem drowned1.calls (x : S54) (B : Nat) (s : S30) (W : World) (hB : B < W.heap.size) (hc : W.cell? ⟨B, 1, none⟩ = some (.int .i64 s.f1)) :
  Calls Try.prog 65 #[.agg #[.int .i64 x.f0, .int .i64 x.f1], .pointer (some ⟨B, 0, none⟩)] W fun e w' => e = .returned (.bool (decide (x.f1 > s.f1))) ∧ Below W.heap.size W w' := by
 go_enter Try.func65, Try.ntmps65
 go_wp2
 go_ret
 exact ⟨rfl, (Below.refl _ _).alloc (Nat.le_refl _) _⟩
def drownedOf (l0 : List S54) (l1 : List S30) : List Int := (l1.filter fun s => l0.any fun r => decide (r.f1 > s.f1)).map (·.f0)
theorem drownedOf_snoc (l0 : List S54) (l1 : List S30) (s : S30) : drownedOf l0 (l1 ++ [s]) = if (l0.any fun r => decide (r.f1 > s.f1)) = true then drownedOf l0 l1 ++ [s.f0] else drownedOf l0 l1 := by
 unfold drownedOf
 rw [List.filter_append, List.map_append]
 cases h : (l0.any fun r => decide (r.f1 > s.f1)) <;> simp [List.filter_cons, h]
theorem drownedOf_len (l0 : List S54) (l1 : List S30) : (drownedOf l0 l1).length ≤ l1.length := by
 unfold drownedOf
 rw [List.length_map]
 exact List.length_filter_le _ _
def impl_DrownedSumps.f (k : Nat) (l0 : List S54) (l1 : List S30) : Option (List Int × Bool) :=
 (impl_AreReadings.f k l0).bind fun t => if t = true then ((impl_AreSumps.f k l1).bind fun u => if u = true then (if l1.length < 17592186044416 then some (drownedOf l0 l1, true) else none) else some ([], false)) else some ([], false)
theorem take_snoc_rd (l1 : List S30) (kk : Nat) (h : kk < l1.length) : l1.take (kk + 1) = l1.take kk ++ [rd_T30 l1 (kk : Int)] := by
 rw [List.take_succ_eq_append_getElem h]
 congr 2
 show _ = l1.getD (kk : Int).toNat _
 rw [Int.toNat_natCast, List.getD_eq_getElem?_getD, List.getElem?_eq_getElem h]
 rfl
set_option maxHeartbeats 8000000 in
set_option maxRecDepth 100000 in
theorem impl_DrownedSumps.calls (k : Nat) (A0 : Option Addr) (c0 : Nat) (l0 : List S54) (A1 : Option Addr) (c1 : Nat) (l1 : List S30) (r1 : List Int) (r2 : Bool) (w : World) (hr0 : Kd.C k54 w A0 l0.length l0) (hc0 : l0.length ≤ c0) (hr1 : Kd.C k30 w A1 l1.length l1) (hc1 : l1.length ≤ c1) (h : impl_DrownedSumps.f k l0 l1 = some (r1, r2)) :
  Calls Try.prog 19 #[.slice A0 l0.length c0, .slice A1 l1.length c1] w fun e w' => ∃ v0_ : Value, e = .returned (.tuple #[v0_, .bool r2]) ∧ Kd.R (Kd.int .i64) 3 w' w.heap.size (fun _ => True) v0_ r1 ∧ Below w.heap.size w w' := by
 unfold impl_DrownedSumps.f at h
 obtain ⟨t, ht, h⟩ := Option.bind_eq_some_iff.mp h
 have HR0 := Aside0.mk hr0
 have HR1 := Aside0.mk hr1
 have HT := Aside0.mk ht
 have hL : l1.length ≤ 9223372036854775807 := hr1.2.1
 clear hr0 hr1 ht
 cases t with
 | false =>
  rw [if_neg (by decide)] at h
  simp only [Option.some.injEq, Prod.mk.injEq] at h
  obtain ⟨rfl, rfl⟩ := h
  go_enter Try.func19, Try.ntmps19
  go_wp2_with (first | (go_at_call 34; refine (impl_AreReadings.calls k A0 c0 l0 false _ HR0.out hc0 HT.out).mono ?_; rintro e w' ⟨rfl, hb⟩))
  go_ret2
  exact ⟨_, rfl, Kd.R_nil _ _ _ _ _, hb⟩
 | true =>
  rw [if_pos rfl] at h
  obtain ⟨u, hu, h⟩ := Option.bind_eq_some_iff.mp h
  have HU := Aside0.mk hu
  clear hu
  cases u with
  | false =>
   rw [if_neg (by decide)] at h
   simp only [Option.some.injEq, Prod.mk.injEq] at h
   obtain ⟨rfl, rfl⟩ := h
   go_enter Try.func19, Try.ntmps19
   go_wp2_with (first | (go_at_call 34; refine (impl_AreReadings.calls k A0 c0 l0 true _ HR0.out hc0 HT.out).mono ?_; rintro e w1 ⟨rfl, hb⟩) | (go_at_call 50; refine (impl_AreSumps.calls k A1 c1 l1 false _ (Kd.C_below HR1.out hb) hc1 HU.out).mono ?_; rintro e w2 ⟨rfl, hb2⟩))
   go_ret2
   exact ⟨_, rfl, Kd.R_nil _ _ _ _ _, below_step hb hb2⟩
  | true =>
   rw [if_pos rfl] at h
   by_cases hlen : l1.length < 17592186044416
   ·
    rw [if_pos hlen] at h
    simp only [Option.some.injEq, Prod.mk.injEq] at h
    obtain ⟨rfl, rfl⟩ := h
    go_enter Try.func19, Try.ntmps19
    go_wp2_with (first | (go_at_call 34; refine (impl_AreReadings.calls k A0 c0 l0 true _ HR0.out hc0 HT.out).mono ?_; rintro e w1 ⟨rfl, hb⟩) | (go_at_call 50; refine (impl_AreSumps.calls k A1 c1 l1 true _ (Kd.C_below HR1.out hb) hc1 HU.out).mono ?_; rintro e w2 ⟨rfl, hb2⟩))
    have HB := Aside0.mk (below_step hb hb2)
    clear hb hb2
    go_loopg [6, 19] l1.length (fun gg v6 v19 wr => ∃ kk : Nat, kk ≤ l1.length ∧ l1.length - kk ≤ gg ∧ v19 = .int .i64 kk ∧ Aside0 (Kd.R (Kd.int .i64) 3 wr w.heap.size (fun _ => True) v6 (drownedOf l0 (l1.take kk))) ∧ Aside0 (Below w.heap.size w wr))
    case atStart => exact ⟨0, Nat.zero_le _, by omega, rfl, ⟨Kd.R_nil _ _ _ _ _⟩, HB⟩
    case round =>
     clear HB
     obtain ⟨kk, hkk, hg, rfl, HO, HB⟩ := hrel
     by_cases hlt : kk < l1.length
     ·
      have hltz : (kk : Int) < (l1.length : Int) := by omega
      have hk0 : (0 : Int) ≤ (kk : Int) := by omega
      obtain ⟨ad, e0, hx0, hx1, hx2⟩ := at_T30 HR1.out (kk : Int) hk0 hltz
      have hts := take_snoc_rd l1 kk hlt
      have HTS := Aside0.mk (hts ▸ drownedOf_snoc l0 (l1.take kk) (rd_T30 l1 (kk : Int)))
      clear hts
      generalize rd_T30 l1 (kk : Int) = y at hx0 hx1 hx2 HTS
      replace hx0 := bc_ HB.out hx0
      replace hx1 := bc_ HB.out hx1
      replace hx2 := bc_ HB.out hx2
      subst e0
      rw [Int.toNat_natCast] at hx0 hx1 hx2
      have hcon := containsR.calls (fun r => decide (r.f1 > y.f1)) 65 #[.pointer (some ⟨wr.heap.size, 0, none⟩)] (enters_of Try.func65 (by kernel_rfl) rfl) A0 c0 l0 (wr.alloc (.cells #[.int .i64 y.f0, .int .i64 y.f1, .int .i64 y.f2] 30)) (Kd.C_alloc (Kd.C_below HR0.out HB.out) _) hc0
       (fun W x _ hb => (drowned1.calls x wr.heap.size y W (by have := hb.size; simp at this; omega) ((hb.cell (p := ⟨wr.heap.size, 1, none⟩) (by simp)).trans (blk_cell (heap_new_ wr _ _) 1))).mono (fun e w' ⟨he, hb'⟩ => ⟨he, below_step hb hb'⟩))
      have HCON := Aside0.mk hcon
      clear hcon
      cases hq : l0.any (fun r => decide (r.f1 > y.f1)) with
      | true =>
       rw [hq] at HCON
       go_wp2_with (first | (go_at_call 64; refine HCON.out.mono ?_; rintro e w3 ⟨rfl, hb3⟩; have hcy := (hb3.cell (p := ⟨wr.heap.size, 0, none⟩) (by simp)).trans (blk_cell (heap_new_ wr _ _) 0); have HB3 := Aside0.mk hb3; clear hb3; simp only [List.getElem?_toArray, List.getElem?_cons_zero] at hcy) | ((with_reducible refine gate_builtin (b := .append) (xs := #[.tmp 26, .tmp 29]) rfl ?_); at_builtin; refine Kd.R_append (Kd.int .i64) (w0 := w) w.heap.size rfl (.tmp 26) (.tmp 29) 36 3 (.int .i64 0) 8 rfl Try.underlying36 info3 rfl (by decide) (by omega) u6 (drownedOf l0 (l1.take kk)) y.f0 [.int .i64 y.f0] (fun _ => True) (fun _ => False) rfl rfl rfl (fun _ hk => hk.elim) (fun _ _ => trivial) (Kd.R_below (Kd.R_alloc HO.out _) HB3.out) (below_step (below_alloc HB.out _) HB3.out) (below_size (below_step (below_alloc HB.out _) HB3.out)) (by have h1_ := drownedOf_len l0 (l1.take kk); rw [List.length_take] at h1_; omega) ?_; intro v4 w4 ho hb4 hg4 hat4; have HO4 := Aside0.mk ho; have HB4 := Aside0.mk hb4; clear ho hb4 hg4 hat4))
       go_roundg (l1.length - (kk + 1))
       case measure => omega
       case rel =>
        refine ⟨kk + 1, by omega, by omega, by go_num, ⟨?_⟩, HB4⟩
        rw [HTS.out, hq, if_pos rfl]
        exact HO4.out
      | false =>
       rw [hq] at HCON
       go_wp2_with (first | (go_at_call 64; refine HCON.out.mono ?_; rintro e w3 ⟨rfl, hb3⟩))
       go_roundg (l1.length - (kk + 1))
       case measure => omega
       case rel =>
        have hB4 : Below w.heap.size w w3 := below_step (below_alloc HB.out _) hb3; refine ⟨kk + 1, by omega, by omega, by go_num, ⟨?_⟩, ⟨hB4⟩⟩
        rw [HTS.out, hq, if_neg (by decide)]
        exact Kd.R_below (Kd.R_alloc HO.out _) hb3
     ·
      have hkl : kk = l1.length := by omega
      have hltz : ¬ (kk : Int) < (l1.length : Int) := by omega
      have HO2 : Aside0 (Kd.R (Kd.int .i64) 3 wr w.heap.size (fun _ => True) u6 (drownedOf l0 l1)) := ⟨by have := HO.out; rw [hkl, List.take_of_length_le (Nat.le_refl _)] at this; exact this⟩
      go_wp2
      go_ret2
      exact ⟨_, rfl, HO2.out, HB.out⟩
   ·
    rw [if_neg hlen] at h
    cases h
def laws_rBig.f (l0 : List Int) : Option (Bool) := some (decide ((l0.length : Int) > 65536))
set_option maxHeartbeats 8000000 in
set_option maxRecDepth 100000 in
theorem laws_rBig.calls (A0 : Option Addr) (c0 : Nat) (l0 : List Int) (r : Bool) (w : World) (hr0 : Kd.C (Kd.int .u8) w A0 l0.length l0) (hc0 : l0.length ≤ c0) (h : laws_rBig.f l0 = some r) :
  Calls Try.prog 26 #[.slice A0 l0.length c0] w fun e w' => e = .returned (.bool r) ∧ Drawn0 w w' := by
 have HR0 := Aside0.mk hr0
 have HC0 := Aside0.mk hc0
 clear hr0 hc0
 have H : (some (decide ((l0.length : Int) > 65536))) = some r := h
 clear h
 obtain rfl := Option.some.inj H
 go_enter Try.func26, Try.ntmps26
 go_wp2
 go_ret
 exact ⟨by first | rfl | (simp; done) | (simp [*]; done), by repeat (first | exact Drawn0.refl _ | apply Drawn0.step)⟩
mutual
def spec_OpenSpans.j0 : Nat → List (S54) → List (List Int) → Bool → Int → Int → Int → Option ((List (List Int)) × Bool)
 | 0, _, _, _, _, _, _ => none
 | k + 1, x0, x6, x17, x473000, x473001, x473002 => if x17 = true then (some (x6, false)) else (spec_OpenSpans.l0 k x0 x6 0 x473000 x473001 x473002)
def spec_OpenSpans.l0 : Nat → List (S54) → List (List Int) → Int → Int → Int → Int → Option ((List (List Int)) × Bool)
 | 0, _, _, _, _, _, _ => none
 | k + 1, x0, x6, x7, x473000, x473001, x473002 => if x7 ≤ 999 then ((spec_l23Within.f k x0 x7).bind fun t478 => (if t478 = true then ((spec_l23Open.f k x0 x473000 x473001 x473002 x7).bind fun t479 => (spec_OpenSpans.j2 k x0 x6 x7 (!t479) x473000 x473001 x473002)) else (spec_OpenSpans.j2 k x0 x6 x7 true x473000 x473001 x473002))) else (some (x6, true))
def spec_OpenSpans.j2 : Nat → List (S54) → List (List Int) → Int → Bool → Int → Int → Int → Option ((List (List Int)) × Bool)
 | 0, _, _, _, _, _, _, _ => none
 | k + 1, x0, x6, x7, x33, x473000, x473001, x473002 => if x33 = true then (spec_OpenSpans.l0 k x0 x6 (wrap64 (x7 + 1)) x473000 x473001 x473002) else (if (x6.length : Int) > 0 then (if 0 ≤ (wrap64 ((x6.length : Int) - 1)) then (if (wrap64 ((x6.length : Int) - 1)) < (x6.length : Int) then (if 1 < ((rd_L9 x6 (wrap64 ((x6.length : Int) - 1))).length : Int) then (if (rd (rd_L9 x6 (wrap64 ((x6.length : Int) - 1))) 1) = (wrap64 (x7 - 1)) then (if 0 < ((rd_L9 x6 (wrap64 ((x6.length : Int) - 1))).length : Int) then (spec_OpenSpans.l0 k x0 (x6.set ((wrap64 ((x6.length : Int) - 1)) : Int).toNat (([rd (rd_L9 x6 (wrap64 ((x6.length : Int) - 1))) 0, x7] : List Int))) (wrap64 (x7 + 1)) x473000 x473001 x473002) else (none)) else (if x6.length < 5864062014805 then (spec_OpenSpans.l0 k x0 (x6 ++ [(([x7, x7] : List Int))]) (wrap64 (x7 + 1)) x473000 x473001 x473002) else (none))) else (none)) else (none)) else (none)) else (if x6.length < 5864062014805 then (spec_OpenSpans.l0 k x0 (x6 ++ [(([x7, x7] : List Int))]) (wrap64 (x7 + 1)) x473000 x473001 x473002) else (none)))
end
def spec_OpenSpans.f (k : Nat) (l0 : List (S54)) (a1_0 : Int) (a1_1 : Int) (a1_2 : Int) : Option ((List (List Int)) × Bool) := (some (([] : List (List Int)) : List (List Int))).bind fun y473 => ((spec_l23Good.f k l0).bind fun t476 => (if t476 = true then ((spec_l23Sump.f a1_0 a1_1 a1_2).bind fun t477 => (spec_OpenSpans.j0 k l0 y473 (!t477) a1_0 a1_1 a1_2)) else (spec_OpenSpans.j0 k l0 y473 true a1_0 a1_1 a1_2)))
set_option maxHeartbeats 8000000 in
set_option maxRecDepth 100000 in
theorem spec_OpenSpans.calls (k : Nat) (A0 : Option Addr) (c0 : Nat) (l0 : List (S54)) (a1_0 : Int) (a1_1 : Int) (a1_2 : Int) (r1 : List (List Int)) (r2 : Bool) (w : World) (hr0 : Kd.C k54 w A0 l0.length l0) (hc0 : l0.length ≤ c0) (h : spec_OpenSpans.f k l0 a1_0 a1_1 a1_2 = some (r1, r2)) :
  Calls Try.prog 36 #[.slice A0 l0.length c0, .agg #[.int .i64 a1_0, .int .i64 a1_1, .int .i64 a1_2]] w fun e w' => ∃ v0_ : Value, e = .returned (.tuple #[v0_, .bool r2]) ∧ Kd.S (Kd.slice 3 (Kd.int .i64)) 36 w' w.heap.size (fun _ => True) v0_ r1 ∧ Below w.heap.size w w' := by
 have hu30 := Try.underlying30
 have HR0 := Aside0.mk hr0
 have HC0 := Aside0.mk hc0
 clear hr0 hc0
 have HB := Aside0.mk (Below.refl w.heap.size w)
 have H : ((some (([] : List (List Int)) : List (List Int))).bind fun y473 => ((spec_l23Good.f k l0).bind fun t476 => (if t476 = true then ((spec_l23Sump.f a1_0 a1_1 a1_2).bind fun t477 => (spec_OpenSpans.j0 k l0 y473 (!t477) a1_0 a1_1 a1_2)) else (spec_OpenSpans.j0 k l0 y473 true a1_0 a1_1 a1_2)))) = some (r1, r2) := h
 clear h
 obtain ⟨y473, hy473⟩ : ∃ y_ : List (List Int), y_ = (([] : List (List Int))) := ⟨_, rfl⟩
 replace H : ((spec_l23Good.f k l0).bind fun t476 => (if t476 = true then ((spec_l23Sump.f a1_0 a1_1 a1_2).bind fun t477 => (spec_OpenSpans.j0 k l0 y473 (!t477) a1_0 a1_1 a1_2)) else (spec_OpenSpans.j0 k l0 y473 true a1_0 a1_1 a1_2))) = some (r1, r2) := by first | (rw [hy473]; with_reducible exact H) | (have H2_ := (Option.bind_some _ _).symm.trans H; rw [hy473]; with_reducible exact H2_) | (have H2_ := (Option.bind_some _ _).symm.trans H; with_reducible exact H2_) | with_reducible exact H | (rw [hy473]; exact H) | exact H
 have Ny473 := Aside0.mk hy473
 clear hy473
 have HC3 := Aside0.mk H
 clear H
 go_enter Try.func36, Try.ntmps36
 go_upto_region 2 with (first | ((with_reducible refine gate_dst (N := 3) rfl ?_); refine box_event ?hg (N := 3) ?hd (cs := #[.int .i64 a1_0, .int .i64 a1_1, .int .i64 a1_2]) (t := 30) ?hr ?_; (case hd => rfl); (case hg => rfl); (case hr => first | (go_simp; done) | (go_simp; rfl)); intro gb472 hg w4 hbox hb; have BK472 := Aside0.mk (hbox); have GW472 := Aside0.mk ((bz_ hg (lb0_ HB.out))); have GE472 := Aside0.mk ((bz_ hg (lb0_ HB.out))); replace HB := Aside0.mk (below_step (lb0_ HB.out) hb); clear hb hbox hg) | ((with_reducible refine gate_dst (N := 9) rfl ?_); refine Kd.S_lit (Kd.slice 3 (Kd.int .i64)) _ 36 ?hg (N := 9) ?hd (xs := ([] : List (List Int))) (inner := []) (ok := fun _ => True) (okp := fun _ => True) ?hr ?hp (fun _ hk => hk) trivial (Below.refl _ _) (Nat.le_refl _) (by simp) ?_; (case hd => rfl); (case hg => rfl); (case hr => first | (go_simp; done) | (go_simp; rfl)); (case hp => exact (Reps.none _ _)); intro v474 w5 ho6 hb hg_ hnew_; clear hg_ hnew_; (first | rw [← Ny473.out] at ho6 | (simp only [Int.reduceToNat] at ho6; rw [← Ny473.out] at ho6)); have HO475 := Aside0.mk (Kd.S_lower ho6 (below_size (lb1_ HB.out GE472.out))); replace BK472 := Aside0.mk (bb_ (bk_ BK472.out) hb); replace HB := Aside0.mk (below_step (lb1_ HB.out GE472.out) hb); clear hb ho6))
 (try simp only [Act.put, List.setIfInBounds_toArray, List.set_cons_zero, List.set_cons_succ])
 go_cut [17] (fun v17 wc => ∃ (kq : Nat) (x17_2 : Bool), v17 = .bool x17_2 ∧ Aside0 (spec_OpenSpans.j0 kq l0 y473 x17_2 a1_0 a1_1 a1_2 = some (r1, r2)) ∧ Aside0 (kq ≤ k) ∧ Aside0 (Kd.S (Kd.slice 3 (Kd.int .i64)) 36 wc w.heap.size (fun _ => True) v474 y473) ∧ Aside0 (wc.heap[gb472]? = some (.cells #[.int .i64 a1_0, .int .i64 a1_1, .int .i64 a1_2] 30 (0, 0))) ∧ Aside0 (Below w.heap.size w wc))
 case first =>
  have H := HC3.out
  clear HC3
  replace H := Option.bind_eq_some_iff.mp H
  obtain ⟨t476, A70, H⟩ := H
  replace H : (if t476 = true then ((spec_l23Sump.f a1_0 a1_1 a1_2).bind fun t477 => (spec_OpenSpans.j0 k l0 y473 (!t477) a1_0 a1_1 a1_2)) else (spec_OpenSpans.j0 k l0 y473 true a1_0 a1_1 a1_2)) = some (r1, r2) := H
  have A7 := Aside0.mk A70
  clear A70
  by_cases c8 : t476 = true
  ·
   subst c8
   have H1 : ((spec_l23Sump.f a1_0 a1_1 a1_2).bind fun t477 => (spec_OpenSpans.j0 k l0 y473 (!t477) a1_0 a1_1 a1_2)) = some (r1, r2) := by rw [if_pos rfl] at H; exact H
   clear H
   have H := H1
   clear H1
   replace H := Option.bind_eq_some_iff.mp H
   obtain ⟨t477, A90, H⟩ := H
   replace H : (spec_OpenSpans.j0 k l0 y473 (!t477) a1_0 a1_1 a1_2) = some (r1, r2) := H
   have A9 := Aside0.mk A90
   clear A90
   have H' := Aside0.mk H
   clear H
   go_wp2_with (first | ((with_reducible refine gate_callee (f := 62) rfl ?_); refine ga_ (some 11) Try.func62 #[.slice A0 l0.length c0] ?_; (with_reducible refine (spec_l23Good.calls k _ _ l0 true _ ?side1 ?side2 A7.out).mono ?_); (case side1 => exact kc_ (Kd.C_below HR0.out HB.out)); (case side2 => exact HC0.out); rintro e w10 ⟨rfl, hb⟩; refine ⟨_, rfl, ?_⟩; replace HO475 := Aside0.mk (Kd.S_below (by (with_reducible repeat (first | apply Kd.S_alloc | apply Kd.S_drewN | apply Kd.S_drew)); exact HO475.out) hb); replace BK472 := Aside0.mk (bb_ (bk_ BK472.out) hb); replace HB := Aside0.mk (below_step (lb1_ HB.out GE472.out) hb); (try clear hb); (try clear hb2); (try clear hk); (try clear hi); obtain ⟨hcz11_0, hcz11_1, hcz11_2⟩ := cz3_ BK472.out; obtain ⟨hfz11_0, hfz11_1, hfz11_2⟩ := fz3_ BK472.out) | (go_at_call 55; (with_reducible refine (spec_l23Sump.calls a1_0 a1_1 a1_2 t477 _ A9.out).mono ?_); rintro e w12 ⟨rfl, hb⟩; replace HO475 := Aside0.mk (Kd.S_below (by (with_reducible repeat (first | apply Kd.S_alloc | apply Kd.S_drewN | apply Kd.S_drew)); exact HO475.out) hb); replace BK472 := Aside0.mk (bb_ (bk_ BK472.out) hb); replace HB := Aside0.mk (below_step (lb1_ HB.out GE472.out) hb); (try clear hb); (try clear hb2); (try clear hk); (try clear hi)))
   go_meet
   case rel => exact ⟨_, (!t477), (by first | rfl | (simp; done) | (simp [*]; done)), H', ⟨by first | omega | exact Nat.le_refl _⟩, ⟨by (with_reducible repeat (first | apply Kd.S_alloc | apply Kd.S_drewN | apply Kd.S_drew)); exact HO475.out⟩, ⟨bk_ BK472.out⟩, ⟨lb1_ HB.out GE472.out⟩⟩
  ·
   replace c8 := Bool.eq_false_iff.mpr c8
   subst c8
   have H1 : (spec_OpenSpans.j0 k l0 y473 true a1_0 a1_1 a1_2) = some (r1, r2) := by rw [if_neg (show ¬ (false = true) by decide)] at H; exact H
   clear H
   have H := H1
   clear H1
   have H' := Aside0.mk H
   clear H
   go_wp2_with (first | ((with_reducible refine gate_callee (f := 62) rfl ?_); refine ga_ (some 11) Try.func62 #[.slice A0 l0.length c0] ?_; (with_reducible refine (spec_l23Good.calls k _ _ l0 false _ ?side1 ?side2 A7.out).mono ?_); (case side1 => exact kc_ (Kd.C_below HR0.out HB.out)); (case side2 => exact HC0.out); rintro e w13 ⟨rfl, hb⟩; refine ⟨_, rfl, ?_⟩; replace HO475 := Aside0.mk (Kd.S_below (by (with_reducible repeat (first | apply Kd.S_alloc | apply Kd.S_drewN | apply Kd.S_drew)); exact HO475.out) hb); replace BK472 := Aside0.mk (bb_ (bk_ BK472.out) hb); replace HB := Aside0.mk (below_step (lb1_ HB.out GE472.out) hb); (try clear hb); (try clear hb2); (try clear hk); (try clear hi)))
   go_meet
   case rel => exact ⟨_, (true), (by first | rfl | (simp; done) | (simp [*]; done)), H', ⟨by first | omega | exact Nat.le_refl _⟩, ⟨by (with_reducible repeat (first | apply Kd.S_alloc | apply Kd.S_drewN | apply Kd.S_drew)); exact HO475.out⟩, ⟨bk_ BK472.out⟩, ⟨lb1_ HB.out GE472.out⟩⟩
 case rest =>
  clear HC3
  try clear p2
  try clear c3
  try clear c6
  try clear c8
  try clear hcz11_0 hcz11_1 hcz11_2
  try clear hfz11_0 hfz11_1 hfz11_2
  obtain ⟨kq, x17_2, rfl, HA, HJ2, HO_6, BK472, HB⟩ := hcut
  cases kq with
  | zero => exact absurd HA.out (by simp [spec_OpenSpans.j0])
  | succ kj2 =>
   have H := HA.out
   clear HA
   simp only [spec_OpenSpans.j0] at H
   by_cases c14 : x17_2 = true
   ·
    subst c14
    have H1 : (some (y473, false)) = some (r1, r2) := by rw [if_pos rfl] at H; exact H
    clear H
    have H := H1
    clear H1
    simp only [Option.some.injEq, Prod.mk.injEq] at H
    obtain ⟨rfl, rfl⟩ := H
    go_wp2
    go_ret2
    exact ⟨_, rr_, by (with_reducible repeat (first | apply Kd.S_alloc | apply Kd.S_drewN | apply Kd.S_drew)); exact HO_6.out, lb1_ HB.out GE472.out⟩
   ·
    replace c14 := Bool.eq_false_iff.mpr c14
    subst c14
    have H1 : (spec_OpenSpans.l0 kj2 l0 y473 0 a1_0 a1_1 a1_2) = some (r1, r2) := by rw [if_neg (show ¬ (false = true) by decide)] at H; exact H
    clear H
    have H := H1
    clear H1
    have H' := Aside0.mk H
    clear H
    go_wp2
    go_loopg [6, 7] kj2 (fun kq v6 v7 w' => ∃ (x6_2 : List (List Int)) (x7_2 : Int), v7 = .int .i64 x7_2 ∧ Aside0 (spec_OpenSpans.l0 kq l0 x6_2 x7_2 a1_0 a1_1 a1_2 = some (r1, r2)) ∧ Aside0 (kq ≤ kj2) ∧ Aside0 (Kd.S (Kd.slice 3 (Kd.int .i64)) 36 w' w.heap.size (fun _ => True) v6 x6_2) ∧ Aside0 (w'.heap[gb472]? = some (.cells #[.int .i64 a1_0, .int .i64 a1_1, .int .i64 a1_2] 30 (0, 0))) ∧ Aside0 (Below w.heap.size w w'))
    case atStart => exact ⟨(y473), (0), (by first | rfl | (simp; done) | (simp [*]; done)), H', ⟨Nat.le_refl _⟩, ⟨by (with_reducible repeat (first | apply Kd.S_alloc | apply Kd.S_drewN | apply Kd.S_drew)); exact HO_6.out⟩, ⟨bk_ BK472.out⟩, ⟨lb1_ HB.out GE472.out⟩⟩
    case round =>
     clear H'
     try clear c1
     try clear p2
     try clear c3
     try clear c6
     try clear c8
     try clear c14
     try clear hcz11_0 hcz11_1 hcz11_2
     try clear hfz11_0 hfz11_1 hfz11_2
     try clear p2
     obtain ⟨x6_2, x7_2, rfl, HA, HK2, HO_6, BK472, HB⟩ := hrel
     cases gk with
     | zero => exact absurd HA.out (by simp [spec_OpenSpans.l0])
     | succ k2 =>
      have H := HA.out
      clear HA
      simp only [spec_OpenSpans.l0] at H
      by_cases c15 : x7_2 ≤ 999
      ·
       rw [if_pos c15] at H
       have c15b0 : decide (x7_2 ≤ 999) = true := decide_eq_true c15
       clear c15
       have HC16 := Aside0.mk H
       clear H
       go_upto_region 7 with (fail)
       go_cut [33] (fun v33 wc => ∃ (kq : Nat) (x33_15 : Bool), v33 = .bool x33_15 ∧ Aside0 (spec_OpenSpans.j2 kq l0 x6_2 x7_2 x33_15 a1_0 a1_1 a1_2 = some (r1, r2)) ∧ Aside0 (kq ≤ k2) ∧ Aside0 (Kd.S (Kd.slice 3 (Kd.int .i64)) 36 wc w.heap.size (fun _ => True) u6 x6_2) ∧ Aside0 (wc.heap[gb472]? = some (.cells #[.int .i64 a1_0, .int .i64 a1_1, .int .i64 a1_2] 30 (0, 0))) ∧ Aside0 (Below w.heap.size w wc))
       case first =>
        have H := HC16.out; clear HC16; replace H := Option.bind_eq_some_iff.mp H; obtain ⟨t478, A170, H⟩ := H; replace H : (if t478 = true then ((spec_l23Open.f k2 l0 a1_0 a1_1 a1_2 x7_2).bind fun t479 => (spec_OpenSpans.j2 k2 l0 x6_2 x7_2 (!t479) a1_0 a1_1 a1_2)) else (spec_OpenSpans.j2 k2 l0 x6_2 x7_2 true a1_0 a1_1 a1_2)) = some (r1, r2) := H; have A17 := Aside0.mk A170; clear A170
        by_cases c18 : t478 = true
        ·
         subst c18
         have H1 : ((spec_l23Open.f k2 l0 a1_0 a1_1 a1_2 x7_2).bind fun t479 => (spec_OpenSpans.j2 k2 l0 x6_2 x7_2 (!t479) a1_0 a1_1 a1_2)) = some (r1, r2) := by rw [if_pos rfl] at H; exact H
         clear H; have H := H1; clear H1; replace H := Option.bind_eq_some_iff.mp H; obtain ⟨t479, A190, H⟩ := H; replace H : (spec_OpenSpans.j2 k2 l0 x6_2 x7_2 (!t479) a1_0 a1_1 a1_2) = some (r1, r2) := H; have A19 := Aside0.mk A190; clear A190; have H' := Aside0.mk H; clear H
         go_wp2_with (first | ((with_reducible refine gate_callee (f := 54) rfl ?_); refine ga_ (some 25) Try.func54 #[.slice A0 l0.length c0, .int .i64 x7_2] ?_; (with_reducible refine (spec_l23Within.calls k2 _ _ l0 x7_2 true _ ?side1 ?side2 A17.out).mono ?_); (case side1 => exact kc_ (Kd.C_below HR0.out HB.out)); (case side2 => exact HC0.out); rintro e w20 ⟨rfl, hb⟩; refine ⟨_, rfl, ?_⟩; replace HO_6 := Aside0.mk (Kd.S_below (by (with_reducible repeat (first | apply Kd.S_alloc | apply Kd.S_drewN | apply Kd.S_drew)); exact HO_6.out) hb); replace BK472 := Aside0.mk (bb_ (bk_ BK472.out) hb); replace HB := Aside0.mk (below_step (lb1_ HB.out GE472.out) hb); (try clear hb); (try clear hb2); (try clear hk); (try clear hi); obtain ⟨hcz21_0, hcz21_1, hcz21_2⟩ := cz3_ BK472.out; obtain ⟨hfz21_0, hfz21_1, hfz21_2⟩ := fz3_ BK472.out) | (go_at_call 56; (with_reducible refine (spec_l23Open.calls k2 _ _ l0 a1_0 a1_1 a1_2 x7_2 t479 _ ?side1 ?side2 A19.out).mono ?_); (case side1 => exact kc_ (Kd.C_below HR0.out HB.out)); (case side2 => exact HC0.out); rintro e w22 ⟨rfl, hb⟩; replace HO_6 := Aside0.mk (Kd.S_below (by (with_reducible repeat (first | apply Kd.S_alloc | apply Kd.S_drewN | apply Kd.S_drew)); exact HO_6.out) hb); replace BK472 := Aside0.mk (bb_ (bk_ BK472.out) hb); replace HB := Aside0.mk (below_step (lb1_ HB.out GE472.out) hb); (try clear hb); (try clear hb2); (try clear hk); (try clear hi)))
         go_meet
         case rel => exact ⟨_, (!t479), (by first | rfl | (simp; done) | (simp [*]; done)), H', ⟨by have := HJ2.out; have := HK2.out; first | omega | exact Nat.le_refl _⟩, ⟨by (with_reducible repeat (first | apply Kd.S_alloc | apply Kd.S_drewN | apply Kd.S_drew)); exact HO_6.out⟩, ⟨bk_ BK472.out⟩, ⟨lb1_ HB.out GE472.out⟩⟩
        ·
         replace c18 := Bool.eq_false_iff.mpr c18; subst c18
         have H1 : (spec_OpenSpans.j2 k2 l0 x6_2 x7_2 true a1_0 a1_1 a1_2) = some (r1, r2) := by rw [if_neg (show ¬ (false = true) by decide)] at H; exact H
         clear H; have H := H1; clear H1; have H' := Aside0.mk H; clear H
         go_wp2_with (first | ((with_reducible refine gate_callee (f := 54) rfl ?_); refine ga_ (some 25) Try.func54 #[.slice A0 l0.length c0, .int .i64 x7_2] ?_; (with_reducible refine (spec_l23Within.calls k2 _ _ l0 x7_2 false _ ?side1 ?side2 A17.out).mono ?_); (case side1 => exact kc_ (Kd.C_below HR0.out HB.out)); (case side2 => exact HC0.out); rintro e w23 ⟨rfl, hb⟩; refine ⟨_, rfl, ?_⟩; replace HO_6 := Aside0.mk (Kd.S_below (by (with_reducible repeat (first | apply Kd.S_alloc | apply Kd.S_drewN | apply Kd.S_drew)); exact HO_6.out) hb); replace BK472 := Aside0.mk (bb_ (bk_ BK472.out) hb); replace HB := Aside0.mk (below_step (lb1_ HB.out GE472.out) hb); (try clear hb); (try clear hb2); (try clear hk); (try clear hi)))
         go_meet
         case rel => exact ⟨_, (true), (by first | rfl | (simp; done) | (simp [*]; done)), H', ⟨by have := HJ2.out; have := HK2.out; first | omega | exact Nat.le_refl _⟩, ⟨by (with_reducible repeat (first | apply Kd.S_alloc | apply Kd.S_drewN | apply Kd.S_drew)); exact HO_6.out⟩, ⟨bk_ BK472.out⟩, ⟨lb1_ HB.out GE472.out⟩⟩
       case rest =>
        clear HC16
        try clear c1
        try clear p2
        try clear c3
        try clear c5
        try clear c6
        try clear c8
        try clear c14
        try clear c15
        try clear c15b0
        try clear c18
        try clear hcz11_0 hcz11_1 hcz11_2
        try clear hcz21_0 hcz21_1 hcz21_2
        try clear hfz11_0 hfz11_1 hfz11_2
        try clear hfz21_0 hfz21_1 hfz21_2
        try clear p2
        obtain ⟨kq, x33_15, rfl, HA, HJ15, HO_6, BK472, HB⟩ := hcut
        cases kq with
        | zero => exact absurd HA.out (by simp [spec_OpenSpans.j2])
        | succ kj15 =>
         have H := HA.out; clear HA; simp only [spec_OpenSpans.j2] at H
         by_cases c24 : x33_15 = true
         ·
          subst c24
          have H1 : (spec_OpenSpans.l0 kj15 l0 x6_2 (wrap64 (x7_2 + 1)) a1_0 a1_1 a1_2) = some (r1, r2) := by rw [if_pos rfl] at H; exact H
          clear H; have H := H1; clear H1; have H' := Aside0.mk H; clear H
          go_wp2
          go_roundg kj15
          case measure => have := HJ2.out; have := HK2.out; have := HJ15.out; omega
          case rel => exact ⟨(x6_2), (wrap64 (x7_2 + 1)), (by first | rfl | (simp; done) | (simp [*]; done)), H', ⟨by have := HJ2.out; have := HK2.out; have := HJ15.out; omega⟩, ⟨by (with_reducible repeat (first | apply Kd.S_alloc | apply Kd.S_drewN | apply Kd.S_drew)); exact HO_6.out⟩, ⟨bk_ BK472.out⟩, ⟨lb1_ HB.out GE472.out⟩⟩
         ·
          replace c24 := Bool.eq_false_iff.mpr c24; subst c24
          have H1 : (if (x6_2.length : Int) > 0 then (if 0 ≤ (wrap64 ((x6_2.length : Int) - 1)) then (if (wrap64 ((x6_2.length : Int) - 1)) < (x6_2.length : Int) then (if 1 < ((rd_L9 x6_2 (wrap64 ((x6_2.length : Int) - 1))).length : Int) then (if (rd (rd_L9 x6_2 (wrap64 ((x6_2.length : Int) - 1))) 1) = (wrap64 (x7_2 - 1)) then (if 0 < ((rd_L9 x6_2 (wrap64 ((x6_2.length : Int) - 1))).length : Int) then (spec_OpenSpans.l0 kj15 l0 (x6_2.set ((wrap64 ((x6_2.length : Int) - 1)) : Int).toNat (([rd (rd_L9 x6_2 (wrap64 ((x6_2.length : Int) - 1))) 0, x7_2] : List Int))) (wrap64 (x7_2 + 1)) a1_0 a1_1 a1_2) else (none)) else (if x6_2.length < 5864062014805 then (spec_OpenSpans.l0 kj15 l0 (x6_2 ++ [(([x7_2, x7_2] : List Int))]) (wrap64 (x7_2 + 1)) a1_0 a1_1 a1_2) else (none))) else (none)) else (none)) else (none)) else (if x6_2.length < 5864062014805 then (spec_OpenSpans.l0 kj15 l0 (x6_2 ++ [(([x7_2, x7_2] : List Int))]) (wrap64 (x7_2 + 1)) a1_0 a1_1 a1_2) else (none))) = some (r1, r2) := by rw [if_neg (show ¬ (false = true) by decide)] at H; exact H
          clear H; have H := H1; clear H1
          by_cases c25 : (x6_2.length : Int) > 0
          ·
           rw [if_pos c25] at H
           have c25b0 : decide (0 < (x6_2.length : Int)) = true := decide_eq_true c25; have c25b1 : decide (0 < x6_2.length) = true := decide_eq_true (by omega); clear c25
           obtain ⟨ji26, hji26⟩ : ∃ j_ : Int, (wrap64 ((x6_2.length : Int) - 1)) = j_ := ⟨_, rfl⟩
           replace H : (if 0 ≤ (ji26) then (if (ji26) < (x6_2.length : Int) then (if 1 < ((rd_L9 x6_2 (ji26)).length : Int) then (if (rd (rd_L9 x6_2 (ji26)) 1) = (wrap64 (x7_2 - 1)) then (if 0 < ((rd_L9 x6_2 (ji26)).length : Int) then (spec_OpenSpans.l0 kj15 l0 (x6_2.set ((ji26) : Int).toNat (([rd (rd_L9 x6_2 (ji26)) 0, x7_2] : List Int))) (wrap64 (x7_2 + 1)) a1_0 a1_1 a1_2) else (none)) else (if x6_2.length < 5864062014805 then (spec_OpenSpans.l0 kj15 l0 (x6_2 ++ [(([x7_2, x7_2] : List Int))]) (wrap64 (x7_2 + 1)) a1_0 a1_1 a1_2) else (none))) else (none)) else (none)) else (none)) = some (r1, r2) := by first | (rw [hji26] at H; exact H) | (simp only [hji26] at H ⊢; exact H)
           have hji26w : (IntKind.i64.wrap ((x6_2.length : Int) - 1)) = ji26 := (i64_w _).trans hji26
           by_cases c27 : 0 ≤ (ji26)
           ·
            rw [if_pos c27] at H
            have c27b0 : decide (0 ≤ (ji26)) = true := decide_eq_true c27; clear c27
            by_cases c28 : (ji26) < (x6_2.length : Int)
            ·
             rw [if_pos c28] at H
             have c28b0 : decide ((ji26) < (x6_2.length : Int)) = true := decide_eq_true c28; clear c28
             by_cases c29 : 1 < ((rd_L9 x6_2 (ji26)).length : Int)
             ·
              rw [if_pos c29] at H
              have c29b0 : decide (1 < ((rd_L9 x6_2 (ji26)).length : Int)) = true := decide_eq_true c29; have c29b1 : decide (1 < (rd_L9 x6_2 (ji26)).length) = true := decide_eq_true (by omega); clear c29
              by_cases c30 : (rd (rd_L9 x6_2 (ji26)) 1) = (wrap64 (x7_2 - 1))
              ·
               rw [if_pos c30] at H
               have c30b0 : ((rd (rd_L9 x6_2 (ji26)) 1) == (wrap64 (x7_2 - 1))) = true := beq_iff_eq.mpr c30; have c30b1 : ((rd (rd_L9 x6_2 (ji26)) 1) != (wrap64 (x7_2 - 1))) = false := bne_eq_false_iff_eq.mpr c30; clear c30
               by_cases c31 : 0 < ((rd_L9 x6_2 (ji26)).length : Int)
               ·
                rw [if_pos c31] at H
                have c31b0 : decide (0 < ((rd_L9 x6_2 (ji26)).length : Int)) = true := decide_eq_true c31; have c31b1 : decide (0 < (rd_L9 x6_2 (ji26)).length) = true := decide_eq_true (by omega); clear c31
                obtain ⟨y484, hy484⟩ : ∃ y_ : List Int, y_ = (([rd (rd_L9 x6_2 (ji26)) 0, x7_2] : List Int)) := ⟨_, rfl⟩
                replace H : (spec_OpenSpans.l0 kj15 l0 (x6_2.set ((ji26) : Int).toNat y484) (wrap64 (x7_2 + 1)) a1_0 a1_1 a1_2) = some (r1, r2) := by first | (rw [hy484]; with_reducible exact H) | (have H2_ := (Option.bind_some _ _).symm.trans H; rw [hy484]; with_reducible exact H2_) | (have H2_ := (Option.bind_some _ _).symm.trans H; with_reducible exact H2_) | with_reducible exact H | (rw [hy484]; exact H) | exact H
                have Ny484 := Aside0.mk hy484; clear hy484
                obtain ⟨y487, hy487⟩ : ∃ y_ : List (List Int), y_ = (x6_2.set ((ji26) : Int).toNat y484) := ⟨_, rfl⟩
                replace H : (spec_OpenSpans.l0 kj15 l0 y487 (wrap64 (x7_2 + 1)) a1_0 a1_1 a1_2) = some (r1, r2) := by first | (rw [hy487]; with_reducible exact H) | (have H2_ := (Option.bind_some _ _).symm.trans H; rw [hy487]; with_reducible exact H2_) | (have H2_ := (Option.bind_some _ _).symm.trans H; with_reducible exact H2_) | with_reducible exact H | (rw [hy487]; exact H) | exact H
                have Ny487 := Aside0.mk hy487; clear hy487; have H' := Aside0.mk H; clear H; obtain ⟨Ao33, co33, eo33⟩ := Kd.S_slice HO_6.out; subst eo33; have p480 : 0 ≤ ((ji26) : Int) := dt_; have q480 : (ji26) < (x6_2.length : Int) := dt_; obtain ⟨ad480, A480_0, c480_0, e480, hx480_0, hl480_0, hi480_0⟩ := at_L9 (Kd.S_reads' HO_6.out).2.2 (ji26) p480 q480
                cases e480
                obtain ⟨ce480, hce480, hMe480, hcc480⟩ := Kd.S_get HO_6.out [] (ji26) p480 (by first | exact q480 | exact dt_ | (have e_ := (Kd.S_reads' HO_6.out).1; omega)); obtain ⟨ve480_0, rfl, ge480_0⟩ := hMe480; have hv480_0 := hcc480 0 _ rfl
                rw [Nat.add_zero, show ((Kd.slice 3 (Kd.int .i64))).sz = 1 from rfl, Nat.mul_one] at hv480_0
                replace hv480_0 := Option.some.inj (hv480_0.symm.trans hx480_0)
                rw [hv480_0] at ge480_0
                have HL480_0 := Aside0.mk (show Kd.R (Kd.int .i64) 3 _ _ _ _ (rd_L9 x6_2 (ji26)) from ge480_0); clear hv480_0 ge480_0; clear hcc480 hce480; have HR480_0 := Aside0.mk hi480_0; have HC480_0 := Aside0.mk hl480_0; clear hi480_0 hl480_0; replace p480 := eq_true p480; replace q480 := eq_true q480
                have p481 : 0 ≤ (1 : Int) := (by omega)
                have q481 : 1 < ((rd_L9 x6_2 (ji26)).length : Int) := dt_; obtain ⟨ad481, e481, hx481_0⟩ := Kd.at_int (by repeat (first | (with_reducible exact HR480_0.out) | (with_reducible refine Kd.C_alloc ?_ _) | (with_reducible refine Kd.C_drewN ?_ _) | (with_reducible refine Kd.C_drew ?_) | exact HR480_0.out)) 1 p481 q481
                cases e481
                (try simp only [show (1 : Int).toNat = 1 from rfl, Nat.reduceMul, Nat.reduceEqDiff, Go.Addr.add, ↓reduceIte] at hx481_0); have qi481 : (1 < (rd_L9 x6_2 (ji26)).length) = True := eq_true (by omega); (try rw [show ((1 : Int)).toNat = 1 from rfl] at hx481_0); replace p481 := eq_true p481; replace q481 := eq_true q481; have p482 : 0 ≤ ((ji26) : Int) := dt_; have q482 : (ji26) < (x6_2.length : Int) := dt_; obtain ⟨ad482, A482_0, c482_0, e482, hx482_0, hl482_0, hi482_0⟩ := at_L9 (Kd.S_reads' HO_6.out).2.2 (ji26) p482 q482
                obtain rfl : ad480 = ad482 := (by injection e482)
                obtain ⟨ce482, hce482, hMe482, hcc482⟩ := Kd.S_get HO_6.out [] (ji26) p482 (by first | exact q482 | exact dt_ | (have e_ := (Kd.S_reads' HO_6.out).1; omega)); obtain ⟨ve482_0, rfl, ge482_0⟩ := hMe482; have hv482_0 := hcc482 0 _ rfl
                rw [Nat.add_zero, show ((Kd.slice 3 (Kd.int .i64))).sz = 1 from rfl, Nat.mul_one] at hv482_0
                replace hv482_0 := Option.some.inj (hv482_0.symm.trans hx482_0)
                rw [hv482_0] at ge482_0
                have HL482_0 := Aside0.mk (show Kd.R (Kd.int .i64) 3 _ _ _ _ (rd_L9 x6_2 (ji26)) from ge482_0); clear hv482_0 ge482_0; clear hcc482 hce482; have HR482_0 := Aside0.mk hi482_0; have HC482_0 := Aside0.mk hl482_0; clear hi482_0 hl482_0; replace p482 := eq_true p482; replace q482 := eq_true q482; have ea_ := Option.some.inj (hx480_0.symm.trans hx482_0)
                injection ea_ with ea_ en_ ec_
                subst ea_; subst ec_; clear en_
                have p483 : 0 ≤ (0 : Int) := (by omega)
                have q483 : 0 < ((rd_L9 x6_2 (ji26)).length : Int) := dt_; obtain ⟨ad483, e483, hx483_0⟩ := Kd.at_int (by repeat (first | (with_reducible exact HR482_0.out) | (with_reducible refine Kd.C_alloc ?_ _) | (with_reducible refine Kd.C_drewN ?_ _) | (with_reducible refine Kd.C_drew ?_) | exact HR482_0.out)) 0 p483 q483
                cases e483
                have qi483 : (0 < (rd_L9 x6_2 (ji26)).length) = True := eq_true (by omega); (try rw [show ((0 : Int)).toNat = 0 from rfl] at hx483_0); (try rw [Addr.add_zero'] at hx483_0); replace p483 := eq_true p483; replace q483 := eq_true q483
                go_wp2_with (first | ((with_reducible refine gate_dst (N := 61) rfl ?_); refine Kd.R_lit (Kd.int .i64) _ 3 ?hg (N := 61) ?hd (xs := ([rd (rd_L9 x6_2 (ji26)) 0, x7_2] : List Int)) (inner := [.int .i64 (rd (rd_L9 x6_2 (ji26)) 0), .int .i64 x7_2]) (ok := fun _ => True) (okp := fun _ => True) ?hr ?hp (fun _ hk => hk) trivial (Below.refl _ _) (Nat.le_refl _) (by simp) ?_; (case hd => rfl); (case hg => rfl); (case hr => first | (go_simp; done) | (go_simp; rfl)); (case hp => exact (Reps.one (show Kd.M (Kd.int .i64) _ _ _ (rd (rd_L9 x6_2 (ji26)) 0) [.int .i64 (rd (rd_L9 x6_2 (ji26)) 0)] from rfl) (Reps.one (show Kd.M (Kd.int .i64) _ _ _ x7_2 [.int .i64 x7_2] from rfl) (Reps.none _ _)))); intro v485 w34 ho35 hb hg_ hnew_; clear hg_ hnew_; replace ho35 := ry_ Ny484.out ho35; replace HO_6 := Aside0.mk (Kd.S_elder' (by (with_reducible repeat (first | apply Kd.S_alloc | apply Kd.S_drewN | apply Kd.S_drew)); exact HO_6.out) (Kd.R_base ho35) hb); have HO486 := Aside0.mk (Kd.R_lower (Kd.R_new' (Kd.R_new' ho35 (Kd.R_lt (kr_ HL480_0.out))) (Kd.R_lt (kr_ HL482_0.out))) (below_size (lb1_ HB.out GE472.out))); replace HL480_0 := Aside0.mk (Kd.R_elder' (kr_ HL480_0.out) (Kd.R_base ho35) hb); replace HL482_0 := Aside0.mk (Kd.R_elder' (kr_ HL482_0.out) (Kd.R_base ho35) hb); replace BK472 := Aside0.mk (bb_ (bk_ BK472.out) hb); replace HR480_0 := Aside0.mk (Kd.C_below (by repeat (first | (with_reducible exact HR480_0.out) | (with_reducible refine Kd.C_alloc ?_ _) | (with_reducible refine Kd.C_drewN ?_ _) | (with_reducible refine Kd.C_drew ?_) | exact HR480_0.out)) hb); replace HR482_0 := Aside0.mk (Kd.C_below (by repeat (first | (with_reducible exact HR482_0.out) | (with_reducible refine Kd.C_alloc ?_ _) | (with_reducible refine Kd.C_drewN ?_ _) | (with_reducible refine Kd.C_drew ?_) | exact HR482_0.out)) hb); replace HB := Aside0.mk (below_step (lb1_ HB.out GE472.out) hb); clear hb ho35; have p32 : 0 ≤ ((ji26) : Int) := dt_; have q32 : ((ji26) : Int) < ((x6_2.length : Int) : Int) := dt_; obtain ⟨go32, co32, eo32, gb32, gl32, cl32, HG32⟩ := Kd.S_form HO_6.out (by omega); (first | cases eo32 | (injection eo32 with ea_ en_ ec_; (first | subst ea_ | (injection ea_ with ea_; subst ea_)); subst ec_; clear en_)); have GB32 := Aside0.mk gb32; have GG32 := Aside0.mk HG32; clear gb32 gl32 HG32; (first | simp only [add_plain] at hx480_0 | skip); (first | simp only [add_plain] at hx482_0 | skip); obtain ⟨_, ce32, hcl32, hM32, hcc32, hfr32, _, _⟩ := Kd.S_elem HO_6.out [] ((ji26) : Int) p32 q32; obtain ⟨ve32_0, rfl, ge32_0⟩ := hM32; have hx32_0 := hcc32 0 _ rfl; have hf32_0 := hfr32 0; (try simp only [show ((Kd.slice 3 (Kd.int .i64))).sz = 1 from rfl, Nat.mul_one, Nat.add_zero] at hx32_0); (try simp only [show ((Kd.slice 3 (Kd.int .i64))).sz = 1 from rfl, Nat.mul_one, Nat.add_zero] at hf32_0); clear hcl32 hcc32 hfr32; replace p32 := eq_true p32; replace q32 := eq_true q32; have n_ := Aside0.mk (Kd.S_mono (ok' := (fun k_ => some k_ ≠ (v485 : Value).ownBlock)) HO_6.out (fun k_ hk => hk.2)); clear HO_6; have HO_6 := n_; clear n_; have HX36 := Aside0.mk (show Kd.S (Kd.slice 3 (Kd.int .i64)) 36 w34 w.heap.size (fun k_ => ((fun _ => True)) k_ ∧ ¬ ((fun k_ => some k_ = (v485 : Value).ownBlock)) k_) (.slice (some ⟨go32, 0, none⟩) x6_2.length co33) x6_2 from (by (with_reducible repeat (first | apply Kd.S_alloc | apply Kd.S_drewN | apply Kd.S_drew)); exact Kd.S_mono HO_6.out (fun k_ hk => ⟨trivial, fun e_ => hk e_⟩))); obtain ⟨oki36, ce36, hcl36, hM36, hcc36, hfr36, hoki36, hH36⟩ := Kd.S_elem HX36.out [] ((ji26) : Int) (dt_) (by have h_ : ((ji26) : Int) < ((x6_2.length : Int) : Int) := dt_; first | exact h_ | (have e_ := (Kd.S_reads' HO_6.out).1; omega) | simpa using h_); obtain ⟨ve36_0, rfl, ge36_0⟩ := hM36; have HP36 := Kd.S_seg hH36 (dt_) (by have h_ : ((ji26) : Int) < ((x6_2.length : Int) : Int) := dt_; first | exact h_ | (have e_ := (Kd.S_reads' HO_6.out).1; omega) | simpa using h_) (seg := [v485]) (j := 0) (show 1 ≤ 1 from by decide) (x' := y484) (Kd.M_row (Kd.R_mono (Kd.R_tight rfl (Kd.R_mono (ok' := fun k_ => ((fun _ => True)) k_ ∧ k_ ≠ go32) (Kd.R_apart' (HO486.out) (Kd.S_typed HO_6.out) (by decide)) (fun k_ hk => ⟨trivial, fun e_ => (hk.2) (by rw [e_]; rfl)⟩))) (fun _ h_ => Or.inr (h_)))) (fun _ hk => hk) (fun k_ hk_ => ((Kd.R_mono (ok' := fun k_ => ((fun _ => True)) k_ ∧ k_ ≠ go32) (Kd.R_apart' (HO486.out) (Kd.S_typed HO_6.out) (by decide)) (fun k_ hk => ⟨trivial, fun e_ => (hk.2) (by rw [e_]; rfl)⟩))).1 k_ hk_.symm); have hx36_0 := hcc36 0 _ rfl; (try simp only [show ((Kd.slice 3 (Kd.int .i64))).sz = 1 from rfl, Nat.mul_one, Nat.add_zero] at hx36_0); have hf36_0 := hfr36 0; (try simp only [show ((Kd.slice 3 (Kd.int .i64))).sz = 1 from rfl, Nat.mul_one, Nat.add_zero] at hf36_0); clear hcl36 hcc36 hfr36 hoki36 hH36; (try simp only [show ((Kd.slice 3 (Kd.int .i64))).sz = 1 from rfl, Nat.mul_one, Nat.add_zero] at HP36)) | ((with_reducible refine gate_store (t := 36) (p := 62) rfl ?_); refine store_event (t := 36) (p := 62) (v := ?vo_w37) (w1 := (w34.setCell ⟨go32, ((ji26) : Int).toNat, none⟩ (v485))) ?hg ?ho ?hn ?hr ?_; (case ho => rfl); (case hg => rfl); (case hn => rfl); (case hr => first | (go_simp; done) | (go_simp; rfl) | (obtain ⟨A_, c_, e_⟩ := Kd.R_slice HO486.out; rw [e_]; go_simp; done) | (obtain ⟨A_, c_, e_⟩ := Kd.R_slice HO486.out; rw [e_]; go_simp; rfl)); intro w37 hw; have hg : w34.grownBy w37 (some go32) := (by rw [hw]; exact HP36.2); have hp_ : Kd.S (Kd.slice 3 (Kd.int .i64)) 36 w37 w.heap.size (fun _ => True) (.slice (some ⟨go32, 0, none⟩) x6_2.length co33) y487 := (by rw [hw, Ny487.out]; exact HP36.1); clear HP36; replace BK472 := Aside0.mk (blk_grown (g := gb472) (o := .cells #[.int .i64 a1_0, .int .i64 a1_1, .int .i64 a1_2] 30 (0, 0)) (bk_ BK472.out) hg (Kd.S_ne HO_6.out BK472.out (by decide))); replace HO_6 := Aside0.mk (hp_); replace HL480_0 := Aside0.mk (Kd.R_after (v := (.slice (some ⟨go32, 0, none⟩) x6_2.length co33)) (v1 := (.slice (some ⟨go32, 0, none⟩) x6_2.length co33)) (ok := (fun k_ => some k_ ≠ (v485 : Value).ownBlock)) (krm_ HL480_0.out (fun _ hk => ⟨hk.2, hk.1.2⟩)) hg (.inl rfl)); replace HL482_0 := Aside0.mk (Kd.R_after (v := (.slice (some ⟨go32, 0, none⟩) x6_2.length co33)) (v1 := (.slice (some ⟨go32, 0, none⟩) x6_2.length co33)) (ok := (fun k_ => some k_ ≠ (v485 : Value).ownBlock)) (krm_ HL482_0.out (fun _ hk => ⟨hk.2, hk.1.2⟩)) hg (.inl rfl)); replace HB := Aside0.mk ((by rw [hw]; exact below_set (HB.out) GB32.out : Below w.heap.size w w37)); clear HO486; clear hg hw hp_))
                go_roundg kj15
                case measure => have := HJ2.out; have := HK2.out; have := HJ15.out; omega
                case rel => exact ⟨(y487), (wrap64 (x7_2 + 1)), (by first | rfl | (simp; done) | (simp [*]; done)), H', ⟨by have := HJ2.out; have := HK2.out; have := HJ15.out; omega⟩, ⟨by (with_reducible repeat (first | apply Kd.S_alloc | apply Kd.S_drewN | apply Kd.S_drew)); first | exact HO_6.out | (rw [Ny487.out]; exact (Kd.R_putg (Kd.R_drewN HO_6.out _) _ _).1) | (rw [Ny487.out]; exact (Kd.R_putg HO_6.out _ _).1)⟩, ⟨bk_ BK472.out⟩, ⟨by repeat (first | (with_reducible first | exact HB.out | apply below_alloc | apply pw_below_drewN | apply below_drew1 | refine below_set ?_ GE472.out) | exact HB.out | (first | exact below_set (pw_below_drewN HB.out _) GB32.out | exact below_set HB.out GB32.out))⟩⟩
               ·
                rw [if_neg c31] at H
                exact absurd H (by simp)
              ·
               rw [if_neg c30] at H
               have c30b0 : ((rd (rd_L9 x6_2 (ji26)) 1) == (wrap64 (x7_2 - 1))) = false := beq_eq_false_iff_ne.mpr c30; have c30b1 : ((rd (rd_L9 x6_2 (ji26)) 1) != (wrap64 (x7_2 - 1))) = true := bne_iff_ne.mpr c30
               obtain ⟨y488, hy488⟩ : ∃ y_ : List Int, y_ = (([x7_2, x7_2] : List Int)) := ⟨_, rfl⟩
               replace H : (if x6_2.length < 5864062014805 then (spec_OpenSpans.l0 kj15 l0 (x6_2 ++ [y488]) (wrap64 (x7_2 + 1)) a1_0 a1_1 a1_2) else (none)) = some (r1, r2) := by first | (rw [hy488]; with_reducible exact H) | (have H2_ := (Option.bind_some _ _).symm.trans H; rw [hy488]; with_reducible exact H2_) | (have H2_ := (Option.bind_some _ _).symm.trans H; with_reducible exact H2_) | with_reducible exact H | (rw [hy488]; exact H) | exact H
               have Ny488 := Aside0.mk hy488; clear hy488
               by_cases c38 : x6_2.length < 5864062014805
               ·
                rw [if_pos c38] at H
                have LMc38 := Aside0.mk c38; clear c38
                obtain ⟨y491, hy491⟩ : ∃ y_ : List (List Int), y_ = (x6_2 ++ [y488]) := ⟨_, rfl⟩
                replace H : (spec_OpenSpans.l0 kj15 l0 y491 (wrap64 (x7_2 + 1)) a1_0 a1_1 a1_2) = some (r1, r2) := by first | (rw [hy491]; with_reducible exact H) | (have H2_ := (Option.bind_some _ _).symm.trans H; rw [hy491]; with_reducible exact H2_) | (have H2_ := (Option.bind_some _ _).symm.trans H; with_reducible exact H2_) | with_reducible exact H | (rw [hy491]; exact H) | exact H
                have Ny491 := Aside0.mk hy491; clear hy491; have H' := Aside0.mk H; clear H; obtain ⟨Ao39, co39, eo39⟩ := Kd.S_slice HO_6.out; subst eo39; have p480 : 0 ≤ ((ji26) : Int) := dt_; have q480 : (ji26) < (x6_2.length : Int) := dt_; obtain ⟨ad480, A480_0, c480_0, e480, hx480_0, hl480_0, hi480_0⟩ := at_L9 (Kd.S_reads' HO_6.out).2.2 (ji26) p480 q480
                cases e480
                obtain ⟨ce480, hce480, hMe480, hcc480⟩ := Kd.S_get HO_6.out [] (ji26) p480 (by first | exact q480 | exact dt_ | (have e_ := (Kd.S_reads' HO_6.out).1; omega)); obtain ⟨ve480_0, rfl, ge480_0⟩ := hMe480; have hv480_0 := hcc480 0 _ rfl
                rw [Nat.add_zero, show ((Kd.slice 3 (Kd.int .i64))).sz = 1 from rfl, Nat.mul_one] at hv480_0
                replace hv480_0 := Option.some.inj (hv480_0.symm.trans hx480_0)
                rw [hv480_0] at ge480_0
                have HL480_0 := Aside0.mk (show Kd.R (Kd.int .i64) 3 _ _ _ _ (rd_L9 x6_2 (ji26)) from ge480_0); clear hv480_0 ge480_0; clear hcc480 hce480; have HR480_0 := Aside0.mk hi480_0; have HC480_0 := Aside0.mk hl480_0; clear hi480_0 hl480_0; replace p480 := eq_true p480; replace q480 := eq_true q480
                have p481 : 0 ≤ (1 : Int) := (by omega)
                have q481 : 1 < ((rd_L9 x6_2 (ji26)).length : Int) := dt_; obtain ⟨ad481, e481, hx481_0⟩ := Kd.at_int (by repeat (first | (with_reducible exact HR480_0.out) | (with_reducible refine Kd.C_alloc ?_ _) | (with_reducible refine Kd.C_drewN ?_ _) | (with_reducible refine Kd.C_drew ?_) | exact HR480_0.out)) 1 p481 q481
                cases e481
                (try simp only [show (1 : Int).toNat = 1 from rfl, Nat.reduceMul, Nat.reduceEqDiff, Go.Addr.add, ↓reduceIte] at hx481_0); have qi481 : (1 < (rd_L9 x6_2 (ji26)).length) = True := eq_true (by omega); (try rw [show ((1 : Int)).toNat = 1 from rfl] at hx481_0); replace p481 := eq_true p481; replace q481 := eq_true q481
                go_wp2_with (first | ((with_reducible refine gate_dst (N := 66) rfl ?_); refine Kd.R_lit (Kd.int .i64) _ 3 ?hg (N := 66) ?hd (xs := ([x7_2, x7_2] : List Int)) (inner := [.int .i64 x7_2, .int .i64 x7_2]) (ok := fun _ => True) (okp := fun _ => True) ?hr ?hp (fun _ hk => hk) trivial (Below.refl _ _) (Nat.le_refl _) (by simp) ?_; (case hd => rfl); (case hg => rfl); (case hr => first | (go_simp; done) | (go_simp; rfl)); (case hp => exact (Reps.one (show Kd.M (Kd.int .i64) _ _ _ x7_2 [.int .i64 x7_2] from rfl) (Reps.one (show Kd.M (Kd.int .i64) _ _ _ x7_2 [.int .i64 x7_2] from rfl) (Reps.none _ _)))); intro v489 w40 ho41 hb hg_ hnew_; clear hg_ hnew_; replace ho41 := ry_ Ny488.out ho41; replace HO_6 := Aside0.mk (Kd.S_elder' (by (with_reducible repeat (first | apply Kd.S_alloc | apply Kd.S_drewN | apply Kd.S_drew)); exact HO_6.out) (Kd.R_base ho41) hb); have HO490 := Aside0.mk (Kd.R_lower (Kd.R_new' ho41 (Kd.R_lt (kr_ HL480_0.out))) (below_size (lb1_ HB.out GE472.out))); replace HL480_0 := Aside0.mk (Kd.R_elder' (kr_ HL480_0.out) (Kd.R_base ho41) hb); replace BK472 := Aside0.mk (bb_ (bk_ BK472.out) hb); replace HR480_0 := Aside0.mk (Kd.C_below (by repeat (first | (with_reducible exact HR480_0.out) | (with_reducible refine Kd.C_alloc ?_ _) | (with_reducible refine Kd.C_drewN ?_ _) | (with_reducible refine Kd.C_drew ?_) | exact HR480_0.out)) hb); replace HB := Aside0.mk (below_step (lb1_ HB.out GE472.out) hb); clear hb ho41; obtain ⟨Ao43, co43, eo43⟩ := Kd.R_slice HO490.out; subst eo43) | ((with_reducible refine gate_builtin (b := .append) (xs := #[.tmp 63, .tmp 67]) rfl ?_); at_builtin; refine Kd.S_append (Kd.slice 3 (Kd.int .i64)) (w0 := w) w.heap.size rfl (.tmp 63) (.tmp 67) 60 36 (.slice none 0 0) 24 rfl Try.underlying60 info36 rfl (by decide) (by omega) (.slice (some ad480) x6_2.length co39) x6_2 y488 [.slice Ao43 y488.length co43] (fun _ => True) (fun k_ => some k_ = (.slice Ao43 y488.length co43 : Value).ownBlock) rfl rfl ?aP (fun k_ hk_ => ((Kd.R_mono (ok' := fun k_ => ((fun _ => True)) k_ ∧ some k_ ≠ (.slice (some ad480) x6_2.length co39 : Value).ownBlock) (Kd.R_apart' (HO490.out) (Kd.S_typed HO_6.out) (by decide)) (fun k_ hk => ⟨trivial, hk.2⟩))).1 k_ hk_.symm) ?aF ?aO ?aB ?aS ?aL ?_; (case aP => exact Kd.M_row (Kd.R_mono (Kd.R_tight rfl (Kd.R_mono (ok' := fun k_ => ((fun _ => True)) k_ ∧ some k_ ≠ (.slice (some ad480) x6_2.length co39 : Value).ownBlock) (Kd.R_apart' (HO490.out) (Kd.S_typed HO_6.out) (by decide)) (fun k_ hk => ⟨trivial, hk.2⟩))) (fun _ h_ => h_))); (case aB => exact (lb1_ HB.out GE472.out)); (case aF => exact (fun _ _ => trivial)); (case aO => exact (by (with_reducible repeat (first | apply Kd.S_alloc | apply Kd.S_drewN | apply Kd.S_drew)); exact Kd.S_mono HO_6.out (fun k_ hk => ⟨trivial, fun e_ => hk.2 e_⟩))); (case aS => exact (below_size (lb1_ HB.out GE472.out))); (case aL => have := LMc38.out; omega); intro v492 w42 ho hb hg hat; rw [← Ny491.out] at ho; replace BK472 := Aside0.mk (blk_grown (g := gb472) (o := .cells #[.int .i64 a1_0, .int .i64 a1_1, .int .i64 a1_2] 30 (0, 0)) (bk_ BK472.out) hg (Kd.S_ne HO_6.out BK472.out (by decide))); replace HL480_0 := Aside0.mk (Kd.R_after (ok := (fun k_ => some k_ ≠ (.slice Ao43 y488.length co43 : Value).ownBlock)) (krm_ HL480_0.out (fun _ hk => ⟨hk.2, hk.1.2⟩)) hg hat); replace HB := Aside0.mk (hb); have HO493 := Aside0.mk (ho); clear HO_6 HO490; clear ho hb hg hat))
                go_roundg kj15
                case measure => have := HJ2.out; have := HK2.out; have := HJ15.out; omega
                case rel => exact ⟨(y491), (wrap64 (x7_2 + 1)), (by first | rfl | (simp; done) | (simp [*]; done)), H', ⟨by have := HJ2.out; have := HK2.out; have := HJ15.out; omega⟩, ⟨by (with_reducible repeat (first | apply Kd.S_alloc | apply Kd.S_drewN | apply Kd.S_drew)); exact HO493.out⟩, ⟨bk_ BK472.out⟩, ⟨lb1_ HB.out GE472.out⟩⟩
               ·
                rw [if_neg c38] at H
                exact absurd H (by simp)
             ·
              rw [if_neg c29] at H
              exact absurd H (by simp)
            ·
             rw [if_neg c28] at H
             exact absurd H (by simp)
           ·
            rw [if_neg c27] at H
            exact absurd H (by simp)
          ·
           rw [if_neg c25] at H
           have c25b0 : decide (0 < (x6_2.length : Int)) = false := decide_eq_false c25; have c25b1 : decide (0 < x6_2.length) = false := decide_eq_false (by omega); clear c25
           obtain ⟨y494, hy494⟩ : ∃ y_ : List Int, y_ = (([x7_2, x7_2] : List Int)) := ⟨_, rfl⟩
           replace H : (if x6_2.length < 5864062014805 then (spec_OpenSpans.l0 kj15 l0 (x6_2 ++ [y494]) (wrap64 (x7_2 + 1)) a1_0 a1_1 a1_2) else (none)) = some (r1, r2) := by first | (rw [hy494]; with_reducible exact H) | (have H2_ := (Option.bind_some _ _).symm.trans H; rw [hy494]; with_reducible exact H2_) | (have H2_ := (Option.bind_some _ _).symm.trans H; with_reducible exact H2_) | with_reducible exact H | (rw [hy494]; exact H) | exact H
           have Ny494 := Aside0.mk hy494; clear hy494
           by_cases c44 : x6_2.length < 5864062014805
           ·
            rw [if_pos c44] at H
            have LMc44 := Aside0.mk c44; clear c44
            obtain ⟨y497, hy497⟩ : ∃ y_ : List (List Int), y_ = (x6_2 ++ [y494]) := ⟨_, rfl⟩
            replace H : (spec_OpenSpans.l0 kj15 l0 y497 (wrap64 (x7_2 + 1)) a1_0 a1_1 a1_2) = some (r1, r2) := by first | (rw [hy497]; with_reducible exact H) | (have H2_ := (Option.bind_some _ _).symm.trans H; rw [hy497]; with_reducible exact H2_) | (have H2_ := (Option.bind_some _ _).symm.trans H; with_reducible exact H2_) | with_reducible exact H | (rw [hy497]; exact H) | exact H
            have Ny497 := Aside0.mk hy497; clear hy497; have H' := Aside0.mk H; clear H; obtain ⟨Ao45, co45, eo45⟩ := Kd.S_slice HO_6.out; subst eo45
            go_wp2_with (first | ((with_reducible refine gate_dst (N := 66) rfl ?_); refine Kd.R_lit (Kd.int .i64) _ 3 ?hg (N := 66) ?hd (xs := ([x7_2, x7_2] : List Int)) (inner := [.int .i64 x7_2, .int .i64 x7_2]) (ok := fun _ => True) (okp := fun _ => True) ?hr ?hp (fun _ hk => hk) trivial (Below.refl _ _) (Nat.le_refl _) (by simp) ?_; (case hd => rfl); (case hg => rfl); (case hr => first | (go_simp; done) | (go_simp; rfl)); (case hp => exact (Reps.one (show Kd.M (Kd.int .i64) _ _ _ x7_2 [.int .i64 x7_2] from rfl) (Reps.one (show Kd.M (Kd.int .i64) _ _ _ x7_2 [.int .i64 x7_2] from rfl) (Reps.none _ _)))); intro v495 w46 ho47 hb hg_ hnew_; clear hg_ hnew_; replace ho47 := ry_ Ny494.out ho47; replace HO_6 := Aside0.mk (Kd.S_elder' (by (with_reducible repeat (first | apply Kd.S_alloc | apply Kd.S_drewN | apply Kd.S_drew)); exact HO_6.out) (Kd.R_base ho47) hb); have HO496 := Aside0.mk (Kd.R_lower ho47 (below_size (lb1_ HB.out GE472.out))); replace BK472 := Aside0.mk (bb_ (bk_ BK472.out) hb); replace HB := Aside0.mk (below_step (lb1_ HB.out GE472.out) hb); clear hb ho47; obtain ⟨Ao49, co49, eo49⟩ := Kd.R_slice HO496.out; subst eo49) | ((with_reducible refine gate_builtin (b := .append) (xs := #[.tmp 63, .tmp 67]) rfl ?_); at_builtin; refine Kd.S_append (Kd.slice 3 (Kd.int .i64)) (w0 := w) w.heap.size rfl (.tmp 63) (.tmp 67) 60 36 (.slice none 0 0) 24 rfl Try.underlying60 info36 rfl (by decide) (by omega) (.slice Ao45 x6_2.length co45) x6_2 y494 [.slice Ao49 y494.length co49] (fun _ => True) (fun k_ => some k_ = (.slice Ao49 y494.length co49 : Value).ownBlock) rfl rfl ?aP (fun k_ hk_ => ((Kd.R_mono (ok' := fun k_ => ((fun _ => True)) k_ ∧ some k_ ≠ (.slice Ao45 x6_2.length co45 : Value).ownBlock) (Kd.R_apart' (HO496.out) (Kd.S_typed HO_6.out) (by decide)) (fun k_ hk => ⟨trivial, hk.2⟩))).1 k_ hk_.symm) ?aF ?aO ?aB ?aS ?aL ?_; (case aP => exact Kd.M_row (Kd.R_mono (Kd.R_tight rfl (Kd.R_mono (ok' := fun k_ => ((fun _ => True)) k_ ∧ some k_ ≠ (.slice Ao45 x6_2.length co45 : Value).ownBlock) (Kd.R_apart' (HO496.out) (Kd.S_typed HO_6.out) (by decide)) (fun k_ hk => ⟨trivial, hk.2⟩))) (fun _ h_ => h_))); (case aB => exact (lb1_ HB.out GE472.out)); (case aF => exact (fun _ _ => trivial)); (case aO => exact (by (with_reducible repeat (first | apply Kd.S_alloc | apply Kd.S_drewN | apply Kd.S_drew)); exact Kd.S_mono HO_6.out (fun k_ hk => ⟨trivial, fun e_ => hk.2 e_⟩))); (case aS => exact (below_size (lb1_ HB.out GE472.out))); (case aL => have := LMc44.out; omega); intro v498 w48 ho hb hg hat; rw [← Ny497.out] at ho; replace BK472 := Aside0.mk (blk_grown (g := gb472) (o := .cells #[.int .i64 a1_0, .int .i64 a1_1, .int .i64 a1_2] 30 (0, 0)) (bk_ BK472.out) hg (Kd.S_ne HO_6.out BK472.out (by decide))); replace HB := Aside0.mk (hb); have HO499 := Aside0.mk (ho); clear HO_6 HO496; clear ho hb hg hat))
            go_roundg kj15
            case measure => have := HJ2.out; have := HK2.out; have := HJ15.out; omega
            case rel => exact ⟨(y497), (wrap64 (x7_2 + 1)), (by first | rfl | (simp; done) | (simp [*]; done)), H', ⟨by have := HJ2.out; have := HK2.out; have := HJ15.out; omega⟩, ⟨by (with_reducible repeat (first | apply Kd.S_alloc | apply Kd.S_drewN | apply Kd.S_drew)); exact HO499.out⟩, ⟨bk_ BK472.out⟩, ⟨lb1_ HB.out GE472.out⟩⟩
           ·
            rw [if_neg c44] at H
            exact absurd H (by simp)
      ·
       rw [if_neg c15] at H
       have c15b0 : decide (x7_2 ≤ 999) = false := decide_eq_false c15
       clear c15
       simp only [Option.some.injEq, Prod.mk.injEq] at H
       obtain ⟨rfl, rfl⟩ := H
       go_wp2
       go_ret2
       exact ⟨_, rr_, by (with_reducible repeat (first | apply Kd.S_alloc | apply Kd.S_drewN | apply Kd.S_drew)); exact HO_6.out, lb1_ HB.out GE472.out⟩
def spanned1_ (k : Nat) (l : List S54) (p q r a b : Int) : Prop := 0 ≤ a ∧ b ≤ 1000000 ∧ (List.range (b - a + 1).toNat).all (fun i => (impl_Sump_open.f k p q r l (a + i)).isSome) = true
instance (k : Nat) (l : List S54) (p q r a b : Int) : Decidable (spanned1_ k l p q r a b) := by unfold spanned1_; infer_instance
def impl_OpenSpans.f (k : Nat) (l0 : List S54) (a1_0 a1_1 a1_2 : Int) : Option (List (List Int) × Bool) :=
 (impl_AreReadings.f k l0).bind fun t1 => if t1 = true then (impl_isSump.f a1_0 a1_1 a1_2).bind fun t2 => if t2 = true then (impl_hours.f l0).bind fun h => if spanned1_ k l0 a1_0 a1_1 a1_2 h.1 h.2 then some ((spansB (fun x => (impl_Sump_open.f k a1_0 a1_1 a1_2 l0 x).getD false) (h.2 - h.1 + 1).toNat h.1 []).map (fun s => [s.1, s.2]), true) else none else some ([], false) else some ([], false)
theorem all_at1_ {p : Int → Bool} {a b : Int} (h : (List.range (b - a + 1).toNat).all (fun i => p (a + i)) = true) (z : Int) (h1 : a ≤ z) (h2 : z ≤ b) : p z = true := by
 have := List.all_eq_true.1 h (z - a).toNat (List.mem_range.2 (by omega))
 rw [show a + ((z - a).toNat : Int) = z by omega] at this
 exact this
set_option maxHeartbeats 8000000 in
set_option maxRecDepth 100000 in
theorem openSpans1_ (k : Nat) (gl gs : Nat) (A0 : Option Addr) (c0 : Nat) (l : List S54) (p q r : Int) (x : Int) (b : Bool) (w : World) (hbl : w.heap[gl]? = some (.cells #[.slice A0 l.length c0] 28 (0, 0))) (hbs : w.heap[gs]? = some (.cells #[.int .i64 p, .int .i64 q, .int .i64 r] 30 (0, 0)))
  (hr0 : Kd.C k54 w A0 l.length l) (hc0 : l.length ≤ c0) (h : impl_Sump_open.f k p q r l x = some b) :
  Calls Try.prog 78 (#[.int .i64 x] ++ #[.pointer (some ⟨gs, 0, none⟩), .pointer (some ⟨gl, 0, none⟩)]) w fun e w' => e = .returned (.bool b) ∧ Below w.heap.size w w' := by
 show Calls Try.prog 78 #[.int .i64 x, .pointer (some ⟨gs, 0, none⟩), .pointer (some ⟨gl, 0, none⟩)] w _
 have hu2 := Try.underlying30
 have hl : w.cell? ⟨gl, 0, none⟩ = some (.slice A0 l.length c0) := (blk_cell hbl 0).trans rfl
 have hs0 : w.cell? ⟨gs, 0, none⟩ = some (.int .i64 p) := (blk_cell hbs 0).trans rfl
 have hs1 : w.cell? ⟨gs, 1, none⟩ = some (.int .i64 q) := (blk_cell hbs 1).trans rfl
 have hs2 : w.cell? ⟨gs, 2, none⟩ = some (.int .i64 r) := (blk_cell hbs 2).trans rfl
 have HR0 := Aside0.mk hr0
 have HC0 := Aside0.mk hc0
 have HF := Aside0.mk h
 clear h hbl hbs hr0 hc0
 go_enter Try.func78, Try.ntmps78
 go_wp2_with (go_at_call 60; refine (impl_Sump_open.calls k p q r A0 c0 l x b _ HR0.out HC0.out HF.out).mono ?_; rintro e w' ⟨rfl, hb⟩; have HB2 := Aside0.mk hb; clear hb)
 go_ret
 exact ⟨rfl, HB2.out⟩
set_option maxHeartbeats 8000000 in
set_option maxRecDepth 100000 in
theorem openSpansS_ (k : Nat) (A0 : Option Addr) (c0 : Nat) (l0 : List S54) (a1_0 a1_1 a1_2 : Int) (r1 : List (List Int)) (r2 : Bool) (w : World) (hr0 : Kd.C k54 w A0 l0.length l0) (hc0 : l0.length ≤ c0) (h : impl_OpenSpans.f k l0 a1_0 a1_1 a1_2 = some (r1, r2)) :
  Calls Try.prog 37 #[.slice A0 l0.length c0, .agg #[.int .i64 a1_0, .int .i64 a1_1, .int .i64 a1_2]] w fun e w' => ∃ (v0_ : Value) (P : List (Nat × Int × Int)), e = .returned (.tuple #[v0_, .bool r2]) ∧ SpS w' w.heap.size v0_ P ∧ (P.map fun p => [p.2.1, p.2.2]) = r1 ∧ Below w.heap.size w w' := by
 unfold impl_OpenSpans.f at h
 obtain ⟨t1, h1, h⟩ := Option.bind_eq_some_iff.mp h
 have hu2 := Try.underlying30
 have HR0 := Aside0.mk hr0
 have HC0 := Aside0.mk hc0
 have E1 := Aside0.mk h1
 clear hr0 hc0 h1
 cases t1 with
 | false =>
  simp only [Bool.false_eq_true, if_false, Option.some.injEq, Prod.mk.injEq] at h
  obtain ⟨rfl, rfl⟩ := h
  go_enter Try.func37, Try.ntmps37
  go_wp2_with (first | ((with_reducible refine gate_dst (N := 2) rfl ?_); refine box_event ?hg (N := 2) ?hd (cs := #[.slice A0 l0.length c0]) (t := 28) ?hr ?_; (case hd => rfl); (case hg => rfl); (case hr => first | (go_simp; done) | (go_simp; rfl)); intro gl hg w2 hbox hb; have BL := Aside0.mk hbox; have BW := Aside0.mk hb; have hl : w2.cell? ⟨gl, 0, none⟩ = some (.slice A0 l0.length c0) := (blk_cell hbox 0).trans rfl; clear hg hbox hb) | ((with_reducible refine gate_dst (N := 3) rfl ?_); refine box_event ?hg (N := 3) ?hd (cs := #[.int .i64 a1_0, .int .i64 a1_1, .int .i64 a1_2]) (t := 30) ?hr ?_; (case hd => rfl); (case hg => rfl); (case hr => first | (go_simp; done) | (go_simp; rfl)); intro gs hg w3 hbox hb; have BS := Aside0.mk hbox; replace hl := bc_ hb hl; replace BL := Aside0.mk (blk_below BL.out hb); replace BW := Aside0.mk (below_step BW.out hb); have hs0 : w3.cell? ⟨gs, 0, none⟩ = some (.int .i64 a1_0) := (blk_cell BS.out 0).trans rfl; have hs1 : w3.cell? ⟨gs, 1, none⟩ = some (.int .i64 a1_1) := (blk_cell BS.out 1).trans rfl; have hs2 : w3.cell? ⟨gs, 2, none⟩ = some (.int .i64 a1_2) := (blk_cell BS.out 2).trans rfl; clear hg hbox hb) | ((with_reducible refine gate_callee (f := 34) rfl ?_); refine ga_ (some 9) Try.func34 #[.slice A0 l0.length c0] ?_; refine (impl_AreReadings.calls k _ _ l0 false _ (Kd.C_below HR0.out BW.out) HC0.out E1.out).mono ?_; rintro e w4 ⟨rfl, hb⟩; refine ⟨_, rfl, ?_⟩; replace hl := bc_ hb hl; replace hs0 := bc_ hb hs0; replace hs1 := bc_ hb hs1; replace hs2 := bc_ hb hs2; replace BL := Aside0.mk (blk_below BL.out hb); replace BS := Aside0.mk (blk_below BS.out hb); replace BW := Aside0.mk (below_step BW.out hb); clear hb))
  go_ret2
  exact ⟨_, [], rr_, SpS.nil _ _, rfl, BW.out⟩
 | true =>
  simp only [if_true] at h
  obtain ⟨t2, h2, h⟩ := Option.bind_eq_some_iff.mp h
  have E2 := Aside0.mk h2
  clear h2
  cases t2 with
  | false =>
   simp only [Bool.false_eq_true, if_false, Option.some.injEq, Prod.mk.injEq] at h
   obtain ⟨rfl, rfl⟩ := h
   go_enter Try.func37, Try.ntmps37
   go_wp2_with (first | ((with_reducible refine gate_dst (N := 2) rfl ?_); refine box_event ?hg (N := 2) ?hd (cs := #[.slice A0 l0.length c0]) (t := 28) ?hr ?_; (case hd => rfl); (case hg => rfl); (case hr => first | (go_simp; done) | (go_simp; rfl)); intro gl hg w2 hbox hb; have BL := Aside0.mk hbox; have BW := Aside0.mk hb; have hl : w2.cell? ⟨gl, 0, none⟩ = some (.slice A0 l0.length c0) := (blk_cell hbox 0).trans rfl; clear hg hbox hb) | ((with_reducible refine gate_dst (N := 3) rfl ?_); refine box_event ?hg (N := 3) ?hd (cs := #[.int .i64 a1_0, .int .i64 a1_1, .int .i64 a1_2]) (t := 30) ?hr ?_; (case hd => rfl); (case hg => rfl); (case hr => first | (go_simp; done) | (go_simp; rfl)); intro gs hg w3 hbox hb; have BS := Aside0.mk hbox; replace hl := bc_ hb hl; replace BL := Aside0.mk (blk_below BL.out hb); replace BW := Aside0.mk (below_step BW.out hb); have hs0 : w3.cell? ⟨gs, 0, none⟩ = some (.int .i64 a1_0) := (blk_cell BS.out 0).trans rfl; have hs1 : w3.cell? ⟨gs, 1, none⟩ = some (.int .i64 a1_1) := (blk_cell BS.out 1).trans rfl; have hs2 : w3.cell? ⟨gs, 2, none⟩ = some (.int .i64 a1_2) := (blk_cell BS.out 2).trans rfl; clear hg hbox hb) | ((with_reducible refine gate_callee (f := 34) rfl ?_); refine ga_ (some 9) Try.func34 #[.slice A0 l0.length c0] ?_; refine (impl_AreReadings.calls k _ _ l0 true _ (Kd.C_below HR0.out BW.out) HC0.out E1.out).mono ?_; rintro e w4 ⟨rfl, hb⟩; refine ⟨_, rfl, ?_⟩; replace hl := bc_ hb hl; replace hs0 := bc_ hb hs0; replace hs1 := bc_ hb hs1; replace hs2 := bc_ hb hs2; replace BL := Aside0.mk (blk_below BL.out hb); replace BS := Aside0.mk (blk_below BS.out hb); replace BW := Aside0.mk (below_step BW.out hb); clear hb) | (go_at_call 59; refine (impl_isSump.calls a1_0 a1_1 a1_2 false _ E2.out).mono ?_; rintro e w5 ⟨rfl, hb⟩; replace hl := bc_ hb hl; replace hs0 := bc_ hb hs0; replace hs1 := bc_ hb hs1; replace hs2 := bc_ hb hs2; replace BL := Aside0.mk (blk_below BL.out hb); replace BS := Aside0.mk (blk_below BS.out hb); replace BW := Aside0.mk (below_step BW.out hb); clear hb))
   go_ret2
   exact ⟨_, [], rr_, SpS.nil _ _, rfl, BW.out⟩
  | true =>
   simp only [if_true] at h
   obtain ⟨⟨x, y⟩, h4, h⟩ := Option.bind_eq_some_iff.mp h
   have E4 := Aside0.mk h4
   clear h4
   simp only at h
   by_cases q : spanned1_ k l0 a1_0 a1_1 a1_2 x y
   ·
    rw [if_pos q] at h
    have SP := Aside0.mk q
    simp only [Option.some.injEq, Prod.mk.injEq] at h
    obtain ⟨h1, rfl⟩ := h
    have HF := Aside0.mk h1
    clear h1 q
    go_enter Try.func37, Try.ntmps37
    go_wp2_with (first | ((with_reducible refine gate_dst (N := 2) rfl ?_); refine box_event ?hg (N := 2) ?hd (cs := #[.slice A0 l0.length c0]) (t := 28) ?hr ?_; (case hd => rfl); (case hg => rfl); (case hr => first | (go_simp; done) | (go_simp; rfl)); intro gl hg w2 hbox hb; have BL := Aside0.mk hbox; have BW := Aside0.mk hb; have hl : w2.cell? ⟨gl, 0, none⟩ = some (.slice A0 l0.length c0) := (blk_cell hbox 0).trans rfl; clear hg hbox hb) | ((with_reducible refine gate_dst (N := 3) rfl ?_); refine box_event ?hg (N := 3) ?hd (cs := #[.int .i64 a1_0, .int .i64 a1_1, .int .i64 a1_2]) (t := 30) ?hr ?_; (case hd => rfl); (case hg => rfl); (case hr => first | (go_simp; done) | (go_simp; rfl)); intro gs hg w3 hbox hb; have BS := Aside0.mk hbox; replace hl := bc_ hb hl; replace BL := Aside0.mk (blk_below BL.out hb); replace BW := Aside0.mk (below_step BW.out hb); have hs0 : w3.cell? ⟨gs, 0, none⟩ = some (.int .i64 a1_0) := (blk_cell BS.out 0).trans rfl; have hs1 : w3.cell? ⟨gs, 1, none⟩ = some (.int .i64 a1_1) := (blk_cell BS.out 1).trans rfl; have hs2 : w3.cell? ⟨gs, 2, none⟩ = some (.int .i64 a1_2) := (blk_cell BS.out 2).trans rfl; clear hg hbox hb) | ((with_reducible refine gate_callee (f := 34) rfl ?_); refine ga_ (some 9) Try.func34 #[.slice A0 l0.length c0] ?_; refine (impl_AreReadings.calls k _ _ l0 true _ (Kd.C_below HR0.out BW.out) HC0.out E1.out).mono ?_; rintro e w4 ⟨rfl, hb⟩; refine ⟨_, rfl, ?_⟩; replace hl := bc_ hb hl; replace hs0 := bc_ hb hs0; replace hs1 := bc_ hb hs1; replace hs2 := bc_ hb hs2; replace BL := Aside0.mk (blk_below BL.out hb); replace BS := Aside0.mk (blk_below BS.out hb); replace BW := Aside0.mk (below_step BW.out hb); clear hb) | (go_at_call 59; refine (impl_isSump.calls a1_0 a1_1 a1_2 true _ E2.out).mono ?_; rintro e w5 ⟨rfl, hb⟩; replace hl := bc_ hb hl; replace hs0 := bc_ hb hs0; replace hs1 := bc_ hb hs1; replace hs2 := bc_ hb hs2; replace BL := Aside0.mk (blk_below BL.out hb); replace BS := Aside0.mk (blk_below BS.out hb); replace BW := Aside0.mk (below_step BW.out hb); clear hb) | ((with_reducible refine gate_callee (f := 76) rfl ?_); refine ga_ (some 18) Try.func76 #[.slice A0 l0.length c0] ?_; refine (impl_hours.calls _ _ l0 x y _ (Kd.C_below HR0.out BW.out) HC0.out E4.out).mono ?_; rintro e w7 ⟨rfl, hd⟩; have hb := hd.below; clear hd; refine ⟨_, rfl, ?_⟩; replace hl := bc_ hb hl; replace hs0 := bc_ hb hs0; replace hs1 := bc_ hb hs1; replace hs2 := bc_ hb hs2; replace BL := Aside0.mk (blk_below BL.out hb); replace BS := Aside0.mk (blk_below BS.out hb); replace BW := Aside0.mk (below_step BW.out hb); clear hb) | (go_at_call 77; refine (spansS_.calls (fun z => (impl_Sump_open.f k a1_0 a1_1 a1_2 l0 z).getD false) 78 #[.pointer (some ⟨gs, 0, none⟩), .pointer (some ⟨gl, 0, none⟩)] (fun _ _ => rfl) x y _ SP.out.1 SP.out.2.1 ?cl).mono ?_; (case cl => (intro W' z hz1 hz2 hW'; obtain ⟨b_, hb_⟩ := Option.isSome_iff_exists.1 (all_at1_ (p := fun z => (impl_Sump_open.f k a1_0 a1_1 a1_2 l0 z).isSome) SP.out.2.2 z hz1 hz2); (rw [show (impl_Sump_open.f k a1_0 a1_1 a1_2 l0 z).getD false = b_ from by rw [hb_]; rfl]); exact openSpans1_ k gl gs A0 c0 l0 a1_0 a1_1 a1_2 z b_ W' (blk_below BL.out hW') (blk_below BS.out hW') (Kd.C_below HR0.out (below_step BW.out hW')) HC0.out hb_)); rintro e w8 ⟨v8, P, rfl, hS8, hP8, hb⟩; have HW := Aside0.mk (below_size BW.out); replace BW := Aside0.mk (below_step BW.out hb); have HS := Aside0.mk (hS8.lower HW.out); have HP := Aside0.mk hP8; clear hl hs0 hs1 hs2 hb hS8 hP8))
    go_ret2
    exact ⟨_, P, rr_, HS.out, by rw [← HF.out, ← HP.out, List.map_map]; rfl, BW.out⟩
   ·
    rw [if_neg q] at h
    cases h
theorem impl_OpenSpans.calls (k : Nat) (A0 : Option Addr) (c0 : Nat) (l0 : List S54) (a1_0 a1_1 a1_2 : Int) (r1 : List (List Int)) (r2 : Bool) (w : World) (hr0 : Kd.C k54 w A0 l0.length l0) (hc0 : l0.length ≤ c0) (h : impl_OpenSpans.f k l0 a1_0 a1_1 a1_2 = some (r1, r2)) :
  Calls Try.prog 37 #[.slice A0 l0.length c0, .agg #[.int .i64 a1_0, .int .i64 a1_1, .int .i64 a1_2]] w fun e w' => ∃ v0_ : Value, e = .returned (.tuple #[v0_, .bool r2]) ∧ Kd.S (Kd.slice 3 (Kd.int .i64)) 36 w' w.heap.size (fun _ => True) v0_ r1 ∧ Below w.heap.size w w' := by
 refine (openSpansS_ k A0 c0 l0 a1_0 a1_1 a1_2 r1 r2 w hr0 hc0 h).mono ?_
 rintro e w' ⟨v, P, rfl, hS, hP, hB⟩
 exact ⟨v, rfl, hP ▸ hS.rowsS, hB⟩
def spec_l23Closed.l0 : Nat → List (S54) → List (S30) → Int → List Int → Int → Option (List Int)
 | 0, _, _, _, _, _ => none
 | k + 1, x0, x1, x2, x7, x8 => if x8 < (x1.length : Int) then (if 0 ≤ x8 then ((spec_l23Open.f k x0 ((rd_T30 x1 x8).f0) ((rd_T30 x1 x8).f1) ((rd_T30 x1 x8).f2) x2).bind fun t540 => (if t540 = true then (spec_l23Closed.l0 k x0 x1 x2 x7 (wrap64 (x8 + 1))) else (if x7.length < 17592186044416 then (spec_l23Closed.l0 k x0 x1 x2 (x7 ++ [(rd_T30 x1 x8).f0]) (wrap64 (x8 + 1))) else (none)))) else (none)) else (some x7)
def spec_l23Closed.f (k : Nat) (l0 : List (S54)) (l1 : List (S30)) (a2 : Int) : Option (List Int) := spec_l23Closed.l0 k l0 l1 a2 (([] : List Int)) 0
set_option maxHeartbeats 8000000 in
set_option maxRecDepth 100000 in
theorem spec_l23Closed.calls (k : Nat) (A0 : Option Addr) (c0 : Nat) (l0 : List (S54)) (A1 : Option Addr) (c1 : Nat) (l1 : List (S30)) (a2 : Int) (r : List Int) (w : World) (hr0 : Kd.C k54 w A0 l0.length l0) (hc0 : l0.length ≤ c0) (hr1 : Kd.C k30 w A1 l1.length l1) (hc1 : l1.length ≤ c1) (h : spec_l23Closed.f k l0 l1 a2 = some r) :
  Calls Try.prog 80 #[.slice A0 l0.length c0, .slice A1 l1.length c1, .int .i64 a2] w fun e w' => ∃ v0_ : Value, e = .returned (v0_) ∧ Kd.R (Kd.int .i64) 3 w' w.heap.size (fun _ => True) v0_ r ∧ Below w.heap.size w w' := by
 have hu30 := Try.underlying30
 have HR0 := Aside0.mk hr0
 have HC0 := Aside0.mk hc0
 clear hr0 hc0
 have HR1 := Aside0.mk hr1
 have HC1 := Aside0.mk hc1
 clear hr1 hc1
 have HB := Aside0.mk (Below.refl w.heap.size w)
 have H : (spec_l23Closed.l0 k l0 l1 a2 (([] : List Int)) 0) = some r := h
 clear h
 obtain ⟨y536, hy536⟩ : ∃ y_ : List Int, y_ = (([] : List Int)) := ⟨_, rfl⟩
 replace H : (spec_l23Closed.l0 k l0 l1 a2 y536 0) = some r := by first | (rw [hy536]; with_reducible exact H) | (have H2_ := (Option.bind_some _ _).symm.trans H; rw [hy536]; with_reducible exact H2_) | (have H2_ := (Option.bind_some _ _).symm.trans H; with_reducible exact H2_) | with_reducible exact H | (rw [hy536]; exact H) | exact H
 have Ny536 := Aside0.mk hy536
 clear hy536
 have H' := Aside0.mk H
 clear H
 go_enter Try.func80, Try.ntmps80
 go_wp2_with (first | ((with_reducible refine gate_dst (N := 9) rfl ?_); refine Kd.R_lit (Kd.int .i64) _ 3 ?hg (N := 9) ?hd (xs := ([] : List Int)) (inner := []) (ok := fun _ => True) (okp := fun _ => True) ?hr ?hp (fun _ hk => hk) trivial (Below.refl _ _) (Nat.le_refl _) (by simp) ?_; (case hd => rfl); (case hg => rfl); (case hr => first | (go_simp; done) | (go_simp; rfl)); (case hp => exact (Reps.none _ _)); intro v537 w4 ho5 hb hg_ hnew_; clear hg_ hnew_; replace ho5 := ry_ Ny536.out ho5; have HO538 := Aside0.mk (Kd.R_lower ho5 (below_size (lb0_ HB.out))); replace HB := Aside0.mk (below_step (lb0_ HB.out) hb); clear hb ho5))
 go_loopg [7, 8] k (fun kq v7 v8 w' => ∃ (x7_1 : List Int) (x8_1 : Int), v8 = .int .i64 x8_1 ∧ Aside0 (spec_l23Closed.l0 kq l0 l1 a2 x7_1 x8_1 = some r) ∧ Aside0 (kq ≤ k) ∧ Aside0 (Kd.R (Kd.int .i64) 3 w' w.heap.size (fun _ => True) v7 x7_1) ∧ Aside0 (Below w.heap.size w w'))
 case atStart => exact ⟨(y536), (0), (by first | rfl | (simp; done) | (simp [*]; done)), H', ⟨Nat.le_refl _⟩, ⟨kr_ HO538.out⟩, ⟨lb0_ HB.out⟩⟩
 case round =>
  clear H'
  try clear c1
  try clear p2
  obtain ⟨x7_1, x8_1, rfl, HA, HK1, HO_7, HB⟩ := hrel
  cases gk with
  | zero => exact absurd HA.out (by simp [spec_l23Closed.l0])
  | succ k1 =>
   have H := HA.out
   clear HA
   simp only [spec_l23Closed.l0] at H
   by_cases c6 : x8_1 < (l1.length : Int)
   ·
    rw [if_pos c6] at H
    have c6b0 : decide (x8_1 < (l1.length : Int)) = true := decide_eq_true c6
    clear c6
    by_cases c7 : 0 ≤ x8_1
    ·
     rw [if_pos c7] at H
     have c7b0 : decide (0 ≤ x8_1) = true := decide_eq_true c7
     clear c7
     replace H := Option.bind_eq_some_iff.mp H
     obtain ⟨t540, A80, H⟩ := H
     replace H : (if t540 = true then (spec_l23Closed.l0 k1 l0 l1 a2 x7_1 (wrap64 (x8_1 + 1))) else (if x7_1.length < 17592186044416 then (spec_l23Closed.l0 k1 l0 l1 a2 (x7_1 ++ [(rd_T30 l1 x8_1).f0]) (wrap64 (x8_1 + 1))) else (none))) = some r := H
     have A8 := Aside0.mk A80
     clear A80
     by_cases c9 : t540 = true
     ·
      subst c9
      have H1 : (spec_l23Closed.l0 k1 l0 l1 a2 x7_1 (wrap64 (x8_1 + 1))) = some r := by rw [if_pos rfl] at H; exact H
      clear H
      have H := H1
      clear H1
      have H' := Aside0.mk H
      clear H
      have p539 : 0 ≤ (x8_1 : Int) := dt_
      have q539 : x8_1 < (l1.length : Int) := dt_
      obtain ⟨ad539, e539, hx539_0, hx539_1, hx539_2⟩ := at_T30 HR1.out x8_1 p539 q539
      cases e539
      replace hx539_0 := bc_ HB.out hx539_0
      replace hx539_1 := bc_ HB.out hx539_1
      replace hx539_2 := bc_ HB.out hx539_2
      replace p539 := eq_true p539
      replace q539 := eq_true q539
      go_wp2_with (first | ((with_reducible refine gate_callee (f := 56) rfl ?_); refine ga_ (some 22) Try.func56 #[.slice A0 l0.length c0, .agg #[.int .i64 ((rd_T30 l1 x8_1).f0), .int .i64 ((rd_T30 l1 x8_1).f1), .int .i64 ((rd_T30 l1 x8_1).f2)], .int .i64 a2] ?_; (with_reducible refine (spec_l23Open.calls k1 _ _ l0 ((rd_T30 l1 x8_1).f0) ((rd_T30 l1 x8_1).f1) ((rd_T30 l1 x8_1).f2) a2 true _ ?side1 ?side2 A8.out).mono ?_); (case side1 => exact kc_ (Kd.C_below HR0.out HB.out)); (case side2 => exact HC0.out); rintro e w10 ⟨rfl, hb⟩; refine ⟨_, rfl, ?_⟩; replace HO_7 := Aside0.mk (Kd.R_below (kr_ HO_7.out) hb); replace HB := Aside0.mk (below_step (lb0_ HB.out) hb); (try clear hb); (try clear hb2); (try clear hk); (try clear hi)))
      go_roundg k1
      case measure => have := HK1.out; omega
      case rel => exact ⟨(x7_1), (wrap64 (x8_1 + 1)), (by first | rfl | (simp; done) | (simp [*]; done)), H', ⟨by have := HK1.out; omega⟩, ⟨kr_ HO_7.out⟩, ⟨lb0_ HB.out⟩⟩
     ·
      replace c9 := Bool.eq_false_iff.mpr c9
      subst c9
      have H1 : (if x7_1.length < 17592186044416 then (spec_l23Closed.l0 k1 l0 l1 a2 (x7_1 ++ [(rd_T30 l1 x8_1).f0]) (wrap64 (x8_1 + 1))) else (none)) = some r := by rw [if_neg (show ¬ (false = true) by decide)] at H; exact H
      clear H
      have H := H1
      clear H1
      by_cases c11 : x7_1.length < 17592186044416
      ·
       rw [if_pos c11] at H
       have LMc11 := Aside0.mk c11
       clear c11
       obtain ⟨y542, hy542⟩ : ∃ y_ : List Int, y_ = (x7_1 ++ [(rd_T30 l1 x8_1).f0]) := ⟨_, rfl⟩
       replace H : (spec_l23Closed.l0 k1 l0 l1 a2 y542 (wrap64 (x8_1 + 1))) = some r := by first | (rw [hy542]; with_reducible exact H) | (have H2_ := (Option.bind_some _ _).symm.trans H; rw [hy542]; with_reducible exact H2_) | (have H2_ := (Option.bind_some _ _).symm.trans H; with_reducible exact H2_) | with_reducible exact H | (rw [hy542]; exact H) | exact H
       have Ny542 := Aside0.mk hy542
       clear hy542
       have H' := Aside0.mk H
       clear H
       have p539 : 0 ≤ (x8_1 : Int) := dt_
       have q539 : x8_1 < (l1.length : Int) := dt_
       obtain ⟨ad539, e539, hx539_0, hx539_1, hx539_2⟩ := at_T30 HR1.out x8_1 p539 q539
       cases e539
       replace hx539_0 := bc_ HB.out hx539_0
       replace hx539_1 := bc_ HB.out hx539_1
       replace hx539_2 := bc_ HB.out hx539_2
       replace p539 := eq_true p539
       replace q539 := eq_true q539
       go_wp2_with (first | ((with_reducible refine gate_callee (f := 56) rfl ?_); refine ga_ (some 22) Try.func56 #[.slice A0 l0.length c0, .agg #[.int .i64 ((rd_T30 l1 x8_1).f0), .int .i64 ((rd_T30 l1 x8_1).f1), .int .i64 ((rd_T30 l1 x8_1).f2)], .int .i64 a2] ?_; (with_reducible refine (spec_l23Open.calls k1 _ _ l0 ((rd_T30 l1 x8_1).f0) ((rd_T30 l1 x8_1).f1) ((rd_T30 l1 x8_1).f2) a2 false _ ?side1 ?side2 A8.out).mono ?_); (case side1 => exact kc_ (Kd.C_below HR0.out HB.out)); (case side2 => exact HC0.out); rintro e w12 ⟨rfl, hb⟩; refine ⟨_, rfl, ?_⟩; replace HO_7 := Aside0.mk (Kd.R_below (kr_ HO_7.out) hb); replace HB := Aside0.mk (below_step (lb0_ HB.out) hb); (try clear hb); (try clear hb2); (try clear hk); (try clear hi); have p541 : 0 ≤ (x8_1 : Int) := dt_; have q541 : x8_1 < (l1.length : Int) := dt_; obtain ⟨ad541, e541, hx541_0, hx541_1, hx541_2⟩ := at_T30 HR1.out x8_1 p541 q541; obtain rfl : ad539 = ad541 := (by injection e541); replace hx541_0 := bc_ HB.out hx541_0; replace hx541_1 := bc_ HB.out hx541_1; replace hx541_2 := bc_ HB.out hx541_2; replace p541 := eq_true p541; replace q541 := eq_true q541) | ((with_reducible refine gate_builtin (b := .append) (xs := #[.tmp 24, .tmp 30]) rfl ?_); at_builtin; refine Kd.R_append (Kd.int .i64) (w0 := w) w.heap.size rfl (.tmp 24) (.tmp 30) 36 3 (.int .i64 0) 8 rfl Try.underlying36 info3 rfl (by decide) (by omega) u7 x7_1 ((rd_T30 l1 x8_1).f0) [.int .i64 ((rd_T30 l1 x8_1).f0)] (fun _ => True) (fun _ => False) rfl rfl ?aP (fun _ hk => hk.elim) ?aF ?aO ?aB ?aS ?aL ?_; (case aP => exact rfl); (case aB => exact (lb0_ HB.out)); (case aF => exact (fun _ _ => trivial)); (case aO => exact (kr_ HO_7.out)); (case aS => exact (below_size (lb0_ HB.out))); (case aL => have := LMc11.out; omega); intro v543 w13 ho hb hg hat; rw [← Ny542.out] at ho; replace HB := Aside0.mk (hb); have HO544 := Aside0.mk (ho); clear HO_7; clear ho hb hg hat))
       go_roundg k1
       case measure => have := HK1.out; omega
       case rel => exact ⟨(y542), (wrap64 (x8_1 + 1)), (by first | rfl | (simp; done) | (simp [*]; done)), H', ⟨by have := HK1.out; omega⟩, ⟨kr_ HO544.out⟩, ⟨lb0_ HB.out⟩⟩
      ·
       rw [if_neg c11] at H
       exact absurd H (by simp)
    ·
     rw [if_neg c7] at H
     exact absurd H (by simp)
   ·
    rw [if_neg c6] at H
    have c6b0 : decide (x8_1 < (l1.length : Int)) = false := decide_eq_false c6
    clear c6
    obtain rfl := Option.some.inj H
    go_wp2
    go_ret
    exact ⟨_, rr_, kr_ HO_7.out, lb0_ HB.out⟩
mutual
def spec_OpenFor.j0 : Nat → List (S54) → List (S30) → Int → Bool → Option (Int × Bool)
 | 0, _, _, _, _ => none
 | k + 1, x0, x1, x2, x22 => if x22 = true then (some (0, false)) else (spec_OpenFor.l0 k x0 x1 x2 0 0)
def spec_OpenFor.l0 : Nat → List (S54) → List (S30) → Int → Int → Int → Option (Int × Bool)
 | 0, _, _, _, _, _ => none
 | k + 1, x0, x1, x2, x8, x9 => if x9 ≤ 999 then ((spec_l23Within.f k x0 x9).bind fun t548 => (if t548 = true then ((spec_l23Closed.f k x0 x1 x9).bind fun t549 => (spec_OpenFor.j2 k x0 x1 x2 (wrap64 (x8 + 1)) x9 (decide ((t549.length : Int) > 0)))) else (spec_OpenFor.j2 k x0 x1 x2 (wrap64 (x8 + 1)) x9 true))) else (some (0, false))
def spec_OpenFor.j2 : Nat → List (S54) → List (S30) → Int → Int → Int → Bool → Option (Int × Bool)
 | 0, _, _, _, _, _, _ => none
 | k + 1, x0, x1, x2, x8, x9, x40 => if x40 = true then (if 0 = x2 then (some (wrap64 ((wrap64 (x9 - x2)) + 1), true)) else (spec_OpenFor.l0 k x0 x1 x2 0 (wrap64 (x9 + 1)))) else (if x8 = x2 then (some (wrap64 ((wrap64 (x9 - x2)) + 1), true)) else (spec_OpenFor.l0 k x0 x1 x2 x8 (wrap64 (x9 + 1))))
end
def spec_OpenFor.f (k : Nat) (l0 : List (S54)) (l1 : List (S30)) (a2 : Int) : Option (Int × Bool) := (spec_l23Good.f k l0).bind fun t545 => (if t545 = true then ((spec_l23Sumps.f k l1).bind fun t546 => (if t546 = true then ((spec_l1In.f a2 1 100).bind fun t547 => (spec_OpenFor.j0 k l0 l1 a2 (!t547))) else (spec_OpenFor.j0 k l0 l1 a2 true))) else (spec_OpenFor.j0 k l0 l1 a2 true))
set_option maxHeartbeats 8000000 in
set_option maxRecDepth 100000 in
theorem spec_OpenFor.calls (k : Nat) (A0 : Option Addr) (c0 : Nat) (l0 : List (S54)) (A1 : Option Addr) (c1 : Nat) (l1 : List (S30)) (a2 : Int) (r1 : Int) (r2 : Bool) (w : World) (hr0 : Kd.C k54 w A0 l0.length l0) (hc0 : l0.length ≤ c0) (hr1 : Kd.C k30 w A1 l1.length l1) (hc1 : l1.length ≤ c1) (h : spec_OpenFor.f k l0 l1 a2 = some (r1, r2)) :
  Calls Try.prog 41 #[.slice A0 l0.length c0, .slice A1 l1.length c1, .int .i64 a2] w fun e w' => e = .returned (.tuple #[.int .i64 r1, .bool r2]) ∧ Below w.heap.size w w' := by
 have HR0 := Aside0.mk hr0
 have HC0 := Aside0.mk hc0
 clear hr0 hc0
 have HR1 := Aside0.mk hr1
 have HC1 := Aside0.mk hc1
 clear hr1 hc1
 have HB := Aside0.mk (Below.refl w.heap.size w)
 have H : ((spec_l23Good.f k l0).bind fun t545 => (if t545 = true then ((spec_l23Sumps.f k l1).bind fun t546 => (if t546 = true then ((spec_l1In.f a2 1 100).bind fun t547 => (spec_OpenFor.j0 k l0 l1 a2 (!t547))) else (spec_OpenFor.j0 k l0 l1 a2 true))) else (spec_OpenFor.j0 k l0 l1 a2 true))) = some (r1, r2) := h
 clear h
 have HC4 := Aside0.mk H
 clear H
 go_enter Try.func41, Try.ntmps41
 go_upto_region 1 with (fail)
 go_cut [22] (fun v22 wc => ∃ (kq : Nat) (x22_3 : Bool), v22 = .bool x22_3 ∧ Aside0 (spec_OpenFor.j0 kq l0 l1 a2 x22_3 = some (r1, r2)) ∧ Aside0 (kq ≤ k) ∧ Aside0 (Below w.heap.size w wc))
 case first =>
  have H := HC4.out
  clear HC4
  replace H := Option.bind_eq_some_iff.mp H
  obtain ⟨t545, A50, H⟩ := H
  replace H : (if t545 = true then ((spec_l23Sumps.f k l1).bind fun t546 => (if t546 = true then ((spec_l1In.f a2 1 100).bind fun t547 => (spec_OpenFor.j0 k l0 l1 a2 (!t547))) else (spec_OpenFor.j0 k l0 l1 a2 true))) else (spec_OpenFor.j0 k l0 l1 a2 true)) = some (r1, r2) := H
  have A5 := Aside0.mk A50
  clear A50
  by_cases c6 : t545 = true
  ·
   subst c6
   have H1 : ((spec_l23Sumps.f k l1).bind fun t546 => (if t546 = true then ((spec_l1In.f a2 1 100).bind fun t547 => (spec_OpenFor.j0 k l0 l1 a2 (!t547))) else (spec_OpenFor.j0 k l0 l1 a2 true))) = some (r1, r2) := by rw [if_pos rfl] at H; exact H
   clear H
   have H := H1
   clear H1
   replace H := Option.bind_eq_some_iff.mp H
   obtain ⟨t546, A70, H⟩ := H
   replace H : (if t546 = true then ((spec_l1In.f a2 1 100).bind fun t547 => (spec_OpenFor.j0 k l0 l1 a2 (!t547))) else (spec_OpenFor.j0 k l0 l1 a2 true)) = some (r1, r2) := H
   have A7 := Aside0.mk A70
   clear A70
   by_cases c8 : t546 = true
   ·
    subst c8
    have H1 : ((spec_l1In.f a2 1 100).bind fun t547 => (spec_OpenFor.j0 k l0 l1 a2 (!t547))) = some (r1, r2) := by rw [if_pos rfl] at H; exact H
    clear H
    have H := H1
    clear H1
    replace H := Option.bind_eq_some_iff.mp H
    obtain ⟨t547, A90, H⟩ := H
    replace H : (spec_OpenFor.j0 k l0 l1 a2 (!t547)) = some (r1, r2) := H
    have A9 := Aside0.mk A90
    clear A90
    have H' := Aside0.mk H
    clear H
    go_wp2_with (first | ((with_reducible refine gate_callee (f := 62) rfl ?_); refine ga_ (some 11) Try.func62 #[.slice A0 l0.length c0] ?_; (with_reducible refine (spec_l23Good.calls k _ _ l0 true _ ?side1 ?side2 A5.out).mono ?_); (case side1 => exact kc_ (Kd.C_below HR0.out HB.out)); (case side2 => exact HC0.out); rintro e w10 ⟨rfl, hb⟩; refine ⟨_, rfl, ?_⟩; replace HB := Aside0.mk (below_step (lb0_ HB.out) hb); (try clear hb); (try clear hb2); (try clear hk); (try clear hi)) | (go_at_call 63; (with_reducible refine (spec_l23Sumps.calls k _ _ l1 true _ ?side1 ?side2 A7.out).mono ?_); (case side1 => exact kc_ (Kd.C_below HR1.out HB.out)); (case side2 => exact HC1.out); rintro e w11 ⟨rfl, hb⟩; replace HB := Aside0.mk (below_step (lb0_ HB.out) hb); (try clear hb); (try clear hb2); (try clear hk); (try clear hi)) | (go_at_call 79; (with_reducible refine (spec_l1In.calls a2 1 100 t547 _ A9.out).mono ?_); rintro e w' ⟨rfl, ⟨nd, rfl⟩⟩))
    go_meet
    case rel => exact ⟨_, (!t547), (by first | rfl | (simp; done) | (simp [*]; done)), H', ⟨by first | omega | exact Nat.le_refl _⟩, ⟨lb0_ HB.out⟩⟩
   ·
    replace c8 := Bool.eq_false_iff.mpr c8
    subst c8
    have H1 : (spec_OpenFor.j0 k l0 l1 a2 true) = some (r1, r2) := by rw [if_neg (show ¬ (false = true) by decide)] at H; exact H
    clear H
    have H := H1
    clear H1
    have H' := Aside0.mk H
    clear H
    go_wp2_with (first | ((with_reducible refine gate_callee (f := 62) rfl ?_); refine ga_ (some 11) Try.func62 #[.slice A0 l0.length c0] ?_; (with_reducible refine (spec_l23Good.calls k _ _ l0 true _ ?side1 ?side2 A5.out).mono ?_); (case side1 => exact kc_ (Kd.C_below HR0.out HB.out)); (case side2 => exact HC0.out); rintro e w12 ⟨rfl, hb⟩; refine ⟨_, rfl, ?_⟩; replace HB := Aside0.mk (below_step (lb0_ HB.out) hb); (try clear hb); (try clear hb2); (try clear hk); (try clear hi)) | (go_at_call 63; (with_reducible refine (spec_l23Sumps.calls k _ _ l1 false _ ?side1 ?side2 A7.out).mono ?_); (case side1 => exact kc_ (Kd.C_below HR1.out HB.out)); (case side2 => exact HC1.out); rintro e w13 ⟨rfl, hb⟩; replace HB := Aside0.mk (below_step (lb0_ HB.out) hb); (try clear hb); (try clear hb2); (try clear hk); (try clear hi)))
    go_meet
    case rel => exact ⟨_, (true), (by first | rfl | (simp; done) | (simp [*]; done)), H', ⟨by first | omega | exact Nat.le_refl _⟩, ⟨lb0_ HB.out⟩⟩
  ·
   replace c6 := Bool.eq_false_iff.mpr c6
   subst c6
   have H1 : (spec_OpenFor.j0 k l0 l1 a2 true) = some (r1, r2) := by rw [if_neg (show ¬ (false = true) by decide)] at H; exact H
   clear H
   have H := H1
   clear H1
   have H' := Aside0.mk H
   clear H
   go_wp2_with (first | ((with_reducible refine gate_callee (f := 62) rfl ?_); refine ga_ (some 11) Try.func62 #[.slice A0 l0.length c0] ?_; (with_reducible refine (spec_l23Good.calls k _ _ l0 false _ ?side1 ?side2 A5.out).mono ?_); (case side1 => exact kc_ (Kd.C_below HR0.out HB.out)); (case side2 => exact HC0.out); rintro e w14 ⟨rfl, hb⟩; refine ⟨_, rfl, ?_⟩; replace HB := Aside0.mk (below_step (lb0_ HB.out) hb); (try clear hb); (try clear hb2); (try clear hk); (try clear hi)))
   go_meet
   case rel => exact ⟨_, (true), (by first | rfl | (simp; done) | (simp [*]; done)), H', ⟨by first | omega | exact Nat.le_refl _⟩, ⟨lb0_ HB.out⟩⟩
 case rest =>
  clear HC4
  try clear c1
  try clear p2
  try clear c4
  try clear c6
  try clear c8
  obtain ⟨kq, x22_3, rfl, HA, HJ3, HB⟩ := hcut
  cases kq with
  | zero => exact absurd HA.out (by simp [spec_OpenFor.j0])
  | succ kj3 =>
   have H := HA.out
   clear HA
   simp only [spec_OpenFor.j0] at H
   by_cases c15 : x22_3 = true
   ·
    subst c15
    have H1 : (some (0, false)) = some (r1, r2) := by rw [if_pos rfl] at H; exact H
    clear H
    have H := H1
    clear H1
    simp only [Option.some.injEq, Prod.mk.injEq] at H
    obtain ⟨rfl, rfl⟩ := H
    go_wp2
    go_ret2
    exact ⟨rr_, lb0_ HB.out⟩
   ·
    replace c15 := Bool.eq_false_iff.mpr c15
    subst c15
    have H1 : (spec_OpenFor.l0 kj3 l0 l1 a2 0 0) = some (r1, r2) := by rw [if_neg (show ¬ (false = true) by decide)] at H; exact H
    clear H
    have H := H1
    clear H1
    have H' := Aside0.mk H
    clear H
    go_wp2
    go_loopg [8, 9] kj3 (fun kq v8 v9 w' => ∃ (x8_2 : Int) (x9_2 : Int), v8 = .int .i64 x8_2 ∧ v9 = .int .i64 x9_2 ∧ Aside0 (spec_OpenFor.l0 kq l0 l1 a2 x8_2 x9_2 = some (r1, r2)) ∧ Aside0 (kq ≤ kj3) ∧ Aside0 (Below w.heap.size w w'))
    case atStart => exact ⟨(0), (0), (by first | rfl | (simp; done) | (simp [*]; done)), (by first | rfl | (simp; done) | (simp [*]; done)), H', ⟨Nat.le_refl _⟩, ⟨lb0_ HB.out⟩⟩
    case round =>
     clear H'
     try clear c1
     try clear p2
     try clear c4
     try clear c6
     try clear c8
     try clear c15
     try clear p2
     obtain ⟨x8_2, x9_2, rfl, rfl, HA, HK2, HB⟩ := hrel
     cases gk with
     | zero => exact absurd HA.out (by simp [spec_OpenFor.l0])
     | succ k2 =>
      have H := HA.out
      clear HA
      simp only [spec_OpenFor.l0] at H
      by_cases c16 : x9_2 ≤ 999
      ·
       rw [if_pos c16] at H
       have c16b0 : decide (x9_2 ≤ 999) = true := decide_eq_true c16
       clear c16
       have HC17 := Aside0.mk H
       clear H
       go_upto_region 8 with (fail)
       go_cut [40] (fun v40 wc => ∃ (kq : Nat) (x40_16 : Bool), v40 = .bool x40_16 ∧ Aside0 (spec_OpenFor.j2 kq l0 l1 a2 (wrap64 (x8_2 + 1)) x9_2 x40_16 = some (r1, r2)) ∧ Aside0 (kq ≤ k2) ∧ Aside0 (Below w.heap.size w wc))
       case first =>
        have H := HC17.out; clear HC17; replace H := Option.bind_eq_some_iff.mp H; obtain ⟨t548, A180, H⟩ := H; replace H : (if t548 = true then ((spec_l23Closed.f k2 l0 l1 x9_2).bind fun t549 => (spec_OpenFor.j2 k2 l0 l1 a2 (wrap64 (x8_2 + 1)) x9_2 (decide ((t549.length : Int) > 0)))) else (spec_OpenFor.j2 k2 l0 l1 a2 (wrap64 (x8_2 + 1)) x9_2 true)) = some (r1, r2) := H; have A18 := Aside0.mk A180; clear A180
        by_cases c19 : t548 = true
        ·
         subst c19
         have H1 : ((spec_l23Closed.f k2 l0 l1 x9_2).bind fun t549 => (spec_OpenFor.j2 k2 l0 l1 a2 (wrap64 (x8_2 + 1)) x9_2 (decide ((t549.length : Int) > 0)))) = some (r1, r2) := by rw [if_pos rfl] at H; exact H
         clear H; have H := H1; clear H1; replace H := Option.bind_eq_some_iff.mp H; obtain ⟨t549, A200, H⟩ := H; replace H : (spec_OpenFor.j2 k2 l0 l1 a2 (wrap64 (x8_2 + 1)) x9_2 (decide ((t549.length : Int) > 0))) = some (r1, r2) := H; have A20 := Aside0.mk A200; clear A200; have H' := Aside0.mk H; clear H
         go_wp2_with (first | ((with_reducible refine gate_callee (f := 54) rfl ?_); refine ga_ (some 31) Try.func54 #[.slice A0 l0.length c0, .int .i64 x9_2] ?_; (with_reducible refine (spec_l23Within.calls k2 _ _ l0 x9_2 true _ ?side1 ?side2 A18.out).mono ?_); (case side1 => exact kc_ (Kd.C_below HR0.out HB.out)); (case side2 => exact HC0.out); rintro e w21 ⟨rfl, hb⟩; refine ⟨_, rfl, ?_⟩; replace HB := Aside0.mk (below_step (lb0_ HB.out) hb); (try clear hb); (try clear hb2); (try clear hk); (try clear hi)) | (go_at_call 80; (with_reducible refine (spec_l23Closed.calls k2 _ _ l0 _ _ l1 x9_2 t549 _ ?side1 ?side2 ?side3 ?side4 A20.out).mono ?_); (case side1 => exact kc_ (Kd.C_below HR0.out HB.out)); (case side2 => exact HC0.out); (case side3 => exact kc_ (Kd.C_below HR1.out HB.out)); (case side4 => exact HC1.out); rintro e w22 ⟨v550, rfl, ho0, hb⟩; have HO551 := Aside0.mk (Kd.R_lower ho0 (below_size (lb0_ HB.out))); replace HB := Aside0.mk (below_step (lb0_ HB.out) hb); (try clear hb); (try clear hb2); (try clear hk); (try clear hi); (try clear ho0); obtain ⟨Ao23, co23, eo23⟩ := Kd.R_slice HO551.out; subst eo23))
         go_meet
         case rel => exact ⟨_, (decide ((t549.length : Int) > 0)), (by first | rfl | (simp; done) | (simp [*]; done)), H', ⟨by have := HJ3.out; have := HK2.out; first | omega | exact Nat.le_refl _⟩, ⟨lb0_ HB.out⟩⟩
        ·
         replace c19 := Bool.eq_false_iff.mpr c19; subst c19
         have H1 : (spec_OpenFor.j2 k2 l0 l1 a2 (wrap64 (x8_2 + 1)) x9_2 true) = some (r1, r2) := by rw [if_neg (show ¬ (false = true) by decide)] at H; exact H
         clear H; have H := H1; clear H1; have H' := Aside0.mk H; clear H
         go_wp2_with (first | ((with_reducible refine gate_callee (f := 54) rfl ?_); refine ga_ (some 31) Try.func54 #[.slice A0 l0.length c0, .int .i64 x9_2] ?_; (with_reducible refine (spec_l23Within.calls k2 _ _ l0 x9_2 false _ ?side1 ?side2 A18.out).mono ?_); (case side1 => exact kc_ (Kd.C_below HR0.out HB.out)); (case side2 => exact HC0.out); rintro e w24 ⟨rfl, hb⟩; refine ⟨_, rfl, ?_⟩; replace HB := Aside0.mk (below_step (lb0_ HB.out) hb); (try clear hb); (try clear hb2); (try clear hk); (try clear hi)))
         go_meet
         case rel => exact ⟨_, (true), (by first | rfl | (simp; done) | (simp [*]; done)), H', ⟨by have := HJ3.out; have := HK2.out; first | omega | exact Nat.le_refl _⟩, ⟨lb0_ HB.out⟩⟩
       case rest =>
        clear HC17
        try clear c1
        try clear p2
        try clear c4
        try clear c5
        try clear c6
        try clear p6
        try clear c8
        try clear c15
        try clear c16
        try clear c16b0
        try clear c19
        try clear p2
        obtain ⟨kq, x40_16, rfl, HA, HJ16, HB⟩ := hcut
        cases kq with
        | zero => exact absurd HA.out (by simp [spec_OpenFor.j2])
        | succ kj16 =>
         have H := HA.out; clear HA; simp only [spec_OpenFor.j2] at H
         by_cases c25 : x40_16 = true
         ·
          subst c25
          have H1 : (if 0 = a2 then (some (wrap64 ((wrap64 (x9_2 - a2)) + 1), true)) else (spec_OpenFor.l0 kj16 l0 l1 a2 0 (wrap64 (x9_2 + 1)))) = some (r1, r2) := by rw [if_pos rfl] at H; exact H
          clear H; have H := H1; clear H1
          by_cases c26 : 0 = a2
          ·
           rw [if_pos c26] at H
           have c26b0 : (0 == a2) = true := beq_iff_eq.mpr c26; have c26b1 : (0 != a2) = false := bne_eq_false_iff_eq.mpr c26; clear c26; simp only [Option.some.injEq, Prod.mk.injEq] at H; obtain ⟨rfl, rfl⟩ := H
           go_wp2
           go_ret2
           exact ⟨rr_, lb0_ HB.out⟩
          ·
           rw [if_neg c26] at H
           have c26b0 : (0 == a2) = false := beq_eq_false_iff_ne.mpr c26; have c26b1 : (0 != a2) = true := bne_iff_ne.mpr c26; have H' := Aside0.mk H; clear H
           go_wp2
           go_roundg kj16
           case measure => have := HJ3.out; have := HK2.out; have := HJ16.out; omega
           case rel => exact ⟨(0), (wrap64 (x9_2 + 1)), (by first | rfl | (simp; done) | (simp [*]; done)), (by first | rfl | (simp; done) | (simp [*]; done)), H', ⟨by have := HJ3.out; have := HK2.out; have := HJ16.out; omega⟩, ⟨lb0_ HB.out⟩⟩
         ·
          replace c25 := Bool.eq_false_iff.mpr c25; subst c25
          have H1 : (if (wrap64 (x8_2 + 1)) = a2 then (some (wrap64 ((wrap64 (x9_2 - a2)) + 1), true)) else (spec_OpenFor.l0 kj16 l0 l1 a2 (wrap64 (x8_2 + 1)) (wrap64 (x9_2 + 1)))) = some (r1, r2) := by rw [if_neg (show ¬ (false = true) by decide)] at H; exact H
          clear H; have H := H1; clear H1
          by_cases c27 : (wrap64 (x8_2 + 1)) = a2
          ·
           rw [if_pos c27] at H
           have c27b0 : ((wrap64 (x8_2 + 1)) == a2) = true := beq_iff_eq.mpr c27; have c27b1 : ((wrap64 (x8_2 + 1)) != a2) = false := bne_eq_false_iff_eq.mpr c27; clear c27; simp only [Option.some.injEq, Prod.mk.injEq] at H; obtain ⟨rfl, rfl⟩ := H
           go_wp2
           go_ret2
           exact ⟨rr_, lb0_ HB.out⟩
          ·
           rw [if_neg c27] at H
           have c27b0 : ((wrap64 (x8_2 + 1)) == a2) = false := beq_eq_false_iff_ne.mpr c27; have c27b1 : ((wrap64 (x8_2 + 1)) != a2) = true := bne_iff_ne.mpr c27; have H' := Aside0.mk H; clear H
           go_wp2
           go_roundg kj16
           case measure => have := HJ3.out; have := HK2.out; have := HJ16.out; omega
           case rel => exact ⟨((wrap64 (x8_2 + 1))), (wrap64 (x9_2 + 1)), (by first | rfl | (simp; done) | (simp [*]; done)), (by first | rfl | (simp; done) | (simp [*]; done)), H', ⟨by have := HJ3.out; have := HK2.out; have := HJ16.out; omega⟩, ⟨lb0_ HB.out⟩⟩
      ·
       rw [if_neg c16] at H
       have c16b0 : decide (x9_2 ≤ 999) = false := decide_eq_false c16
       clear c16
       simp only [Option.some.injEq, Prod.mk.injEq] at H
       obtain ⟨rfl, rfl⟩ := H
       go_wp2
       go_ret2
       exact ⟨rr_, lb0_ HB.out⟩
def opS_ (k : Nat) (l : List S54) (s : List S30) (x : Int) : Option Bool := if s.all (fun y => (impl_Sump_open.f k y.f0 y.f1 y.f2 l x).isSome) = true then some (!s.any fun y => !(impl_Sump_open.f k y.f0 y.f1 y.f2 l x).getD false) else none
def firstS_ (c : Int) (l : List (Int × Int)) : Int × Bool := match l.find? (fun q => decide (c ≤ wrap64 (wrap64 (q.2 - q.1) + 1))) with
 | some q => (q.1, true)
 | none => (0, false)
def spanned_ (k : Nat) (l : List S54) (s : List S30) (a b : Int) : Prop := 0 ≤ a ∧ b ≤ 1000000 ∧ (List.range (b - a + 1).toNat).all (fun i => (opS_ k l s (a + i)).isSome) = true
instance (k : Nat) (l : List S54) (s : List S30) (a b : Int) : Decidable (spanned_ k l s a b) := by unfold spanned_; infer_instance
def impl_OpenFor.f (k : Nat) (l0 : List S54) (l1 : List S30) (a2 : Int) : Option (Int × Bool) :=
 (impl_AreReadings.f k l0).bind fun t1 => if t1 = true then (impl_AreSumps.f k l1).bind fun t2 => if t2 = true then (impl_within.f a2 1 100).bind fun t3 => if t3 = true then (impl_hours.f l0).bind fun h => if spanned_ k l0 l1 h.1 h.2 then some (firstS_ a2 (spansB (fun x => (opS_ k l0 l1 x).getD false) (h.2 - h.1 + 1).toNat h.1 [])) else none else some (0, false) else some (0, false) else some (0, false)
set_option maxHeartbeats 8000000 in
set_option maxRecDepth 100000 in
theorem openFor11_ (k : Nat) (gl gh : Nat) (A0 : Option Addr) (c0 : Nat) (l : List S54) (x : Int) (y : S30) (r : Bool) (w : World) (hl : w.cell? ⟨gl, 0, none⟩ = some (.slice A0 l.length c0)) (hh : w.cell? ⟨gh, 0, none⟩ = some (.int .i64 x)) (hr : Kd.C k54 w A0 l.length l) (hc : l.length ≤ c0) (h : impl_Sump_open.f k y.f0 y.f1 y.f2 l x = some r) :
  Calls Try.prog 83 (#[.agg #[.int .i64 y.f0, .int .i64 y.f1, .int .i64 y.f2]] ++ #[.pointer (some ⟨gl, 0, none⟩), .pointer (some ⟨gh, 0, none⟩)]) w fun e w' => e = .returned (.bool (!r)) ∧ Below w.heap.size w w' := by
 show Calls Try.prog 83 #[.agg #[.int .i64 y.f0, .int .i64 y.f1, .int .i64 y.f2], .pointer (some ⟨gl, 0, none⟩), .pointer (some ⟨gh, 0, none⟩)] w _
 have hu2 := Try.underlying30
 have hB := below_alloc (Below.refl w.heap.size w) (.cells #[.int .i64 y.f0, .int .i64 y.f1, .int .i64 y.f2] 30)
 replace hl := bc_ hB hl
 replace hh := bc_ hB hh
 have HB := Aside0.mk hB
 have HR := Aside0.mk (Kd.C_below hr hB)
 have HC := Aside0.mk hc
 have HF := Aside0.mk h
 clear hr hc h hB
 go_enter Try.func83, Try.ntmps83
 go_wp2_with (go_at_call 60; refine (impl_Sump_open.calls k y.f0 y.f1 y.f2 A0 c0 l x r _ HR.out HC.out HF.out).mono ?_; rintro e w' ⟨rfl, hb⟩; have HB2 := Aside0.mk (below_step HB.out hb); clear hb)
 go_ret
 exact ⟨rfl, HB2.out⟩
set_option maxHeartbeats 8000000 in
set_option maxRecDepth 100000 in
theorem openFor1_ (k : Nat) (gl gs : Nat) (A0 A1 : Option Addr) (c0 c1 : Nat) (l : List S54) (s : List S30) (x : Int) (r : Bool) (w : World) (hbl : w.heap[gl]? = some (.cells #[.slice A0 l.length c0] 28 (0, 0))) (hbs : w.heap[gs]? = some (.cells #[.slice A1 s.length c1] 39 (0, 0)))
  (hr0 : Kd.C k54 w A0 l.length l) (hc0 : l.length ≤ c0) (hr1 : Kd.C k30 w A1 s.length s) (hc1 : s.length ≤ c1) (h : opS_ k l s x = some r) :
  Calls Try.prog 81 (#[.int .i64 x] ++ #[.pointer (some ⟨gs, 0, none⟩), .pointer (some ⟨gl, 0, none⟩)]) w fun e w' => e = .returned (.bool r) ∧ Below w.heap.size w w' := by
 show Calls Try.prog 81 #[.int .i64 x, .pointer (some ⟨gs, 0, none⟩), .pointer (some ⟨gl, 0, none⟩)] w _
 unfold opS_ at h
 by_cases c5 : s.all (fun y => (impl_Sump_open.f k y.f0 y.f1 y.f2 l x).isSome) = true
 ·
  rw [if_pos c5] at h
  obtain rfl := Option.some.inj h
  have ALL := Aside0.mk c5
  have BL := Aside0.mk hbl
  have hl : w.cell? ⟨gl, 0, none⟩ = some (.slice A0 l.length c0) := (blk_cell hbl 0).trans rfl
  have hs : w.cell? ⟨gs, 0, none⟩ = some (.slice A1 s.length c1) := (blk_cell hbs 0).trans rfl
  have HR0 := Aside0.mk hr0
  have HC0 := Aside0.mk hc0
  have HR1 := Aside0.mk hr1
  have HC1 := Aside0.mk hc1
  clear c5 h hbl hbs hr0 hc0 hr1 hc1
  go_enter Try.func81, Try.ntmps81
  go_wp2_with (first | ((with_reducible refine gate_dst (N := 3) rfl ?_); refine box_event ?hg (N := 3) ?hd (cs := #[.int .i64 x]) (t := 3) ?hr ?_; (case hd => rfl); (case hg => rfl); (case hr => first | (go_simp; done) | (go_simp; rfl)); intro gh hg w2 hbox hb; have BH := Aside0.mk hbox; have BW := Aside0.mk hb; clear hg hbox hb; replace hl := bc_ BW.out hl; replace hs := bc_ BW.out hs) | (go_at_call 82; refine (cont_Sump.calls (fun y => !(impl_Sump_open.f k y.f0 y.f1 y.f2 l x).getD false) 83 #[.pointer (some ⟨gl, 0, none⟩), .pointer (some ⟨gh, 0, none⟩)] (fun _ _ => rfl) A1 c1 s _ (Kd.C_below HR1.out BW.out) HC1.out ?cl).mono ?_; (case cl => (intro W' y hy hW'; obtain ⟨b_, hb_⟩ := Option.isSome_iff_exists.1 (List.all_eq_true.1 ALL.out y hy); (rw [show (!(impl_Sump_open.f k y.f0 y.f1 y.f2 l x).getD false) = !b_ from by rw [hb_]; rfl]); refine (openFor11_ k gl gh A0 c0 l x y b_ W' ((blk_cell (blk_below (blk_below BL.out BW.out) hW') 0).trans rfl) ((blk_cell (blk_below BH.out hW') 0).trans rfl) (Kd.C_below HR0.out (below_step BW.out hW')) HC0.out hb_).mono ?_; rintro e w'' ⟨rfl, hb2⟩; exact ⟨rfl, below_step hW' hb2⟩)); rintro e w7 ⟨rfl, hb7⟩; have BW7 := Aside0.mk (below_step BW.out hb7); clear hb7))
  go_ret
  exact ⟨rfl, BW7.out⟩
 ·
  rw [if_neg c5] at h
  cases h
theorem all_at_ {p : Int → Bool} {a b : Int} (h : (List.range (b - a + 1).toNat).all (fun i => p (a + i)) = true) (z : Int) (h1 : a ≤ z) (h2 : z ≤ b) : p z = true := by
 have := List.all_eq_true.1 h (z - a).toNat (List.mem_range.2 (by omega))
 rw [show a + ((z - a).toNat : Int) = z by omega] at this
 exact this
theorem span_at_ {w : World} {A : Option Addr} {sp : List (Int × Int)} (h : (Kd.slice 3 (Kd.int .i64)).C w A sp.length (sp.map fun s => [s.1, s.2])) (kk : Nat) (hk : kk < sp.length) : ∃ ad A2 c2, A = some ad ∧ w.cell? (ad.add kk) = some (.slice A2 2 c2) ∧ (∀ ad2, A2 = some ad2 → w.cell? (ad2.add 0) = some (.int .i64 sp[kk].1)) ∧ (∀ ad2, A2 = some ad2 → w.cell? (ad2.add 1) = some (.int .i64 sp[kk].2)) ∧ ∃ ad2, A2 = some ad2 := by
 obtain ⟨ad, rfl, hc⟩ := h.2.2 (by omega)
 obtain ⟨cs, _, hK, hj⟩ := hc kk [sp[kk].1, sp[kk].2] (by rw [List.getElem?_map, List.getElem?_eq_getElem hk]; rfl)
 obtain ⟨A2, c2, rfl, hl2, hC⟩ := hK
 obtain ⟨ad2, rfl, e0⟩ := Kd.at_int hC 0 (by omega) (by simp)
 obtain ⟨ad3, e, e1⟩ := Kd.at_int hC 1 (by omega) (by simp)
 injection e with e
 subst e
 refine ⟨ad, some ad2, c2, rfl, ?_, fun z hz => ?_, fun z hz => ?_, ad2, rfl⟩
 ·
  have := hj 0 _ rfl
  rw [show kk * (Kd.slice 3 (Kd.int .i64)).sz + 0 = kk from Nat.mul_one kk] at this
  exact this
 ·
  injection hz with hz
  subst hz
  exact e0
 ·
  injection hz with hz
  subst hz
  exact e1
def openFor8.T : Bool × List (List Nat × List Nat) := (true, [([], []), ([0], [0]), ([1], [1]), ([], []), ([3], [3]), ([4], [4]), ([2, 5], [2, 5]), ([6], [6]), ([], []), ([7, 8], [7, 8])])
def openFor8.B : List Nat := [0, 1, 3, 0, 8, 24, 63, 127, 0, 511]
theorem openFor8.tab : rtab .any (opsOf Try.f42 8) = openFor8.T := by kernel_rfl
theorem openFor8.bits : waitsOk openFor8.T.2 openFor8.B = true := by kernel_rfl
abbrev openFor8.mk0 : Array Bool := #[fF,fF,fF,fF,fF,fF,fF,fF,fF,fF]
abbrev openFor8.mk1 : Array Bool := #[tT,fF,fF,fF,fF,fF,fF,fF,fF,fF]
abbrev openFor8.mk2 : Array Bool := #[tT,tT,fF,fF,fF,fF,fF,fF,fF,fF]
abbrev openFor8.mk3 : Array Bool := #[tT,tT,fF,tT,fF,fF,fF,fF,fF,fF]
abbrev openFor8.mk4 : Array Bool := #[tT,tT,fF,tT,tT,fF,fF,fF,fF,fF]
abbrev openFor8.mk5 : Array Bool := #[tT,tT,fF,tT,tT,fF,fF,fF,tT,fF]
abbrev openFor8.mk6 : Array Bool := #[tT,tT,tT,tT,tT,fF,fF,fF,tT,fF]
abbrev openFor8.mk7 : Array Bool := #[tT,tT,tT,tT,tT,tT,fF,fF,tT,fF]
abbrev openFor8.mk8 : Array Bool := #[tT,tT,tT,tT,tT,tT,tT,fF,tT,fF]
abbrev openFor8.mk9 : Array Bool := #[tT,tT,tT,tT,tT,tT,tT,tT,tT,fF]
abbrev openFor8.mk10 : Array Bool := #[tT,tT,tT,tT,tT,tT,tT,tT,tT,tT]
set_option maxHeartbeats 8000000 in
set_option maxRecDepth 100000 in
theorem impl_OpenFor.calls (k : Nat) (A0 : Option Addr) (c0 : Nat) (l0 : List S54) (A1 : Option Addr) (c1 : Nat) (l1 : List S30) (a2 : Int) (r1 : Int) (r2 : Bool) (w : World) (hr0 : Kd.C k54 w A0 l0.length l0) (hc0 : l0.length ≤ c0) (hr1 : Kd.C k30 w A1 l1.length l1) (hc1 : l1.length ≤ c1) (h : impl_OpenFor.f k l0 l1 a2 = some (r1, r2)) :
  Calls Try.prog 42 #[.slice A0 l0.length c0, .slice A1 l1.length c1, .int .i64 a2] w fun e w' => e = .returned (.tuple #[.int .i64 r1, .bool r2]) ∧ Below w.heap.size w w' := by
 unfold impl_OpenFor.f at h
 obtain ⟨t1, h1, h⟩ := Option.bind_eq_some_iff.mp h
 have HR0 := Aside0.mk hr0
 have HC0 := Aside0.mk hc0
 have HR1 := Aside0.mk hr1
 have HC1 := Aside0.mk hc1
 have E1 := Aside0.mk h1
 clear hr0 hc0 hr1 hc1 h1
 cases t1 with
 | false =>
  simp only [Bool.false_eq_true, if_false, Option.some.injEq, Prod.mk.injEq] at h
  obtain ⟨rfl, rfl⟩ := h
  go_enter Try.func42, Try.ntmps42
  go_wp2_with (first | ((with_reducible refine gate_dst (N := 3) rfl ?_); refine box_event ?hg (N := 3) ?hd (cs := #[.slice A0 l0.length c0]) (t := 28) ?hr ?_; (case hd => rfl); (case hg => rfl); (case hr => first | (go_simp; done) | (go_simp; rfl)); intro gl hg w2 hbox hb; have BL := Aside0.mk hbox; have BW := Aside0.mk hb; have hl : w2.cell? ⟨gl, 0, none⟩ = some (.slice A0 l0.length c0) := (blk_cell hbox 0).trans rfl; clear hg hbox hb) | ((with_reducible refine gate_dst (N := 4) rfl ?_); refine box_event ?hg (N := 4) ?hd (cs := #[.slice A1 l1.length c1]) (t := 39) ?hr ?_; (case hd => rfl); (case hg => rfl); (case hr => first | (go_simp; done) | (go_simp; rfl)); intro gs hg w3 hbox hb; have BS := Aside0.mk hbox; replace hl := bc_ hb hl; replace BL := Aside0.mk (blk_below BL.out hb); replace BW := Aside0.mk (below_step BW.out hb); have hs : w3.cell? ⟨gs, 0, none⟩ = some (.slice A1 l1.length c1) := (blk_cell hbox 0).trans rfl; clear hg hbox hb) | ((with_reducible refine gate_callee (f := 34) rfl ?_); refine ga_ (some 14) Try.func34 #[.slice A0 l0.length c0] ?_; refine (impl_AreReadings.calls k _ _ l0 false _ (Kd.C_below HR0.out BW.out) HC0.out E1.out).mono ?_; rintro e w4 ⟨rfl, hb⟩; refine ⟨_, rfl, ?_⟩; replace hl := bc_ hb hl; replace hs := bc_ hb hs; replace BL := Aside0.mk (blk_below BL.out hb); replace BS := Aside0.mk (blk_below BS.out hb); replace BW := Aside0.mk (below_step BW.out hb); clear hb))
  go_ret2
  exact ⟨rr_, BW.out⟩
 | true =>
  simp only [if_true] at h
  obtain ⟨t2, h2, h⟩ := Option.bind_eq_some_iff.mp h
  have E2 := Aside0.mk h2
  clear h2
  cases t2 with
  | false =>
   simp only [Bool.false_eq_true, if_false, Option.some.injEq, Prod.mk.injEq] at h
   obtain ⟨rfl, rfl⟩ := h
   go_enter Try.func42, Try.ntmps42
   go_wp2_with (first | ((with_reducible refine gate_dst (N := 3) rfl ?_); refine box_event ?hg (N := 3) ?hd (cs := #[.slice A0 l0.length c0]) (t := 28) ?hr ?_; (case hd => rfl); (case hg => rfl); (case hr => first | (go_simp; done) | (go_simp; rfl)); intro gl hg w2 hbox hb; have BL := Aside0.mk hbox; have BW := Aside0.mk hb; have hl : w2.cell? ⟨gl, 0, none⟩ = some (.slice A0 l0.length c0) := (blk_cell hbox 0).trans rfl; clear hg hbox hb) | ((with_reducible refine gate_dst (N := 4) rfl ?_); refine box_event ?hg (N := 4) ?hd (cs := #[.slice A1 l1.length c1]) (t := 39) ?hr ?_; (case hd => rfl); (case hg => rfl); (case hr => first | (go_simp; done) | (go_simp; rfl)); intro gs hg w3 hbox hb; have BS := Aside0.mk hbox; replace hl := bc_ hb hl; replace BL := Aside0.mk (blk_below BL.out hb); replace BW := Aside0.mk (below_step BW.out hb); have hs : w3.cell? ⟨gs, 0, none⟩ = some (.slice A1 l1.length c1) := (blk_cell hbox 0).trans rfl; clear hg hbox hb) | ((with_reducible refine gate_callee (f := 34) rfl ?_); refine ga_ (some 14) Try.func34 #[.slice A0 l0.length c0] ?_; refine (impl_AreReadings.calls k _ _ l0 true _ (Kd.C_below HR0.out BW.out) HC0.out E1.out).mono ?_; rintro e w4 ⟨rfl, hb⟩; refine ⟨_, rfl, ?_⟩; replace hl := bc_ hb hl; replace hs := bc_ hb hs; replace BL := Aside0.mk (blk_below BL.out hb); replace BS := Aside0.mk (blk_below BS.out hb); replace BW := Aside0.mk (below_step BW.out hb); clear hb) | (go_at_call 50; refine (impl_AreSumps.calls k _ _ l1 false _ (Kd.C_below HR1.out BW.out) HC1.out E2.out).mono ?_; rintro e w5 ⟨rfl, hb⟩; replace hl := bc_ hb hl; replace hs := bc_ hb hs; replace BL := Aside0.mk (blk_below BL.out hb); replace BS := Aside0.mk (blk_below BS.out hb); replace BW := Aside0.mk (below_step BW.out hb); clear hb))
   go_ret2
   exact ⟨rr_, BW.out⟩
  | true =>
   simp only [if_true] at h
   obtain ⟨t3, h3, h⟩ := Option.bind_eq_some_iff.mp h
   have E3 := Aside0.mk h3
   clear h3
   cases t3 with
   | false =>
    simp only [Bool.false_eq_true, if_false, Option.some.injEq, Prod.mk.injEq] at h
    obtain ⟨rfl, rfl⟩ := h
    go_enter Try.func42, Try.ntmps42
    go_wp2_with (first | ((with_reducible refine gate_dst (N := 3) rfl ?_); refine box_event ?hg (N := 3) ?hd (cs := #[.slice A0 l0.length c0]) (t := 28) ?hr ?_; (case hd => rfl); (case hg => rfl); (case hr => first | (go_simp; done) | (go_simp; rfl)); intro gl hg w2 hbox hb; have BL := Aside0.mk hbox; have BW := Aside0.mk hb; have hl : w2.cell? ⟨gl, 0, none⟩ = some (.slice A0 l0.length c0) := (blk_cell hbox 0).trans rfl; clear hg hbox hb) | ((with_reducible refine gate_dst (N := 4) rfl ?_); refine box_event ?hg (N := 4) ?hd (cs := #[.slice A1 l1.length c1]) (t := 39) ?hr ?_; (case hd => rfl); (case hg => rfl); (case hr => first | (go_simp; done) | (go_simp; rfl)); intro gs hg w3 hbox hb; have BS := Aside0.mk hbox; replace hl := bc_ hb hl; replace BL := Aside0.mk (blk_below BL.out hb); replace BW := Aside0.mk (below_step BW.out hb); have hs : w3.cell? ⟨gs, 0, none⟩ = some (.slice A1 l1.length c1) := (blk_cell hbox 0).trans rfl; clear hg hbox hb) | ((with_reducible refine gate_callee (f := 34) rfl ?_); refine ga_ (some 14) Try.func34 #[.slice A0 l0.length c0] ?_; refine (impl_AreReadings.calls k _ _ l0 true _ (Kd.C_below HR0.out BW.out) HC0.out E1.out).mono ?_; rintro e w4 ⟨rfl, hb⟩; refine ⟨_, rfl, ?_⟩; replace hl := bc_ hb hl; replace hs := bc_ hb hs; replace BL := Aside0.mk (blk_below BL.out hb); replace BS := Aside0.mk (blk_below BS.out hb); replace BW := Aside0.mk (below_step BW.out hb); clear hb) | (go_at_call 50; refine (impl_AreSumps.calls k _ _ l1 true _ (Kd.C_below HR1.out BW.out) HC1.out E2.out).mono ?_; rintro e w5 ⟨rfl, hb⟩; replace hl := bc_ hb hl; replace hs := bc_ hb hs; replace BL := Aside0.mk (blk_below BL.out hb); replace BS := Aside0.mk (blk_below BS.out hb); replace BW := Aside0.mk (below_step BW.out hb); clear hb) | (go_at_call 74; refine (impl_within.calls a2 1 100 false _ E3.out).mono ?_; rintro e w6 ⟨rfl, hd⟩; have hb := hd.below; clear hd; replace hl := bc_ hb hl; replace hs := bc_ hb hs; replace BL := Aside0.mk (blk_below BL.out hb); replace BS := Aside0.mk (blk_below BS.out hb); replace BW := Aside0.mk (below_step BW.out hb); clear hb))
    go_ret2
    exact ⟨rr_, BW.out⟩
   | true =>
    simp only [if_true] at h
    obtain ⟨⟨x, y⟩, h4, h⟩ := Option.bind_eq_some_iff.mp h
    have E4 := Aside0.mk h4
    clear h4
    simp only at h
    by_cases q : spanned_ k l0 l1 x y
    ·
     rw [if_pos q] at h
     have SP := Aside0.mk q
     obtain ⟨sp, hsp⟩ : ∃ sp, spansB (fun z => (opS_ k l0 l1 z).getD false) (y - x + 1).toNat x [] = sp := ⟨_, rfl⟩
     rw [hsp] at h
     have HSP := Aside0.mk hsp
     have hF := Aside0.mk (Option.some.inj h)
     clear h q hsp
     go_enter Try.func42, Try.ntmps42
     go_wp2_with (first | ((with_reducible refine gate_dst (N := 3) rfl ?_); refine box_event ?hg (N := 3) ?hd (cs := #[.slice A0 l0.length c0]) (t := 28) ?hr ?_; (case hd => rfl); (case hg => rfl); (case hr => first | (go_simp; done) | (go_simp; rfl)); intro gl hg w2 hbox hb; have BL := Aside0.mk hbox; have BW := Aside0.mk hb; have hl : w2.cell? ⟨gl, 0, none⟩ = some (.slice A0 l0.length c0) := (blk_cell hbox 0).trans rfl; clear hg hbox hb) | ((with_reducible refine gate_dst (N := 4) rfl ?_); refine box_event ?hg (N := 4) ?hd (cs := #[.slice A1 l1.length c1]) (t := 39) ?hr ?_; (case hd => rfl); (case hg => rfl); (case hr => first | (go_simp; done) | (go_simp; rfl)); intro gs hg w3 hbox hb; have BS := Aside0.mk hbox; replace hl := bc_ hb hl; replace BL := Aside0.mk (blk_below BL.out hb); replace BW := Aside0.mk (below_step BW.out hb); have hs : w3.cell? ⟨gs, 0, none⟩ = some (.slice A1 l1.length c1) := (blk_cell hbox 0).trans rfl; clear hg hbox hb) | ((with_reducible refine gate_callee (f := 34) rfl ?_); refine ga_ (some 14) Try.func34 #[.slice A0 l0.length c0] ?_; refine (impl_AreReadings.calls k _ _ l0 true _ (Kd.C_below HR0.out BW.out) HC0.out E1.out).mono ?_; rintro e w4 ⟨rfl, hb⟩; refine ⟨_, rfl, ?_⟩; replace hl := bc_ hb hl; replace hs := bc_ hb hs; replace BL := Aside0.mk (blk_below BL.out hb); replace BS := Aside0.mk (blk_below BS.out hb); replace BW := Aside0.mk (below_step BW.out hb); clear hb) | (go_at_call 50; refine (impl_AreSumps.calls k _ _ l1 true _ (Kd.C_below HR1.out BW.out) HC1.out E2.out).mono ?_; rintro e w5 ⟨rfl, hb⟩; replace hl := bc_ hb hl; replace hs := bc_ hb hs; replace BL := Aside0.mk (blk_below BL.out hb); replace BS := Aside0.mk (blk_below BS.out hb); replace BW := Aside0.mk (below_step BW.out hb); clear hb) | (go_at_call 74; refine (impl_within.calls a2 1 100 true _ E3.out).mono ?_; rintro e w6 ⟨rfl, hd⟩; have hb := hd.below; clear hd; replace hl := bc_ hb hl; replace hs := bc_ hb hs; replace BL := Aside0.mk (blk_below BL.out hb); replace BS := Aside0.mk (blk_below BS.out hb); replace BW := Aside0.mk (below_step BW.out hb); clear hb) | ((with_reducible refine gate_callee (f := 76) rfl ?_); refine ga_ (some 28) Try.func76 #[.slice A0 l0.length c0] ?_; refine (impl_hours.calls _ _ l0 x y _ (Kd.C_below HR0.out BW.out) HC0.out E4.out).mono ?_; rintro e w7 ⟨rfl, hd⟩; have hb := hd.below; clear hd; refine ⟨_, rfl, ?_⟩; replace hl := bc_ hb hl; replace hs := bc_ hb hs; replace BL := Aside0.mk (blk_below BL.out hb); replace BS := Aside0.mk (blk_below BS.out hb); replace BW := Aside0.mk (below_step BW.out hb); clear hb) | (go_at_call 77; refine (spans_.calls (fun z => (opS_ k l0 l1 z).getD false) 81 #[.pointer (some ⟨gs, 0, none⟩), .pointer (some ⟨gl, 0, none⟩)] (fun _ _ => rfl) x y _ SP.out.1 SP.out.2.1 ?cl).mono ?_; (case cl => (intro W' z hz1 hz2 hW'; obtain ⟨b_, hb_⟩ := Option.isSome_iff_exists.1 (all_at_ (p := fun z => (opS_ k l0 l1 z).isSome) SP.out.2.2 z hz1 hz2); (rw [show (opS_ k l0 l1 z).getD false = b_ from by rw [hb_]; rfl]); exact openFor1_ k gl gs A0 A1 c0 c1 l0 l1 z b_ W' (blk_below BL.out hW') (blk_below BS.out hW') (Kd.C_below HR0.out (below_step BW.out hW')) HC0.out (Kd.C_below HR1.out (below_step BW.out hW')) HC1.out hb_)); rintro e w8 ⟨v8, rfl, ho8, hb⟩; replace BW := Aside0.mk (below_step BW.out hb); rw [HSP.out] at ho8; obtain ⟨A, c, rfl, hc8, hC8⟩ := Kd.R_reads ho8; rw [List.length_map] at hC8 hc8 ⊢; have HL := Aside0.mk hC8; have hmx : sp.length ≤ 9223372036854775807 := hC8.2.1; clear hl hs hb ho8 hc8 hC8))
     go_loopg [12, 37] sp.length (fun gg v12 v37 wr => ∃ kk : Nat, kk ≤ sp.length ∧ sp.length - kk ≤ gg ∧ v37 = .int .i64 kk ∧ Aside0 (firstS_ a2 (sp.drop kk) = (r1, r2)) ∧ Aside0 (Below w8.heap.size w8 wr))
     case atStart => exact ⟨0, Nat.zero_le _, by omega, rfl, hF, ⟨Below.refl _ _⟩⟩
     case round =>
      obtain ⟨kk, hkk, hgg, rfl, HA, BR⟩ := hrel
      by_cases hlt : kk < sp.length
      ·
       have hltz : (kk : Int) < (sp.length : Int) := by omega
       have hk0 : (0 : Int) ≤ (kk : Int) := by omega
       have hA := HA.out
       rw [List.drop_eq_getElem_cons hlt] at hA
       obtain ⟨ad, A2, c2, rfl, hx0, hx1, hx2, hd⟩ := span_at_ HL.out kk hlt
       obtain ⟨ad2, rfl⟩ := hd
       replace hx0 := bc_ BR.out hx0
       replace hx1 := bc_ BR.out (hx1 _ rfl)
       replace hx2 := bc_ BR.out (hx2 _ rfl)
       generalize sp[kk] = q at hA hx0 hx1 hx2
       obtain ⟨a, b⟩ := q
       simp only at hx0 hx1 hx2
       unfold firstS_ at hA
       have HG := Aside0.mk hgg
       clear hgg HA
       by_cases hq : a2 ≤ wrap64 (wrap64 (b - a) + 1)
       ·
        rw [List.find?_cons_of_pos (by simp only [decide_eq_true_eq]; exact hq)] at hA
        simp only [Prod.mk.injEq] at hA; obtain ⟨rfl, rfl⟩ := hA
        go_wp2
        refine start_ (n := 10) (S := fun w' => w'.cell? ad2 = some (.int .i64 a) ∧ w'.cell? ⟨ad2.block, ad2.off + 1, none⟩ = some (.int .i64 b)) (ds := []) openFor8.mk0 (by kernel_rfl) rfl rfl ⟨hx1, hx2⟩ (fun hHeld => ?_); refine with_tabW openFor8.tab openFor8.bits (fun HT_ HW_ => ?_); replace BR := Aside0.mk (below_drew1 BR.out); generalize wr.drew = w9 at BR hHeld ⊢; refine pz_ HT_ 0 (some 41) openFor8.mk1 ?_; refine pz_ HT_ 1 (some 42) openFor8.mk2 ?_; refine pz_ HT_ 3 (some 44) openFor8.mk3 ?_; refine pz_ HT_ 4 (some 45) openFor8.mk4 ?_; refine pz_ HT_ 8 (some 49) openFor8.mk5 ?_; refine tk_ HT_ HW_ hHeld 2 (some 43) openFor8.mk6 ?_; refine tk_ HT_ HW_ hHeld 5 (some 46) openFor8.mk7 ?_; refine pz_ HT_ 6 (some 47) openFor8.mk8 ?_; refine pz_ HT_ 7 (some 48) openFor8.mk9 ?_; refine pz_ HT_ 9 (some 50) openFor8.mk10 ?_; refine done_ (done_of HT_.out (by kernel_rfl)) ?_
        go_wp2
        go_ret2
        exact ⟨rr_, below_step BW.out BR.out⟩
       ·
        rw [List.find?_cons_of_neg (by simp only [decide_eq_true_eq]; exact hq)] at hA
        have HA := Aside0.mk hA; clear hA
        go_wp2
        refine start_ (n := 10) (S := fun w' => w'.cell? ad2 = some (.int .i64 a) ∧ w'.cell? ⟨ad2.block, ad2.off + 1, none⟩ = some (.int .i64 b)) (ds := []) openFor8.mk0 (by kernel_rfl) rfl rfl ⟨hx1, hx2⟩ (fun hHeld => ?_); refine with_tabW openFor8.tab openFor8.bits (fun HT_ HW_ => ?_); replace BR := Aside0.mk (below_drew1 BR.out); generalize wr.drew = w9 at BR hHeld ⊢; refine pz_ HT_ 0 (some 41) openFor8.mk1 ?_; refine pz_ HT_ 1 (some 42) openFor8.mk2 ?_; refine pz_ HT_ 3 (some 44) openFor8.mk3 ?_; refine pz_ HT_ 4 (some 45) openFor8.mk4 ?_; refine pz_ HT_ 8 (some 49) openFor8.mk5 ?_; refine tk_ HT_ HW_ hHeld 2 (some 43) openFor8.mk6 ?_; refine tk_ HT_ HW_ hHeld 5 (some 46) openFor8.mk7 ?_; refine pz_ HT_ 6 (some 47) openFor8.mk8 ?_; refine pz_ HT_ 7 (some 48) openFor8.mk9 ?_; refine pz_ HT_ 9 (some 50) openFor8.mk10 ?_; refine done_ (done_of HT_.out (by kernel_rfl)) ?_
        go_wp2
        go_roundg (sp.length - (kk + 1))
        case measure => have := HG.out; omega
        case rel => exact ⟨kk + 1, by omega, by omega, by go_num, HA, BR⟩
      ·
       have hltz : ¬ (kk : Int) < (sp.length : Int) := by omega
       have hA := HA.out
       rw [List.drop_of_length_le (by omega)] at hA
       simp only [firstS_, List.find?_nil, Prod.mk.injEq] at hA
       obtain ⟨rfl, rfl⟩ := hA
       go_wp2
       go_ret2
       exact ⟨rr_, below_step BW.out BR.out⟩
    ·
     rw [if_neg q] at h
     cases h
def spec_ClosedSumps.f (k : Nat) (l0 : List (S54)) (l1 : List (S30)) (a2 : Int) : Option (List Int × Bool) := (spec_l23Within.f k l0 a2).bind fun t578 => (if t578 = true then ((spec_l23Sumps.f k l1).bind fun t579 => (if t579 = true then ((spec_l23Closed.f k l0 l1 a2).bind fun t580 => (some (t580, true))) else (some ((([] : List Int)), false)))) else (some ((([] : List Int)), false)))
set_option maxHeartbeats 8000000 in
set_option maxRecDepth 100000 in
theorem spec_ClosedSumps.calls (k : Nat) (A0 : Option Addr) (c0 : Nat) (l0 : List (S54)) (A1 : Option Addr) (c1 : Nat) (l1 : List (S30)) (a2 : Int) (r1 : List Int) (r2 : Bool) (w : World) (hr0 : Kd.C k54 w A0 l0.length l0) (hc0 : l0.length ≤ c0) (hr1 : Kd.C k30 w A1 l1.length l1) (hc1 : l1.length ≤ c1) (h : spec_ClosedSumps.f k l0 l1 a2 = some (r1, r2)) :
  Calls Try.prog 43 #[.slice A0 l0.length c0, .slice A1 l1.length c1, .int .i64 a2] w fun e w' => ∃ v0_ : Value, e = .returned (.tuple #[v0_, .bool r2]) ∧ Kd.R (Kd.int .i64) 3 w' w.heap.size (fun _ => True) v0_ r1 ∧ Below w.heap.size w w' := by
 have HR0 := Aside0.mk hr0
 have HC0 := Aside0.mk hc0
 clear hr0 hc0
 have HR1 := Aside0.mk hr1
 have HC1 := Aside0.mk hc1
 clear hr1 hc1
 have HB := Aside0.mk (Below.refl w.heap.size w)
 have H : ((spec_l23Within.f k l0 a2).bind fun t578 => (if t578 = true then ((spec_l23Sumps.f k l1).bind fun t579 => (if t579 = true then ((spec_l23Closed.f k l0 l1 a2).bind fun t580 => (some (t580, true))) else (some ((([] : List Int)), false)))) else (some ((([] : List Int)), false)))) = some (r1, r2) := h
 clear h
 replace H := Option.bind_eq_some_iff.mp H
 obtain ⟨t578, A40, H⟩ := H
 replace H : (if t578 = true then ((spec_l23Sumps.f k l1).bind fun t579 => (if t579 = true then ((spec_l23Closed.f k l0 l1 a2).bind fun t580 => (some (t580, true))) else (some ((([] : List Int)), false)))) else (some ((([] : List Int)), false))) = some (r1, r2) := H
 have A4 := Aside0.mk A40
 clear A40
 by_cases c5 : t578 = true
 ·
  subst c5
  have H1 : ((spec_l23Sumps.f k l1).bind fun t579 => (if t579 = true then ((spec_l23Closed.f k l0 l1 a2).bind fun t580 => (some (t580, true))) else (some ((([] : List Int)), false)))) = some (r1, r2) := by rw [if_pos rfl] at H; exact H
  clear H
  have H := H1
  clear H1
  replace H := Option.bind_eq_some_iff.mp H
  obtain ⟨t579, A60, H⟩ := H
  replace H : (if t579 = true then ((spec_l23Closed.f k l0 l1 a2).bind fun t580 => (some (t580, true))) else (some ((([] : List Int)), false))) = some (r1, r2) := H
  have A6 := Aside0.mk A60
  clear A60
  by_cases c7 : t579 = true
  ·
   subst c7
   have H1 : ((spec_l23Closed.f k l0 l1 a2).bind fun t580 => (some (t580, true))) = some (r1, r2) := by rw [if_pos rfl] at H; exact H
   clear H
   have H := H1
   clear H1
   replace H := Option.bind_eq_some_iff.mp H
   obtain ⟨t580, A80, H⟩ := H
   replace H : (some (t580, true)) = some (r1, r2) := H
   have A8 := Aside0.mk A80
   clear A80
   simp only [Option.some.injEq, Prod.mk.injEq] at H
   obtain ⟨rfl, rfl⟩ := H
   go_enter Try.func43, Try.ntmps43
   go_wp2_with (first | ((with_reducible refine gate_callee (f := 54) rfl ?_); refine ga_ (some 10) Try.func54 #[.slice A0 l0.length c0, .int .i64 a2] ?_; (with_reducible refine (spec_l23Within.calls k _ _ l0 a2 true _ ?side1 ?side2 A4.out).mono ?_); (case side1 => exact kc_ HR0.out); (case side2 => exact HC0.out); rintro e w9 ⟨rfl, hb⟩; refine ⟨_, rfl, ?_⟩; replace HB := Aside0.mk (below_step (lb0_ HB.out) hb); (try clear hb); (try clear hb2); (try clear hk); (try clear hi)) | (go_at_call 63; (with_reducible refine (spec_l23Sumps.calls k _ _ l1 true _ ?side1 ?side2 A6.out).mono ?_); (case side1 => exact kc_ (Kd.C_below HR1.out HB.out)); (case side2 => exact HC1.out); rintro e w10 ⟨rfl, hb⟩; replace HB := Aside0.mk (below_step (lb0_ HB.out) hb); (try clear hb); (try clear hb2); (try clear hk); (try clear hi)) | ((with_reducible refine gate_callee (f := 80) rfl ?_); refine ga_ (some 21) Try.func80 #[.slice A0 l0.length c0, .slice A1 l1.length c1, .int .i64 a2] ?_; (with_reducible refine (spec_l23Closed.calls k _ _ l0 _ _ l1 a2 t580 _ ?side1 ?side2 ?side3 ?side4 A8.out).mono ?_); (case side1 => exact kc_ (Kd.C_below HR0.out HB.out)); (case side2 => exact HC0.out); (case side3 => exact kc_ (Kd.C_below HR1.out HB.out)); (case side4 => exact HC1.out); rintro e w11 ⟨v581, rfl, ho0, hb⟩; refine ⟨_, rfl, ?_⟩; have HO582 := Aside0.mk (Kd.R_lower ho0 (below_size (lb0_ HB.out))); replace HB := Aside0.mk (below_step (lb0_ HB.out) hb); (try clear hb); (try clear hb2); (try clear hk); (try clear hi); (try clear ho0)))
   go_ret2
   exact ⟨_, rr_, kr_ HO582.out, lb0_ HB.out⟩
  ·
   replace c7 := Bool.eq_false_iff.mpr c7
   subst c7
   have H1 : (some ((([] : List Int)), false)) = some (r1, r2) := by rw [if_neg (show ¬ (false = true) by decide)] at H; exact H
   clear H
   have H := H1
   clear H1
   obtain ⟨y583, hy583⟩ : ∃ y_ : List Int, y_ = (([] : List Int)) := ⟨_, rfl⟩
   replace H : (some (y583, false)) = some (r1, r2) := by first | (rw [hy583]; with_reducible exact H) | (have H2_ := (Option.bind_some _ _).symm.trans H; rw [hy583]; with_reducible exact H2_) | (have H2_ := (Option.bind_some _ _).symm.trans H; with_reducible exact H2_) | with_reducible exact H | (rw [hy583]; exact H) | exact H
   have Ny583 := Aside0.mk hy583
   clear hy583
   simp only [Option.some.injEq, Prod.mk.injEq] at H
   obtain ⟨rfl, rfl⟩ := H
   go_enter Try.func43, Try.ntmps43
   go_wp2_with (first | ((with_reducible refine gate_callee (f := 54) rfl ?_); refine ga_ (some 10) Try.func54 #[.slice A0 l0.length c0, .int .i64 a2] ?_; (with_reducible refine (spec_l23Within.calls k _ _ l0 a2 true _ ?side1 ?side2 A4.out).mono ?_); (case side1 => exact kc_ HR0.out); (case side2 => exact HC0.out); rintro e w12 ⟨rfl, hb⟩; refine ⟨_, rfl, ?_⟩; replace HB := Aside0.mk (below_step (lb0_ HB.out) hb); (try clear hb); (try clear hb2); (try clear hk); (try clear hi)) | (go_at_call 63; (with_reducible refine (spec_l23Sumps.calls k _ _ l1 false _ ?side1 ?side2 A6.out).mono ?_); (case side1 => exact kc_ (Kd.C_below HR1.out HB.out)); (case side2 => exact HC1.out); rintro e w13 ⟨rfl, hb⟩; replace HB := Aside0.mk (below_step (lb0_ HB.out) hb); (try clear hb); (try clear hb2); (try clear hk); (try clear hi)) | ((with_reducible refine gate_dst (N := 17) rfl ?_); refine Kd.R_lit (Kd.int .i64) _ 3 ?hg (N := 17) ?hd (xs := ([] : List Int)) (inner := []) (ok := fun _ => True) (okp := fun _ => True) ?hr ?hp (fun _ hk => hk) trivial (Below.refl _ _) (Nat.le_refl _) (by simp) ?_; (case hd => rfl); (case hg => rfl); (case hr => first | (go_simp; done) | (go_simp; rfl)); (case hp => exact (Reps.none _ _)); intro v584 w14 ho15 hb hg_ hnew_; clear hg_ hnew_; replace ho15 := ry_ Ny583.out ho15; have HO585 := Aside0.mk (Kd.R_lower ho15 (below_size (lb0_ HB.out))); replace HB := Aside0.mk (below_step (lb0_ HB.out) hb); clear hb ho15))
   go_ret2
   exact ⟨_, rr_, kr_ HO585.out, lb0_ HB.out⟩
 ·
  replace c5 := Bool.eq_false_iff.mpr c5
  subst c5
  have H1 : (some ((([] : List Int)), false)) = some (r1, r2) := by rw [if_neg (show ¬ (false = true) by decide)] at H; exact H
  clear H
  have H := H1
  clear H1
  obtain ⟨y586, hy586⟩ : ∃ y_ : List Int, y_ = (([] : List Int)) := ⟨_, rfl⟩
  replace H : (some (y586, false)) = some (r1, r2) := by first | (rw [hy586]; with_reducible exact H) | (have H2_ := (Option.bind_some _ _).symm.trans H; rw [hy586]; with_reducible exact H2_) | (have H2_ := (Option.bind_some _ _).symm.trans H; with_reducible exact H2_) | with_reducible exact H | (rw [hy586]; exact H) | exact H
  have Ny586 := Aside0.mk hy586
  clear hy586
  simp only [Option.some.injEq, Prod.mk.injEq] at H
  obtain ⟨rfl, rfl⟩ := H
  go_enter Try.func43, Try.ntmps43
  go_wp2_with (first | ((with_reducible refine gate_callee (f := 54) rfl ?_); refine ga_ (some 10) Try.func54 #[.slice A0 l0.length c0, .int .i64 a2] ?_; (with_reducible refine (spec_l23Within.calls k _ _ l0 a2 false _ ?side1 ?side2 A4.out).mono ?_); (case side1 => exact kc_ HR0.out); (case side2 => exact HC0.out); rintro e w16 ⟨rfl, hb⟩; refine ⟨_, rfl, ?_⟩; replace HB := Aside0.mk (below_step (lb0_ HB.out) hb); (try clear hb); (try clear hb2); (try clear hk); (try clear hi)) | ((with_reducible refine gate_dst (N := 17) rfl ?_); refine Kd.R_lit (Kd.int .i64) _ 3 ?hg (N := 17) ?hd (xs := ([] : List Int)) (inner := []) (ok := fun _ => True) (okp := fun _ => True) ?hr ?hp (fun _ hk => hk) trivial (Below.refl _ _) (Nat.le_refl _) (by simp) ?_; (case hd => rfl); (case hg => rfl); (case hr => first | (go_simp; done) | (go_simp; rfl)); (case hp => exact (Reps.none _ _)); intro v587 w17 ho18 hb hg_ hnew_; clear hg_ hnew_; replace ho18 := ry_ Ny586.out ho18; have HO588 := Aside0.mk (Kd.R_lower ho18 (below_size (lb0_ HB.out))); replace HB := Aside0.mk (below_step (lb0_ HB.out) hb); clear hb ho18))
  go_ret2
  exact ⟨_, rr_, kr_ HO588.out, lb0_ HB.out⟩
end Go.Proofs.Ytojaeidabmfajaa.Pr

namespace Go.Proofs.Ytojaeidabmfajaa.Pr
open Go.RowKit Go.Proofs.YtojaeidabmfajaaW.PrintWords Go.Proofs.YtojaeidabmfajaaW.PrintLast Go.Proofs.YtojaeidabmfajaaW.PrintMore
set_option linter.unusedVariables false
set_option linter.unusedSimpArgs false
theorem kg_ {α : Type} {d : Kd α} {e base g t : Nat} {w w1 : World} {ok : Nat → Prop} {v : Value} {xs : List α} {cs : Array Value} (h : d.R e w base ok v xs) (B : w.heap[g]? = some (.cells cs t (0, 0))) (ht : ∀ q, q ∈ e :: d.E → q ≠ t := by decide) (hh : d.R e w base (fun k => ok k ∧ k ≠ g) v xs → d.R e w1 base (fun k => ok k ∧ k ≠ g) v xs := by intro h_; (repeat (with_reducible first | exact h_ | apply Kd.R_alloc | apply Kd.R_drewN | apply Kd.R_drew | refine Kd.R_far ?_ (fun _ hk => hk.2) _))) : d.R e w1 base ok v xs := Kd.R_mono (hh (Kd.R_types h B ht)) (fun _ h_ => h_.1)
end Go.Proofs.Ytojaeidabmfajaa.Pr

namespace Go.Proofs.Ytojaeidabmfajaa.Pr
open Go.RowKit Go.Proofs.YtojaeidabmfajaaW.PrintWords Go.Proofs.YtojaeidabmfajaaW.PrintLast Go.Proofs.YtojaeidabmfajaaW.PrintMore
attribute [local go_sem] max2_int min2_int max_two min_two max_three min_three max_four min_four   -- for this text's walks alone
set_option linter.unusedVariables false
set_option linter.unusedSimpArgs false
mutual
def impl_ClosedSumps.j0 : Nat → List (S54) → List (S30) → Int → Bool → Option (List Int × Bool)
 | 0, _, _, _, _ => none
 | k + 1, x0, x1, x2, x19 => if x19 = true then (some (([] : List Int), false)) else (impl_ClosedSumps.l0 k x0 x2 ([] : List Int) x1 (x1.length : Int) 0)
def impl_ClosedSumps.l0 : Nat → List (S54) → Int → List Int → List (S30) → Int → Int → Option (List Int × Bool)
 | 0, _, _, _, _, _, _ => none
 | k + 1, x0, x2, x8, x20, x21, x22 => if x22 < x21 then (if 0 ≤ x22 then (if x22 < (x20.length : Int) then ((impl_Sump_open.f k ((rd_T30 x20 x22).f0) ((rd_T30 x20 x22).f1) ((rd_T30 x20 x22).f2) x0 x2).bind fun t593 => (if t593 = true then (impl_ClosedSumps.l0 k x0 x2 x8 x20 x21 (wrap64 (x22 + 1))) else (if x8.length < 17592186044416 then (impl_ClosedSumps.l0 k x0 x2 (x8 ++ [(rd_T30 x20 x22).f0]) x20 x21 (wrap64 (x22 + 1))) else (none)))) else (none)) else (none)) else (some (x8, true))
end
def impl_ClosedSumps.f (k : Nat) (l0 : List (S54)) (l1 : List (S30)) (a2 : Int) : Option (List Int × Bool) := (impl_hasHour.f k l0 a2).bind fun t589 => (if t589 = true then ((impl_AreSumps.f k l1).bind fun t590 => (impl_ClosedSumps.j0 k l0 l1 a2 (!t590))) else (impl_ClosedSumps.j0 k l0 l1 a2 true))
set_option maxHeartbeats 8000000 in
set_option maxRecDepth 100000 in
theorem impl_ClosedSumps.calls (k : Nat) (A0 : Option Addr) (c0 : Nat) (l0 : List (S54)) (A1 : Option Addr) (c1 : Nat) (l1 : List (S30)) (a2 : Int) (r1 : List Int) (r2 : Bool) (w : World) (hr0 : Kd.C k54 w A0 l0.length l0) (hc0 : l0.length ≤ c0) (hr1 : Kd.C k30 w A1 l1.length l1) (hc1 : l1.length ≤ c1) (h : impl_ClosedSumps.f k l0 l1 a2 = some (r1, r2)) :
  Calls Try.prog 44 #[.slice A0 l0.length c0, .slice A1 l1.length c1, .int .i64 a2] w fun e w' => ∃ v0_ : Value, e = .returned (.tuple #[v0_, .bool r2]) ∧ Kd.R (Kd.int .i64) 3 w' w.heap.size (fun _ => True) v0_ r1 ∧ Below w.heap.size w w' := by
 have hu30 := Try.underlying30
 have HR0 := Aside0.mk hr0
 have HC0 := Aside0.mk hc0
 clear hr0 hc0
 have HR1 := Aside0.mk hr1
 have HC1 := Aside0.mk hc1
 clear hr1 hc1
 have HB := Aside0.mk (Below.refl w.heap.size w)
 have H : ((impl_hasHour.f k l0 a2).bind fun t589 => (if t589 = true then ((impl_AreSumps.f k l1).bind fun t590 => (impl_ClosedSumps.j0 k l0 l1 a2 (!t590))) else (impl_ClosedSumps.j0 k l0 l1 a2 true))) = some (r1, r2) := h
 clear h
 have HC4 := Aside0.mk H
 clear H
 go_enter Try.func44, Try.ntmps44
 go_upto_region 1 with (fail)
 go_cut [19] (fun v19 wc => ∃ (kq : Nat) (x19_3 : Bool), v19 = .bool x19_3 ∧ Aside0 (impl_ClosedSumps.j0 kq l0 l1 a2 x19_3 = some (r1, r2)) ∧ Aside0 (kq ≤ k) ∧ Aside0 (Below w.heap.size w wc))
 case first =>
  have H := HC4.out
  clear HC4
  replace H := Option.bind_eq_some_iff.mp H
  obtain ⟨t589, A50, H⟩ := H
  replace H : (if t589 = true then ((impl_AreSumps.f k l1).bind fun t590 => (impl_ClosedSumps.j0 k l0 l1 a2 (!t590))) else (impl_ClosedSumps.j0 k l0 l1 a2 true)) = some (r1, r2) := H
  have A5 := Aside0.mk A50
  clear A50
  by_cases c6 : t589 = true
  ·
   subst c6
   have H1 : ((impl_AreSumps.f k l1).bind fun t590 => (impl_ClosedSumps.j0 k l0 l1 a2 (!t590))) = some (r1, r2) := by rw [if_pos rfl] at H; exact H
   clear H
   have H := H1
   clear H1
   replace H := Option.bind_eq_some_iff.mp H
   obtain ⟨t590, A70, H⟩ := H
   replace H : (impl_ClosedSumps.j0 k l0 l1 a2 (!t590)) = some (r1, r2) := H
   have A7 := Aside0.mk A70
   clear A70
   have H' := Aside0.mk H
   clear H
   go_wp2_with (first | ((with_reducible refine gate_callee (f := 58) rfl ?_); refine ga_ (some 13) Try.func58 #[.slice A0 l0.length c0, .int .i64 a2] ?_; (with_reducible refine (impl_hasHour.calls k _ _ l0 a2 true _ ?side1 ?side2 A5.out).mono ?_); (case side1 => exact kc_ (Kd.C_below HR0.out HB.out)); (case side2 => exact HC0.out); rintro e w8 ⟨rfl, hb⟩; refine ⟨_, rfl, ?_⟩; replace HB := Aside0.mk (below_step (lb0_ HB.out) hb); (try clear hb); (try clear hb2); (try clear hk); (try clear hi)) | (go_at_call 50; (with_reducible refine (impl_AreSumps.calls k _ _ l1 t590 _ ?side1 ?side2 A7.out).mono ?_); (case side1 => exact kc_ (Kd.C_below HR1.out HB.out)); (case side2 => exact HC1.out); rintro e w9 ⟨rfl, hb⟩; replace HB := Aside0.mk (below_step (lb0_ HB.out) hb); (try clear hb); (try clear hb2); (try clear hk); (try clear hi)))
   go_meet
   case rel => exact ⟨_, (!t590), (by first | rfl | (simp; done) | (simp [*]; done)), H', ⟨by first | omega | exact Nat.le_refl _⟩, ⟨lb0_ HB.out⟩⟩
  ·
   replace c6 := Bool.eq_false_iff.mpr c6
   subst c6
   have H1 : (impl_ClosedSumps.j0 k l0 l1 a2 true) = some (r1, r2) := by rw [if_neg (show ¬ (false = true) by decide)] at H; exact H
   clear H
   have H := H1
   clear H1
   have H' := Aside0.mk H
   clear H
   go_wp2_with (first | ((with_reducible refine gate_callee (f := 58) rfl ?_); refine ga_ (some 13) Try.func58 #[.slice A0 l0.length c0, .int .i64 a2] ?_; (with_reducible refine (impl_hasHour.calls k _ _ l0 a2 false _ ?side1 ?side2 A5.out).mono ?_); (case side1 => exact kc_ (Kd.C_below HR0.out HB.out)); (case side2 => exact HC0.out); rintro e w10 ⟨rfl, hb⟩; refine ⟨_, rfl, ?_⟩; replace HB := Aside0.mk (below_step (lb0_ HB.out) hb); (try clear hb); (try clear hb2); (try clear hk); (try clear hi)))
   go_meet
   case rel => exact ⟨_, (true), (by first | rfl | (simp; done) | (simp [*]; done)), H', ⟨by first | omega | exact Nat.le_refl _⟩, ⟨lb0_ HB.out⟩⟩
 case rest =>
  clear HC4
  try clear c1
  try clear p2
  try clear c4
  try clear c5
  try clear c6
  obtain ⟨kq, x19_3, rfl, HA, HJ3, HB⟩ := hcut
  cases kq with
  | zero => exact absurd HA.out (by simp [impl_ClosedSumps.j0])
  | succ kj3 =>
   have H := HA.out
   clear HA
   simp only [impl_ClosedSumps.j0] at H
   by_cases c11 : x19_3 = true
   ·
    subst c11
    have H1 : (some (([] : List Int), false)) = some (r1, r2) := by rw [if_pos rfl] at H; exact H
    clear H
    have H := H1
    clear H1
    simp only [Option.some.injEq, Prod.mk.injEq] at H
    obtain ⟨rfl, rfl⟩ := H
    go_wp2
    go_ret2
    exact ⟨_, rr_, by first | exact Kd.R_nil _ _ _ _ _ | exact Kd.N_nil _ _ _ _ _ | exact Kd.V_nil _ _ _ _ _ | exact Kd.Q_nil _ _ _ _ _ | exact Kd.S_nil _ _ _ _ _, lb0_ HB.out⟩
   ·
    replace c11 := Bool.eq_false_iff.mpr c11
    subst c11
    have H1 : (impl_ClosedSumps.l0 kj3 l0 a2 ([] : List Int) l1 (l1.length : Int) 0) = some (r1, r2) := by rw [if_neg (show ¬ (false = true) by decide)] at H; exact H
    clear H
    have H := H1
    clear H1
    have H' := Aside0.mk H
    clear H
    go_wp2
    go_loopg [8, 22] kj3 (fun kq v8 v22 w' => ∃ (x8_2 : List Int) (x22_2 : Int), v22 = .int .i64 x22_2 ∧ Aside0 (impl_ClosedSumps.l0 kq l0 a2 x8_2 l1 (l1.length : Int) x22_2 = some (r1, r2)) ∧ Aside0 (kq ≤ kj3) ∧ Aside0 (Kd.R (Kd.int .i64) 3 w' w.heap.size (fun _ => True) v8 x8_2) ∧ Aside0 (Below w.heap.size w w'))
    case atStart => exact ⟨(([] : List Int)), (0), (by first | rfl | (simp; done) | (simp [*]; done)), H', ⟨Nat.le_refl _⟩, ⟨by first | exact Kd.R_nil _ _ _ _ _ | exact Kd.N_nil _ _ _ _ _ | exact Kd.V_nil _ _ _ _ _ | exact Kd.Q_nil _ _ _ _ _ | exact Kd.S_nil _ _ _ _ _⟩, ⟨lb0_ HB.out⟩⟩
    case round =>
     clear H'
     try clear c1
     try clear p2
     try clear c4
     try clear c5
     try clear c6
     try clear c11
     try clear p2
     obtain ⟨x8_2, x22_2, rfl, HA, HK2, HO_8, HB⟩ := hrel
     cases gk with
     | zero => exact absurd HA.out (by simp [impl_ClosedSumps.l0])
     | succ k2 =>
      have H := HA.out
      clear HA
      simp only [impl_ClosedSumps.l0] at H
      by_cases c12 : x22_2 < (l1.length : Int)
      ·
       rw [if_pos c12] at H
       have c12b0 : decide (x22_2 < (l1.length : Int)) = true := decide_eq_true c12
       clear c12
       by_cases c13 : 0 ≤ x22_2
       ·
        rw [if_pos c13] at H
        have c13b0 : decide (0 ≤ x22_2) = true := decide_eq_true c13; clear c13
        by_cases c14 : x22_2 < (l1.length : Int)
        ·
         rw [if_pos c14] at H
         have c14b0 : decide (x22_2 < (l1.length : Int)) = true := decide_eq_true c14; clear c14; replace H := Option.bind_eq_some_iff.mp H; obtain ⟨t593, A150, H⟩ := H; replace H : (if t593 = true then (impl_ClosedSumps.l0 k2 l0 a2 x8_2 l1 (l1.length : Int) (wrap64 (x22_2 + 1))) else (if x8_2.length < 17592186044416 then (impl_ClosedSumps.l0 k2 l0 a2 (x8_2 ++ [(rd_T30 l1 x22_2).f0]) l1 (l1.length : Int) (wrap64 (x22_2 + 1))) else (none))) = some (r1, r2) := H; have A15 := Aside0.mk A150; clear A150
         by_cases c16 : t593 = true
         ·
          subst c16
          have H1 : (impl_ClosedSumps.l0 k2 l0 a2 x8_2 l1 (l1.length : Int) (wrap64 (x22_2 + 1))) = some (r1, r2) := by rw [if_pos rfl] at H; exact H
          clear H; have H := H1; clear H1; have H' := Aside0.mk H; clear H; have p591 : 0 ≤ (x22_2 : Int) := dt_; have q591 : x22_2 < (l1.length : Int) := dt_; obtain ⟨ad591, e591, hx591_0, hx591_1, hx591_2⟩ := at_T30 HR1.out x22_2 p591 q591
          cases e591
          replace hx591_0 := bc_ HB.out hx591_0; replace hx591_1 := bc_ HB.out hx591_1; replace hx591_2 := bc_ HB.out hx591_2; replace p591 := eq_true p591; replace q591 := eq_true q591
          go_wp2_with (first | ((with_reducible refine gate_dst (N := 10) rfl ?_); refine box_event ?hg (N := 10) ?hd (cs := #[.int .i64 0, .int .i64 0, .int .i64 0]) (t := 30) ?hr ?_; (case hd => rfl); (case hg => rfl); (case hr => first | (go_simp; done) | (go_simp; rfl)); intro gb592 hg w17 hbox hb; replace HO_8 := Aside0.mk (Kd.R_below (kr_ HO_8.out) hb); have BK592 := Aside0.mk (hbox); have GW592 := Aside0.mk ((bz_ hg (lb0_ HB.out))); have GE592 := Aside0.mk ((bz_ hg (lb0_ HB.out))); replace HB := Aside0.mk (below_step (lb0_ HB.out) hb); clear hb hbox hg; obtain ⟨hcz18_0, hcz18_1, hcz18_2⟩ := cz3_ BK592.out; obtain ⟨hfz18_0, hfz18_1, hfz18_2⟩ := fz3_ BK592.out) | ((with_reducible refine gate_callee (f := 60) rfl ?_); refine ga_ (some 29) Try.func60 #[.agg #[.int .i64 ((rd_T30 l1 x22_2).f0), .int .i64 ((rd_T30 l1 x22_2).f1), .int .i64 ((rd_T30 l1 x22_2).f2)], .slice A0 l0.length c0, .int .i64 a2] ?_; (with_reducible refine (impl_Sump_open.calls k2 ((rd_T30 l1 x22_2).f0) ((rd_T30 l1 x22_2).f1) ((rd_T30 l1 x22_2).f2) _ _ l0 a2 true _ ?side1 ?side2 A15.out).mono ?_); (case side1 => exact Kd.C_below HR0.out (lb1_ HB.out GE592.out)); (case side2 => exact HC0.out); rintro e w19 ⟨rfl, hb⟩; refine ⟨_, rfl, ?_⟩; replace HO_8 := Aside0.mk (Kd.R_below (kg_ HO_8.out BK592.out) hb); replace BK592 := Aside0.mk (blk_below (g := gb592) (o := .cells #[.int .i64 ((rd_T30 l1 x22_2).f0), .int .i64 ((rd_T30 l1 x22_2).f1), .int .i64 ((rd_T30 l1 x22_2).f2)] 30 (0, 0)) (by (with_reducible repeat (first | refine blk_drewN ?_ _ | refine blk_drew ?_ | refine blk_alloc ?_ _)); exact (p3_ BK592.out _ _ _)) hb); replace HB := Aside0.mk (below_step (lb1_ HB.out GE592.out) hb); (try clear hb); (try clear hb2); (try clear hk); (try clear hi)))
          go_roundg k2
          case measure => have := HJ3.out; have := HK2.out; omega
          case rel => exact ⟨(x8_2), (wrap64 (x22_2 + 1)), (by first | rfl | (simp; done) | (simp [*]; done)), H', ⟨by have := HJ3.out; have := HK2.out; omega⟩, ⟨kr_ HO_8.out⟩, ⟨lb1_ HB.out GE592.out⟩⟩
         ·
          replace c16 := Bool.eq_false_iff.mpr c16; subst c16
          have H1 : (if x8_2.length < 17592186044416 then (impl_ClosedSumps.l0 k2 l0 a2 (x8_2 ++ [(rd_T30 l1 x22_2).f0]) l1 (l1.length : Int) (wrap64 (x22_2 + 1))) else (none)) = some (r1, r2) := by rw [if_neg (show ¬ (false = true) by decide)] at H; exact H
          clear H; have H := H1; clear H1
          by_cases c20 : x8_2.length < 17592186044416
          ·
           rw [if_pos c20] at H
           have LMc20 := Aside0.mk c20; clear c20
           obtain ⟨y594, hy594⟩ : ∃ y_ : List Int, y_ = (x8_2 ++ [(rd_T30 l1 x22_2).f0]) := ⟨_, rfl⟩
           replace H : (impl_ClosedSumps.l0 k2 l0 a2 y594 l1 (l1.length : Int) (wrap64 (x22_2 + 1))) = some (r1, r2) := by first | (rw [hy594]; with_reducible exact H) | (have H2_ := (Option.bind_some _ _).symm.trans H; rw [hy594]; with_reducible exact H2_) | (have H2_ := (Option.bind_some _ _).symm.trans H; with_reducible exact H2_) | with_reducible exact H | (rw [hy594]; exact H) | exact H
           have Ny594 := Aside0.mk hy594; clear hy594; have H' := Aside0.mk H; clear H; have p591 : 0 ≤ (x22_2 : Int) := dt_; have q591 : x22_2 < (l1.length : Int) := dt_; obtain ⟨ad591, e591, hx591_0, hx591_1, hx591_2⟩ := at_T30 HR1.out x22_2 p591 q591
           cases e591
           replace hx591_0 := bc_ HB.out hx591_0; replace hx591_1 := bc_ HB.out hx591_1; replace hx591_2 := bc_ HB.out hx591_2; replace p591 := eq_true p591; replace q591 := eq_true q591
           go_wp2_with (first | ((with_reducible refine gate_dst (N := 10) rfl ?_); refine box_event ?hg (N := 10) ?hd (cs := #[.int .i64 0, .int .i64 0, .int .i64 0]) (t := 30) ?hr ?_; (case hd => rfl); (case hg => rfl); (case hr => first | (go_simp; done) | (go_simp; rfl)); intro gb592 hg w21 hbox hb; replace HO_8 := Aside0.mk (Kd.R_below (kr_ HO_8.out) hb); have BK592 := Aside0.mk (hbox); have GW592 := Aside0.mk ((bz_ hg (lb0_ HB.out))); have GE592 := Aside0.mk ((bz_ hg (lb0_ HB.out))); replace HB := Aside0.mk (below_step (lb0_ HB.out) hb); clear hb hbox hg; obtain ⟨hcz22_0, hcz22_1, hcz22_2⟩ := cz3_ BK592.out; obtain ⟨hfz22_0, hfz22_1, hfz22_2⟩ := fz3_ BK592.out) | ((with_reducible refine gate_callee (f := 60) rfl ?_); refine ga_ (some 29) Try.func60 #[.agg #[.int .i64 ((rd_T30 l1 x22_2).f0), .int .i64 ((rd_T30 l1 x22_2).f1), .int .i64 ((rd_T30 l1 x22_2).f2)], .slice A0 l0.length c0, .int .i64 a2] ?_; (with_reducible refine (impl_Sump_open.calls k2 ((rd_T30 l1 x22_2).f0) ((rd_T30 l1 x22_2).f1) ((rd_T30 l1 x22_2).f2) _ _ l0 a2 false _ ?side1 ?side2 A15.out).mono ?_); (case side1 => exact Kd.C_below HR0.out (lb1_ HB.out GE592.out)); (case side2 => exact HC0.out); rintro e w23 ⟨rfl, hb⟩; refine ⟨_, rfl, ?_⟩; replace HO_8 := Aside0.mk (Kd.R_below (kg_ HO_8.out BK592.out) hb); replace BK592 := Aside0.mk (blk_below (g := gb592) (o := .cells #[.int .i64 ((rd_T30 l1 x22_2).f0), .int .i64 ((rd_T30 l1 x22_2).f1), .int .i64 ((rd_T30 l1 x22_2).f2)] 30 (0, 0)) (by (with_reducible repeat (first | refine blk_drewN ?_ _ | refine blk_drew ?_ | refine blk_alloc ?_ _)); exact (p3_ BK592.out _ _ _)) hb); replace HB := Aside0.mk (below_step (lb1_ HB.out GE592.out) hb); (try clear hb); (try clear hb2); (try clear hk); (try clear hi); obtain ⟨hcz24_0, hcz24_1, hcz24_2⟩ := cz3_ BK592.out; obtain ⟨hfz24_0, hfz24_1, hfz24_2⟩ := fz3_ BK592.out) | ((with_reducible refine gate_builtin (b := .append) (xs := #[.tmp 31, .tmp 34]) rfl ?_); at_builtin; refine Kd.R_append (Kd.int .i64) (w0 := w) w.heap.size rfl (.tmp 31) (.tmp 34) 36 3 (.int .i64 0) 8 rfl Try.underlying36 info3 rfl (by decide) (by omega) u8 x8_2 ((rd_T30 l1 x22_2).f0) [.int .i64 ((rd_T30 l1 x22_2).f0)] (fun _ => True) (fun _ => False) rfl rfl ?aP (fun _ hk => hk.elim) ?aF ?aO ?aB ?aS ?aL ?_; (case aP => exact rfl); (case aB => exact (lb1_ HB.out GE592.out)); (case aF => exact (fun _ _ => trivial)); (case aO => exact (kr_ HO_8.out)); (case aS => exact (below_size (lb1_ HB.out GE592.out))); (case aL => have := LMc20.out; omega); intro v595 w25 ho hb hg hat; rw [← Ny594.out] at ho; replace BK592 := Aside0.mk (blk_grown (g := gb592) (o := .cells #[.int .i64 ((rd_T30 l1 x22_2).f0), .int .i64 ((rd_T30 l1 x22_2).f1), .int .i64 ((rd_T30 l1 x22_2).f2)] 30 (0, 0)) (bk_ BK592.out) hg (Kd.R_ne HO_8.out BK592.out (by decide))); replace HB := Aside0.mk (hb); have HO596 := Aside0.mk (ho); clear HO_8; clear ho hb hg hat))
           go_roundg k2
           case measure => have := HJ3.out; have := HK2.out; omega
           case rel => exact ⟨(y594), (wrap64 (x22_2 + 1)), (by first | rfl | (simp; done) | (simp [*]; done)), H', ⟨by have := HJ3.out; have := HK2.out; omega⟩, ⟨kr_ HO596.out⟩, ⟨lb1_ HB.out GE592.out⟩⟩
          ·
           rw [if_neg c20] at H
           exact absurd H (by simp)
        ·
         rw [if_neg c14] at H
         exact absurd H (by simp)
       ·
        rw [if_neg c13] at H
        exact absurd H (by simp)
      ·
       rw [if_neg c12] at H
       have c12b0 : decide (x22_2 < (l1.length : Int)) = false := decide_eq_false c12
       clear c12
       simp only [Option.some.injEq, Prod.mk.injEq] at H
       obtain ⟨rfl, rfl⟩ := H
       go_wp2
       go_ret2
       exact ⟨_, rr_, kr_ HO_8.out, lb0_ HB.out⟩
def spec_newCur.f (l0 : List Int) : Option (List Int × Int × Int) := some (l0, 0, 0)
def IsS90 (w0 W : World) (g : Nat) (f0 : List Int) (f1 : Int) (f2 : Int) : Prop := ∃ A0 c0, W.heap[g]? = some (.cells #[.slice A0 f0.length c0, .int .i64 f1, .int .u64 f2] 90 (0, 0)) ∧ w0.heap.size ≤ g ∧ Kd.C (Kd.int .u8) w0 A0 f0.length f0
theorem IsS90.grown {w0 W : World} {g : Nat} {f0 : List Int} {f1 : Int} {f2 : Int} {W1 : World} {row : Option Nat} (h : IsS90 w0 W g f0 f1 f2) (hw : W.grownBy W1 row) (hne : some g ≠ row) : IsS90 w0 W1 g f0 f1 f2 := by
 obtain ⟨A0, c0, hb, hg, hr0⟩ := h
 exact ⟨A0, c0, blk_grown hb hw hne, hg, hr0⟩
theorem IsS90.below {w0 W : World} {g : Nat} {f0 : List Int} {f1 : Int} {f2 : Int} {W1 : World} (h : IsS90 w0 W g f0 f1 f2) (hw : Below W.heap.size W W1) : IsS90 w0 W1 g f0 f1 f2 := h.grown (grown_of_below hw none) (by simp)
theorem IsS90.alloc {w0 W : World} {g : Nat} {f0 : List Int} {f1 : Int} {f2 : Int} (h : IsS90 w0 W g f0 f1 f2) (o : Obj) : IsS90 w0 (W.alloc o) g f0 f1 f2 := h.below (below_alloc (Below.refl _ _) o)
theorem IsS90.drewN {w0 W : World} {g : Nat} {f0 : List Int} {f1 : Int} {f2 : Int} (h : IsS90 w0 W g f0 f1 f2) (m : Nat) : IsS90 w0 (W.drewN m) g f0 f1 f2 := h
theorem IsS90.drew {w0 W : World} {g : Nat} {f0 : List Int} {f1 : Int} {f2 : Int} (h : IsS90 w0 W g f0 f1 f2) : IsS90 w0 W.drew g f0 f1 f2 := h
theorem IsS90.at_ {w0 W : World} {g : Nat} {f0 : List Int} {f1 : Int} {f2 : Int} {w' : World} {m : Nat} (hq : W.drewN m = w') (h : IsS90 w0 W g f0 f1 f2) : IsS90 w0 w' g f0 f1 f2 := by subst hq; exact IsS90.drewN h m
theorem IsS90.apart {w0 W : World} {g : Nat} {f0 : List Int} {f1 : Int} {f2 : Int} {α : Type} {d : Kd α} {e : Nat} {base : Nat} {ok : Nat → Prop} {v : Value} {xs : List α} (h : IsS90 w0 W g f0 f1 f2) (ho : d.R e W base ok v xs) (ht : ∀ q, q ∈ e :: d.E → q ≠ 90) : d.R e W base (fun k => ok k ∧ k ≠ g) v xs := by
 obtain ⟨A0, c0, hb, hg, hr0⟩ := h
 exact Kd.R_types ho hb ht
theorem IsS90.own_ne {w0 W : World} {g : Nat} {f0 : List Int} {f1 : Int} {f2 : Int} {α : Type} {d : Kd α} {e : Nat} {base : Nat} {ok : Nat → Prop} {v : Value} {xs : List α} (h : IsS90 w0 W g f0 f1 f2) (ho : d.R e W base ok v xs) (ht : e ≠ 90) : some g ≠ v.ownBlock := by
 obtain ⟨A0, c0, hb, hg, hr0⟩ := h
 exact Kd.R_ne ho hb ht
theorem IsS90.lt {w0 W : World} {g : Nat} {f0 : List Int} {f1 : Int} {f2 : Int} (h : IsS90 w0 W g f0 f1 f2) : g < W.heap.size := by
 obtain ⟨A0, c0, hb, hg, hr0⟩ := h
 exact blk_lt hb
theorem IsS90.ge {w0 W : World} {g : Nat} {f0 : List Int} {f1 : Int} {f2 : Int} (h : IsS90 w0 W g f0 f1 f2) : w0.heap.size ≤ g := by
 obtain ⟨A0, c0, hb, hg, hr0⟩ := h
 exact hg
theorem IsS90.ne_blk {w0 W : World} {g : Nat} {f0 : List Int} {f1 : Int} {f2 : Int} {a : Nat} {cs : Array Value} {t : TypeId} {fr : Nat × Nat} (h : IsS90 w0 W g f0 f1 f2) (hb2 : W.heap[a]? = some (.cells cs t fr)) (ht : t ≠ 90) : g ≠ a := by
 obtain ⟨A0, c0, hb, hg, hr0⟩ := h
 rintro rfl
 rw [hb] at hb2
 injection hb2 with hb2
 injection hb2 with _ ht2
 exact ht ht2.symm
theorem IsS90.far {w0 W : World} {g : Nat} {f0 : List Int} {f1 : Int} {f2 : Int} {p : Addr} (h : IsS90 w0 W g f0 f1 f2) (hne : g ≠ p.block) (u : Value) : IsS90 w0 (W.setCell p u) g f0 f1 f2 := by
 obtain ⟨A0, c0, hb, hg, hr0⟩ := h
 exact ⟨A0, c0, blk_far hb hne u, hg, hr0⟩
theorem cellS90_0 {W : World} {g : Nat} {A0 : Option Addr} {c0 : Nat} {f0 : List Int} {f1 : Int} {f2 : Int} (h : W.heap[g]? = some (.cells #[.slice A0 f0.length c0, .int .i64 f1, .int .u64 f2] 90 (0, 0))) : W.cell? ⟨g, 0, none⟩ = some (.slice A0 f0.length c0) := (blk_cell h 0).trans rfl
theorem cellS90_1 {W : World} {g : Nat} {A0 : Option Addr} {c0 : Nat} {f0 : List Int} {f1 : Int} {f2 : Int} (h : W.heap[g]? = some (.cells #[.slice A0 f0.length c0, .int .i64 f1, .int .u64 f2] 90 (0, 0))) : W.cell? ⟨g, 1, none⟩ = some (.int .i64 f1) := (blk_cell h 1).trans rfl
theorem IsS90.set_1 {w0 W : World} {g : Nat} {f0 : List Int} {f1 : Int} {f2 : Int} (h : IsS90 w0 W g f0 f1 f2) (x : Int) : IsS90 w0 (W.setCell ⟨g, 1, none⟩ (.int .i64 x)) g f0 x f2 := by
 obtain ⟨A0, c0, hb, hg, hr0⟩ := h
 exact ⟨A0, c0, by simpa using blk_set hb 1 (.int .i64 x), hg, hr0⟩
theorem cellS90_2 {W : World} {g : Nat} {A0 : Option Addr} {c0 : Nat} {f0 : List Int} {f1 : Int} {f2 : Int} (h : W.heap[g]? = some (.cells #[.slice A0 f0.length c0, .int .i64 f1, .int .u64 f2] 90 (0, 0))) : W.cell? ⟨g, 2, none⟩ = some (.int .u64 f2) := (blk_cell h 2).trans rfl
theorem IsS90.set_2 {w0 W : World} {g : Nat} {f0 : List Int} {f1 : Int} {f2 : Int} (h : IsS90 w0 W g f0 f1 f2) (x : Int) : IsS90 w0 (W.setCell ⟨g, 2, none⟩ (.int .u64 x)) g f0 f1 x := by
 obtain ⟨A0, c0, hb, hg, hr0⟩ := h
 exact ⟨A0, c0, by simpa using blk_set hb 2 (.int .u64 x), hg, hr0⟩
theorem is90_0 {w0 W W1 : World} {g : Nat} {f0 f0' : List Int} {f1 f1' : Int} {f2 f2' : Int} (h : IsS90 w0 W g f0 f1 f2) (hh : IsS90 w0 W g f0 f1 f2 → IsS90 w0 W1 g f0' f1' f2' := by intro h_ ; repeat (first | (with_reducible first | exact h_ | apply IsS90.alloc | apply IsS90.drewN | apply IsS90.drew | apply IsS90.set_1 | apply IsS90.set_2) | exact h_)) : IsS90 w0 W1 g f0' f1' f2' := hh h
theorem is90_1 {w0 W W1 : World} {g : Nat} {f0 f0' : List Int} {f1 f1' : Int} {f2 f2' : Int} {A : Prop} (h : IsS90 w0 W g f0 f1 f2) (h0 : A) (hh : IsS90 w0 W g f0 f1 f2 → A → IsS90 w0 W1 g f0' f1' f2' := by intro h_ n0_; repeat (first | (with_reducible first | exact h_ | apply IsS90.alloc | apply IsS90.drewN | apply IsS90.drew | apply IsS90.set_1 | apply IsS90.set_2 | refine IsS90.far ?_ n0_ _) | exact h_)) : IsS90 w0 W1 g f0' f1' f2' := hh h h0
theorem is90_2 {w0 W W1 : World} {g : Nat} {f0 f0' : List Int} {f1 f1' : Int} {f2 f2' : Int} {A B : Prop} (h : IsS90 w0 W g f0 f1 f2) (h0 : A) (h1 : B) (hh : IsS90 w0 W g f0 f1 f2 → A → B → IsS90 w0 W1 g f0' f1' f2' := by intro h_ n0_ n1_; repeat (first | (with_reducible first | exact h_ | apply IsS90.alloc | apply IsS90.drewN | apply IsS90.drew | apply IsS90.set_1 | apply IsS90.set_2 | refine IsS90.far ?_ n0_ _ | refine IsS90.far ?_ n1_ _) | exact h_)) : IsS90 w0 W1 g f0' f1' f2' := hh h h0 h1
def spec_l1Cur_next.f (s0_0 : List Int) (s0_1 : Int) (s0_2 : Int) : Option (Int × Int × Int) := if s0_1 < (s0_0.length : Int) then (if 0 ≤ s0_1 then (if (wrap64 (s0_1 + 1)) ≤ (s0_0.length : Int) then (some (wrap64 (rd s0_0 s0_1), wrap64 (s0_1 + 1), IntKind.u64.wrap ((IntKind.u64.wrap ((IntKind.u64.wrap (s0_2 * 6364136223846793005)) + (IntKind.u64.wrap (wrap64 (rd s0_0 s0_1))))) + 933933))) else (some (wrap64 (Go.bits .and .u64 ((IntKind.u64.wrap ((IntKind.u64.wrap ((IntKind.u64.wrap (s0_2 * 6364136223846793005)) + (IntKind.u64.wrap (wrap64 (rd s0_0 s0_1))))) + 933933)) / 1099511627776) 255), wrap64 (s0_1 + 1), IntKind.u64.wrap ((IntKind.u64.wrap ((IntKind.u64.wrap (s0_2 * 6364136223846793005)) + (IntKind.u64.wrap (wrap64 (rd s0_0 s0_1))))) + 933933)))) else (none)) else (if (wrap64 (s0_1 + 1)) ≤ (s0_0.length : Int) then (some (0, wrap64 (s0_1 + 1), IntKind.u64.wrap ((IntKind.u64.wrap ((IntKind.u64.wrap (s0_2 * 6364136223846793005)) + 0)) + 933933))) else (some (wrap64 (Go.bits .and .u64 ((IntKind.u64.wrap ((IntKind.u64.wrap ((IntKind.u64.wrap (s0_2 * 6364136223846793005)) + 0)) + 933933)) / 1099511627776) 255), wrap64 (s0_1 + 1), IntKind.u64.wrap ((IntKind.u64.wrap ((IntKind.u64.wrap (s0_2 * 6364136223846793005)) + 0)) + 933933))))
set_option maxHeartbeats 8000000 in
set_option maxRecDepth 100000 in
theorem spec_l1Cur_next.calls (g : Nat) (s0_0 : List Int) (s0_1 : Int) (s0_2 : Int) (r1 : Int) (r2 : Int) (r3 : Int) (w0 w : World) (hI : IsS90 w0 w g s0_0 s0_1 s0_2) (hB : Below w0.heap.size w0 w) (h : spec_l1Cur_next.f s0_0 s0_1 s0_2 = some (r1, r2, r3)) :
  Calls Try.prog 97 #[.pointer (some ⟨g, 0, none⟩)] w fun e w' => e = .returned (.int .i64 r1) ∧ IsS90 w0 w' g s0_0 r2 r3 ∧ Below w0.heap.size w0 w' ∧ KeepBut w w' g none := by
 have HI0 := Aside0.mk hI
 have HK := Aside0.mk (KeepBut.refl w g none)
 have HL := Aside0.mk hB.size
 clear hI
 have HW0 := Aside0.mk hB.size
 have HB := Aside0.mk hB
 clear hB
 have H : (if s0_1 < (s0_0.length : Int) then (if 0 ≤ s0_1 then (if (wrap64 (s0_1 + 1)) ≤ (s0_0.length : Int) then (some (wrap64 (rd s0_0 s0_1), wrap64 (s0_1 + 1), IntKind.u64.wrap ((IntKind.u64.wrap ((IntKind.u64.wrap (s0_2 * 6364136223846793005)) + (IntKind.u64.wrap (wrap64 (rd s0_0 s0_1))))) + 933933))) else (some (wrap64 (Go.bits .and .u64 ((IntKind.u64.wrap ((IntKind.u64.wrap ((IntKind.u64.wrap (s0_2 * 6364136223846793005)) + (IntKind.u64.wrap (wrap64 (rd s0_0 s0_1))))) + 933933)) / 1099511627776) 255), wrap64 (s0_1 + 1), IntKind.u64.wrap ((IntKind.u64.wrap ((IntKind.u64.wrap (s0_2 * 6364136223846793005)) + (IntKind.u64.wrap (wrap64 (rd s0_0 s0_1))))) + 933933)))) else (none)) else (if (wrap64 (s0_1 + 1)) ≤ (s0_0.length : Int) then (some (0, wrap64 (s0_1 + 1), IntKind.u64.wrap ((IntKind.u64.wrap ((IntKind.u64.wrap (s0_2 * 6364136223846793005)) + 0)) + 933933))) else (some (wrap64 (Go.bits .and .u64 ((IntKind.u64.wrap ((IntKind.u64.wrap ((IntKind.u64.wrap (s0_2 * 6364136223846793005)) + 0)) + 933933)) / 1099511627776) 255), wrap64 (s0_1 + 1), IntKind.u64.wrap ((IntKind.u64.wrap ((IntKind.u64.wrap (s0_2 * 6364136223846793005)) + 0)) + 933933))))) = some (r1, r2, r3) := h
 clear h
 by_cases c2 : s0_1 < (s0_0.length : Int)
 ·
  rw [if_pos c2] at H
  have c2b0 : decide (s0_1 < (s0_0.length : Int)) = true := decide_eq_true c2
  clear c2
  by_cases c3 : 0 ≤ s0_1
  ·
   rw [if_pos c3] at H
   have c3b0 : decide (0 ≤ s0_1) = true := decide_eq_true c3
   clear c3
   by_cases c4 : (wrap64 (s0_1 + 1)) ≤ (s0_0.length : Int)
   ·
    rw [if_pos c4] at H
    have c4b0 : decide ((wrap64 (s0_1 + 1)) ≤ (s0_0.length : Int)) = true := decide_eq_true c4
    clear c4
    simp only [Option.some.injEq, Prod.mk.injEq] at H
    obtain ⟨rfl, rfl, rfl⟩ := H
    obtain ⟨ASz5_0, cSz5_0, HGz5, hgz5, HSz5_0⟩ := HI0.out
    have hcz5_0 := cellS90_0 HGz5
    have hcz5_1 := cellS90_1 HGz5
    have hcz5_2 := cellS90_2 HGz5
    have hfz5_1 := blk_frozen HGz5 1
    have hfz5_2 := blk_frozen HGz5 2
    clear HGz5 hgz5
    have p304 : 0 ≤ (s0_1 : Int) := dt_
    have q304 : s0_1 < (s0_0.length : Int) := dt_
    obtain ⟨ad304, e304, hx304_0⟩ := Kd.at_int HSz5_0 s0_1 p304 q304
    cases e304
    replace hx304_0 := pw_cell_below HB.out hx304_0
    replace p304 := eq_true p304
    replace q304 := eq_true q304
    go_enter Try.func97, Try.ntmps97
    go_wp2
    repeat (go_quiet (fail); try go_wp2)
    go_ret
    (try simp only [Int.add_zero])
    exact ⟨rr_, is90_0 HI0.out, lb1_ HB.out (IsS90.ge HI0.out), kb0_ HK.out⟩
   ·
    rw [if_neg c4] at H
    have c4b0 : decide ((wrap64 (s0_1 + 1)) ≤ (s0_0.length : Int)) = false := decide_eq_false c4
    clear c4
    simp only [Option.some.injEq, Prod.mk.injEq] at H
    obtain ⟨rfl, rfl, rfl⟩ := H
    obtain ⟨ASz6_0, cSz6_0, HGz6, hgz6, HSz6_0⟩ := HI0.out
    have hcz6_0 := cellS90_0 HGz6
    have hcz6_1 := cellS90_1 HGz6
    have hcz6_2 := cellS90_2 HGz6
    have hfz6_1 := blk_frozen HGz6 1
    have hfz6_2 := blk_frozen HGz6 2
    clear HGz6 hgz6
    have p304 : 0 ≤ (s0_1 : Int) := dt_
    have q304 : s0_1 < (s0_0.length : Int) := dt_
    obtain ⟨ad304, e304, hx304_0⟩ := Kd.at_int HSz6_0 s0_1 p304 q304
    cases e304
    replace hx304_0 := pw_cell_below HB.out hx304_0
    replace p304 := eq_true p304
    replace q304 := eq_true q304
    go_enter Try.func97, Try.ntmps97
    go_wp2
    repeat (go_quiet (fail); try go_wp2)
    go_ret
    (try simp only [Int.add_zero])
    exact ⟨rr_, is90_0 HI0.out, lb1_ HB.out (IsS90.ge HI0.out), kb0_ HK.out⟩
  ·
   rw [if_neg c3] at H
   exact absurd H (by simp)
 ·
  rw [if_neg c2] at H
  have c2b0 : decide (s0_1 < (s0_0.length : Int)) = false := decide_eq_false c2
  clear c2
  by_cases c7 : (wrap64 (s0_1 + 1)) ≤ (s0_0.length : Int)
  ·
   rw [if_pos c7] at H
   have c7b0 : decide ((wrap64 (s0_1 + 1)) ≤ (s0_0.length : Int)) = true := decide_eq_true c7
   clear c7
   simp only [Option.some.injEq, Prod.mk.injEq] at H
   obtain ⟨rfl, rfl, rfl⟩ := H
   obtain ⟨ASz8_0, cSz8_0, HGz8, hgz8, HSz8_0⟩ := HI0.out
   have hcz8_0 := cellS90_0 HGz8
   have hcz8_1 := cellS90_1 HGz8
   have hcz8_2 := cellS90_2 HGz8
   have hfz8_1 := blk_frozen HGz8 1
   have hfz8_2 := blk_frozen HGz8 2
   clear HGz8 hgz8
   go_enter Try.func97, Try.ntmps97
   go_wp2
   repeat (go_quiet (fail); try go_wp2)
   go_ret
   (try simp only [Int.add_zero])
   exact ⟨rr_, is90_0 HI0.out, lb1_ HB.out (IsS90.ge HI0.out), kb0_ HK.out⟩
  ·
   rw [if_neg c7] at H
   have c7b0 : decide ((wrap64 (s0_1 + 1)) ≤ (s0_0.length : Int)) = false := decide_eq_false c7
   clear c7
   simp only [Option.some.injEq, Prod.mk.injEq] at H
   obtain ⟨rfl, rfl, rfl⟩ := H
   obtain ⟨ASz9_0, cSz9_0, HGz9, hgz9, HSz9_0⟩ := HI0.out
   have hcz9_0 := cellS90_0 HGz9
   have hcz9_1 := cellS90_1 HGz9
   have hcz9_2 := cellS90_2 HGz9
   have hfz9_1 := blk_frozen HGz9 1
   have hfz9_2 := blk_frozen HGz9 2
   clear HGz9 hgz9
   go_enter Try.func97, Try.ntmps97
   go_wp2
   repeat (go_quiet (fail); try go_wp2)
   go_ret
   (try simp only [Int.add_zero])
   exact ⟨rr_, is90_0 HI0.out, lb1_ HB.out (IsS90.ge HI0.out), kb0_ HK.out⟩
def spec_l1Cur_pick.f (s0_0 : List Int) (s0_1 : Int) (s0_2 : Int) (a1 : Int) : Option (Int × Int × Int) := if a1 ≤ 1 then (some (0, s0_1, s0_2)) else ((spec_l1Cur_next.f s0_0 s0_1 s0_2).bind fun bt305 => (if a1 > 200 then ((spec_l1Cur_next.f s0_0 bt305.2.1 bt305.2.2).bind fun bt308 => (if a1 = 0 then (none) else (some (Int.tmod (wrap64 ((wrap64 (bt305.1 * 256)) + bt308.1)) a1, bt308.2.1, bt308.2.2)))) else (if a1 = 0 then (none) else (some (Int.tmod bt305.1 a1, bt305.2.1, bt305.2.2)))))
set_option maxHeartbeats 8000000 in
set_option maxRecDepth 100000 in
theorem spec_l1Cur_pick.calls (g : Nat) (s0_0 : List Int) (s0_1 : Int) (s0_2 : Int) (a1 : Int) (r1 : Int) (r2 : Int) (r3 : Int) (w0 w : World) (hI : IsS90 w0 w g s0_0 s0_1 s0_2) (hB : Below w0.heap.size w0 w) (h : spec_l1Cur_pick.f s0_0 s0_1 s0_2 a1 = some (r1, r2, r3)) :
  Calls Try.prog 87 #[.pointer (some ⟨g, 0, none⟩), .int .i64 a1] w fun e w' => e = .returned (.int .i64 r1) ∧ IsS90 w0 w' g s0_0 r2 r3 ∧ Below w0.heap.size w0 w' ∧ KeepBut w w' g none := by
 have HI0 := Aside0.mk hI
 have HK := Aside0.mk (KeepBut.refl w g none)
 have HL := Aside0.mk hB.size
 clear hI
 have HW0 := Aside0.mk hB.size
 have HB := Aside0.mk hB
 clear hB
 have H : (if a1 ≤ 1 then (some (0, s0_1, s0_2)) else ((spec_l1Cur_next.f s0_0 s0_1 s0_2).bind fun bt305 => (if a1 > 200 then ((spec_l1Cur_next.f s0_0 bt305.2.1 bt305.2.2).bind fun bt308 => (if a1 = 0 then (none) else (some (Int.tmod (wrap64 ((wrap64 (bt305.1 * 256)) + bt308.1)) a1, bt308.2.1, bt308.2.2)))) else (if a1 = 0 then (none) else (some (Int.tmod bt305.1 a1, bt305.2.1, bt305.2.2)))))) = some (r1, r2, r3) := h
 clear h
 by_cases c3 : a1 ≤ 1
 ·
  rw [if_pos c3] at H
  have c3b0 : decide (a1 ≤ 1) = true := decide_eq_true c3
  clear c3
  simp only [Option.some.injEq, Prod.mk.injEq] at H
  obtain ⟨rfl, rfl, rfl⟩ := H
  go_enter Try.func87, Try.ntmps87
  go_wp2
  go_ret
  exact ⟨rr_, is90_0 HI0.out, lb1_ HB.out (IsS90.ge HI0.out), kb0_ HK.out⟩
 ·
  rw [if_neg c3] at H
  have c3b0 : decide (a1 ≤ 1) = false := decide_eq_false c3
  clear c3
  replace H := Option.bind_eq_some_iff.mp H
  obtain ⟨⟨t305, t306, t307⟩, A40, H⟩ := H
  replace H : (if a1 > 200 then ((spec_l1Cur_next.f s0_0 t306 t307).bind fun bt308 => (if a1 = 0 then (none) else (some (Int.tmod (wrap64 ((wrap64 (t305 * 256)) + bt308.1)) a1, bt308.2.1, bt308.2.2)))) else (if a1 = 0 then (none) else (some (Int.tmod t305 a1, t306, t307)))) = some (r1, r2, r3) := H
  have A4 := Aside0.mk A40
  clear A40
  by_cases c5 : a1 > 200
  ·
   rw [if_pos c5] at H
   have c5b0 : decide (200 < a1) = true := decide_eq_true c5
   clear c5
   replace H := Option.bind_eq_some_iff.mp H
   obtain ⟨⟨t308, t309, t310⟩, A60, H⟩ := H
   replace H : (if a1 = 0 then (none) else (some (Int.tmod (wrap64 ((wrap64 (t305 * 256)) + t308)) a1, t309, t310))) = some (r1, r2, r3) := H
   have A6 := Aside0.mk A60
   clear A60
   by_cases c7 : a1 = 0
   ·
    rw [if_pos c7] at H
    exact absurd H (by simp)
   ·
    rw [if_neg c7] at H
    have c7b0 : (a1 == 0) = false := beq_eq_false_iff_ne.mpr c7
    have c7b1 : (a1 != 0) = true := bne_iff_ne.mpr c7
    simp only [Option.some.injEq, Prod.mk.injEq] at H
    obtain ⟨rfl, rfl, rfl⟩ := H
    go_enter Try.func87, Try.ntmps87
    go_wp2_with (first | ((with_reducible refine gate_callee (f := 97) rfl ?_); refine ga_ (some 9) Try.func97 #[.pointer (some ⟨g, 0, none⟩)] ?_; (with_reducible refine (spec_l1Cur_next.calls g s0_0 s0_1 s0_2 t305 t306 t307 w0 _ ?side1 ?side2 A4.out).mono ?_); (case side1 => exact is90_0 HI0.out); (case side2 => exact lb1_ HB.out (IsS90.ge HI0.out)); rintro e w8 ⟨rfl, hi, hb, hk⟩; refine ⟨_, rfl, ?_⟩; replace HK := Aside0.mk (KeepBut.trans (kb0_ HK.out) hk (.inl rfl)); replace HB := Aside0.mk (hb); replace HI0 := Aside0.mk (hi); (try clear hb); (try clear hb2); (try clear hk); (try clear hi)) | ((with_reducible refine gate_callee (f := 97) rfl ?_); refine ga_ (some 15) Try.func97 #[.pointer (some ⟨g, 0, none⟩)] ?_; (with_reducible refine (spec_l1Cur_next.calls g s0_0 t306 t307 t308 t309 t310 w0 _ ?side1 ?side2 A6.out).mono ?_); (case side1 => exact is90_0 HI0.out); (case side2 => exact lb1_ HB.out (IsS90.ge HI0.out)); rintro e w9 ⟨rfl, hi, hb, hk⟩; refine ⟨_, rfl, ?_⟩; replace HK := Aside0.mk (KeepBut.trans (kb0_ HK.out) hk (.inl rfl)); replace HB := Aside0.mk (hb); replace HI0 := Aside0.mk (hi); (try clear hb); (try clear hb2); (try clear hk); (try clear hi)))
    go_ret
    exact ⟨rr_, is90_0 HI0.out, lb1_ HB.out (IsS90.ge HI0.out), kb0_ HK.out⟩
  ·
   rw [if_neg c5] at H
   have c5b0 : decide (200 < a1) = false := decide_eq_false c5
   clear c5
   by_cases c10 : a1 = 0
   ·
    rw [if_pos c10] at H
    exact absurd H (by simp)
   ·
    rw [if_neg c10] at H
    have c10b0 : (a1 == 0) = false := beq_eq_false_iff_ne.mpr c10
    have c10b1 : (a1 != 0) = true := bne_iff_ne.mpr c10
    simp only [Option.some.injEq, Prod.mk.injEq] at H
    obtain ⟨rfl, rfl, rfl⟩ := H
    go_enter Try.func87, Try.ntmps87
    go_wp2_with (first | ((with_reducible refine gate_callee (f := 97) rfl ?_); refine ga_ (some 9) Try.func97 #[.pointer (some ⟨g, 0, none⟩)] ?_; (with_reducible refine (spec_l1Cur_next.calls g s0_0 s0_1 s0_2 t305 t306 t307 w0 _ ?side1 ?side2 A4.out).mono ?_); (case side1 => exact is90_0 HI0.out); (case side2 => exact lb1_ HB.out (IsS90.ge HI0.out)); rintro e w11 ⟨rfl, hi, hb, hk⟩; refine ⟨_, rfl, ?_⟩; replace HK := Aside0.mk (KeepBut.trans (kb0_ HK.out) hk (.inl rfl)); replace HB := Aside0.mk (hb); replace HI0 := Aside0.mk (hi); (try clear hb); (try clear hb2); (try clear hk); (try clear hi)))
    go_ret
    exact ⟨rr_, is90_0 HI0.out, lb1_ HB.out (IsS90.ge HI0.out), kb0_ HK.out⟩
def spec_l1Cur_among.f (s0_0 : List Int) (s0_1 : Int) (s0_2 : Int) (l1 : List Int) : Option (Int × Int × Int) := (spec_l1Cur_pick.f s0_0 s0_1 s0_2 (l1.length : Int)).bind fun bt311 => (if 0 ≤ bt311.1 then (if bt311.1 < (l1.length : Int) then (some (rd l1 bt311.1, bt311.2.1, bt311.2.2)) else (none)) else (none))
set_option maxHeartbeats 8000000 in
set_option maxRecDepth 100000 in
theorem spec_l1Cur_among.calls (g : Nat) (s0_0 : List Int) (s0_1 : Int) (s0_2 : Int) (A1 : Option Addr) (c1 : Nat) (l1 : List Int) (r1 : Int) (r2 : Int) (r3 : Int) (w0 w : World) (hI : IsS90 w0 w g s0_0 s0_1 s0_2) (hB : Below w0.heap.size w0 w) (hr1 : Kd.C (Kd.int .i64) w A1 l1.length l1) (hc1 : l1.length ≤ c1) (hf1 : ∀ ad, A1 = some ad → 0 < l1.length → ad.block ≠ g) (h : spec_l1Cur_among.f s0_0 s0_1 s0_2 l1 = some (r1, r2, r3)) :
  Calls Try.prog 86 #[.pointer (some ⟨g, 0, none⟩), .slice A1 l1.length c1] w fun e w' => e = .returned (.int .i64 r1) ∧ IsS90 w0 w' g s0_0 r2 r3 ∧ Below w0.heap.size w0 w' ∧ KeepBut w w' g none := by
 have HR1 := Aside0.mk hr1
 have HC1 := Aside0.mk hc1
 clear hr1 hc1
 have HI0 := Aside0.mk hI
 have HK := Aside0.mk (KeepBut.refl w g none)
 have HL := Aside0.mk hB.size
 clear hI
 have HW0 := Aside0.mk hB.size
 have HB := Aside0.mk hB
 clear hB
 have H : ((spec_l1Cur_pick.f s0_0 s0_1 s0_2 (l1.length : Int)).bind fun bt311 => (if 0 ≤ bt311.1 then (if bt311.1 < (l1.length : Int) then (some (rd l1 bt311.1, bt311.2.1, bt311.2.2)) else (none)) else (none))) = some (r1, r2, r3) := h
 clear h
 replace H := Option.bind_eq_some_iff.mp H
 obtain ⟨⟨t311, t312, t313⟩, A30, H⟩ := H
 replace H : (if 0 ≤ t311 then (if t311 < (l1.length : Int) then (some (rd l1 t311, t312, t313)) else (none)) else (none)) = some (r1, r2, r3) := H
 have A3 := Aside0.mk A30
 clear A30
 by_cases c4 : 0 ≤ t311
 ·
  rw [if_pos c4] at H
  have c4b0 : decide (0 ≤ t311) = true := decide_eq_true c4
  clear c4
  by_cases c5 : t311 < (l1.length : Int)
  ·
   rw [if_pos c5] at H
   have c5b0 : decide (t311 < (l1.length : Int)) = true := decide_eq_true c5
   clear c5
   simp only [Option.some.injEq, Prod.mk.injEq] at H
   obtain ⟨rfl, rfl, rfl⟩ := H
   go_enter Try.func86, Try.ntmps86
   go_wp2_with (first | ((with_reducible refine gate_callee (f := 87) rfl ?_); refine ga_ (some 9) Try.func87 #[.pointer (some ⟨g, 0, none⟩), .int .i64 (l1.length : Int)] ?_; (with_reducible refine (spec_l1Cur_pick.calls g s0_0 s0_1 s0_2 (l1.length : Int) t311 t312 t313 w0 _ ?side1 ?side2 A3.out).mono ?_); (case side1 => exact is90_0 HI0.out); (case side2 => exact lb1_ HB.out (IsS90.ge HI0.out)); rintro e w6 ⟨rfl, hi, hb, hk⟩; refine ⟨_, rfl, ?_⟩; replace HK := Aside0.mk (KeepBut.trans (kb0_ HK.out) hk (.inl rfl)); replace HB := Aside0.mk (hb); replace HI0 := Aside0.mk (hi); (try clear hb); (try clear hb2); (try clear hk); (try clear hi); have p314 : 0 ≤ (t311 : Int) := dt_; have q314 : t311 < (l1.length : Int) := dt_; obtain ⟨ad314, e314, hx314_0⟩ := Kd.at_int HR1.out t311 p314 q314; cases e314; replace hx314_0 := keep_cell HK.out hx314_0 (by first | (rw [add_block]; exact hf1 _ rfl (by omega)) | exact hf1 _ rfl (by omega) | exact hf1 ad314 rfl (by omega)); replace p314 := eq_true p314; replace q314 := eq_true q314))
   go_ret
   exact ⟨rr_, is90_0 HI0.out, lb1_ HB.out (IsS90.ge HI0.out), kb0_ HK.out⟩
  ·
   rw [if_neg c5] at H
   exact absurd H (by simp)
 ·
  rw [if_neg c4] at H
  exact absurd H (by simp)
end Go.Proofs.Ytojaeidabmfajaa.Pr

