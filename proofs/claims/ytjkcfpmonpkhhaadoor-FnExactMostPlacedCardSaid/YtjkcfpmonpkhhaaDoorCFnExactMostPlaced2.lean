/-
What is proved: parts of the law FnExactMostPlaced: what the functions that it reaches compute, and the plain law.
Conditions: those of each theorem.
-/
import Derived.Test.YtjkcfpmonpkhhaaDoorCFnExactMostPlaced1
namespace Go.Proofs.YtjkcfpmonpkhhaaDoor.Pr
open Go.RowKit Go.Proofs.YtjkcfpmonpkhhaaDoorW.PrintWords Go.Proofs.YtjkcfpmonpkhhaaDoorW.PrintLast Go.Proofs.YtjkcfpmonpkhhaaDoorW.PrintMore
attribute [local go_sem] max2_int min2_int max_two min_two max_three min_three max_four min_four   -- for this text's walks alone
set_option linter.unusedVariables false
set_option linter.unusedSimpArgs false
mutual
def spec_MostPlaced.l0 : Nat → List (S29) → List Int → Int → Option (List Int × Bool)
 | 0, _, _, _ => none
 | k + 1, x0, x4, x5 => if 0 ≤ (IntKind.u64.wrap ((x0.length : Int))) then (if x5 < (shl .i64 1 (IntKind.u64.wrap ((x0.length : Int)))) then (spec_MostPlaced.l1 k x0 x4 x5 (([] : List Int)) 0) else (some (x4, true))) else (none)
def spec_MostPlaced.l1 : Nat → List (S29) → List Int → Int → List Int → Int → Option (List Int × Bool)
 | 0, _, _, _, _, _ => none
 | k + 1, x0, x4, x5, x6, x7 => if x7 < (x0.length : Int) then (if 0 ≤ (IntKind.u64.wrap (x7)) then (if (Go.bits .and .i64 (shr .i64 x5 (IntKind.u64.wrap (x7))) 1) = 1 then (if x6.length < 17592186044416 then (spec_MostPlaced.l1 k x0 x4 x5 (x6 ++ [x7]) (wrap64 (x7 + 1))) else (none)) else (spec_MostPlaced.l1 k x0 x4 x5 x6 (wrap64 (x7 + 1)))) else (none)) else (if (x6.length : Int) < (x4.length : Int) then (spec_MostPlaced.j2 k x0 x4 x5 x6 true) else (if (x6.length : Int) = (x4.length : Int) then ((spec_l5Less.f k x6 x4).bind fun t529 => (spec_MostPlaced.j2 k x0 x4 x5 x6 (!t529))) else (spec_MostPlaced.j2 k x0 x4 x5 x6 false)))
def spec_MostPlaced.j2 : Nat → List (S29) → List Int → Int → List Int → Bool → Option (List Int × Bool)
 | 0, _, _, _, _, _ => none
 | k + 1, x0, x4, x5, x6, x57 => if x57 = true then (spec_MostPlaced.l0 k x0 x4 (wrap64 (x5 + 1))) else ((spec_l24Count.f k x0 x5 (([] : List Int))).bind fun bt533 => (if bt533.2 > 0 then (spec_MostPlaced.l0 k x0 x6 (wrap64 (x5 + 1))) else (spec_MostPlaced.l0 k x0 x4 (wrap64 (x5 + 1)))))
end
def spec_MostPlaced.f (k : Nat) (l0 : List (S29)) : Option (List Int × Bool) := (some (([] : List Int) : List Int)).bind fun y519 => ((spec_l24Good.f k l0).bind fun t522 => (if t522 = true then (spec_MostPlaced.l0 k l0 y519 0) else (some (y519, false))))
set_option maxHeartbeats 8000000 in
set_option maxRecDepth 100000 in
theorem spec_MostPlaced.calls (k : Nat) (A0 : Option Addr) (c0 : Nat) (l0 : List (S29)) (r1 : List Int) (r2 : Bool) (w : World) (hr0 : Kd.C k29 w A0 l0.length l0) (hc0 : l0.length ≤ c0) (h : spec_MostPlaced.f k l0 = some (r1, r2)) :
  Calls Tryd.prog 41 #[.slice A0 l0.length c0] w fun e w' => ∃ v0_ : Value, e = .returned (.tuple #[v0_, .bool r2]) ∧ Kd.R (Kd.int .i64) 3 w' w.heap.size (fun _ => True) v0_ r1 ∧ Below w.heap.size w w' := by
 have HR0 := Aside0.mk hr0
 have HC0 := Aside0.mk hc0
 clear hr0 hc0
 have HB := Aside0.mk (Below.refl w.heap.size w)
 have H : ((some (([] : List Int) : List Int)).bind fun y519 => ((spec_l24Good.f k l0).bind fun t522 => (if t522 = true then (spec_MostPlaced.l0 k l0 y519 0) else (some (y519, false))))) = some (r1, r2) := h
 clear h
 obtain ⟨y519, hy519⟩ : ∃ y_ : List Int, y_ = (([] : List Int)) := ⟨_, rfl⟩
 replace H : ((spec_l24Good.f k l0).bind fun t522 => (if t522 = true then (spec_MostPlaced.l0 k l0 y519 0) else (some (y519, false)))) = some (r1, r2) := by first | (rw [hy519]; with_reducible exact H) | (have H2_ := (Option.bind_some _ _).symm.trans H; rw [hy519]; with_reducible exact H2_) | (have H2_ := (Option.bind_some _ _).symm.trans H; with_reducible exact H2_) | with_reducible exact H | (rw [hy519]; exact H) | exact H
 have Ny519 := Aside0.mk hy519
 clear hy519
 replace H := Option.bind_eq_some_iff.mp H
 obtain ⟨t522, A20, H⟩ := H
 replace H : (if t522 = true then (spec_MostPlaced.l0 k l0 y519 0) else (some (y519, false))) = some (r1, r2) := H
 have A2 := Aside0.mk A20
 clear A20
 by_cases c3 : t522 = true
 ·
  subst c3
  have H1 : (spec_MostPlaced.l0 k l0 y519 0) = some (r1, r2) := by rw [if_pos rfl] at H; exact H
  clear H
  have H := H1
  clear H1
  have H' := Aside0.mk H
  clear H
  go_enter Tryd.func41, Tryd.ntmps41
  go_wp2_with (first | ((with_reducible refine gate_dst (N := 10) rfl ?_); (try (refine gate_guard (by rfl) ?_; dsimp only)); refine Kd.R_lit (Kd.int .i64) _ 3 ?hg (N := 10) ?hd (xs := ([] : List Int)) (inner := []) (ok := fun _ => True) (okp := fun _ => True) ?hr ?hp (fun _ hk => hk) trivial (Below.refl _ _) (Nat.le_refl _) (by simp) ?_; (case hd => rfl); (case hg => rfl); (case hr => first | (go_simp; done) | (go_simp; rfl)); (case hp => exact (Reps.none _ _)); intro v520 w4 ho5 hb hg_ hnew_; clear hg_ hnew_; replace ho5 := ry_ Ny519.out ho5; have HO521 := Aside0.mk (Kd.R_lower ho5 (below_size (lb0_ HB.out))); replace HB := Aside0.mk (below_step (lb0_ HB.out) hb); clear hb ho5) | ((with_reducible refine gate_callee (f := 60) rfl ?_); refine ga_ (some 12) Tryd.func60 #[.slice A0 l0.length c0] ?_; (with_reducible refine (spec_l24Good.calls k _ _ l0 true _ ?side1 ?side2 A2.out).mono ?_); (case side1 => exact kc_ (Kd.C_below HR0.out HB.out)); (case side2 => exact HC0.out); rintro e w6 ⟨rfl, hb⟩; refine ⟨_, rfl, ?_⟩; replace HO521 := Aside0.mk (Kd.R_below (kr_ HO521.out) hb); replace HB := Aside0.mk (below_step (lb0_ HB.out) hb); (try clear hb); (try clear hb2); (try clear hk); (try clear hi)))
  go_loopg [4, 5] k (fun kq v4 v5 w' => ∃ (x4_1 : List Int) (x5_1 : Int), v5 = .int .i64 x5_1 ∧ Aside0 (spec_MostPlaced.l0 kq l0 x4_1 x5_1 = some (r1, r2)) ∧ Aside0 (kq ≤ k) ∧ Aside0 (Kd.R (Kd.int .i64) 3 w' w.heap.size (fun _ => True) v4 x4_1) ∧ Aside0 (Below w.heap.size w w'))
  case atStart => exact ⟨(y519), (0), (by first | rfl | (simp; done) | (simp [*]; done)), H', ⟨Nat.le_refl _⟩, ⟨kr_ HO521.out⟩, ⟨lb0_ HB.out⟩⟩
  case round =>
   clear H'
   try clear p2
   try clear c3
   try clear c4
   try clear c6
   obtain ⟨x4_1, x5_1, rfl, HA, HK1, HO_4, HB⟩ := hrel
   cases gk with
   | zero => exact absurd HA.out (by simp [spec_MostPlaced.l0])
   | succ k1 =>
    have H := HA.out
    clear HA
    simp only [spec_MostPlaced.l0] at H
    obtain ⟨ji7, hji7⟩ : ∃ j_ : Int, (IntKind.u64.wrap ((l0.length : Int))) = j_ := ⟨_, rfl⟩
    replace H : (if 0 ≤ (ji7) then (if x5_1 < (shl .i64 1 (ji7)) then (spec_MostPlaced.l1 k1 l0 x4_1 x5_1 (([] : List Int)) 0) else (some (x4_1, true))) else (none)) = some (r1, r2) := by first | (rw [hji7] at H; exact H) | (simp only [hji7] at H ⊢; exact H)
    by_cases c8 : 0 ≤ (ji7)
    ·
     rw [if_pos c8] at H
     have c8b0 := eq_true c8
     have c8b1 : decide (0 ≤ (ji7)) = true := decide_eq_true c8
     clear c8
     obtain ⟨ji9, hji9⟩ : ∃ j_ : Int, (shl .i64 1 (ji7)) = j_ := ⟨_, rfl⟩
     replace H : (if x5_1 < (ji9) then (spec_MostPlaced.l1 k1 l0 x4_1 x5_1 (([] : List Int)) 0) else (some (x4_1, true))) = some (r1, r2) := by first | (rw [hji9] at H; exact H) | (simp only [hji9] at H ⊢; exact H)
     have hji9_ : (IntKind.i64.wrap (1 * 2 ^ min (ji7).toNat 64)) = ji9 := hji9
     have hji9z : (ji7) ≤ 64 → (IntKind.i64.wrap (1 * 2 ^ (ji7).toNat)) = ji9 := shl_small hji9
     have hji9u : (IntKind.i64.wrap (2 ^ min (ji7).toNat 64)) = ji9 := by have h_ := hji9_; rw [Int.one_mul] at h_; exact h_
     have hji9v : (ji7) ≤ 64 → (IntKind.i64.wrap (2 ^ (ji7).toNat)) = ji9 := fun hle_ => by have h_ := hji9z hle_; rw [Int.one_mul] at h_; exact h_
     have hji9y : (wrap64 (1 * 2 ^ min (ji7).toNat 64)) = ji9 := (i64_w _).symm.trans hji9_
     have hji9x : (ji7) ≤ 64 → (wrap64 (1 * 2 ^ (ji7).toNat)) = ji9 := fun h_ => (i64_w _).symm.trans (hji9z h_)
     by_cases c10 : x5_1 < (ji9)
     ·
      rw [if_pos c10] at H
      have c10b0 : decide (x5_1 < (ji9)) = true := decide_eq_true c10
      clear c10
      obtain ⟨y523, hy523⟩ : ∃ y_ : List Int, y_ = (([] : List Int)) := ⟨_, rfl⟩
      replace H : (spec_MostPlaced.l1 k1 l0 x4_1 x5_1 y523 0) = some (r1, r2) := by first | (rw [hy523]; with_reducible exact H) | (have H2_ := (Option.bind_some _ _).symm.trans H; rw [hy523]; with_reducible exact H2_) | (have H2_ := (Option.bind_some _ _).symm.trans H; with_reducible exact H2_) | with_reducible exact H | (rw [hy523]; exact H) | exact H
      have Ny523 := Aside0.mk hy523
      clear hy523
      have H' := Aside0.mk H
      clear H
      go_wp2_with (first | ((with_reducible refine gate_dst (N := 23) rfl ?_); (try (refine gate_guard (by rfl) ?_; dsimp only)); refine Kd.R_lit (Kd.int .i64) _ 3 ?hg (N := 23) ?hd (xs := ([] : List Int)) (inner := []) (ok := fun _ => True) (okp := fun _ => True) ?hr ?hp (fun _ hk => hk) trivial (Below.refl _ _) (Nat.le_refl _) (by simp) ?_; (case hd => rfl); (case hg => rfl); (case hr => first | (go_simp; done) | (go_simp; rfl)); (case hp => exact (Reps.none _ _)); intro v524 w11 ho12 hb hg_ hnew_; clear hg_ hnew_; replace ho12 := ry_ Ny523.out ho12; have HO525 := Aside0.mk (Kd.R_lower (Kd.R_new' ho12 (Kd.R_lt (kr_ HO_4.out))) (below_size (lb0_ HB.out))); replace HO_4 := Aside0.mk (Kd.R_elder' (kr_ HO_4.out) (Kd.R_base ho12) hb); replace HB := Aside0.mk (below_step (lb0_ HB.out) hb); clear hb ho12))
      go_loopg [6, 7] k1 (fun kq v6 v7 w' => ∃ (x6_2 : List Int) (x7_2 : Int), v7 = .int .i64 x7_2 ∧ Aside0 (spec_MostPlaced.l1 kq l0 x4_1 x5_1 x6_2 x7_2 = some (r1, r2)) ∧ Aside0 (kq ≤ k1) ∧ Aside0 (Kd.R (Kd.int .i64) 3 w' w.heap.size (fun k_ => some k_ ≠ (v6 : Value).ownBlock) u4 x4_1) ∧ Aside0 (Kd.R (Kd.int .i64) 3 w' w.heap.size (fun k_ => some k_ ≠ (u4 : Value).ownBlock) v6 x6_2) ∧ Aside0 (Below w.heap.size w w'))
      case atStart => exact ⟨(y523), (0), (by first | rfl | (simp; done) | (simp [*]; done)), H', ⟨Nat.le_refl _⟩, ⟨krm_ HO_4.out (fun _ hk => hk.2)⟩, ⟨krm_ HO525.out (fun _ hk => hk.2)⟩, ⟨lb0_ HB.out⟩⟩
      case round =>
       clear H'
       try clear c1
       try clear p2
       try clear c3
       try clear c4
       try clear c6
       try clear p6
       try clear c8
       try clear c8b0
       try clear c8b1
       try clear c10
       try clear c10b0
       try clear p2
       obtain ⟨x6_2, x7_2, rfl, HA, HK2, HO_4, HO_6, HB⟩ := hrel
       cases gk with
       | zero => exact absurd HA.out (by simp [spec_MostPlaced.l1])
       | succ k2 =>
        have H := HA.out; clear HA; simp only [spec_MostPlaced.l1] at H
        by_cases c13 : x7_2 < (l0.length : Int)
        ·
         rw [if_pos c13] at H
         have c13b0 : decide (x7_2 < (l0.length : Int)) = true := decide_eq_true c13; clear c13
         obtain ⟨ji14, hji14⟩ : ∃ j_ : Int, (IntKind.u64.wrap (x7_2)) = j_ := ⟨_, rfl⟩
         replace H : (if 0 ≤ (ji14) then (if (Go.bits .and .i64 (shr .i64 x5_1 (ji14)) 1) = 1 then (if x6_2.length < 17592186044416 then (spec_MostPlaced.l1 k2 l0 x4_1 x5_1 (x6_2 ++ [x7_2]) (wrap64 (x7_2 + 1))) else (none)) else (spec_MostPlaced.l1 k2 l0 x4_1 x5_1 x6_2 (wrap64 (x7_2 + 1)))) else (none)) = some (r1, r2) := by first | (rw [hji14] at H; exact H) | (simp only [hji14] at H ⊢; exact H)
         by_cases c15 : 0 ≤ (ji14)
         ·
          rw [if_pos c15] at H
          have c15b0 := eq_true c15; have c15b1 : decide (0 ≤ (ji14)) = true := decide_eq_true c15; clear c15
          obtain ⟨ji16, hji16⟩ : ∃ j_ : Int, (shr .i64 x5_1 (ji14)) = j_ := ⟨_, rfl⟩
          replace H : (if (Go.bits .and .i64 (ji16) 1) = 1 then (if x6_2.length < 17592186044416 then (spec_MostPlaced.l1 k2 l0 x4_1 x5_1 (x6_2 ++ [x7_2]) (wrap64 (x7_2 + 1))) else (none)) else (spec_MostPlaced.l1 k2 l0 x4_1 x5_1 x6_2 (wrap64 (x7_2 + 1)))) = some (r1, r2) := by first | (rw [hji16] at H; exact H) | (simp only [hji16] at H ⊢; exact H)
          have hji16_ : (x5_1 / 2 ^ min (ji14).toNat 64) = ji16 := hji16; have hji16z : (ji14) ≤ 64 → (x5_1 / 2 ^ (ji14).toNat) = ji16 := shr_small hji16
          by_cases c17 : (Go.bits .and .i64 (ji16) 1) = 1
          ·
           rw [if_pos c17] at H
           have c17b0 : ((Go.bits .and .i64 (ji16) 1) == 1) = true := beq_iff_eq.mpr c17; have c17b1 : ((Go.bits .and .i64 (ji16) 1) != 1) = false := bne_eq_false_iff_eq.mpr c17; clear c17
           by_cases c18 : x6_2.length < 17592186044416
           ·
            rw [if_pos c18] at H
            have LMc18 := Aside0.mk c18; clear c18
            obtain ⟨y526, hy526⟩ : ∃ y_ : List Int, y_ = (x6_2 ++ [x7_2]) := ⟨_, rfl⟩
            replace H : (spec_MostPlaced.l1 k2 l0 x4_1 x5_1 y526 (wrap64 (x7_2 + 1))) = some (r1, r2) := by first | (rw [hy526]; with_reducible exact H) | (have H2_ := (Option.bind_some _ _).symm.trans H; rw [hy526]; with_reducible exact H2_) | (have H2_ := (Option.bind_some _ _).symm.trans H; with_reducible exact H2_) | with_reducible exact H | (rw [hy526]; exact H) | exact H
            have Ny526 := Aside0.mk hy526; clear hy526; have H' := Aside0.mk H; clear H
            go_wp2_with (first | ((with_reducible refine gate_builtin (b := .append) (xs := #[.tmp 36, .tmp 38]) rfl ?_); (try (refine gate_guard (by rfl) ?_; dsimp only)); at_builtin; refine Kd.R_append (Kd.int .i64) (w0 := w) w.heap.size rfl (.tmp 36) (.tmp 38) 40 3 (.int .i64 0) 8 rfl Tryd.underlying40 info3 rfl (by decide) (by omega) u6 x6_2 x7_2 [.int .i64 x7_2] (fun k_ => some k_ ≠ (u4 : Value).ownBlock) (fun _ => False) rfl rfl ?aP (fun _ hk => hk.elim) ?aF ?aO ?aB ?aS ?aL ?_; (case aP => exact rfl); (case aB => exact (lb0_ HB.out)); (case aF => exact (fun k_ hk => Kd.fresh' (Kd.R_lt (kr_ HO_4.out)) k_ hk)); (case aO => exact (kr_ HO_6.out)); (case aS => exact (below_size (lb0_ HB.out))); (case aL => have := LMc18.out; omega); intro v527 w19 ho hb hg hat; rw [← Ny526.out] at ho; replace HO_4 := Aside0.mk (Kd.R_after (ok := (fun _ => True)) (krm_ HO_4.out (fun _ hk => ⟨trivial, hk⟩)) hg hat); replace HB := Aside0.mk (hb); have HO528 := Aside0.mk (ho); clear HO_6; clear ho hb hg hat))
            go_roundg k2
            case measure => have := HK1.out; have := HK2.out; omega
            case rel => exact ⟨(y526), (wrap64 (x7_2 + 1)), (by first | rfl | (simp; done) | (simp [*]; done)), H', ⟨by have := HK1.out; have := HK2.out; omega⟩, ⟨krm_ HO_4.out (fun _ hk => hk.2)⟩, ⟨kr_ HO528.out⟩, ⟨lb0_ HB.out⟩⟩
           ·
            rw [if_neg c18] at H
            exact absurd H (by simp)
          ·
           rw [if_neg c17] at H
           have c17b0 : ((Go.bits .and .i64 (ji16) 1) == 1) = false := beq_eq_false_iff_ne.mpr c17; have c17b1 : ((Go.bits .and .i64 (ji16) 1) != 1) = true := bne_iff_ne.mpr c17; have H' := Aside0.mk H; clear H
           go_wp2
           go_roundg k2
           case measure => have := HK1.out; have := HK2.out; omega
           case rel => exact ⟨(x6_2), (wrap64 (x7_2 + 1)), (by first | rfl | (simp; done) | (simp [*]; done)), H', ⟨by have := HK1.out; have := HK2.out; omega⟩, ⟨kr_ HO_4.out⟩, ⟨kr_ HO_6.out⟩, ⟨lb0_ HB.out⟩⟩
         ·
          rw [if_neg c15] at H
          exact absurd H (by simp)
        ·
         rw [if_neg c13] at H
         have c13b0 : decide (x7_2 < (l0.length : Int)) = false := decide_eq_false c13; clear c13; have HC20 := Aside0.mk H; clear H
         go_upto_region 13 with (fail)
         go_cut [57] (fun v57 wc => ∃ (kq : Nat) (x57_19 : Bool), v57 = .bool x57_19 ∧ Aside0 (spec_MostPlaced.j2 kq l0 x4_1 x5_1 x6_2 x57_19 = some (r1, r2)) ∧ Aside0 (kq ≤ k2) ∧ Aside0 (Kd.R (Kd.int .i64) 3 wc w.heap.size (fun k_ => some k_ ≠ (u6 : Value).ownBlock) u4 x4_1) ∧ Aside0 (Kd.R (Kd.int .i64) 3 wc w.heap.size (fun k_ => some k_ ≠ (u4 : Value).ownBlock) u6 x6_2) ∧ Aside0 (Below w.heap.size w wc))
         case first =>
          have H := HC20.out; clear HC20
          by_cases c21 : (x6_2.length : Int) < (x4_1.length : Int)
          ·
           rw [if_pos c21] at H
           have c21b0 : decide ((x6_2.length : Int) < (x4_1.length : Int)) = true := decide_eq_true c21; have c21b1 : decide (x6_2.length < x4_1.length) = true := decide_eq_true (Int.ofNat_lt.mp c21); clear c21
           (first | rw [c21b0] | (simp only [i64_w, i32_w]; rw [c21b0]) | skip)
           have H' := Aside0.mk H; clear H; obtain ⟨Ao22, co22, eo22⟩ := Kd.R_slice HO_6.out; subst eo22; obtain ⟨Ao23, co23, eo23⟩ := Kd.R_slice HO_4.out; subst eo23
           go_wp2
           go_meet
           case rel => exact ⟨_, (true), (by first | rfl | (simp; done) | (simp [*]; done)), H', ⟨by have := HK1.out; have := HK2.out; first | omega | exact Nat.le_refl _⟩, ⟨kr_ HO_4.out⟩, ⟨kr_ HO_6.out⟩, ⟨lb0_ HB.out⟩⟩
          ·
           rw [if_neg c21] at H
           have c21b0 : decide ((x6_2.length : Int) < (x4_1.length : Int)) = false := decide_eq_false c21; have c21b1 : decide (x6_2.length < x4_1.length) = false := decide_eq_false (fun h => c21 (Int.ofNat_lt.mpr h)); clear c21
           (first | rw [c21b0] | (simp only [i64_w, i32_w]; rw [c21b0]) | skip)
           by_cases c24 : (x6_2.length : Int) = (x4_1.length : Int)
           ·
            rw [if_pos c24] at H
            have c24b0 : ((x6_2.length : Int) == (x4_1.length : Int)) = true := beq_iff_eq.mpr c24; have c24b1 : ((x6_2.length : Int) != (x4_1.length : Int)) = false := bne_eq_false_iff_eq.mpr c24
            have c24b2 : (x6_2.length == x4_1.length) = true := by first | simpa using c24 | (simp at c24 ⊢; omega)
            clear c24; replace H := Option.bind_eq_some_iff.mp H; obtain ⟨t529, A250, H⟩ := H; replace H : (spec_MostPlaced.j2 k2 l0 x4_1 x5_1 x6_2 (!t529)) = some (r1, r2) := H; have A25 := Aside0.mk A250; clear A250; have H' := Aside0.mk H; clear H; obtain ⟨Ao26, co26, eo26⟩ := Kd.R_slice HO_6.out; subst eo26; obtain ⟨Ao27, co27, eo27⟩ := Kd.R_slice HO_4.out; subst eo27
            go_wp2_with (first | (go_at_call 81; (with_reducible refine (spec_l5Less.calls k2 _ _ x6_2 _ _ x4_1 t529 _ ?side1 ?side2 ?side3 ?side4 A25.out).mono ?_); (case side1 => exact kc_ (Kd.R_reads' HO_6.out).2.2); (case side2 => exact (Kd.R_reads' HO_6.out).2.1); (case side3 => exact kc_ (Kd.R_reads' HO_4.out).2.2); (case side4 => exact (Kd.R_reads' HO_4.out).2.1); rintro e w' ⟨rfl, ⟨nd, rfl⟩⟩))
            go_meet
            case rel => exact ⟨_, (!t529), (by first | rfl | (simp; done) | (simp [*]; done)), H', ⟨by have := HK1.out; have := HK2.out; first | omega | exact Nat.le_refl _⟩, ⟨kr_ HO_4.out⟩, ⟨kr_ HO_6.out⟩, ⟨lb0_ HB.out⟩⟩
           ·
            rw [if_neg c24] at H
            have c24b0 : ((x6_2.length : Int) == (x4_1.length : Int)) = false := beq_eq_false_iff_ne.mpr c24; have c24b1 : ((x6_2.length : Int) != (x4_1.length : Int)) = true := bne_iff_ne.mpr c24
            have c24b2 : (x6_2.length == x4_1.length) = false := by first | simpa using c24 | (simp at c24 ⊢; omega)
            have H' := Aside0.mk H; clear H; obtain ⟨Ao28, co28, eo28⟩ := Kd.R_slice HO_6.out; subst eo28; obtain ⟨Ao29, co29, eo29⟩ := Kd.R_slice HO_4.out; subst eo29
            go_wp2
            go_meet
            case rel => exact ⟨_, (false), (by first | rfl | (simp; done) | (simp [*]; done)), H', ⟨by have := HK1.out; have := HK2.out; first | omega | exact Nat.le_refl _⟩, ⟨kr_ HO_4.out⟩, ⟨kr_ HO_6.out⟩, ⟨lb0_ HB.out⟩⟩
         case rest =>
          clear HC20
          try clear c1
          try clear c2
          try clear p2
          try clear c3
          try clear c4
          try clear c6
          try clear p6
          try clear c8
          try clear c8b0
          try clear c8b1
          try clear c10
          try clear c10b0
          try clear c13
          try clear c13b0
          try clear c15
          try clear c15b0
          try clear c15b1
          try clear c17
          try clear c17b0
          try clear c17b1
          try clear c18
          try clear c21
          try clear c21b0
          try clear c21b1
          try clear c24
          try clear c24b0
          try clear c24b1
          try clear c24b2
          try clear p2
          try clear p6
          obtain ⟨kq, x57_19, rfl, HA, HJ19, HO_4, HO_6, HB⟩ := hcut
          cases kq with
          | zero => exact absurd HA.out (by simp [spec_MostPlaced.j2])
          | succ kj19 =>
           have H := HA.out; clear HA; simp only [spec_MostPlaced.j2] at H
           by_cases c30 : x57_19 = true
           ·
            subst c30
            have H1 : (spec_MostPlaced.l0 kj19 l0 x4_1 (wrap64 (x5_1 + 1))) = some (r1, r2) := by rw [if_pos rfl] at H; exact H
            clear H; have H := H1; clear H1; have H' := Aside0.mk H; clear H
            go_wp2
            go_roundg kj19
            case measure => have := HK1.out; have := HK2.out; have := HJ19.out; omega
            case rel => exact ⟨(x4_1), (wrap64 (x5_1 + 1)), (by first | rfl | (simp; done) | (simp [*]; done)), H', ⟨by have := HK1.out; have := HK2.out; have := HJ19.out; omega⟩, ⟨krm_ HO_4.out (fun _ hk => trivial)⟩, ⟨lb0_ HB.out⟩⟩
           ·
            replace c30 := Bool.eq_false_iff.mpr c30; subst c30
            have H1 : ((spec_l24Count.f kj19 l0 x5_1 (([] : List Int))).bind fun bt533 => (if bt533.2 > 0 then (spec_MostPlaced.l0 kj19 l0 x6_2 (wrap64 (x5_1 + 1))) else (spec_MostPlaced.l0 kj19 l0 x4_1 (wrap64 (x5_1 + 1))))) = some (r1, r2) := by rw [if_neg (show ¬ (false = true) by decide)] at H; exact H
            clear H; have H := H1; clear H1
            obtain ⟨y530, hy530⟩ : ∃ y_ : List Int, y_ = (([] : List Int)) := ⟨_, rfl⟩
            replace H : ((spec_l24Count.f kj19 l0 x5_1 y530).bind fun bt533 => (if bt533.2 > 0 then (spec_MostPlaced.l0 kj19 l0 x6_2 (wrap64 (x5_1 + 1))) else (spec_MostPlaced.l0 kj19 l0 x4_1 (wrap64 (x5_1 + 1))))) = some (r1, r2) := by first | (rw [hy530]; with_reducible exact H) | (have H2_ := (Option.bind_some _ _).symm.trans H; rw [hy530]; with_reducible exact H2_) | (have H2_ := (Option.bind_some _ _).symm.trans H; with_reducible exact H2_) | with_reducible exact H | (rw [hy530]; exact H) | exact H
            have Ny530 := Aside0.mk hy530; clear hy530; replace H := Option.bind_eq_some_iff.mp H; obtain ⟨⟨t533, t536⟩, A310, H⟩ := H; replace H : (if t536 > 0 then (spec_MostPlaced.l0 kj19 l0 x6_2 (wrap64 (x5_1 + 1))) else (spec_MostPlaced.l0 kj19 l0 x4_1 (wrap64 (x5_1 + 1)))) = some (r1, r2) := H; have A31 := Aside0.mk A310; clear A310
            by_cases c32 : t536 > 0
            ·
             rw [if_pos c32] at H
             have c32b0 : decide (0 < t536) = true := decide_eq_true c32; clear c32; have H' := Aside0.mk H; clear H
             go_wp2_with (first | ((with_reducible refine gate_dst (N := 61) rfl ?_); (try (refine gate_guard (by rfl) ?_; dsimp only)); refine Kd.R_lit (Kd.int .i64) _ 3 ?hg (N := 61) ?hd (xs := ([] : List Int)) (inner := []) (ok := fun _ => True) (okp := fun _ => True) ?hr ?hp (fun _ hk => hk) trivial (Below.refl _ _) (Nat.le_refl _) (by simp) ?_; (case hd => rfl); (case hg => rfl); (case hr => first | (go_simp; done) | (go_simp; rfl)); (case hp => exact (Reps.none _ _)); intro v531 w33 ho34 hb hg_ hnew_; clear hg_ hnew_; replace ho34 := ry_ Ny530.out ho34; have HO532 := Aside0.mk (Kd.R_lower (Kd.R_new' (Kd.R_new' ho34 (Kd.R_lt (kr_ HO_4.out))) (Kd.R_lt (kr_ HO_6.out))) (below_size (lb0_ HB.out))); replace HO_4 := Aside0.mk (Kd.R_elder' (kr_ HO_4.out) (Kd.R_base ho34) hb); replace HO_6 := Aside0.mk (Kd.R_elder' (kr_ HO_6.out) (Kd.R_base ho34) hb); replace HB := Aside0.mk (below_step (lb0_ HB.out) hb); clear hb ho34; obtain ⟨Ao35, co35, eo35⟩ := Kd.R_slice HO532.out; subst eo35) | ((with_reducible refine gate_callee (f := 76) rfl ?_); refine ga_ (some 62) Tryd.func76 #[.slice A0 l0.length c0, .int .i64 x5_1, .slice Ao35 y530.length co35] ?_; (with_reducible refine (spec_l24Count.calls kj19 _ _ l0 x5_1 (fun k_ => some k_ = (.slice Ao35 y530.length co35 : Value).ownBlock) (.slice Ao35 y530.length co35) y530 t533 t536 w _ ?side1 ?side2 ?side3 ?side4 A31.out).mono ?_); (case side1 => exact lb0_ HB.out); (case side2 => exact Kd.C_kept_came k29_heap HR0.out (lb0_ HB.out) (fun k_ hs_ => (fun e_ => Kd.R_base HO532.out k_ e_.symm) hs_)); (case side3 => exact HC0.out); (case side4 => exact Kd.R_tight rfl HO532.out); rintro e w36 ⟨v534, rfl, ho0, hb, hkp⟩; refine ⟨_, rfl, ?_⟩; have HO535 := Aside0.mk (Kd.R_mono (ok' := fun k_ => some k_ ≠ (u4 : Value).ownBlock ∧ some k_ ≠ (u6 : Value).ownBlock) ho0 (fun k_ hk_ => ⟨Or.elim hk_ (fun hs_ => fun e_ => (((HO_4.out).1 k_ e_.symm).2) hs_) (fun hn_ => (Kd.fresh' (Kd.R_lt (kr_ HO_4.out)) k_ hn_)), Or.elim hk_ (fun hs_ => fun e_ => (((HO_6.out).1 k_ e_.symm).2) hs_) (fun hn_ => (Kd.fresh' (Kd.R_lt (kr_ HO_6.out)) k_ hn_))⟩)); replace HO_4 := Aside0.mk (Kd.R_mono (ok' := fun k_ => some k_ ≠ (u6 : Value).ownBlock ∧ some k_ ≠ (v534 : Value).ownBlock) (Kd.R_keptB (HO_4.out) hkp (fun k_ hk_ hs_ => (hk_.2) hs_)) (fun k_ hk_ => ⟨hk_.1.1, fun e_ => Or.elim (ho0.1 k_ e_.symm) (fun hs_ => hk_.2.1 hs_) (fun hn_ => Nat.not_le.2 hk_.2.2 hn_)⟩)); replace HO_6 := Aside0.mk (Kd.R_mono (ok' := fun k_ => some k_ ≠ (u4 : Value).ownBlock ∧ some k_ ≠ (v534 : Value).ownBlock) (Kd.R_keptB (HO_6.out) hkp (fun k_ hk_ hs_ => (hk_.2) hs_)) (fun k_ hk_ => ⟨hk_.1.1, fun e_ => Or.elim (ho0.1 k_ e_.symm) (fun hs_ => hk_.2.1 hs_) (fun hn_ => Nat.not_le.2 hk_.2.2 hn_)⟩)); replace HB := Aside0.mk (hb); clear HO532; (try clear hb); (try clear hkp); (try clear ho0)))
             go_roundg kj19
             case measure => have := HK1.out; have := HK2.out; have := HJ19.out; omega
             case rel => exact ⟨(x6_2), (wrap64 (x5_1 + 1)), (by first | rfl | (simp; done) | (simp [*]; done)), H', ⟨by have := HK1.out; have := HK2.out; have := HJ19.out; omega⟩, ⟨krm_ HO_6.out (fun _ hk => trivial)⟩, ⟨lb0_ HB.out⟩⟩
            ·
             rw [if_neg c32] at H
             have c32b0 : decide (0 < t536) = false := decide_eq_false c32; clear c32; have H' := Aside0.mk H; clear H
             go_wp2_with (first | ((with_reducible refine gate_dst (N := 61) rfl ?_); (try (refine gate_guard (by rfl) ?_; dsimp only)); refine Kd.R_lit (Kd.int .i64) _ 3 ?hg (N := 61) ?hd (xs := ([] : List Int)) (inner := []) (ok := fun _ => True) (okp := fun _ => True) ?hr ?hp (fun _ hk => hk) trivial (Below.refl _ _) (Nat.le_refl _) (by simp) ?_; (case hd => rfl); (case hg => rfl); (case hr => first | (go_simp; done) | (go_simp; rfl)); (case hp => exact (Reps.none _ _)); intro v531 w37 ho38 hb hg_ hnew_; clear hg_ hnew_; replace ho38 := ry_ Ny530.out ho38; have HO532 := Aside0.mk (Kd.R_lower (Kd.R_new' (Kd.R_new' ho38 (Kd.R_lt (kr_ HO_4.out))) (Kd.R_lt (kr_ HO_6.out))) (below_size (lb0_ HB.out))); replace HO_4 := Aside0.mk (Kd.R_elder' (kr_ HO_4.out) (Kd.R_base ho38) hb); replace HO_6 := Aside0.mk (Kd.R_elder' (kr_ HO_6.out) (Kd.R_base ho38) hb); replace HB := Aside0.mk (below_step (lb0_ HB.out) hb); clear hb ho38; obtain ⟨Ao39, co39, eo39⟩ := Kd.R_slice HO532.out; subst eo39) | ((with_reducible refine gate_callee (f := 76) rfl ?_); refine ga_ (some 62) Tryd.func76 #[.slice A0 l0.length c0, .int .i64 x5_1, .slice Ao39 y530.length co39] ?_; (with_reducible refine (spec_l24Count.calls kj19 _ _ l0 x5_1 (fun k_ => some k_ = (.slice Ao39 y530.length co39 : Value).ownBlock) (.slice Ao39 y530.length co39) y530 t533 t536 w _ ?side1 ?side2 ?side3 ?side4 A31.out).mono ?_); (case side1 => exact lb0_ HB.out); (case side2 => exact Kd.C_kept_came k29_heap HR0.out (lb0_ HB.out) (fun k_ hs_ => (fun e_ => Kd.R_base HO532.out k_ e_.symm) hs_)); (case side3 => exact HC0.out); (case side4 => exact Kd.R_tight rfl HO532.out); rintro e w40 ⟨v534, rfl, ho0, hb, hkp⟩; refine ⟨_, rfl, ?_⟩; have HO535 := Aside0.mk (Kd.R_mono (ok' := fun k_ => some k_ ≠ (u4 : Value).ownBlock ∧ some k_ ≠ (u6 : Value).ownBlock) ho0 (fun k_ hk_ => ⟨Or.elim hk_ (fun hs_ => fun e_ => (((HO_4.out).1 k_ e_.symm).2) hs_) (fun hn_ => (Kd.fresh' (Kd.R_lt (kr_ HO_4.out)) k_ hn_)), Or.elim hk_ (fun hs_ => fun e_ => (((HO_6.out).1 k_ e_.symm).2) hs_) (fun hn_ => (Kd.fresh' (Kd.R_lt (kr_ HO_6.out)) k_ hn_))⟩)); replace HO_4 := Aside0.mk (Kd.R_mono (ok' := fun k_ => some k_ ≠ (u6 : Value).ownBlock ∧ some k_ ≠ (v534 : Value).ownBlock) (Kd.R_keptB (HO_4.out) hkp (fun k_ hk_ hs_ => (hk_.2) hs_)) (fun k_ hk_ => ⟨hk_.1.1, fun e_ => Or.elim (ho0.1 k_ e_.symm) (fun hs_ => hk_.2.1 hs_) (fun hn_ => Nat.not_le.2 hk_.2.2 hn_)⟩)); replace HO_6 := Aside0.mk (Kd.R_mono (ok' := fun k_ => some k_ ≠ (u4 : Value).ownBlock ∧ some k_ ≠ (v534 : Value).ownBlock) (Kd.R_keptB (HO_6.out) hkp (fun k_ hk_ hs_ => (hk_.2) hs_)) (fun k_ hk_ => ⟨hk_.1.1, fun e_ => Or.elim (ho0.1 k_ e_.symm) (fun hs_ => hk_.2.1 hs_) (fun hn_ => Nat.not_le.2 hk_.2.2 hn_)⟩)); replace HB := Aside0.mk (hb); clear HO532; (try clear hb); (try clear hkp); (try clear ho0)))
             go_roundg kj19
             case measure => have := HK1.out; have := HK2.out; have := HJ19.out; omega
             case rel => exact ⟨(x4_1), (wrap64 (x5_1 + 1)), (by first | rfl | (simp; done) | (simp [*]; done)), H', ⟨by have := HK1.out; have := HK2.out; have := HJ19.out; omega⟩, ⟨krm_ HO_4.out (fun _ hk => trivial)⟩, ⟨lb0_ HB.out⟩⟩
     ·
      rw [if_neg c10] at H
      have c10b0 : decide (x5_1 < (ji9)) = false := decide_eq_false c10
      clear c10
      simp only [Option.some.injEq, Prod.mk.injEq] at H
      obtain ⟨rfl, rfl⟩ := H
      go_wp2
      go_ret2
      exact ⟨_, by first | rfl | (simp [errW_none, errW_some] <;> rfl) | (simp only [← hji7, ← hji9]; first | rfl | (simp [errW_none, errW_some] <;> rfl)) | (simp [*, errW_none, errW_some] <;> rfl), kr_ HO_4.out, lb0_ HB.out⟩
    ·
     rw [if_neg c8] at H
     exact absurd H (by simp)
 ·
  replace c3 := Bool.eq_false_iff.mpr c3
  subst c3
  have H1 : (some (y519, false)) = some (r1, r2) := by rw [if_neg (show ¬ (false = true) by decide)] at H; exact H
  clear H
  have H := H1
  clear H1
  simp only [Option.some.injEq, Prod.mk.injEq] at H
  obtain ⟨rfl, rfl⟩ := H
  go_enter Tryd.func41, Tryd.ntmps41
  go_wp2_with (first | ((with_reducible refine gate_dst (N := 10) rfl ?_); (try (refine gate_guard (by rfl) ?_; dsimp only)); refine Kd.R_lit (Kd.int .i64) _ 3 ?hg (N := 10) ?hd (xs := ([] : List Int)) (inner := []) (ok := fun _ => True) (okp := fun _ => True) ?hr ?hp (fun _ hk => hk) trivial (Below.refl _ _) (Nat.le_refl _) (by simp) ?_; (case hd => rfl); (case hg => rfl); (case hr => first | (go_simp; done) | (go_simp; rfl)); (case hp => exact (Reps.none _ _)); intro v520 w41 ho42 hb hg_ hnew_; clear hg_ hnew_; replace ho42 := ry_ Ny519.out ho42; have HO521 := Aside0.mk (Kd.R_lower ho42 (below_size (lb0_ HB.out))); replace HB := Aside0.mk (below_step (lb0_ HB.out) hb); clear hb ho42) | ((with_reducible refine gate_callee (f := 60) rfl ?_); refine ga_ (some 12) Tryd.func60 #[.slice A0 l0.length c0] ?_; (with_reducible refine (spec_l24Good.calls k _ _ l0 false _ ?side1 ?side2 A2.out).mono ?_); (case side1 => exact kc_ (Kd.C_below HR0.out HB.out)); (case side2 => exact HC0.out); rintro e w43 ⟨rfl, hb⟩; refine ⟨_, rfl, ?_⟩; replace HO521 := Aside0.mk (Kd.R_below (kr_ HO521.out) hb); replace HB := Aside0.mk (below_step (lb0_ HB.out) hb); (try clear hb); (try clear hb2); (try clear hk); (try clear hi)))
  go_ret2
  exact ⟨_, rr_, kr_ HO521.out, lb0_ HB.out⟩
def idxP {α : Type} (p : α → Bool) (l : List α) : Int := if l.any p then (l.findIdx p : Int) else -1
theorem idxP_hit {α : Type} (p : α → Bool) (z : α) (l : List α) (k : Nat) (hk : k < l.length) (h : p (l.getD k z) = true) (hb : ∀ j, j < k → p (l.getD j z) = false) : idxP p l = k := by
 have hf : l.findIdx p = k := by
  rw [List.findIdx_eq hk]
  refine ⟨by rw [List.getD_eq_getElem?_getD, List.getElem?_eq_getElem hk] at h; exact h, fun j hj => ?_⟩
  have := hb j hj
  rw [List.getD_eq_getElem?_getD, List.getElem?_eq_getElem (by omega)] at this
  exact this
 unfold idxP
 rw [if_pos, hf]
 rw [List.any_eq_true]
 refine ⟨l[k], List.getElem_mem hk, ?_⟩
 rw [List.getD_eq_getElem?_getD, List.getElem?_eq_getElem hk] at h
 exact h
theorem idxP_miss {α : Type} (p : α → Bool) (z : α) (l : List α) (hb : ∀ j, j < l.length → p (l.getD j z) = false) : idxP p l = -1 := by
 unfold idxP
 rw [if_neg]
 rw [List.any_eq_true]
 rintro ⟨x, hx, hp⟩
 obtain ⟨j, hj, rfl⟩ := List.mem_iff_getElem.1 hx
 have := hb j hj
 rw [List.getD_eq_getElem?_getD, List.getElem?_eq_getElem hj] at this
 rw [show (some l[j]).getD z = l[j] from rfl, hp] at this
 cases this
theorem idxP_any {α : Type} (p : α → Bool) (l : List α) : decide (0 ≤ idxP p l) = l.any p := by
 unfold idxP
 split
 ·
  rename_i h
  rw [h]
  simp
 ·
  rename_i h
  rw [Bool.eq_false_iff.mpr h]
  rfl
set_option maxHeartbeats 4000000 in
theorem idx_Label.calls (p : S29 → Bool) (g : Nat) (lb : Array Value) (eg : ∀ args w, (callFunc g args).run Tryd.prog w = .ok (.enter g args) w) (A0 : Option Addr) (c0 : Nat) (l0 : List S29) (w : World) (hr0 : Kd.C k29 w A0 l0.length l0) (hc0 : l0.length ≤ c0)
  (hp : ∀ (W : World) (x : S29), x ∈ l0 → Below w.heap.size w W → Calls Tryd.prog g (#[.agg #[.string x.f0, .int .i64 x.f1, .int .i64 x.f2]] ++ lb) W fun e w' => e = .returned (.bool (p x)) ∧ Below w.heap.size w w') :
  Calls Tryd.prog 96 #[.slice A0 l0.length c0, .func (.func g) #[] lb] w fun e w' => e = .returned (.int .i64 (idxP p l0)) ∧ Below w.heap.size w w' := by
 have hL : l0.length ≤ 9223372036854775807 := hr0.2.1
 have HP := Aside0.mk hp
 have HR := Aside0.mk hr0
 clear hp hr0
 go_enter Tryd.func96, Tryd.ntmps96
 go_wp2
 go_loopg [5, 8] l0.length (fun gg _ s8 wr => ∃ kk : Nat, kk ≤ l0.length ∧ l0.length - kk ≤ gg ∧ s8 = .int .i64 kk ∧ Aside0 (Below w.heap.size w wr) ∧ Aside0 (∀ j, j < kk → p (l0.getD j z29) = false))
 case atStart => exact ⟨0, Nat.zero_le _, by omega, rfl, ⟨Below.refl _ w⟩, ⟨fun j hj => absurd hj (Nat.not_lt_zero _)⟩⟩
 case round =>
  obtain ⟨kk, hkk, hg, rfl, BW, AA⟩ := hrel
  by_cases hlt : kk < l0.length
  ·
   have hltz : (kk : Int) < (l0.length : Int) := by omega
   have hk0 : (0 : Int) ≤ (kk : Int) := by omega
   obtain ⟨ad, e0, hx0, hx1, hx2⟩ := at_T29 HR.out (kk : Int) hk0 hltz
   replace hx0 := (BW.out.cell (World.block_lt_of_cell? w _ hx0)).trans hx0
   replace hx1 := (BW.out.cell (World.block_lt_of_cell? w _ hx1)).trans hx1
   replace hx2 := (BW.out.cell (World.block_lt_of_cell? w _ hx2)).trans hx2
   have hm : rd_T29 l0 (kk : Int) ∈ l0 := by
    show l0.getD (kk : Int).toNat _ ∈ l0
    rw [Int.toNat_natCast, List.getD_eq_getElem?_getD, List.getElem?_eq_getElem hlt]
    exact List.getElem_mem hlt
   have hcall := HP.out wr (rd_T29 l0 (kk : Int)) hm BW.out
   have hpk : Aside0 (p (rd_T29 l0 (kk : Int)) = p (l0.getD kk z29)) := ⟨rfl⟩
   clear hm
   generalize rd_T29 l0 (kk : Int) = y at hx0 hx1 hx2 hcall hpk
   subst e0
   rw [Int.toNat_natCast] at hx0 hx1 hx2
   cases hq : p y with
   | true =>
    rw [hq] at hcall
    go_wp2_with (go_at_fn g; refine hcall.mono ?_; rintro e w' ⟨rfl, hb'⟩)
    go_ret
    refine ⟨?_, hb'⟩
    rw [idxP_hit p z29 l0 kk hlt (hpk.out.symm.trans hq) AA.out]
    rfl
   | false =>
    rw [hq] at hcall
    go_wp2_with (go_at_fn g; refine hcall.mono ?_; rintro e w' ⟨rfl, hb'⟩)
    go_roundg (l0.length - (kk + 1))
    case measure => omega
    case rel =>
     refine ⟨kk + 1, by omega, by omega, by go_num, ⟨hb'⟩, ⟨fun j hj => ?_⟩⟩
     by_cases e : j = kk
     ·
      subst e
      exact hpk.out.symm.trans hq
     ·
      exact AA.out j (by omega)
  ·
   have hltz : ¬ (kk : Int) < (l0.length : Int) := by omega
   have hkl : kk = l0.length := by omega
   go_wp2
   go_ret
   refine ⟨?_, BW.out⟩
   rw [idxP_miss p z29 l0 (fun j hj => AA.out j (by omega))]
   rfl
set_option maxHeartbeats 4000000 in
theorem cont_Label.calls (p : S29 → Bool) (g : Nat) (lb : Array Value) (eg : ∀ args w, (callFunc g args).run Tryd.prog w = .ok (.enter g args) w) (A0 : Option Addr) (c0 : Nat) (l0 : List S29) (w : World) (hr0 : Kd.C k29 w A0 l0.length l0) (hc0 : l0.length ≤ c0)
  (hp : ∀ (W : World) (x : S29), x ∈ l0 → Below w.heap.size w W → Calls Tryd.prog g (#[.agg #[.string x.f0, .int .i64 x.f1, .int .i64 x.f2]] ++ lb) W fun e w' => e = .returned (.bool (p x)) ∧ Below w.heap.size w w') :
  Calls Tryd.prog 61 #[.slice A0 l0.length c0, .func (.func g) #[] lb] w fun e w' => e = .returned (.bool (l0.any p)) ∧ Below w.heap.size w w' := by
 rw [← idxP_any p l0]
 have hcon := idx_Label.calls p g lb eg A0 c0 l0 w hr0 hc0 hp
 generalize idxP p l0 = r at hcon ⊢
 have HC := Aside0.mk hcon
 clear hcon hp hr0
 go_enter Tryd.func61, Tryd.ntmps61
 go_wp2_with (go_at_call 96; refine HC.out.mono ?_; rintro e w' ⟨rfl, hb'⟩)
 go_ret
 exact ⟨rfl, hb'⟩
set_option maxHeartbeats 4000000 in
theorem idx_Box.calls (p : S26 → Bool) (g : Nat) (lb : Array Value) (eg : ∀ args w, (callFunc g args).run Tryd.prog w = .ok (.enter g args) w) (A0 : Option Addr) (c0 : Nat) (l0 : List S26) (w : World) (hr0 : Kd.C k26 w A0 l0.length l0) (hc0 : l0.length ≤ c0)
  (hp : ∀ (W : World) (x : S26), x ∈ l0 → Below w.heap.size w W → Calls Tryd.prog g (#[.agg #[.int .i64 x.f0, .int .i64 x.f1, .int .i64 x.f2, .int .i64 x.f3]] ++ lb) W fun e w' => e = .returned (.bool (p x)) ∧ Below w.heap.size w w') :
  Calls Tryd.prog 100 #[.slice A0 l0.length c0, .func (.func g) #[] lb] w fun e w' => e = .returned (.int .i64 (idxP p l0)) ∧ Below w.heap.size w w' := by
 have hL : l0.length ≤ 9223372036854775807 := hr0.2.1
 have HP := Aside0.mk hp
 have HR := Aside0.mk hr0
 clear hp hr0
 go_enter Tryd.func100, Tryd.ntmps100
 go_wp2
 go_loopg [5, 8] l0.length (fun gg _ s8 wr => ∃ kk : Nat, kk ≤ l0.length ∧ l0.length - kk ≤ gg ∧ s8 = .int .i64 kk ∧ Aside0 (Below w.heap.size w wr) ∧ Aside0 (∀ j, j < kk → p (l0.getD j z26) = false))
 case atStart => exact ⟨0, Nat.zero_le _, by omega, rfl, ⟨Below.refl _ w⟩, ⟨fun j hj => absurd hj (Nat.not_lt_zero _)⟩⟩
 case round =>
  obtain ⟨kk, hkk, hg, rfl, BW, AA⟩ := hrel
  by_cases hlt : kk < l0.length
  ·
   have hltz : (kk : Int) < (l0.length : Int) := by omega
   have hk0 : (0 : Int) ≤ (kk : Int) := by omega
   obtain ⟨ad, e0, hx0, hx1, hx2, hx3⟩ := at_T26 HR.out (kk : Int) hk0 hltz
   replace hx0 := (BW.out.cell (World.block_lt_of_cell? w _ hx0)).trans hx0
   replace hx1 := (BW.out.cell (World.block_lt_of_cell? w _ hx1)).trans hx1
   replace hx2 := (BW.out.cell (World.block_lt_of_cell? w _ hx2)).trans hx2
   replace hx3 := (BW.out.cell (World.block_lt_of_cell? w _ hx3)).trans hx3
   have hm : rd_T26 l0 (kk : Int) ∈ l0 := by
    show l0.getD (kk : Int).toNat _ ∈ l0
    rw [Int.toNat_natCast, List.getD_eq_getElem?_getD, List.getElem?_eq_getElem hlt]
    exact List.getElem_mem hlt
   have hcall := HP.out wr (rd_T26 l0 (kk : Int)) hm BW.out
   have hpk : Aside0 (p (rd_T26 l0 (kk : Int)) = p (l0.getD kk z26)) := ⟨rfl⟩
   clear hm
   generalize rd_T26 l0 (kk : Int) = y at hx0 hx1 hx2 hx3 hcall hpk
   subst e0
   rw [Int.toNat_natCast] at hx0 hx1 hx2 hx3
   cases hq : p y with
   | true =>
    rw [hq] at hcall
    go_wp2_with (go_at_fn g; refine hcall.mono ?_; rintro e w' ⟨rfl, hb'⟩)
    go_ret
    refine ⟨?_, hb'⟩
    rw [idxP_hit p z26 l0 kk hlt (hpk.out.symm.trans hq) AA.out]
    rfl
   | false =>
    rw [hq] at hcall
    go_wp2_with (go_at_fn g; refine hcall.mono ?_; rintro e w' ⟨rfl, hb'⟩)
    go_roundg (l0.length - (kk + 1))
    case measure => omega
    case rel =>
     refine ⟨kk + 1, by omega, by omega, by go_num, ⟨hb'⟩, ⟨fun j hj => ?_⟩⟩
     by_cases e : j = kk
     ·
      subst e
      exact hpk.out.symm.trans hq
     ·
      exact AA.out j (by omega)
  ·
   have hltz : ¬ (kk : Int) < (l0.length : Int) := by omega
   have hkl : kk = l0.length := by omega
   go_wp2
   go_ret
   refine ⟨?_, BW.out⟩
   rw [idxP_miss p z26 l0 (fun j hj => AA.out j (by omega))]
   rfl
set_option maxHeartbeats 4000000 in
theorem cont_Box.calls (p : S26 → Bool) (g : Nat) (lb : Array Value) (eg : ∀ args w, (callFunc g args).run Tryd.prog w = .ok (.enter g args) w) (A0 : Option Addr) (c0 : Nat) (l0 : List S26) (w : World) (hr0 : Kd.C k26 w A0 l0.length l0) (hc0 : l0.length ≤ c0)
  (hp : ∀ (W : World) (x : S26), x ∈ l0 → Below w.heap.size w W → Calls Tryd.prog g (#[.agg #[.int .i64 x.f0, .int .i64 x.f1, .int .i64 x.f2, .int .i64 x.f3]] ++ lb) W fun e w' => e = .returned (.bool (p x)) ∧ Below w.heap.size w w') :
  Calls Tryd.prog 68 #[.slice A0 l0.length c0, .func (.func g) #[] lb] w fun e w' => e = .returned (.bool (l0.any p)) ∧ Below w.heap.size w w' := by
 rw [← idxP_any p l0]
 have hcon := idx_Box.calls p g lb eg A0 c0 l0 w hr0 hc0 hp
 generalize idxP p l0 = r at hcon ⊢
 have HC := Aside0.mk hcon
 clear hcon hp hr0
 go_enter Tryd.func68, Tryd.ntmps68
 go_wp2_with (go_at_call 100; refine HC.out.mono ?_; rintro e w' ⟨rfl, hb'⟩)
 go_ret
 exact ⟨rfl, hb'⟩
def impl_within.f (a0 : Int) (a1 : Int) (a2 : Int) : Option (Bool) := if a0 ≥ a1 then (some (decide (a0 ≤ a2))) else (some false)
set_option maxHeartbeats 8000000 in
set_option maxRecDepth 100000 in
theorem impl_within.calls (a0 : Int) (a1 : Int) (a2 : Int) (r : Bool) (w : World) (h : impl_within.f a0 a1 a2 = some r) :
  Calls Tryd.prog 73 #[.int .i64 a0, .int .i64 a1, .int .i64 a2] w fun e w' => e = .returned (.bool r) ∧ Drawn0 w w' := by
 have H : (if a0 ≥ a1 then (some (decide (a0 ≤ a2))) else (some false)) = some r := h
 clear h
 by_cases c4 : a0 ≥ a1
 ·
  rw [if_pos c4] at H
  have c4b0 : decide (a1 ≤ a0) = true := decide_eq_true c4
  clear c4
  obtain rfl := Option.some.inj H
  go_enter Tryd.func73, Tryd.ntmps73
  go_wp2
  go_ret
  exact ⟨by first | rfl | (simp; done) | (simp [*]; done), by repeat (first | exact Drawn0.refl _ | apply Drawn0.step)⟩
 ·
  rw [if_neg c4] at H
  have c4b0 : decide (a1 ≤ a0) = false := decide_eq_false c4
  clear c4
  obtain rfl := Option.some.inj H
  go_enter Tryd.func73, Tryd.ntmps73
  go_wp2
  go_ret
  exact ⟨by first | rfl | (simp; done) | (simp [*]; done), by repeat (first | exact Drawn0.refl _ | apply Drawn0.step)⟩
def strings_Trim.f (a0 : ByteArray) (a1 : ByteArray) : Option ByteArray := if a0.size ≤ 9223372036854775807 then (if a1.size < 1000 then (if a1.data.toList.all (fun b => decide (b.toNat < 128)) = true then some ⟨(Lib.trimS a0.data.toList a1.data.toList).toArray⟩ else none) else none) else none
theorem strings_Trim.calls (a0 : ByteArray) (a1 : ByteArray) (r : ByteArray) (w : World) (h : strings_Trim.f a0 a1 = some r) :
  Calls Tryd.prog 109 #[.string a0, .string a1] w fun e w' => e = .returned (.string r) ∧ Below w.heap.size w w' := by
 unfold strings_Trim.f at h
 by_cases h0 : a0.size ≤ 9223372036854775807
 ·
  rw [if_pos h0] at h
  by_cases h1 : a1.size < 1000
  ·
   rw [if_pos h1] at h
   by_cases h2 : a1.data.toList.all (fun b => decide (b.toNat < 128)) = true
   ·
    rw [if_pos h2] at h
    obtain rfl := Option.some.inj h
    exact Any.strings_Trim_laid Tryd.lays160 (by kernel_rfl) a0 a1 w h0 (by omega) (ascii_of_all h2)
   ·
    rw [if_neg h2] at h
    cases h
  ·
   rw [if_neg h1] at h
   cases h
 ·
  rw [if_neg h0] at h
  cases h
def impl_isWord.f (a0 : ByteArray) : Option (Bool) := if (a0.size : Int) ≥ 1 then (if (a0.size : Int) ≤ 10 then ((strings_Trim.f a0 (⟨#[97, 98, 99, 100, 101, 102, 103, 104, 105, 106, 107, 108, 109, 110, 111, 112, 113, 114, 115, 116, 117, 118, 119, 120, 121, 122]⟩ : ByteArray)).bind fun t120 => (some (t120.toList == ([] : List UInt8)))) else (some false)) else (some false)
set_option maxHeartbeats 8000000 in
set_option maxRecDepth 100000 in
theorem impl_isWord.calls (a0 : ByteArray) (r : Bool) (w : World) (h : impl_isWord.f a0 = some r) :
  Calls Tryd.prog 95 #[.string a0] w fun e w' => e = .returned (.bool r) ∧ Below w.heap.size w w' := by
 have HB := Aside0.mk (Below.refl w.heap.size w)
 have H : (if (a0.size : Int) ≥ 1 then (if (a0.size : Int) ≤ 10 then ((strings_Trim.f a0 (⟨#[97, 98, 99, 100, 101, 102, 103, 104, 105, 106, 107, 108, 109, 110, 111, 112, 113, 114, 115, 116, 117, 118, 119, 120, 121, 122]⟩ : ByteArray)).bind fun t120 => (some (t120.toList == ([] : List UInt8)))) else (some false)) else (some false)) = some r := h
 clear h
 by_cases c2 : (a0.size : Int) ≥ 1
 ·
  rw [if_pos c2] at H
  have c2b0 : decide (1 ≤ (a0.size : Int)) = true := decide_eq_true c2
  have c2b1 : decide (1 ≤ a0.size) = true := decide_eq_true (by omega)
  clear c2
  by_cases c3 : (a0.size : Int) ≤ 10
  ·
   rw [if_pos c3] at H
   have c3b0 : decide ((a0.size : Int) ≤ 10) = true := decide_eq_true c3
   have c3b1 : decide (a0.size ≤ 10) = true := decide_eq_true (by omega)
   clear c3
   replace H := Option.bind_eq_some_iff.mp H
   obtain ⟨t120, A40, H⟩ := H
   replace H : (some (t120.toList == ([] : List UInt8))) = some r := H
   have A4 := Aside0.mk A40
   clear A40
   obtain rfl := Option.some.inj H
   go_enter Tryd.func95, Tryd.ntmps95
   go_wp2_with (first | (go_at_call 109; (with_reducible refine (strings_Trim.calls a0 (⟨#[97, 98, 99, 100, 101, 102, 103, 104, 105, 106, 107, 108, 109, 110, 111, 112, 113, 114, 115, 116, 117, 118, 119, 120, 121, 122]⟩ : ByteArray) t120 _ A4.out).mono ?_); rintro e w5 ⟨rfl, hb⟩; replace HB := Aside0.mk (below_step (lb0_ HB.out) hb); (try clear hb); (try clear hb2); (try clear hk); (try clear hi)))
   go_ret
   exact ⟨rr_, lb0_ HB.out⟩
  ·
   rw [if_neg c3] at H
   have c3b0 : decide ((a0.size : Int) ≤ 10) = false := decide_eq_false c3
   have c3b1 : decide (a0.size ≤ 10) = false := decide_eq_false (by omega)
   clear c3
   obtain rfl := Option.some.inj H
   go_enter Tryd.func95, Tryd.ntmps95
   go_wp2
   go_ret
   exact ⟨rr_, lb0_ HB.out⟩
 ·
  rw [if_neg c2] at H
  have c2b0 : decide (1 ≤ (a0.size : Int)) = false := decide_eq_false c2
  have c2b1 : decide (1 ≤ a0.size) = false := decide_eq_false (by omega)
  clear c2
  obtain rfl := Option.some.inj H
  go_enter Tryd.func95, Tryd.ntmps95
  go_wp2
  go_ret
  exact ⟨rr_, lb0_ HB.out⟩
def impl_isLabel.f (a0_0 : ByteArray) (a0_1 : Int) (a0_2 : Int) : Option (Bool) := (impl_isWord.f a0_0).bind fun t122 => (if t122 = true then ((impl_within.f a0_1 0 99).bind fun t123 => (if t123 = true then ((impl_within.f a0_2 0 99).bind fun t124 => (some t124)) else (some false))) else (some false))
set_option maxHeartbeats 8000000 in
set_option maxRecDepth 100000 in
theorem impl_isLabel.calls (a0_0 : ByteArray) (a0_1 : Int) (a0_2 : Int) (r : Bool) (w : World) (h : impl_isLabel.f a0_0 a0_1 a0_2 = some r) :
  Calls Tryd.prog 57 #[.agg #[.string a0_0, .int .i64 a0_1, .int .i64 a0_2]] w fun e w' => e = .returned (.bool r) ∧ Below w.heap.size w w' := by
 have hu29 := Tryd.underlying29
 have HB := Aside0.mk (Below.refl w.heap.size w)
 have H : ((impl_isWord.f a0_0).bind fun t122 => (if t122 = true then ((impl_within.f a0_1 0 99).bind fun t123 => (if t123 = true then ((impl_within.f a0_2 0 99).bind fun t124 => (some t124)) else (some false))) else (some false))) = some r := h
 clear h
 replace H := Option.bind_eq_some_iff.mp H
 obtain ⟨t122, A20, H⟩ := H
 replace H : (if t122 = true then ((impl_within.f a0_1 0 99).bind fun t123 => (if t123 = true then ((impl_within.f a0_2 0 99).bind fun t124 => (some t124)) else (some false))) else (some false)) = some r := H
 have A2 := Aside0.mk A20
 clear A20
 by_cases c3 : t122 = true
 ·
  subst c3
  have H1 : ((impl_within.f a0_1 0 99).bind fun t123 => (if t123 = true then ((impl_within.f a0_2 0 99).bind fun t124 => (some t124)) else (some false))) = some r := by rw [if_pos rfl] at H; exact H
  clear H
  have H := H1
  clear H1
  replace H := Option.bind_eq_some_iff.mp H
  obtain ⟨t123, A40, H⟩ := H
  replace H : (if t123 = true then ((impl_within.f a0_2 0 99).bind fun t124 => (some t124)) else (some false)) = some r := H
  have A4 := Aside0.mk A40
  clear A40
  by_cases c5 : t123 = true
  ·
   subst c5
   have H1 : ((impl_within.f a0_2 0 99).bind fun t124 => (some t124)) = some r := by rw [if_pos rfl] at H; exact H
   clear H
   have H := H1
   clear H1
   replace H := Option.bind_eq_some_iff.mp H
   obtain ⟨t124, A60, H⟩ := H
   replace H : (some t124) = some r := H
   have A6 := Aside0.mk A60
   clear A60
   obtain rfl := Option.some.inj H
   go_enter Tryd.func57, Tryd.ntmps57
   go_wp2_with (first | ((with_reducible refine gate_dst (N := 1) rfl ?_); refine box_event ?hg (N := 1) ?hd (cs := #[.string a0_0, .int .i64 a0_1, .int .i64 a0_2]) (t := 29) ?hr ?_; (case hd => rfl); (case hg => rfl); (case hr => first | (go_simp; done) | (go_simp; rfl)); intro gb121 hg w7 hbox hb; have BK121 := Aside0.mk (hbox); have GW121 := Aside0.mk ((bz_ hg (lb0_ HB.out))); have GE121 := Aside0.mk ((bz_ hg (lb0_ HB.out))); replace HB := Aside0.mk (below_step (lb0_ HB.out) hb); clear hb hbox hg; obtain ⟨hcz8_0, hcz8_1, hcz8_2⟩ := cz3_ BK121.out; obtain ⟨hfz8_0, hfz8_1, hfz8_2⟩ := fz3_ BK121.out) | ((with_reducible refine gate_callee (f := 95) rfl ?_); refine ga_ (some 5) Tryd.func95 #[.string a0_0] ?_; (with_reducible refine (impl_isWord.calls a0_0 true _ A2.out).mono ?_); rintro e w9 ⟨rfl, hb⟩; refine ⟨_, rfl, ?_⟩; replace BK121 := Aside0.mk (bb_ (bk_ BK121.out) hb); replace HB := Aside0.mk (below_step (lb1_ HB.out GE121.out) hb); (try clear hb); (try clear hb2); (try clear hk); (try clear hi); obtain ⟨hcz10_0, hcz10_1, hcz10_2⟩ := cz3_ BK121.out; obtain ⟨hfz10_0, hfz10_1, hfz10_2⟩ := fz3_ BK121.out) | (go_at_call 73; (with_reducible refine (impl_within.calls a0_1 0 99 true _ A4.out).mono ?_); rintro e w' ⟨rfl, ⟨nd, rfl⟩⟩) | (go_at_call 73; (with_reducible refine (impl_within.calls a0_2 0 99 t124 _ A6.out).mono ?_); rintro e w' ⟨rfl, ⟨nd, rfl⟩⟩))
   go_ret
   exact ⟨rr_, lb1_ HB.out GE121.out⟩
  ·
   replace c5 := Bool.eq_false_iff.mpr c5
   subst c5
   have H1 : (some false) = some r := by rw [if_neg (show ¬ (false = true) by decide)] at H; exact H
   clear H
   have H := H1
   clear H1
   obtain rfl := Option.some.inj H
   go_enter Tryd.func57, Tryd.ntmps57
   go_wp2_with (first | ((with_reducible refine gate_dst (N := 1) rfl ?_); refine box_event ?hg (N := 1) ?hd (cs := #[.string a0_0, .int .i64 a0_1, .int .i64 a0_2]) (t := 29) ?hr ?_; (case hd => rfl); (case hg => rfl); (case hr => first | (go_simp; done) | (go_simp; rfl)); intro gb121 hg w11 hbox hb; have BK121 := Aside0.mk (hbox); have GW121 := Aside0.mk ((bz_ hg (lb0_ HB.out))); have GE121 := Aside0.mk ((bz_ hg (lb0_ HB.out))); replace HB := Aside0.mk (below_step (lb0_ HB.out) hb); clear hb hbox hg; obtain ⟨hcz12_0, hcz12_1, hcz12_2⟩ := cz3_ BK121.out; obtain ⟨hfz12_0, hfz12_1, hfz12_2⟩ := fz3_ BK121.out) | ((with_reducible refine gate_callee (f := 95) rfl ?_); refine ga_ (some 5) Tryd.func95 #[.string a0_0] ?_; (with_reducible refine (impl_isWord.calls a0_0 true _ A2.out).mono ?_); rintro e w13 ⟨rfl, hb⟩; refine ⟨_, rfl, ?_⟩; replace BK121 := Aside0.mk (bb_ (bk_ BK121.out) hb); replace HB := Aside0.mk (below_step (lb1_ HB.out GE121.out) hb); (try clear hb); (try clear hb2); (try clear hk); (try clear hi); obtain ⟨hcz14_0, hcz14_1, hcz14_2⟩ := cz3_ BK121.out; obtain ⟨hfz14_0, hfz14_1, hfz14_2⟩ := fz3_ BK121.out) | (go_at_call 73; (with_reducible refine (impl_within.calls a0_1 0 99 false _ A4.out).mono ?_); rintro e w' ⟨rfl, ⟨nd, rfl⟩⟩))
   go_ret
   exact ⟨rr_, lb1_ HB.out GE121.out⟩
 ·
  replace c3 := Bool.eq_false_iff.mpr c3
  subst c3
  have H1 : (some false) = some r := by rw [if_neg (show ¬ (false = true) by decide)] at H; exact H
  clear H
  have H := H1
  clear H1
  obtain rfl := Option.some.inj H
  go_enter Tryd.func57, Tryd.ntmps57
  go_wp2_with (first | ((with_reducible refine gate_dst (N := 1) rfl ?_); refine box_event ?hg (N := 1) ?hd (cs := #[.string a0_0, .int .i64 a0_1, .int .i64 a0_2]) (t := 29) ?hr ?_; (case hd => rfl); (case hg => rfl); (case hr => first | (go_simp; done) | (go_simp; rfl)); intro gb121 hg w15 hbox hb; have BK121 := Aside0.mk (hbox); have GW121 := Aside0.mk ((bz_ hg (lb0_ HB.out))); have GE121 := Aside0.mk ((bz_ hg (lb0_ HB.out))); replace HB := Aside0.mk (below_step (lb0_ HB.out) hb); clear hb hbox hg; obtain ⟨hcz16_0, hcz16_1, hcz16_2⟩ := cz3_ BK121.out; obtain ⟨hfz16_0, hfz16_1, hfz16_2⟩ := fz3_ BK121.out) | ((with_reducible refine gate_callee (f := 95) rfl ?_); refine ga_ (some 5) Tryd.func95 #[.string a0_0] ?_; (with_reducible refine (impl_isWord.calls a0_0 false _ A2.out).mono ?_); rintro e w17 ⟨rfl, hb⟩; refine ⟨_, rfl, ?_⟩; replace BK121 := Aside0.mk (bb_ (bk_ BK121.out) hb); replace HB := Aside0.mk (below_step (lb1_ HB.out GE121.out) hb); (try clear hb); (try clear hb2); (try clear hk); (try clear hi)))
  go_ret
  exact ⟨rr_, lb1_ HB.out GE121.out⟩
theorem areLabels1_ (a0 : ByteArray) (a1 a2 : Int) (r : Bool) (w : World) (h : impl_isLabel.f a0 a1 a2 = some r) :
  Calls Tryd.prog 62 (#[.agg #[.string a0, .int .i64 a1, .int .i64 a2]] ++ #[]) w fun e w' => e = .returned (.bool (!r)) ∧ Below w.heap.size w w' := by
 show Calls Tryd.prog 62 #[.agg #[.string a0, .int .i64 a1, .int .i64 a2]] w _
 go_enter Tryd.func62, Tryd.ntmps62
 go_wp2_with (go_at_call 57; refine (impl_isLabel.calls a0 a1 a2 r _ h).mono ?_; rintro e w' ⟨rfl, hb⟩)
 go_ret
 exact ⟨rfl, by first | exact hb | exact below_step (below_alloc (Below.refl _ w) _) hb⟩
def impl_AreLabels.f (l0 : List S29) : Option Bool :=
 if (l0.length : Int) ≤ 6 then (if l0.all (fun x => (impl_isLabel.f x.f0 x.f1 x.f2).isSome) = true then some (!(l0.any fun x => !((impl_isLabel.f x.f0 x.f1 x.f2).getD false))) else none) else some false
set_option maxHeartbeats 4000000 in
set_option maxRecDepth 100000 in
theorem impl_AreLabels.calls (A0 : Option Addr) (c0 : Nat) (l0 : List S29) (r : Bool) (w : World) (hr0 : Kd.C k29 w A0 l0.length l0) (hc0 : l0.length ≤ c0) (h : impl_AreLabels.f l0 = some r) :
  Calls Tryd.prog 21 #[.slice A0 l0.length c0] w fun e w' => e = .returned (.bool r) ∧ Below w.heap.size w w' := by
 unfold impl_AreLabels.f at h
 by_cases c1 : (l0.length : Int) ≤ 6
 ·
  rw [if_pos c1] at h
  by_cases c2 : l0.all (fun x => (impl_isLabel.f x.f0 x.f1 x.f2).isSome) = true
  ·
   rw [if_pos c2] at h
   have c1b : decide ((l0.length : Int) ≤ 6) = true := decide_eq_true c1
   have hcall := fun W (hW : Below w.heap.size w W) => cont_Label.calls (fun x => !((impl_isLabel.f x.f0 x.f1 x.f2).getD false)) 62 #[] (fun _ _ => rfl) A0 c0 l0 W (Kd.C_below hr0 hW) hc0 (fun W' x hx hW' => by
    obtain ⟨b, hb⟩ := Option.isSome_iff_exists.1 (List.all_eq_true.1 c2 x hx)
    rw [hb]
    refine (areLabels1_ x.f0 x.f1 x.f2 b W' hb).mono ?_
    rintro e w'' ⟨rfl, hb2⟩
    exact ⟨rfl, below_step hW' hb2⟩)
   obtain rfl := Option.some.inj h
   generalize l0.any (fun x => !((impl_isLabel.f x.f0 x.f1 x.f2).getD false)) = q at hcall ⊢
   have HC := Aside0.mk hcall
   clear hcall hr0 c2 c1 h
   go_enter Tryd.func21, Tryd.ntmps21
   go_wp2_with (go_at_call 61; refine (HC.out _ (Below.refl _ _)).mono ?_; rintro e w' ⟨rfl, hb⟩)
   go_ret
   exact ⟨rfl, hb⟩
  ·
   rw [if_neg c2] at h
   cases h
 ·
  rw [if_neg c1] at h
  obtain rfl := Option.some.inj h
  have c1b : decide ((l0.length : Int) ≤ 6) = false := decide_eq_false c1
  clear c1 hr0
  go_enter Tryd.func21, Tryd.ntmps21
  go_wp2
  go_ret
  exact ⟨rfl, Below.refl _ _⟩
def catM_ (f : Int → Option (List (List Int))) : List Int → Option (List (List Int))
 | [] => some []
 | x :: xs => (f x).bind fun a => (catM_ f xs).bind fun b => some (a ++ b)
structure FrY (Y : Nat → Prop) (w w' : World) : Prop where
 size : w.heap.size ≤ w'.heap.size
 keep : ∀ k, k < w.heap.size → ¬ Y k → w'.heap[k]? = w.heap[k]?
theorem FrY.below {Y : Nat → Prop} {w w' : World} (h : Below w.heap.size w w') : FrY Y w w' := ⟨h.size, fun k hk _ => h.block k hk⟩
def IdxR (Y : Nat → Prop) (w w0 : World) (vw vi : Value) (idx : List Int) : Prop := (Kd.int .i64).R 3 w w0.heap.size (fun k => ¬ Y k ∧ some k ≠ vw.ownBlock) vi idx ∨ ∃ A c, vi = .slice A idx.length c ∧ idx.length ≤ c ∧ (Kd.int .i64).C w0 A idx.length idx
namespace IdxR
variable {Y Y' : Nat → Prop} {w w1 w0 : World} {vw vw' vi : Value} {idx : List Int}
theorem slice_ (h : IdxR Y w w0 vw vi idx) : ∃ A c, vi = .slice A idx.length c := by
 rcases h with h | ⟨A, c, e, _⟩
 ·
  exact Kd.R_slice h
 ·
  exact ⟨A, c, e⟩
theorem step (h : IdxR Y w w0 vw vi idx) (hm : ∀ k, ¬ Y k → some k ≠ vw.ownBlock → k < w.heap.size → w1.heap[k]? = w.heap[k]?) : IdxR Y w1 w0 vw vi idx := h.elim (fun h => .inl (Kd.R_step h (fun k hk hl => hm k hk.1 hk.2 hl))) .inr
theorem after {v1 : Value} (h : IdxR Y w w0 vw vi idx) (hg : w.grownBy w1 vw.ownBlock) (hat : v1.ownBlock = vw.ownBlock ∨ ∃ b, v1.ownBlock = some b ∧ w.heap.size ≤ b) : IdxR Y w1 w0 v1 vi idx := h.elim (fun h => .inl (Kd.R_after h hg hat)) .inr
theorem other {α : Type} {d : Kd α} {e : Nat} {vb v1 : Value} {ok : Nat → Prop} {xs : List α} (h : IdxR Y w w0 vw vi idx) (hb : d.R e w w0.heap.size ok vb xs) (he : 3 ≠ e) (hg : w.grownBy w1 vb.ownBlock) (hat : v1.ownBlock = vb.ownBlock ∨ ∃ b, v1.ownBlock = some b ∧ w.heap.size ≤ b) : IdxR Y w1 w0 vw vi idx :=
 h.elim (fun h => .inl (Kd.R_mono (Kd.R_after (Kd.R_apart' h (Kd.R_typed hb) (fun q hq => by rw [List.mem_singleton.1 hq]; exact he)) hg hat) (fun k hk => hk.1))) .inr
theorem set_ {g t : Nat} {cells : Array Value} (h : IdxR Y w w0 vw vi idx) (hb : w.heap[g]? = some (.cells cells t (0, 0))) (ht : 3 ≠ t) (u : Value) : IdxR Y (w.setCell ⟨g, 0, none⟩ u) w0 vw vi idx := h.elim (fun h => .inl (Kd.R_set h hb (fun q hq => by rw [List.mem_singleton.1 hq]; exact ht) 0 u)) .inr
theorem imp (h : IdxR Y w w0 vw vi idx) (hY : ∀ k, k < w.heap.size → ¬ Y k → ¬ Y' k) (hv : vw.ownBlock = vw'.ownBlock) : IdxR Y' w w0 vw' vi idx := h.elim (fun h => .inl (Kd.R_mono (Kd.R_bound h) (fun k hk => ⟨hY k hk.2.2.1 hk.1.1, by rw [← hv]; exact hk.1.2⟩))) .inr
theorem at_ {n ci k : Nat} {ai : Addr} {j : Int} (h : IdxR Y w w0 vw (.slice (some ai) n ci) idx) (hB : Below w0.heap.size w0 w) (hk : k < idx.length) (hj : rd idx (k : Int) = j) : w.cell? (ai.add k) = some (.int .i64 j) := by
 rcases h with h | ⟨A, c, e, _, hC⟩
 ·
  obtain ⟨hn, _, hC⟩ := Kd.R_reads' h
  obtain ⟨ad, e, hc⟩ := Kd.at_int hC (k : Int) (by omega) (by omega)
  injection e with e
  subst e
  rw [hj, Int.toNat_natCast] at hc
  exact hc
 ·
  injection e with e1 e2 e3
  subst e1
  obtain ⟨ad, e, hc⟩ := Kd.at_int hC (k : Int) (by omega) (by omega)
  injection e with e
  subst e
  rw [hj, Int.toNat_natCast] at hc
  exact pw_cell_below hB hc
theorem some_ {A : Option Addr} {n ci : Nat} (h : IdxR Y w w0 vw (.slice A n ci) idx) (hp : 0 < idx.length) : ∃ ai, A = some ai := by
 rcases h with h | ⟨A', c, e, _, hC⟩
 ·
  obtain ⟨hn, _, hC⟩ := Kd.R_reads' h
  obtain ⟨ad, e, _⟩ := hC.2.2 (by omega)
  exact ⟨ad, e⟩
 ·
  injection e with e1 e2 e3
  subst e1
  obtain ⟨ad, e, _⟩ := hC.2.2 (by omega)
  exact ⟨ad, e⟩
end IdxR
structure PlS (Y : Nat → Prop) (w w0 : World) (gw gi gy gl gb gf : Nat) (cv vw vi vl cb vb yv fv : Value) (ways idx : List Int) (boxes : List S26) : Prop where
 cw : w.heap[gw]? = some (.cells #[cv] 40 (0, 0))
 ci : w.heap[gi]? = some (.cells #[vi] 40 (0, 0))
 cy : w.heap[gy]? = some (.cells #[yv] 91 (0, 0))
 cl : w.heap[gl]? = some (.cells #[vl] 36 (0, 0))
 cx : w.heap[gb]? = some (.cells #[cb] 79 (0, 0))
 cf : w.heap[gf]? = some (.cells #[fv] 108 (0, 0))
 ne : gi ≠ gw
 bw : w0.heap.size ≤ gw
 bb : w0.heap.size ≤ gb
 yw : ¬ Y gw
 yi : ¬ Y gi
 yy : ¬ Y gy
 yl : ¬ Y gl
 yb : ¬ Y gb
 yf : ¬ Y gf
 ys : ∀ k, Y k → k < w.heap.size
 rI : IdxR Y w w0 vw vi idx
 rW : (Kd.int .i64).R 3 w w0.heap.size (fun k => ¬ Y k) vw ways
 rB : k26.R 26 w w0.heap.size (fun k => ¬ Y k) vb boxes
namespace PlS
variable {Y : Nat → Prop} {w w1 w0 : World} {gw gi gy gl gb gf : Nat} {cv vw vi vl cb vb yv fv : Value} {ways idx : List Int} {boxes : List S26}
theorem fr (h : PlS Y w w0 gw gi gy gl gb gf cv vw vi vl cb vb yv fv ways idx boxes) (hf : FrY Y w w1) : PlS Y w1 w0 gw gi gy gl gb gf cv vw vi vl cb vb yv fv ways idx boxes :=
 ⟨(hf.keep _ (blk_lt h.cw) h.yw).trans h.cw, (hf.keep _ (blk_lt h.ci) h.yi).trans h.ci, (hf.keep _ (blk_lt h.cy) h.yy).trans h.cy, (hf.keep _ (blk_lt h.cl) h.yl).trans h.cl, (hf.keep _ (blk_lt h.cx) h.yb).trans h.cx, (hf.keep _ (blk_lt h.cf) h.yf).trans h.cf,
  h.ne, h.bw, h.bb, h.yw, h.yi, h.yy, h.yl, h.yb, h.yf, fun k hk => Nat.lt_of_lt_of_le (h.ys k hk) hf.size, h.rI.step (fun k hk _ hl => hf.keep k hl hk), Kd.R_step h.rW (fun k hk hl => hf.keep k hl hk), Kd.R_step h.rB (fun k hk hl => hf.keep k hl hk)⟩
theorem below (h : PlS Y w w0 gw gi gy gl gb gf cv vw vi vl cb vb yv fv ways idx boxes) (hb : Below w.heap.size w w1) : PlS Y w1 w0 gw gi gy gl gb gf cv vw vi vl cb vb yv fv ways idx boxes := h.fr (FrY.below hb)
theorem appW {v1 : Value} {ways1 : List Int} (h : PlS Y w w0 gw gi gy gl gb gf cv vw vi vl cb vb yv fv ways idx boxes) (ho : (Kd.int .i64).R 3 w1 w0.heap.size (fun k => ¬ Y k) v1 ways1) (hg : w.grownBy w1 vw.ownBlock) (hat : v1.ownBlock = vw.ownBlock ∨ ∃ b, v1.ownBlock = some b ∧ w.heap.size ≤ b) :
  PlS Y w1 w0 gw gi gy gl gb gf cv v1 vi vl cb vb yv fv ways1 idx boxes := by
 obtain ⟨inner, hw⟩ := Kd.R_own h.rW
 exact ⟨blk_grown h.cw hg (own_ne hw h.cw (by decide)), blk_grown h.ci hg (own_ne hw h.ci (by decide)), blk_grown h.cy hg (own_ne hw h.cy (by decide)), blk_grown h.cl hg (own_ne hw h.cl (by decide)), blk_grown h.cx hg (own_ne hw h.cx (by decide)), blk_grown h.cf hg (own_ne hw h.cf (by decide)),
  h.ne, h.bw, h.bb, h.yw, h.yi, h.yy, h.yl, h.yb, h.yf, fun k hk => Nat.lt_of_lt_of_le (h.ys k hk) hg.size, h.rI.after hg hat, ho, Kd.R_mono (Kd.R_after (Kd.R_apart' h.rB (Kd.R_typed h.rW) (by decide)) hg hat) (fun k hk => hk.1)⟩
theorem appB {v1 : Value} {boxes1 : List S26} (h : PlS Y w w0 gw gi gy gl gb gf cv vw vi vl cb vb yv fv ways idx boxes) (ho : k26.R 26 w1 w0.heap.size (fun k => ¬ Y k) v1 boxes1) (hg : w.grownBy w1 vb.ownBlock) (hat : v1.ownBlock = vb.ownBlock ∨ ∃ b, v1.ownBlock = some b ∧ w.heap.size ≤ b) :
  PlS Y w1 w0 gw gi gy gl gb gf cv vw vi vl cb v1 yv fv ways idx boxes1 := by
 obtain ⟨inner, hw⟩ := Kd.R_own h.rB
 exact ⟨blk_grown h.cw hg (own_ne hw h.cw (by decide)), blk_grown h.ci hg (own_ne hw h.ci (by decide)), blk_grown h.cy hg (own_ne hw h.cy (by decide)), blk_grown h.cl hg (own_ne hw h.cl (by decide)), blk_grown h.cx hg (own_ne hw h.cx (by decide)), blk_grown h.cf hg (own_ne hw h.cf (by decide)),
  h.ne, h.bw, h.bb, h.yw, h.yi, h.yy, h.yl, h.yb, h.yf, fun k hk => Nat.lt_of_lt_of_le (h.ys k hk) hg.size, h.rI.other h.rB (by decide) hg hat, Kd.R_mono (Kd.R_after (Kd.R_apart' h.rW (Kd.R_typed h.rB) (by decide)) hg hat) (fun k hk => hk.1), ho⟩
theorem setW (h : PlS Y w w0 gw gi gy gl gb gf cv vw vi vl cb vb yv fv ways idx boxes) : PlS Y (w.setCell ⟨gw, 0, none⟩ vw) w0 gw gi gy gl gb gf vw vw vi vl cb vb yv fv ways idx boxes :=
 ⟨blk_put h.cw 0 vw rfl, blk_far h.ci h.ne _, blk_far h.cy (blk_ne h.cy h.cw (by decide)) _, blk_far h.cl (blk_ne h.cl h.cw (by decide)) _, blk_far h.cx (blk_ne h.cx h.cw (by decide)) _, blk_far h.cf (blk_ne h.cf h.cw (by decide)) _,
  h.ne, h.bw, h.bb, h.yw, h.yi, h.yy, h.yl, h.yb, h.yf, fun k hk => Nat.lt_of_lt_of_le (h.ys k hk) (KeepBut.set_ (KeepBut.refl w gw none) 0 vw).1, h.rI.set_ h.cw (by decide) vw, Kd.R_set h.rW h.cw (by decide) 0 vw, Kd.R_set h.rB h.cw (by decide) 0 vw⟩
theorem setB (h : PlS Y w w0 gw gi gy gl gb gf cv vw vi vl cb vb yv fv ways idx boxes) : PlS Y (w.setCell ⟨gb, 0, none⟩ vb) w0 gw gi gy gl gb gf cv vw vi vl vb vb yv fv ways idx boxes :=
 ⟨blk_far h.cw (blk_ne h.cw h.cx (by decide)) _, blk_far h.ci (blk_ne h.ci h.cx (by decide)) _, blk_far h.cy (blk_ne h.cy h.cx (by decide)) _, blk_far h.cl (blk_ne h.cl h.cx (by decide)) _, blk_put h.cx 0 vb rfl, blk_far h.cf (blk_ne h.cf h.cx (by decide)) _,
  h.ne, h.bw, h.bb, h.yw, h.yi, h.yy, h.yl, h.yb, h.yf, fun k hk => Nat.lt_of_lt_of_le (h.ys k hk) (KeepBut.set_ (KeepBut.refl w gb none) 0 vb).1, h.rI.set_ h.cx (by decide) vb, Kd.R_set h.rW h.cx (by decide) 0 vb, Kd.R_set h.rB h.cx (by decide) 0 vb⟩
theorem cutW {A : Option Addr} {n m c : Nat} (h : PlS Y w w0 gw gi gy gl gb gf cv (.slice A n c) vi vl cb vb yv fv ways idx boxes) (hm : m ≤ ways.length) : PlS Y w w0 gw gi gy gl gb gf cv (.slice A m c) vi vl cb vb yv fv (ways.take m) idx boxes := by
 have e : (Value.slice A n c).ownBlock = (Value.slice A m c).ownBlock := by cases A <;> rfl
 exact ⟨h.cw, h.ci, h.cy, h.cl, h.cx, h.cf, h.ne, h.bw, h.bb, h.yw, h.yi, h.yy, h.yl, h.yb, h.yf, h.ys, h.rI.imp (fun _ _ hk => hk) e, Kd.R_take h.rW hm, h.rB⟩
theorem cutB {A : Option Addr} {n m c : Nat} (h : PlS Y w w0 gw gi gy gl gb gf cv vw vi vl cb (.slice A n c) yv fv ways idx boxes) (hm : m ≤ boxes.length) : PlS Y w w0 gw gi gy gl gb gf cv vw vi vl cb (.slice A m c) yv fv ways idx (boxes.take m) :=
 ⟨h.cw, h.ci, h.cy, h.cl, h.cx, h.cf, h.ne, h.bw, h.bb, h.yw, h.yi, h.yy, h.yl, h.yb, h.yf, h.ys, h.rI, h.rW, Kd.R_take h.rB hm⟩
end PlS
theorem FrY.of_keep {Y : Nat → Prop} {w w1 : World} {s : Nat} (hk : KeepBut w w1 s none) (hs : Y s) : FrY Y w w1 := ⟨hk.1, fun k hl hY => hk.2 k hl (fun e => hY (e ▸ hs)) (by simp)⟩
theorem keep4_ (w : World) (s : Nat) (u0 u1 u2 u3 : Value) : KeepBut w ((((w.setCell ⟨s, 0, none⟩ u0).setCell ⟨s, 1, none⟩ u1).setCell ⟨s, 2, none⟩ u2).setCell ⟨s, 3, none⟩ u3) s none := KeepBut.set_ (KeepBut.set_ (KeepBut.set_ (KeepBut.set_ (KeepBut.refl _ _ _) 0 _) 1 _) 2 _) 3 _
theorem PlS.grow {Y : Nat → Prop} {w w1 w0 : World} {gw gi gy gl gb gf s : Nat} {cv vw vi vl cb vb yv fv : Value} {ways idx : List Int} {boxes : List S26} (h : PlS Y w w0 gw gi gy gl gb gf cv vw vi vl cb vb yv fv ways idx boxes) (hb : Below w.heap.size w w1) (hs : s = w.heap.size) (hl : s < w1.heap.size) :
  PlS (fun k => Y k ∨ k = s) w1 w0 gw gi gy gl gb gf cv vw vi vl cb vb yv fv ways idx boxes := by
 have h2 := h.below hb
 have nn : ∀ g, ¬ Y g → g < w.heap.size → ¬ (Y g ∨ g = s) := fun g hg hl hh => hh.elim hg (fun e => by omega)
 refine ⟨h2.cw, h2.ci, h2.cy, h2.cl, h2.cx, h2.cf, h2.ne, h2.bw, h2.bb, nn _ h.yw (blk_lt h.cw), nn _ h.yi (blk_lt h.ci), nn _ h.yy (blk_lt h.cy), nn _ h.yl (blk_lt h.cl), nn _ h.yb (blk_lt h.cx), nn _ h.yf (blk_lt h.cf), ?_, ?_, ?_, ?_⟩
 ·
  rintro k (hk | rfl)
  ·
   exact h2.ys k hk
  ·
   exact hl
 ·
  exact (h.rI.imp (fun k hl hk => nn k hk hl) rfl).step (fun k _ _ hl => hb.block k hl)
 ·
  exact Kd.R_below (Kd.R_mono (Kd.R_bound h.rW) (fun k hk => nn k hk.1 hk.2.2.1)) hb
 ·
  exact Kd.R_below (Kd.R_mono (Kd.R_bound h.rB) (fun k hk => nn k hk.1 hk.2.2.1)) hb
theorem PlS.shrink {Y : Nat → Prop} {w w0 : World} {gw gi gy gl gb gf s : Nat} {cv vw vi vl cb vb yv fv : Value} {ways idx : List Int} {boxes : List S26} (h : PlS (fun k => Y k ∨ k = s) w w0 gw gi gy gl gb gf cv vw vi vl cb vb yv fv ways idx boxes) :
  PlS Y w w0 gw gi gy gl gb gf cv vw vi vl cb vb yv fv ways idx boxes :=
 ⟨h.cw, h.ci, h.cy, h.cl, h.cx, h.cf, h.ne, h.bw, h.bb, fun y => h.yw (.inl y), fun y => h.yi (.inl y), fun y => h.yy (.inl y), fun y => h.yl (.inl y), fun y => h.yb (.inl y), fun y => h.yf (.inl y), fun k hk => h.ys k (.inl hk),
  h.rI.imp (fun k _ hk y => hk (.inl y)) rfl, Kd.R_mono h.rW (fun k hk y => hk (.inl y)), Kd.R_mono h.rB (fun k hk y => hk (.inl y))⟩
theorem C_int1_ {w : World} {g : Nat} {x : Int} (h : w.heap[g]? = some (.cells #[.int .i64 x] 3 (0, 0))) : (Kd.int .i64).C w (some ⟨g, 0, none⟩) 1 [x] := by
 refine ⟨rfl, by decide, fun _ => ⟨_, rfl, fun j p hj => ?_⟩⟩
 match j, hj with
 | 0, hj =>
  obtain rfl : x = p := by simpa using hj
  refine ⟨[.int .i64 x], rfl, rfl, fun i u hu => ?_⟩
  rw [show (⟨g, 0, none⟩ : Addr).add (0 * (Kd.int .i64).sz + i) = ⟨g, i, none⟩ from by rw [Nat.zero_mul, Nat.zero_add]; exact add_plain g i, blk_cell h i]
  simpa using hu
theorem C_box1_ {w : World} {g : Nat} {b0 b1 b2 b3 : Int} (h : w.heap[g]? = some (.cells #[.int .i64 b0, .int .i64 b1, .int .i64 b2, .int .i64 b3] 26 (0, 0))) : k26.C w (some ⟨g, 0, none⟩) 1 [⟨b0, b1, b2, b3⟩] := by
 refine ⟨rfl, by decide, fun _ => ⟨_, rfl, fun j p hj => ?_⟩⟩
 match j, hj with
 | 0, hj =>
  obtain rfl : (⟨b0, b1, b2, b3⟩ : S26) = p := by simpa using hj
  refine ⟨[.int .i64 b0, .int .i64 b1, .int .i64 b2, .int .i64 b3], rfl, k26_mk w ⟨b0, b1, b2, b3⟩, fun i u hu => ?_⟩
  rw [show (⟨g, 0, none⟩ : Addr).add (0 * k26.sz + i) = ⟨g, i, none⟩ from by rw [Nat.zero_mul, Nat.zero_add]; exact add_plain g i, blk_cell h i]
  simpa using hu
section
variable {P : Program} {ops : Array Oper} {o : Oper} {a : Act} {Q : Exit → Act → World → Prop} {Kc : Act → World → Prop}
theorem lit_step {W : World} (hw : Region.wanted o (yielded ops a.tmps) = true) {N : Tmp} (_hd : o.dst = some N) {cs : Array Value} {t : TypeId} {n : Nat}
  (hrun : (execOp a.eval o).run P W = .ok (.value (.slice (some ⟨W.heap.size, 0, none⟩) n n)) (W.alloc (.cells cs t)))
  (h : ∀ g, g = W.heap.size → ∀ w1, w1.heap[g]? = some (.cells cs t (0, 0)) → Below W.heap.size W w1 → Kc (a.put o.dst (.slice (some ⟨g, 0, none⟩) n n)) w1) : if Region.wanted o (yielded ops a.tmps) = true then Oper.wp P o a W Kc Q else Kc (a.put o.dst undef) W :=
 event_step hw hrun (h _ rfl _ (blk_new W _) (below_alloc (Below.refl _ _) _))
end
end Go.Proofs.YtjkcfpmonpkhhaaDoor.Pr

namespace Go.Proofs.YtjkcfpmonpkhhaaDoor.Pr
open Go.RowKit Go.Proofs.YtjkcfpmonpkhhaaDoorW.PrintWords Go.Proofs.YtjkcfpmonpkhhaaDoorW.PrintLast Go.Proofs.YtjkcfpmonpkhhaaDoorW.PrintMore
attribute [local go_sem] max2_int min2_int max_two min_two max_three min_three max_four min_four   -- for this text's walks alone
set_option linter.unusedVariables false
set_option linter.unusedSimpArgs false
def impl_boxFor.f (a0_0 : ByteArray) (a0_1 : Int) (a0_2 : Int) (a1 : Int) : Option (Int × Int × Int × Int) :=
 some ((if a1 ≥ 2 then wrap64 (a0_1 - (a0_0.size : Int)) else wrap64 (a0_1 + 1)), (if Int.tmod a1 2 = 1 then wrap64 (a0_2 - 2) else wrap64 (a0_2 + 1)), (a0_0.size : Int), 2)
set_option maxHeartbeats 4000000 in
set_option maxRecDepth 100000 in
theorem impl_boxFor.calls (a0_0 : ByteArray) (a0_1 : Int) (a0_2 : Int) (a1 : Int) (r1 : Int) (r2 : Int) (r3 : Int) (r4 : Int) (w : World) (h : impl_boxFor.f a0_0 a0_1 a0_2 a1 = some (r1, r2, r3, r4)) :
  Calls Tryd.prog 59 #[.agg #[.string a0_0, .int .i64 a0_1, .int .i64 a0_2], .int .i64 a1] w fun e w' => e = .returned (.agg #[.int .i64 r1, .int .i64 r2, .int .i64 r3, .int .i64 r4]) ∧ Below w.heap.size w w' := by
 unfold impl_boxFor.f at h
 simp only [Option.some.injEq, Prod.mk.injEq] at h
 obtain ⟨h1, h2, rfl, rfl⟩ := h
 by_cases c3 : a1 ≥ 2
 ·
  rw [if_pos c3] at h1
  have b3 : decide (2 ≤ a1) = true := decide_eq_true c3
  clear c3
  by_cases c4 : Int.tmod a1 2 = 1
  ·
   rw [if_pos c4] at h2
   have b4 : (Int.tmod a1 2 == 1) = true := beq_iff_eq.mpr c4
   clear c4
   subst h1
   subst h2
   go_enter Tryd.func59, Tryd.ntmps59
   go_wp2_with fail
   exact bodyPost_ret (v := .agg #[.int .i64 (wrap64 (a0_1 - (a0_0.size : Int))), .int .i64 (wrap64 (a0_2 - 2)), .int .i64 (a0_0.size : Int), .int .i64 2]) (by simp [results, Tryd.results59, go_sem]) rfl ⟨rfl, below_alloc (below_alloc (below_alloc (Below.refl _ w) _) _) _⟩
  ·
   rw [if_neg c4] at h2
   have b4 : (Int.tmod a1 2 == 1) = false := beq_eq_false_iff_ne.mpr c4
   clear c4
   subst h1
   subst h2
   go_enter Tryd.func59, Tryd.ntmps59
   go_wp2_with fail
   exact bodyPost_ret (v := .agg #[.int .i64 (wrap64 (a0_1 - (a0_0.size : Int))), .int .i64 (wrap64 (a0_2 + 1)), .int .i64 (a0_0.size : Int), .int .i64 2]) (by simp [results, Tryd.results59, go_sem]) rfl ⟨rfl, below_alloc (below_alloc (below_alloc (Below.refl _ w) _) _) _⟩
 ·
  rw [if_neg c3] at h1
  have b3 : decide (2 ≤ a1) = false := decide_eq_false c3
  clear c3
  by_cases c4 : Int.tmod a1 2 = 1
  ·
   rw [if_pos c4] at h2
   have b4 : (Int.tmod a1 2 == 1) = true := beq_iff_eq.mpr c4
   clear c4
   subst h1
   subst h2
   go_enter Tryd.func59, Tryd.ntmps59
   go_wp2_with fail
   exact bodyPost_ret (v := .agg #[.int .i64 (wrap64 (a0_1 + 1)), .int .i64 (wrap64 (a0_2 - 2)), .int .i64 (a0_0.size : Int), .int .i64 2]) (by simp [results, Tryd.results59, go_sem]) rfl ⟨rfl, below_alloc (below_alloc (below_alloc (Below.refl _ w) _) _) _⟩
  ·
   rw [if_neg c4] at h2
   have b4 : (Int.tmod a1 2 == 1) = false := beq_eq_false_iff_ne.mpr c4
   clear c4
   subst h1
   subst h2
   go_enter Tryd.func59, Tryd.ntmps59
   go_wp2_with fail
   exact bodyPost_ret (v := .agg #[.int .i64 (wrap64 (a0_1 + 1)), .int .i64 (wrap64 (a0_2 + 1)), .int .i64 (a0_0.size : Int), .int .i64 2]) (by simp [results, Tryd.results59, go_sem]) rfl ⟨rfl, below_alloc (below_alloc (below_alloc (Below.refl _ w) _) _) _⟩
theorem heap_new_ (w : World) (cs : Array Value) (t : TypeId) : (w.alloc (.cells cs t)).heap[w.heap.size]? = some (.cells cs t (0, 0)) := by
 show (w.heap.push _)[w.heap.size]? = _
 simp
def impl_meet.f (a0_0 : Int) (a0_1 : Int) (a0_2 : Int) (a0_3 : Int) (a1_0 : Int) (a1_1 : Int) (a1_2 : Int) (a1_3 : Int) : Option (Bool) := if a0_2 = 0 then (some false) else (if a0_3 = 0 then (some false) else (if a1_2 = 0 then (some false) else (if a1_3 = 0 then (some false) else (if a0_0 < (wrap64 (a1_0 + a1_2)) then (if a1_0 < (wrap64 (a0_0 + a0_2)) then (if a0_1 < (wrap64 (a1_1 + a1_3)) then (some (decide (a1_1 < (wrap64 (a0_1 + a0_3))))) else (some false)) else (some false)) else (some false)))))
set_option maxHeartbeats 8000000 in
set_option maxRecDepth 100000 in
theorem impl_meet.calls (a0_0 : Int) (a0_1 : Int) (a0_2 : Int) (a0_3 : Int) (a1_0 : Int) (a1_1 : Int) (a1_2 : Int) (a1_3 : Int) (r : Bool) (w : World) (h : impl_meet.f a0_0 a0_1 a0_2 a0_3 a1_0 a1_1 a1_2 a1_3 = some r) :
  Calls Tryd.prog 70 #[.agg #[.int .i64 a0_0, .int .i64 a0_1, .int .i64 a0_2, .int .i64 a0_3], .agg #[.int .i64 a1_0, .int .i64 a1_1, .int .i64 a1_2, .int .i64 a1_3]] w fun e w' => e = .returned (.bool r) ∧ Below w.heap.size w w' := by
 have hu26 := Tryd.underlying26
 have HB := Aside0.mk (Below.refl w.heap.size w)
 have H : (if a0_2 = 0 then (some false) else (if a0_3 = 0 then (some false) else (if a1_2 = 0 then (some false) else (if a1_3 = 0 then (some false) else (if a0_0 < (wrap64 (a1_0 + a1_2)) then (if a1_0 < (wrap64 (a0_0 + a0_2)) then (if a0_1 < (wrap64 (a1_1 + a1_3)) then (some (decide (a1_1 < (wrap64 (a0_1 + a0_3))))) else (some false)) else (some false)) else (some false)))))) = some r := h
 clear h
 by_cases c3 : a0_2 = 0
 ·
  rw [if_pos c3] at H
  have c3b0 : (a0_2 == 0) = true := beq_iff_eq.mpr c3
  have c3b1 : (a0_2 != 0) = false := bne_eq_false_iff_eq.mpr c3
  clear c3
  obtain rfl := Option.some.inj H
  go_enter Tryd.func70, Tryd.ntmps70
  go_wp2_with (first | ((with_reducible refine gate_dst (N := 2) rfl ?_); refine box_event ?hg (N := 2) ?hd (cs := #[.int .i64 a0_0, .int .i64 a0_1, .int .i64 a0_2, .int .i64 a0_3]) (t := 26) ?hr ?_; (case hd => rfl); (case hg => rfl); (case hr => first | (go_simp; done) | (go_simp; rfl)); intro gb219 hg w4 hbox hb; have BK219 := Aside0.mk (hbox); have GW219 := Aside0.mk ((bz_ hg (lb0_ HB.out))); have GE219 := Aside0.mk ((bz_ hg (lb0_ HB.out))); replace HB := Aside0.mk (below_step (lb0_ HB.out) hb); clear hb hbox hg) | ((with_reducible refine gate_dst (N := 3) rfl ?_); refine box_event ?hg (N := 3) ?hd (cs := #[.int .i64 a1_0, .int .i64 a1_1, .int .i64 a1_2, .int .i64 a1_3]) (t := 26) ?hr ?_; (case hd => rfl); (case hg => rfl); (case hr => first | (go_simp; done) | (go_simp; rfl)); intro gb220 hg w5 hbox hb; have BK220 := Aside0.mk (hbox); have GW220 := Aside0.mk ((bz_ hg (lb1_ HB.out GE219.out))); have GE220 := Aside0.mk ((bz_ hg (lb1_ HB.out GE219.out))); replace HB := Aside0.mk (below_step (lb1_ HB.out GE219.out) hb); have NB219_220 := Aside0.mk (nl_ hg BK219.out); have NB220_219 := Aside0.mk (ng_ hg BK219.out); replace BK219 := Aside0.mk (bb_ (bk_ BK219.out) hb); clear hb hbox hg; have hnb6 := NB219_220.out; have hnc6 := NB220_219.out; obtain ⟨hcz7_0, hcz7_1, hcz7_2, hcz7_3⟩ := cz4_ BK219.out; obtain ⟨hfz7_0, hfz7_1, hfz7_2, hfz7_3⟩ := fz4_ BK219.out))
  go_ret
  exact ⟨rr_, lb2_ HB.out GE219.out GE220.out⟩
 ·
  rw [if_neg c3] at H
  have c3b0 : (a0_2 == 0) = false := beq_eq_false_iff_ne.mpr c3
  have c3b1 : (a0_2 != 0) = true := bne_iff_ne.mpr c3
  by_cases c8 : a0_3 = 0
  ·
   rw [if_pos c8] at H
   have c8b0 : (a0_3 == 0) = true := beq_iff_eq.mpr c8
   have c8b1 : (a0_3 != 0) = false := bne_eq_false_iff_eq.mpr c8
   clear c8
   obtain rfl := Option.some.inj H
   go_enter Tryd.func70, Tryd.ntmps70
   go_wp2_with (first | ((with_reducible refine gate_dst (N := 2) rfl ?_); refine box_event ?hg (N := 2) ?hd (cs := #[.int .i64 a0_0, .int .i64 a0_1, .int .i64 a0_2, .int .i64 a0_3]) (t := 26) ?hr ?_; (case hd => rfl); (case hg => rfl); (case hr => first | (go_simp; done) | (go_simp; rfl)); intro gb219 hg w9 hbox hb; have BK219 := Aside0.mk (hbox); have GW219 := Aside0.mk ((bz_ hg (lb0_ HB.out))); have GE219 := Aside0.mk ((bz_ hg (lb0_ HB.out))); replace HB := Aside0.mk (below_step (lb0_ HB.out) hb); clear hb hbox hg) | ((with_reducible refine gate_dst (N := 3) rfl ?_); refine box_event ?hg (N := 3) ?hd (cs := #[.int .i64 a1_0, .int .i64 a1_1, .int .i64 a1_2, .int .i64 a1_3]) (t := 26) ?hr ?_; (case hd => rfl); (case hg => rfl); (case hr => first | (go_simp; done) | (go_simp; rfl)); intro gb220 hg w10 hbox hb; have BK220 := Aside0.mk (hbox); have GW220 := Aside0.mk ((bz_ hg (lb1_ HB.out GE219.out))); have GE220 := Aside0.mk ((bz_ hg (lb1_ HB.out GE219.out))); replace HB := Aside0.mk (below_step (lb1_ HB.out GE219.out) hb); have NB219_220 := Aside0.mk (nl_ hg BK219.out); have NB220_219 := Aside0.mk (ng_ hg BK219.out); replace BK219 := Aside0.mk (bb_ (bk_ BK219.out) hb); clear hb hbox hg; have hnb11 := NB219_220.out; have hnc11 := NB220_219.out; obtain ⟨hcz12_0, hcz12_1, hcz12_2, hcz12_3⟩ := cz4_ BK219.out; obtain ⟨hfz12_0, hfz12_1, hfz12_2, hfz12_3⟩ := fz4_ BK219.out))
   go_ret
   exact ⟨rr_, lb2_ HB.out GE219.out GE220.out⟩
  ·
   rw [if_neg c8] at H
   have c8b0 : (a0_3 == 0) = false := beq_eq_false_iff_ne.mpr c8
   have c8b1 : (a0_3 != 0) = true := bne_iff_ne.mpr c8
   by_cases c13 : a1_2 = 0
   ·
    rw [if_pos c13] at H
    have c13b0 : (a1_2 == 0) = true := beq_iff_eq.mpr c13
    have c13b1 : (a1_2 != 0) = false := bne_eq_false_iff_eq.mpr c13
    clear c13
    obtain rfl := Option.some.inj H
    go_enter Tryd.func70, Tryd.ntmps70
    go_wp2_with (first | ((with_reducible refine gate_dst (N := 2) rfl ?_); refine box_event ?hg (N := 2) ?hd (cs := #[.int .i64 a0_0, .int .i64 a0_1, .int .i64 a0_2, .int .i64 a0_3]) (t := 26) ?hr ?_; (case hd => rfl); (case hg => rfl); (case hr => first | (go_simp; done) | (go_simp; rfl)); intro gb219 hg w14 hbox hb; have BK219 := Aside0.mk (hbox); have GW219 := Aside0.mk ((bz_ hg (lb0_ HB.out))); have GE219 := Aside0.mk ((bz_ hg (lb0_ HB.out))); replace HB := Aside0.mk (below_step (lb0_ HB.out) hb); clear hb hbox hg) | ((with_reducible refine gate_dst (N := 3) rfl ?_); refine box_event ?hg (N := 3) ?hd (cs := #[.int .i64 a1_0, .int .i64 a1_1, .int .i64 a1_2, .int .i64 a1_3]) (t := 26) ?hr ?_; (case hd => rfl); (case hg => rfl); (case hr => first | (go_simp; done) | (go_simp; rfl)); intro gb220 hg w15 hbox hb; have BK220 := Aside0.mk (hbox); have GW220 := Aside0.mk ((bz_ hg (lb1_ HB.out GE219.out))); have GE220 := Aside0.mk ((bz_ hg (lb1_ HB.out GE219.out))); replace HB := Aside0.mk (below_step (lb1_ HB.out GE219.out) hb); have NB219_220 := Aside0.mk (nl_ hg BK219.out); have NB220_219 := Aside0.mk (ng_ hg BK219.out); replace BK219 := Aside0.mk (bb_ (bk_ BK219.out) hb); clear hb hbox hg; have hnb16 := NB219_220.out; have hnc16 := NB220_219.out; obtain ⟨hcz17_0, hcz17_1, hcz17_2, hcz17_3⟩ := cz4_ BK219.out; obtain ⟨hfz17_0, hfz17_1, hfz17_2, hfz17_3⟩ := fz4_ BK219.out; obtain ⟨hcz18_0, hcz18_1, hcz18_2, hcz18_3⟩ := cz4_ BK220.out; obtain ⟨hfz18_0, hfz18_1, hfz18_2, hfz18_3⟩ := fz4_ BK220.out))
    go_ret
    exact ⟨rr_, lb2_ HB.out GE219.out GE220.out⟩
   ·
    rw [if_neg c13] at H
    have c13b0 : (a1_2 == 0) = false := beq_eq_false_iff_ne.mpr c13
    have c13b1 : (a1_2 != 0) = true := bne_iff_ne.mpr c13
    by_cases c19 : a1_3 = 0
    ·
     rw [if_pos c19] at H
     have c19b0 : (a1_3 == 0) = true := beq_iff_eq.mpr c19
     have c19b1 : (a1_3 != 0) = false := bne_eq_false_iff_eq.mpr c19
     clear c19
     obtain rfl := Option.some.inj H
     go_enter Tryd.func70, Tryd.ntmps70
     go_wp2_with (first | ((with_reducible refine gate_dst (N := 2) rfl ?_); refine box_event ?hg (N := 2) ?hd (cs := #[.int .i64 a0_0, .int .i64 a0_1, .int .i64 a0_2, .int .i64 a0_3]) (t := 26) ?hr ?_; (case hd => rfl); (case hg => rfl); (case hr => first | (go_simp; done) | (go_simp; rfl)); intro gb219 hg w20 hbox hb; have BK219 := Aside0.mk (hbox); have GW219 := Aside0.mk ((bz_ hg (lb0_ HB.out))); have GE219 := Aside0.mk ((bz_ hg (lb0_ HB.out))); replace HB := Aside0.mk (below_step (lb0_ HB.out) hb); clear hb hbox hg) | ((with_reducible refine gate_dst (N := 3) rfl ?_); refine box_event ?hg (N := 3) ?hd (cs := #[.int .i64 a1_0, .int .i64 a1_1, .int .i64 a1_2, .int .i64 a1_3]) (t := 26) ?hr ?_; (case hd => rfl); (case hg => rfl); (case hr => first | (go_simp; done) | (go_simp; rfl)); intro gb220 hg w21 hbox hb; have BK220 := Aside0.mk (hbox); have GW220 := Aside0.mk ((bz_ hg (lb1_ HB.out GE219.out))); have GE220 := Aside0.mk ((bz_ hg (lb1_ HB.out GE219.out))); replace HB := Aside0.mk (below_step (lb1_ HB.out GE219.out) hb); have NB219_220 := Aside0.mk (nl_ hg BK219.out); have NB220_219 := Aside0.mk (ng_ hg BK219.out); replace BK219 := Aside0.mk (bb_ (bk_ BK219.out) hb); clear hb hbox hg; have hnb22 := NB219_220.out; have hnc22 := NB220_219.out; obtain ⟨hcz23_0, hcz23_1, hcz23_2, hcz23_3⟩ := cz4_ BK219.out; obtain ⟨hfz23_0, hfz23_1, hfz23_2, hfz23_3⟩ := fz4_ BK219.out; obtain ⟨hcz24_0, hcz24_1, hcz24_2, hcz24_3⟩ := cz4_ BK220.out; obtain ⟨hfz24_0, hfz24_1, hfz24_2, hfz24_3⟩ := fz4_ BK220.out))
     go_ret
     exact ⟨rr_, lb2_ HB.out GE219.out GE220.out⟩
    ·
     rw [if_neg c19] at H
     have c19b0 : (a1_3 == 0) = false := beq_eq_false_iff_ne.mpr c19
     have c19b1 : (a1_3 != 0) = true := bne_iff_ne.mpr c19
     by_cases c25 : a0_0 < (wrap64 (a1_0 + a1_2))
     ·
      rw [if_pos c25] at H
      have c25b0 : decide (a0_0 < (wrap64 (a1_0 + a1_2))) = true := decide_eq_true c25
      clear c25
      by_cases c26 : a1_0 < (wrap64 (a0_0 + a0_2))
      ·
       rw [if_pos c26] at H
       have c26b0 : decide (a1_0 < (wrap64 (a0_0 + a0_2))) = true := decide_eq_true c26
       clear c26
       by_cases c27 : a0_1 < (wrap64 (a1_1 + a1_3))
       ·
        rw [if_pos c27] at H
        have c27b0 : decide (a0_1 < (wrap64 (a1_1 + a1_3))) = true := decide_eq_true c27; clear c27; obtain rfl := Option.some.inj H
        go_enter Tryd.func70, Tryd.ntmps70
        go_wp2_with (first | ((with_reducible refine gate_dst (N := 2) rfl ?_); refine box_event ?hg (N := 2) ?hd (cs := #[.int .i64 a0_0, .int .i64 a0_1, .int .i64 a0_2, .int .i64 a0_3]) (t := 26) ?hr ?_; (case hd => rfl); (case hg => rfl); (case hr => first | (go_simp; done) | (go_simp; rfl)); intro gb219 hg w28 hbox hb; have BK219 := Aside0.mk (hbox); have GW219 := Aside0.mk ((bz_ hg (lb0_ HB.out))); have GE219 := Aside0.mk ((bz_ hg (lb0_ HB.out))); replace HB := Aside0.mk (below_step (lb0_ HB.out) hb); clear hb hbox hg) | ((with_reducible refine gate_dst (N := 3) rfl ?_); refine box_event ?hg (N := 3) ?hd (cs := #[.int .i64 a1_0, .int .i64 a1_1, .int .i64 a1_2, .int .i64 a1_3]) (t := 26) ?hr ?_; (case hd => rfl); (case hg => rfl); (case hr => first | (go_simp; done) | (go_simp; rfl)); intro gb220 hg w29 hbox hb; have BK220 := Aside0.mk (hbox); have GW220 := Aside0.mk ((bz_ hg (lb1_ HB.out GE219.out))); have GE220 := Aside0.mk ((bz_ hg (lb1_ HB.out GE219.out))); replace HB := Aside0.mk (below_step (lb1_ HB.out GE219.out) hb); have NB219_220 := Aside0.mk (nl_ hg BK219.out); have NB220_219 := Aside0.mk (ng_ hg BK219.out); replace BK219 := Aside0.mk (bb_ (bk_ BK219.out) hb); clear hb hbox hg; have hnb30 := NB219_220.out; have hnc30 := NB220_219.out; obtain ⟨hcz31_0, hcz31_1, hcz31_2, hcz31_3⟩ := cz4_ BK219.out; obtain ⟨hfz31_0, hfz31_1, hfz31_2, hfz31_3⟩ := fz4_ BK219.out; obtain ⟨hcz32_0, hcz32_1, hcz32_2, hcz32_3⟩ := cz4_ BK220.out; obtain ⟨hfz32_0, hfz32_1, hfz32_2, hfz32_3⟩ := fz4_ BK220.out))
        go_ret
        exact ⟨rr_, lb2_ HB.out GE219.out GE220.out⟩
       ·
        rw [if_neg c27] at H
        have c27b0 : decide (a0_1 < (wrap64 (a1_1 + a1_3))) = false := decide_eq_false c27; clear c27; obtain rfl := Option.some.inj H
        go_enter Tryd.func70, Tryd.ntmps70
        go_wp2_with (first | ((with_reducible refine gate_dst (N := 2) rfl ?_); refine box_event ?hg (N := 2) ?hd (cs := #[.int .i64 a0_0, .int .i64 a0_1, .int .i64 a0_2, .int .i64 a0_3]) (t := 26) ?hr ?_; (case hd => rfl); (case hg => rfl); (case hr => first | (go_simp; done) | (go_simp; rfl)); intro gb219 hg w33 hbox hb; have BK219 := Aside0.mk (hbox); have GW219 := Aside0.mk ((bz_ hg (lb0_ HB.out))); have GE219 := Aside0.mk ((bz_ hg (lb0_ HB.out))); replace HB := Aside0.mk (below_step (lb0_ HB.out) hb); clear hb hbox hg) | ((with_reducible refine gate_dst (N := 3) rfl ?_); refine box_event ?hg (N := 3) ?hd (cs := #[.int .i64 a1_0, .int .i64 a1_1, .int .i64 a1_2, .int .i64 a1_3]) (t := 26) ?hr ?_; (case hd => rfl); (case hg => rfl); (case hr => first | (go_simp; done) | (go_simp; rfl)); intro gb220 hg w34 hbox hb; have BK220 := Aside0.mk (hbox); have GW220 := Aside0.mk ((bz_ hg (lb1_ HB.out GE219.out))); have GE220 := Aside0.mk ((bz_ hg (lb1_ HB.out GE219.out))); replace HB := Aside0.mk (below_step (lb1_ HB.out GE219.out) hb); have NB219_220 := Aside0.mk (nl_ hg BK219.out); have NB220_219 := Aside0.mk (ng_ hg BK219.out); replace BK219 := Aside0.mk (bb_ (bk_ BK219.out) hb); clear hb hbox hg; have hnb35 := NB219_220.out; have hnc35 := NB220_219.out; obtain ⟨hcz36_0, hcz36_1, hcz36_2, hcz36_3⟩ := cz4_ BK219.out; obtain ⟨hfz36_0, hfz36_1, hfz36_2, hfz36_3⟩ := fz4_ BK219.out; obtain ⟨hcz37_0, hcz37_1, hcz37_2, hcz37_3⟩ := cz4_ BK220.out; obtain ⟨hfz37_0, hfz37_1, hfz37_2, hfz37_3⟩ := fz4_ BK220.out))
        go_ret
        exact ⟨rr_, lb2_ HB.out GE219.out GE220.out⟩
      ·
       rw [if_neg c26] at H
       have c26b0 : decide (a1_0 < (wrap64 (a0_0 + a0_2))) = false := decide_eq_false c26
       clear c26
       obtain rfl := Option.some.inj H
       go_enter Tryd.func70, Tryd.ntmps70
       go_wp2_with (first | ((with_reducible refine gate_dst (N := 2) rfl ?_); refine box_event ?hg (N := 2) ?hd (cs := #[.int .i64 a0_0, .int .i64 a0_1, .int .i64 a0_2, .int .i64 a0_3]) (t := 26) ?hr ?_; (case hd => rfl); (case hg => rfl); (case hr => first | (go_simp; done) | (go_simp; rfl)); intro gb219 hg w38 hbox hb; have BK219 := Aside0.mk (hbox); have GW219 := Aside0.mk ((bz_ hg (lb0_ HB.out))); have GE219 := Aside0.mk ((bz_ hg (lb0_ HB.out))); replace HB := Aside0.mk (below_step (lb0_ HB.out) hb); clear hb hbox hg) | ((with_reducible refine gate_dst (N := 3) rfl ?_); refine box_event ?hg (N := 3) ?hd (cs := #[.int .i64 a1_0, .int .i64 a1_1, .int .i64 a1_2, .int .i64 a1_3]) (t := 26) ?hr ?_; (case hd => rfl); (case hg => rfl); (case hr => first | (go_simp; done) | (go_simp; rfl)); intro gb220 hg w39 hbox hb; have BK220 := Aside0.mk (hbox); have GW220 := Aside0.mk ((bz_ hg (lb1_ HB.out GE219.out))); have GE220 := Aside0.mk ((bz_ hg (lb1_ HB.out GE219.out))); replace HB := Aside0.mk (below_step (lb1_ HB.out GE219.out) hb); have NB219_220 := Aside0.mk (nl_ hg BK219.out); have NB220_219 := Aside0.mk (ng_ hg BK219.out); replace BK219 := Aside0.mk (bb_ (bk_ BK219.out) hb); clear hb hbox hg; have hnb40 := NB219_220.out; have hnc40 := NB220_219.out; obtain ⟨hcz41_0, hcz41_1, hcz41_2, hcz41_3⟩ := cz4_ BK219.out; obtain ⟨hfz41_0, hfz41_1, hfz41_2, hfz41_3⟩ := fz4_ BK219.out; obtain ⟨hcz42_0, hcz42_1, hcz42_2, hcz42_3⟩ := cz4_ BK220.out; obtain ⟨hfz42_0, hfz42_1, hfz42_2, hfz42_3⟩ := fz4_ BK220.out))
       go_ret
       exact ⟨rr_, lb2_ HB.out GE219.out GE220.out⟩
     ·
      rw [if_neg c25] at H
      have c25b0 : decide (a0_0 < (wrap64 (a1_0 + a1_2))) = false := decide_eq_false c25
      clear c25
      obtain rfl := Option.some.inj H
      go_enter Tryd.func70, Tryd.ntmps70
      go_wp2_with (first | ((with_reducible refine gate_dst (N := 2) rfl ?_); refine box_event ?hg (N := 2) ?hd (cs := #[.int .i64 a0_0, .int .i64 a0_1, .int .i64 a0_2, .int .i64 a0_3]) (t := 26) ?hr ?_; (case hd => rfl); (case hg => rfl); (case hr => first | (go_simp; done) | (go_simp; rfl)); intro gb219 hg w43 hbox hb; have BK219 := Aside0.mk (hbox); have GW219 := Aside0.mk ((bz_ hg (lb0_ HB.out))); have GE219 := Aside0.mk ((bz_ hg (lb0_ HB.out))); replace HB := Aside0.mk (below_step (lb0_ HB.out) hb); clear hb hbox hg) | ((with_reducible refine gate_dst (N := 3) rfl ?_); refine box_event ?hg (N := 3) ?hd (cs := #[.int .i64 a1_0, .int .i64 a1_1, .int .i64 a1_2, .int .i64 a1_3]) (t := 26) ?hr ?_; (case hd => rfl); (case hg => rfl); (case hr => first | (go_simp; done) | (go_simp; rfl)); intro gb220 hg w44 hbox hb; have BK220 := Aside0.mk (hbox); have GW220 := Aside0.mk ((bz_ hg (lb1_ HB.out GE219.out))); have GE220 := Aside0.mk ((bz_ hg (lb1_ HB.out GE219.out))); replace HB := Aside0.mk (below_step (lb1_ HB.out GE219.out) hb); have NB219_220 := Aside0.mk (nl_ hg BK219.out); have NB220_219 := Aside0.mk (ng_ hg BK219.out); replace BK219 := Aside0.mk (bb_ (bk_ BK219.out) hb); clear hb hbox hg; have hnb45 := NB219_220.out; have hnc45 := NB220_219.out; obtain ⟨hcz46_0, hcz46_1, hcz46_2, hcz46_3⟩ := cz4_ BK219.out; obtain ⟨hfz46_0, hfz46_1, hfz46_2, hfz46_3⟩ := fz4_ BK219.out; obtain ⟨hcz47_0, hcz47_1, hcz47_2, hcz47_3⟩ := cz4_ BK220.out; obtain ⟨hfz47_0, hfz47_1, hfz47_2, hfz47_3⟩ := fz4_ BK220.out))
      go_ret
      exact ⟨rr_, lb2_ HB.out GE219.out GE220.out⟩
set_option maxHeartbeats 4000000 in
theorem free1_ (gb : Nat) (b0 b1 b2 b3 : Int) (a0 : ByteArray) (a1 a2 : Int) (r : Bool) (w : World) (hb : w.heap[gb]? = some (.cells #[.int .i64 b0, .int .i64 b1, .int .i64 b2, .int .i64 b3] 26 (0, 0))) (h : impl_meet.f b0 b1 b2 b3 a1 a2 1 1 = some r) :
  Calls Tryd.prog 99 (#[.agg #[.string a0, .int .i64 a1, .int .i64 a2]] ++ #[.pointer (some ⟨gb, 0, none⟩)]) w fun e w' => e = .returned (.bool r) ∧ Below w.heap.size w w' := by
 show Calls Tryd.prog 99 #[.agg #[.string a0, .int .i64 a1, .int .i64 a2], .pointer (some ⟨gb, 0, none⟩)] w _
 have h0 : w.cell? ⟨gb, 0, none⟩ = some (.int .i64 b0) := (blk_cell hb 0).trans rfl
 have h1 : w.cell? ⟨gb, 1, none⟩ = some (.int .i64 b1) := (blk_cell hb 1).trans rfl
 have h2 : w.cell? ⟨gb, 2, none⟩ = some (.int .i64 b2) := (blk_cell hb 2).trans rfl
 have h3 : w.cell? ⟨gb, 3, none⟩ = some (.int .i64 b3) := (blk_cell hb 3).trans rfl
 have hB := below_alloc (Below.refl w.heap.size w) (.cells #[.string a0, .int .i64 a1, .int .i64 a2] 29)
 replace h0 := (hB.cell (World.block_lt_of_cell? w _ h0)).trans h0
 replace h1 := (hB.cell (World.block_lt_of_cell? w _ h1)).trans h1
 replace h2 := (hB.cell (World.block_lt_of_cell? w _ h2)).trans h2
 replace h3 := (hB.cell (World.block_lt_of_cell? w _ h3)).trans h3
 clear hb
 go_enter Tryd.func99, Tryd.ntmps99
 go_wp2_with (go_at_call 70; refine (impl_meet.calls b0 b1 b2 b3 a1 a2 1 1 r _ h).mono ?_; rintro e w' ⟨rfl, hb⟩)
 go_ret
 exact ⟨rfl, below_step hB hb⟩
def impl_free.f (l0 : List S29) (b0 b1 b2 b3 : Int) : Option Bool :=
 if b0 < 0 then some false else (if b1 < 0 then some false else (if 100 < wrap64 (b0 + b2) then some false else (if 100 < wrap64 (b1 + b3) then some false else
  (if l0.all (fun x => (impl_meet.f b0 b1 b2 b3 x.f1 x.f2 1 1).isSome) = true then some (!(l0.any fun x => (impl_meet.f b0 b1 b2 b3 x.f1 x.f2 1 1).getD false)) else none))))
set_option maxHeartbeats 4000000 in
set_option maxRecDepth 100000 in
theorem impl_free.calls (A0 : Option Addr) (c0 : Nat) (l0 : List S29) (b0 b1 b2 b3 : Int) (r : Bool) (w : World) (hr0 : Kd.C k29 w A0 l0.length l0) (hc0 : l0.length ≤ c0) (h : impl_free.f l0 b0 b1 b2 b3 = some r) :
  Calls Tryd.prog 67 #[.slice A0 l0.length c0, .agg #[.int .i64 b0, .int .i64 b1, .int .i64 b2, .int .i64 b3]] w fun e w' => e = .returned (.bool r) ∧ Below w.heap.size w w' := by
 unfold impl_free.f at h
 have hB := below_alloc (Below.refl w.heap.size w) (.cells #[.int .i64 b0, .int .i64 b1, .int .i64 b2, .int .i64 b3] 26)
 have hg := heap_new_ w #[.int .i64 b0, .int .i64 b1, .int .i64 b2, .int .i64 b3] 26
 by_cases c1 : b0 < 0
 ·
  rw [if_pos c1] at h
  obtain rfl := Option.some.inj h
  have c1b : decide (b0 < 0) = true := decide_eq_true c1
  clear c1 hr0 hg
  go_enter Tryd.func67, Tryd.ntmps67
  go_wp2
  go_ret
  exact ⟨rfl, hB⟩
 ·
  rw [if_neg c1] at h
  have c1b : decide (b0 < 0) = false := decide_eq_false c1
  clear c1
  by_cases c2 : b1 < 0
  ·
   rw [if_pos c2] at h
   obtain rfl := Option.some.inj h
   have c2b : decide (b1 < 0) = true := decide_eq_true c2
   clear c2 hr0 hg
   go_enter Tryd.func67, Tryd.ntmps67
   go_wp2
   go_ret
   exact ⟨rfl, hB⟩
  ·
   rw [if_neg c2] at h
   have c2b : decide (b1 < 0) = false := decide_eq_false c2
   clear c2
   by_cases c3 : 100 < wrap64 (b0 + b2)
   ·
    rw [if_pos c3] at h
    obtain rfl := Option.some.inj h
    have c3b : decide (100 < wrap64 (b0 + b2)) = true := decide_eq_true c3
    clear c3 hr0 hg
    go_enter Tryd.func67, Tryd.ntmps67
    go_wp2
    go_ret
    exact ⟨rfl, hB⟩
   ·
    rw [if_neg c3] at h
    have c3b : decide (100 < wrap64 (b0 + b2)) = false := decide_eq_false c3
    clear c3
    by_cases c4 : 100 < wrap64 (b1 + b3)
    ·
     rw [if_pos c4] at h
     obtain rfl := Option.some.inj h
     have c4b : decide (100 < wrap64 (b1 + b3)) = true := decide_eq_true c4
     clear c4 hr0 hg
     go_enter Tryd.func67, Tryd.ntmps67
     go_wp2
     go_ret
     exact ⟨rfl, hB⟩
    ·
     rw [if_neg c4] at h
     have c4b : decide (100 < wrap64 (b1 + b3)) = false := decide_eq_false c4
     clear c4
     by_cases c5 : l0.all (fun x => (impl_meet.f b0 b1 b2 b3 x.f1 x.f2 1 1).isSome) = true
     ·
      rw [if_pos c5] at h
      have hcall := fun W (hW : Below (w.alloc (.cells #[.int .i64 b0, .int .i64 b1, .int .i64 b2, .int .i64 b3] 26)).heap.size (w.alloc (.cells #[.int .i64 b0, .int .i64 b1, .int .i64 b2, .int .i64 b3] 26)) W) => cont_Label.calls (fun x => (impl_meet.f b0 b1 b2 b3 x.f1 x.f2 1 1).getD false) 99 #[.pointer (some ⟨w.heap.size, 0, none⟩)] (fun _ _ => rfl) A0 c0 l0 W (Kd.C_below (Kd.C_below hr0 hB) hW) hc0 (fun W' x hx hW' => by
       obtain ⟨b, hb⟩ := Option.isSome_iff_exists.1 (List.all_eq_true.1 c5 x hx)
       rw [hb]
       refine (free1_ w.heap.size b0 b1 b2 b3 x.f0 x.f1 x.f2 b W' (blk_below (blk_below hg hW) hW') hb).mono ?_
       rintro e w'' ⟨rfl, hb2⟩
       exact ⟨rfl, below_step hW' hb2⟩)
      obtain rfl := Option.some.inj h
      generalize l0.any (fun x => (impl_meet.f b0 b1 b2 b3 x.f1 x.f2 1 1).getD false) = q at hcall ⊢
      have HC := Aside0.mk hcall
      clear hcall hr0 c5 h hg
      go_enter Tryd.func67, Tryd.ntmps67
      go_wp2_with (go_at_call 61; refine (HC.out _ (Below.refl _ _)).mono ?_; rintro e w' ⟨rfl, hb⟩)
      go_ret
      exact ⟨rfl, below_step hB hb⟩
     ·
      rw [if_neg c5] at h
      cases h
def slices_CloneInt.f (l0 : List Int) : Option (List Int) := if l0.length ≤ 1000000 then some l0 else none
set_option maxHeartbeats 4000000 in
set_option maxRecDepth 100000 in
theorem slices_CloneInt.calls (A0 : Option Addr) (c0 : Nat) (l0 : List Int) (r : List Int) (w : World) (hr0 : Kd.C (Kd.int .i64) w A0 l0.length l0) (hc0 : l0.length ≤ c0) (h : slices_CloneInt.f l0 = some r) :
  Calls Tryd.prog 103 #[.slice A0 l0.length c0] w fun e w' => ∃ v0_ : Value, e = .returned (v0_) ∧ Kd.R (Kd.int .i64) 3 w' w.heap.size (fun _ => True) v0_ r ∧ Below w.heap.size w w' := by
 unfold slices_CloneInt.f at h
 by_cases hl : l0.length ≤ 1000000
 ·
  rw [if_pos hl] at h
  obtain rfl := Option.some.inj h
  have HR := Aside0.mk hr0
  clear hr0
  cases A0 with
  | none =>
   have hn : l0 = [] := by
    rcases Nat.eq_zero_or_pos l0.length with h0 | h0
    ·
     exact List.length_eq_zero_iff.1 h0
    ·
     obtain ⟨ad, e, _⟩ := HR.out.2.2 h0
     cases e
   subst hn
   have hq : ∀ w, Sem.run Tryd.prog (binOp .eql 40 (.slice none 0 c0) (.slice none 0 0)) w = .ok (.bool true) w := fun w => by rfl
   go_enter Tryd.func103, Tryd.ntmps103
   go_wp2
   go_ret
   exact ⟨_, rfl, Kd.R_nil _ _ _ _ _, Below.refl _ _⟩
  | some ad =>
   have hq : ∀ w, Sem.run Tryd.prog (binOp .eql 40 (.slice (some ad) l0.length c0) (.slice none 0 0)) w = .ok (.bool false) w := fun w => by rfl
   go_enter Tryd.func103, Tryd.ntmps103
   go_wp2_with (first | ((with_reducible refine gate_dst (N := 5) rfl ?_); refine Kd.R_lit (Kd.int .i64) _ 3 ?hg (N := 5) ?hd (xs := []) (inner := []) (ok := fun _ => True) (okp := fun _ => True) ?hr ?hp (fun _ hk => hk) trivial (Below.refl _ _) (Nat.le_refl _) (by simp) ?_; (case hd => rfl); (case hg => rfl); (case hr => first | (go_simp; done) | (go_simp; rfl)); (case hp => exact (Reps.none _ _)); intro v5 w4 ho5 hb5 hg_ hnew_; clear hg_ hnew_; have HO5 := Aside0.mk ho5; have HB5 := Aside0.mk hb5; clear ho5 hb5) | ((with_reducible refine gate_builtin (b := .append) (xs := #[.tmp 5, .tmp 6]) rfl ?_); at_builtin; refine Kd.R_append_rows (Kd.int .i64) (w0 := w) w.heap.size rfl (.tmp 5) (.tmp 6) 40 3 (.int .i64 0) 8 rfl Tryd.underlying40 info3 rfl (by decide) (by omega) v5 [] l0 (some ad) _ _ (fun _ => True) (fun _ => False) rfl rfl HO5.out (Kd.C_below HR.out HB5.out) (fun _ _ h => h) (fun _ h => h.elim) (fun _ _ => trivial) HB5.out (below_size HB5.out) (by simp; omega) ?_; intro v7 w7 ho7 hb7 hg7 hat7; have HO7 := Aside0.mk ho7; have HB7 := Aside0.mk hb7; clear ho7 hb7 hg7 hat7))
   go_ret
   exact ⟨_, rfl, HO7.out, HB7.out⟩
 ·
  rw [if_neg hl] at h
  cases h
def resB_ (ct : Bool) (ps : List (List Int)) : Bool := ct || ps.isEmpty
def resY_ (ct : Bool) (ps : List (List Int)) : List (List Int) := match ct with
 | true => ps
 | false => ps.take 1
theorem res_go_ {ct : Bool} {ys acc pa : List (List Int)} (h : ct = true ∨ ys ++ acc = []) (hb : resB_ ct pa = true) : resY_ ct pa = pa ∧ (ct = true ∨ ys ++ (acc ++ pa) = []) := by
 cases ct with
 | true => exact ⟨rfl, .inl rfl⟩
 | false =>
  have h1 := h.resolve_left (by decide)
  have h2 : pa = [] := by simpa [resB_] using hb
  subst h2
  exact ⟨rfl, .inr (by simpa using h1)⟩
theorem res_stop_ {ct : Bool} {ys acc pa : List (List Int)} (h : ct = true ∨ ys ++ acc = []) (hb : resB_ ct pa = false) (rest : List (List Int)) : resB_ ct (acc ++ (pa ++ rest)) = false ∧ ys ++ resY_ ct (acc ++ (pa ++ rest)) = ys ++ acc ++ resY_ ct pa := by
 cases ct with
 | true => cases hb
 | false =>
  have h1 := List.append_eq_nil_iff.1 (h.resolve_left (by decide))
  obtain ⟨rfl, rfl⟩ := h1
  cases pa with
  | nil => cases hb
  | cons p t => exact ⟨rfl, rfl⟩
def hitB_ (l0 : List S26) (b0 b1 b2 b3 : Int) : Option Bool :=
 if l0.all (fun x => (impl_meet.f b0 b1 b2 b3 x.f0 x.f1 x.f2 x.f3).isSome) = true then some (l0.any fun x => (impl_meet.f b0 b1 b2 b3 x.f0 x.f1 x.f2 x.f3).getD false) else none
def plc_ (l : List S29) (idx : List Int) : Nat → List Int → List S26 → Option (List (List Int))
 | 0, ways, _ => some [ways]
 | m + 1, ways, boxes => if 0 ≤ rd idx (ways.length : Int) ∧ rd idx (ways.length : Int) < (l.length : Int) then
   catM_ (fun way => (impl_boxFor.f (rd_T29 l (rd idx (ways.length : Int))).f0 (rd_T29 l (rd idx (ways.length : Int))).f1 (rd_T29 l (rd idx (ways.length : Int))).f2 way).bind fun b =>
    (impl_free.f l b.1 b.2.1 b.2.2.1 b.2.2.2).bind fun fr => if fr = true then (hitB_ boxes b.1 b.2.1 b.2.2.1 b.2.2.2).bind fun hit => if hit = true then some [] else plc_ l idx m (ways ++ [way]) (boxes ++ [⟨b.1, b.2.1, b.2.2.1, b.2.2.2⟩]) else some []) [0, 1, 2, 3]
  else none
set_option maxHeartbeats 4000000 in
theorem place11_ (gb : Nat) (b0 b1 b2 b3 : Int) (a0 a1 a2 a3 : Int) (r : Bool) (w : World) (hb : w.heap[gb]? = some (.cells #[.int .i64 b0, .int .i64 b1, .int .i64 b2, .int .i64 b3] 26 (0, 0))) (h : impl_meet.f b0 b1 b2 b3 a0 a1 a2 a3 = some r) :
  Calls Tryd.prog 104 (#[.agg #[.int .i64 a0, .int .i64 a1, .int .i64 a2, .int .i64 a3]] ++ #[.pointer (some ⟨gb, 0, none⟩)]) w fun e w' => e = .returned (.bool r) ∧ Below w.heap.size w w' := by
 show Calls Tryd.prog 104 #[.agg #[.int .i64 a0, .int .i64 a1, .int .i64 a2, .int .i64 a3], .pointer (some ⟨gb, 0, none⟩)] w _
 have h0 : w.cell? ⟨gb, 0, none⟩ = some (.int .i64 b0) := (blk_cell hb 0).trans rfl
 have h1 : w.cell? ⟨gb, 1, none⟩ = some (.int .i64 b1) := (blk_cell hb 1).trans rfl
 have h2 : w.cell? ⟨gb, 2, none⟩ = some (.int .i64 b2) := (blk_cell hb 2).trans rfl
 have h3 : w.cell? ⟨gb, 3, none⟩ = some (.int .i64 b3) := (blk_cell hb 3).trans rfl
 have hB := below_alloc (Below.refl w.heap.size w) (.cells #[.int .i64 a0, .int .i64 a1, .int .i64 a2, .int .i64 a3] 26)
 replace h0 := (hB.cell (World.block_lt_of_cell? w _ h0)).trans h0
 replace h1 := (hB.cell (World.block_lt_of_cell? w _ h1)).trans h1
 replace h2 := (hB.cell (World.block_lt_of_cell? w _ h2)).trans h2
 replace h3 := (hB.cell (World.block_lt_of_cell? w _ h3)).trans h3
 clear hb
 go_enter Tryd.func104, Tryd.ntmps104
 go_wp2_with (go_at_call 70; refine (impl_meet.calls b0 b1 b2 b3 a0 a1 a2 a3 r _ h).mono ?_; rintro e w' ⟨rfl, hb⟩)
 go_ret
 exact ⟨rfl, below_step hB hb⟩
set_option maxRecDepth 100000 in
theorem hit_calls (A0 : Option Addr) (c0 : Nat) (l0 : List S26) (b0 b1 b2 b3 : Int) (r : Bool) (w : World) (hr0 : Kd.C k26 w A0 l0.length l0) (hc0 : l0.length ≤ c0) (h : hitB_ l0 b0 b1 b2 b3 = some r) {gb : Nat} (hbx : w.heap[gb]? = some (.cells #[.int .i64 b0, .int .i64 b1, .int .i64 b2, .int .i64 b3] 26 (0, 0))) :
  Calls Tryd.prog 68 #[.slice A0 l0.length c0, .func (.func 104) #[] #[.pointer (some ⟨gb, 0, none⟩)]] w fun e w' => e = .returned (.bool r) ∧ Below w.heap.size w w' := by
 unfold hitB_ at h
 by_cases c5 : l0.all (fun x => (impl_meet.f b0 b1 b2 b3 x.f0 x.f1 x.f2 x.f3).isSome) = true
 ·
  rw [if_pos c5] at h
  obtain rfl := Option.some.inj h
  exact cont_Box.calls (fun x => (impl_meet.f b0 b1 b2 b3 x.f0 x.f1 x.f2 x.f3).getD false) 104 #[.pointer (some ⟨gb, 0, none⟩)] (fun _ _ => rfl) A0 c0 l0 w hr0 hc0 (fun W' x hx hW' => by
   obtain ⟨b, hb⟩ := Option.isSome_iff_exists.1 (List.all_eq_true.1 c5 x hx)
   rw [hb]
   refine (place11_ gb b0 b1 b2 b3 x.f0 x.f1 x.f2 x.f3 b W' (blk_below hbx hW') hb).mono ?_
   rintro e w'' ⟨rfl, hb2⟩
   exact ⟨rfl, below_step hW' hb2⟩)
 ·
  rw [if_neg c5] at h
  cases h
def place3.T : Bool × List (List Nat × List Nat) := (true, [([], []), ([], []), ([1], [1]), ([0, 2, 2], [0, 2]), ([3, 3, 0, 1, 2, 3], [3])])
def place3.B : List Nat := [0, 0, 2, 7, 15]
theorem place3.tab : rtab .any (opsOf Tryd.f102 3) = place3.T := by kernel_rfl
theorem place3.bits : waitsOk place3.T.2 place3.B = true := by kernel_rfl
abbrev place3.mkE : Array Bool := #[false, false, false, false, false]
abbrev place3.mk0 : Array Bool := #[true, false, false, false, false]
abbrev place3.mk0_1 : Array Bool := #[true, true, false, false, false]
abbrev place3.mk0_1_2 : Array Bool := #[true, true, true, false, false]
abbrev place3.mk0_1_2_3 : Array Bool := #[true, true, true, true, false]
abbrev place3.mk0_1_2_3_4 : Array Bool := #[true, true, true, true, true]
def place7.T : Bool × List (List Nat × List Nat) := (true, [([], []), ([], []), ([], []), ([1, 2], [1, 2]), ([3], [3]), ([0, 4], [0, 4]), ([5], [5]), ([], []), ([6, 7], [6, 7]), ([], []), ([9, 8, 8, 0, 1, 2, 3, 4, 5, 6, 7, 8, 9], [8, 9])])
def place7.B : List Nat := [0, 0, 0, 6, 14, 31, 63, 0, 255, 0, 1023]
theorem place7.tab : rtab .any (opsOf Tryd.f102 7) = place7.T := by kernel_rfl
theorem place7.bits : waitsOk place7.T.2 place7.B = true := by kernel_rfl
abbrev place7.mkE : Array Bool := #[fF,fF,fF,fF,fF,fF,fF,fF,fF,fF,fF]
abbrev place7.mk2 : Array Bool := #[fF,fF,tT,fF,fF,fF,fF,fF,fF,fF,fF]
abbrev place7.mk2_7 : Array Bool := #[fF,fF,tT,fF,fF,fF,fF,tT,fF,fF,fF]
abbrev place7.mk0_2_7 : Array Bool := #[tT,fF,tT,fF,fF,fF,fF,tT,fF,fF,fF]
abbrev place7.mk0_1_2_7 : Array Bool := #[tT,tT,tT,fF,fF,fF,fF,tT,fF,fF,fF]
abbrev place7.mk0_1_2_3_7 : Array Bool := #[tT,tT,tT,tT,fF,fF,fF,tT,fF,fF,fF]
abbrev place7.mk0_1_2_3_4_7 : Array Bool := #[tT,tT,tT,tT,tT,fF,fF,tT,fF,fF,fF]
abbrev place7.mk0_1_2_3_4_5_7 : Array Bool := #[tT,tT,tT,tT,tT,tT,fF,tT,fF,fF,fF]
abbrev place7.mk0_1_2_3_4_5_6_7 : Array Bool := #[tT,tT,tT,tT,tT,tT,tT,tT,fF,fF,fF]
abbrev place7.mk0_1_2_3_4_5_6_7_8_9 : Array Bool := #[tT,tT,tT,tT,tT,tT,tT,tT,tT,tT,fF]
abbrev place7.mk0_1_2_3_4_5_6_7_8 : Array Bool := #[tT,tT,tT,tT,tT,tT,tT,tT,tT,fF,fF]
abbrev place7.mk0_1_2_3_4_5_6_7_9 : Array Bool := #[tT,tT,tT,tT,tT,tT,tT,tT,fF,tT,fF]
abbrev place7.mk0_1_2_3_4_5_6_7_8_9_10 : Array Bool := #[tT,tT,tT,tT,tT,tT,tT,tT,tT,tT,tT]
def place9.T : Bool × List (List Nat × List Nat) := (true, [([], []), ([], []), ([1], [1]), ([0, 2], [0, 2]), ([], []), ([], []), ([5], [5]), ([4, 6, 3], [4, 6]), ([3, 7, 0, 1, 2, 3], [3]), ([7, 8, 0, 1, 2, 3, 4, 5, 6, 7, 8], [7])])
def place9.B : List Nat := [0, 0, 2, 7, 0, 0, 32, 127, 255, 511]
theorem place9.tab : rtab .any (opsOf Tryd.f102 9) = place9.T := by kernel_rfl
theorem place9.bits : waitsOk place9.T.2 place9.B = true := by kernel_rfl
abbrev place9.mkE : Array Bool := #[fF,fF,fF,fF,fF,fF,fF,fF,fF,fF]
abbrev place9.mk1 : Array Bool := #[fF,tT,fF,fF,fF,fF,fF,fF,fF,fF]
abbrev place9.mk0_1 : Array Bool := #[tT,tT,fF,fF,fF,fF,fF,fF,fF,fF]
abbrev place9.mk0_1_4 : Array Bool := #[tT,tT,fF,fF,tT,fF,fF,fF,fF,fF]
abbrev place9.mk0_1_4_5 : Array Bool := #[tT,tT,fF,fF,tT,tT,fF,fF,fF,fF]
abbrev place9.mk0_1_2_3_4_5_6 : Array Bool := #[tT,tT,tT,tT,tT,tT,tT,fF,fF,fF]
abbrev place9.mk0_1_2_4_5 : Array Bool := #[tT,tT,tT,fF,tT,tT,fF,fF,fF,fF]
abbrev place9.mk0_1_4_5_6 : Array Bool := #[tT,tT,fF,fF,tT,tT,tT,fF,fF,fF]
abbrev place9.mk0_1_2_3_4_5 : Array Bool := #[tT,tT,tT,tT,tT,tT,fF,fF,fF,fF]
abbrev place9.mk0_1_2_4_5_6 : Array Bool := #[tT,tT,tT,fF,tT,tT,tT,fF,fF,fF]
abbrev place9.mk0_1_2_3_4_5_6_7 : Array Bool := #[tT,tT,tT,tT,tT,tT,tT,tT,fF,fF]
abbrev place9.mk0_1_2_3_4_5_6_7_8 : Array Bool := #[tT,tT,tT,tT,tT,tT,tT,tT,tT,fF]
abbrev place9.mk0_1_2_3_4_5_6_7_8_9 : Array Bool := #[tT,tT,tT,tT,tT,tT,tT,tT,tT,tT]
def place11.T : Bool × List (List Nat × List Nat) := (true, [([], []), ([], []), ([0, 1], [0, 1]), ([], []), ([], []), ([3, 4], [3, 4]), ([2, 0, 1, 2], [2]), ([5, 6, 0, 1, 2, 3, 4, 5, 6], [5])])
def place11.B : List Nat := [0, 0, 3, 0, 0, 24, 7, 127]
theorem place11.tab : rtab .any (opsOf Tryd.f102 11) = place11.T := by kernel_rfl
theorem place11.bits : waitsOk place11.T.2 place11.B = true := by kernel_rfl
abbrev place11.mkE : Array Bool := #[fF,fF,fF,fF,fF,fF,fF,fF]
abbrev place11.mk1 : Array Bool := #[fF,tT,fF,fF,fF,fF,fF,fF]
abbrev place11.mk1_4 : Array Bool := #[fF,tT,fF,fF,tT,fF,fF,fF]
abbrev place11.mk0_1_2_3_4_5_6 : Array Bool := #[tT,tT,tT,tT,tT,tT,tT,fF]
abbrev place11.mk0_1_4 : Array Bool := #[tT,tT,fF,fF,tT,fF,fF,fF]
abbrev place11.mk1_3_4 : Array Bool := #[fF,tT,fF,tT,tT,fF,fF,fF]
abbrev place11.mk0_1_2_4 : Array Bool := #[tT,tT,tT,fF,tT,fF,fF,fF]
abbrev place11.mk0_1_2_3_4 : Array Bool := #[tT,tT,tT,tT,tT,fF,fF,fF]
abbrev place11.mk0_1_2_4_6 : Array Bool := #[tT,tT,tT,fF,tT,fF,tT,fF]
abbrev place11.mk0_1_2_3_4_5 : Array Bool := #[tT,tT,tT,tT,tT,tT,fF,fF]
abbrev place11.mk0_1_2_3_4_6 : Array Bool := #[tT,tT,tT,tT,tT,fF,tT,fF]
abbrev place11.mk1_3_4_5 : Array Bool := #[fF,tT,fF,tT,tT,tT,fF,fF]
abbrev place11.mk0_1_3_4_5 : Array Bool := #[tT,tT,fF,tT,tT,tT,fF,fF]
abbrev place11.mk0_1_2_3_4_5_6_7 : Array Bool := #[tT,tT,tT,tT,tT,tT,tT,tT]
set_option maxHeartbeats 8000000 in
set_option maxRecDepth 100000 in
theorem from_ (l : List S29) (A0 : Option Addr) (c0 : Nat) (w0 : World) (hr0 : Kd.C k29 w0 A0 l.length l) (hc0 : l.length ≤ c0) (Y : Nat → Prop) (gyf : Nat) (lby : Array Value) (egy : ∀ args w, (callFunc gyf args).run Tryd.prog w = .ok (.enter gyf args) w) (ct : Bool) (St : List (List Int) → World → Prop)
  (hst1 : ∀ ys (W W' : World), (ct = true ∨ ys = []) → (∀ k, Y k → W'.heap[k]? = W.heap[k]?) → St ys W → St ys W')
  (hst2 : ∀ ys (W : World) (g t : Nat) (cs : Array Value) (u : Value), ¬ Y g → W.heap[g]? = some (.cells cs t (0, 0)) → (t = 40 ∨ t = 79) → St ys W → St ys (W.setCell ⟨g, 0, none⟩ u))
  (hst3 : ∀ ys (W : World), St ys W → St ys W.drew)
  (hy : ∀ ys (ways : List Int) (v : Value) (W : World), (ct = true ∨ ys = []) → (∀ k, Y k → k < W.heap.size) → St ys W → (Kd.int .i64).R 3 W w0.heap.size (fun k => ¬ Y k) v ways → Below w0.heap.size w0 W → Calls Tryd.prog gyf (#[v] ++ lby) W fun e w' => e = .returned (.bool ct) ∧ St (ys ++ [ways]) w' ∧ FrY Y W w' ∧ Below w0.heap.size w0 w')
  (gw gi gy gl gb gf : Nat) (vi : Value) (idx : List Int) (hidx : idx.length < 1000000) : ∀ (m : Nat) (ways : List Int) (boxes : List S26) (ys ps : List (List Int)) (w : World) (vw vb : Value), idx.length = ways.length + m → boxes.length = ways.length → plc_ l idx m ways boxes = some ps → (ct = true ∨ ys = []) →
  PlS Y w w0 gw gi gy gl gb gf vw vw vi (.slice A0 l.length c0) vb vb (.func (.func gyf) #[] lby) (.func (.func 102) #[] #[.pointer (some ⟨gw, 0, none⟩), .pointer (some ⟨gi, 0, none⟩), .pointer (some ⟨gy, 0, none⟩), .pointer (some ⟨gl, 0, none⟩), .pointer (some ⟨gb, 0, none⟩), .pointer (some ⟨gf, 0, none⟩)]) ways idx boxes → St ys w → Below w0.heap.size w0 w →
  Calls Tryd.prog 102 #[.pointer (some ⟨gw, 0, none⟩), .pointer (some ⟨gi, 0, none⟩), .pointer (some ⟨gy, 0, none⟩), .pointer (some ⟨gl, 0, none⟩), .pointer (some ⟨gb, 0, none⟩), .pointer (some ⟨gf, 0, none⟩)] w fun e w' => e = .returned (.bool (resB_ ct ps)) ∧ (∃ vw' vb', PlS Y w' w0 gw gi gy gl gb gf vw' vw' vi (.slice A0 l.length c0) vb' vb' (.func (.func gyf) #[] lby) (.func (.func 102) #[] #[.pointer (some ⟨gw, 0, none⟩), .pointer (some ⟨gi, 0, none⟩), .pointer (some ⟨gy, 0, none⟩), .pointer (some ⟨gl, 0, none⟩), .pointer (some ⟨gb, 0, none⟩), .pointer (some ⟨gf, 0, none⟩)]) ways idx boxes) ∧ St (ys ++ resY_ ct ps) w' ∧ Below w0.heap.size w0 w' := by
 have HR := Aside0.mk hr0
 have HC := Aside0.mk hc0
 have HY := Aside0.mk hy
 have H1 := Aside0.mk hst1
 have H2 := Aside0.mk hst2
 have H3 := Aside0.mk hst3
 have hu1 := Tryd.underlying29
 have hu2 := Tryd.underlying26
 have hu3 := Tryd.underlying79
 have hu4 := Tryd.underlying40
 clear hr0 hc0 hy hst1 hst2 hst3
 intro m
 induction m with
 | zero =>
  intro ways boxes ys ps w vw vb hm hbl hp hys hS hSt hB
  have HS := Aside0.mk hS
  have HT := Aside0.mk hSt
  have HB := Aside0.mk hB
  obtain ⟨A, c, rfl⟩ := Kd.R_slice hS.rW
  obtain ⟨Ai, ci, rfl⟩ := hS.rI.slice_
  obtain ⟨Ab, cb, rfl⟩ := Kd.R_slice hS.rB
  have hcw : w.cell? ⟨gw, 0, none⟩ = some (.slice A ways.length c) := (blk_cell hS.cw 0).trans rfl
  have hci : w.cell? ⟨gi, 0, none⟩ = some (.slice Ai idx.length ci) := (blk_cell hS.ci 0).trans rfl
  obtain rfl : [ways] = ps := by
   unfold plc_ at hp
   exact Option.some.inj hp
  have hq : idx.length = ways.length := by omega
  have n0 : ((ways.length : Int) == (idx.length : Int)) = true := beq_iff_eq.mpr (by omega)
  have n1 : decide ((ways.length : Int) = (idx.length : Int)) = true := decide_eq_true (by omega)
  have n2 : (ways.length = idx.length) = True := eq_true (by omega)
  have n3 : (ways.length == idx.length) = true := beq_iff_eq.mpr (by omega)
  have hcl : slices_CloneInt.f ways = some ways := by
   unfold slices_CloneInt.f
   rw [if_pos (by omega)]
  have HCL := Aside0.mk hcl
  have HYS := Aside0.mk hys
  clear hp hS hSt hB hys hcl hq hm hbl
  go_enter Tryd.func102, Tryd.ntmps102
  go_wp2
  replace HS := Aside0.mk (HS.out.below (below_drew (Below.refl _ w)))
  replace HT := Aside0.mk (H1.out ys w w.drew HYS.out (fun _ _ => rfl) HT.out)
  replace HB := Aside0.mk (below_drew HB.out)
  clear hcw hci
  refine start_ (n := 5) (S := fun w' => w'.cell? ⟨gy, 0, none⟩ = some (.func (.func gyf) #[] lby) ∧ w'.cell? ⟨gw, 0, none⟩ = some (.slice A ways.length c)) (ds := []) place3.mkE (by kernel_rfl) rfl rfl ⟨(blk_cell HS.out.cy 0).trans rfl, (blk_cell HS.out.cw 0).trans rfl⟩ (fun hHeld => ?_); refine with_tabW place3.tab place3.bits (fun HT_ HW_ => ?_)
  generalize w.drew = W at HS HT HB hHeld ⊢
  refine tk_ HT_ HW_ hHeld 0 (some 17) place3.mk0 ?_
  refine tk_ HT_ HW_ hHeld 1 (some 18) place3.mk0_1 ?_
  refine one_ (i := 2) (N := some 19) place3.mk0_1_2 rfl rfl (one_of HT_.out (by kernel_rfl)) (by decide) (fun K hK => ?_)
  refine gs_ Tryd.func103 #[.slice A ways.length c] ?_
  refine (slices_CloneInt.calls A c ways ways _ (Kd.R_reads' HS.out.rW).2.2 (Kd.R_reads' HS.out.rW).2.1 HCL.out).mono ?_
  rintro e W2 ⟨v, rfl, hv, hb⟩
  refine ⟨_, rfl, ?_⟩
  have hv2 := Kd.R_lower (Kd.R_mono (ok' := fun k => ¬ Y k) (Kd.R_bound hv) (fun k hk hY => by have := HS.out.ys k hY; have := hk.2.1; omega)) (below_size HB.out)
  have hT_ := H1.out ys W W2 HYS.out (fun k hk => hb.block k (HS.out.ys k hk)) HT.out
  replace HS := Aside0.mk (HS.out.below hb)
  replace HT := Aside0.mk hT_
  replace HB := Aside0.mk (below_step HB.out hb)
  have HV := Aside0.mk hv2
  clear hb hv hv2 hT_
  refine hK.out _ _ ⟨(blk_cell HS.out.cy 0).trans rfl, (blk_cell HS.out.cw 0).trans rfl⟩ (fun hHeld => ?_)
  clear hK K
  refine na_ ?_
  refine one_ (i := 3) (N := some 20) place3.mk0_1_2_3 rfl rfl (one_of HT_.out (by kernel_rfl)) (by decide) (fun K hK => ?_)
  refine call_ gyf (#[v] ++ lby) (by rfl) rfl ?hrun ?_
  case hrun => first | (go_simp; done) | (go_simp; exact egy _ _)
  refine (HY.out ys ways v W2 HYS.out HS.out.ys HT.out HV.out HB.out).mono ?_
  rintro e W3 ⟨rfl, hT3, hF3, hB3⟩
  refine ⟨_, rfl, ?_⟩
  replace HS := Aside0.mk (HS.out.fr hF3)
  replace HT := Aside0.mk hT3
  replace HB := Aside0.mk hB3
  clear hT3 hF3 hB3
  refine hK.out _ _ ⟨(blk_cell HS.out.cy 0).trans rfl, (blk_cell HS.out.cw 0).trans rfl⟩ (fun hHeld => ?_)
  clear hK K
  refine na_ ?_
  refine pz_ HT_ 4 (some 6) place3.mk0_1_2_3_4 ?_
  refine done_ (done_of HT_.out (by kernel_rfl)) ?_
  go_wp2
  go_ret
  refine ⟨?_, ⟨_, _, HS.out⟩, ?_, HB.out⟩
  ·
   cases ct <;> rfl
  ·
   cases ct <;> exact HT.out
 | succ m ih =>
  intro ways boxes ys ps w vw vb hm hbl hp hys hS hSt hB
  have HS := Aside0.mk hS
  have HT := Aside0.mk hSt
  have HB := Aside0.mk hB
  obtain ⟨A, c, rfl⟩ := Kd.R_slice hS.rW
  obtain ⟨Ai, ci, rfl⟩ := hS.rI.slice_
  obtain ⟨Ab, cb, rfl⟩ := Kd.R_slice hS.rB
  have hcw : w.cell? ⟨gw, 0, none⟩ = some (.slice A ways.length c) := (blk_cell hS.cw 0).trans rfl
  have hci : w.cell? ⟨gi, 0, none⟩ = some (.slice Ai idx.length ci) := (blk_cell hS.ci 0).trans rfl
  unfold plc_ at hp
  by_cases hj : 0 ≤ rd idx (ways.length : Int) ∧ rd idx (ways.length : Int) < (l.length : Int)
  ·
   rw [if_pos hj] at hp
   have n0 : ((ways.length : Int) == (idx.length : Int)) = false := beq_eq_false_iff_ne.mpr (by omega)
   have n1 : decide ((ways.length : Int) = (idx.length : Int)) = false := decide_eq_false (by omega)
   have n2 : (ways.length = idx.length) = False := eq_false (by omega)
   have n3 : (ways.length == idx.length) = false := beq_eq_false_iff_ne.mpr (by omega)
   obtain ⟨ai, e1⟩ := hS.rI.some_ (by omega)
   subst e1
   obtain ⟨al, e2, z1, z2, z3⟩ := at_T29 HR.out (rd idx (ways.length : Int)) hj.1 hj.2
   subst e2
   obtain ⟨j, hjd⟩ : ∃ j, rd idx (ways.length : Int) = j := ⟨_, rfl⟩
   rw [hjd] at hp hj z1 z2 z3
   have HJ := Aside0.mk hjd
   have HN := Aside0.mk (show ways.length < idx.length by omega)
   clear hjd
   generalize rd_T29 l j = x at hp z1 z2 z3
   have q0 : (0 : Int) ≤ (ways.length : Int) := by omega
   have q1 : (ways.length : Int) < (idx.length : Int) := by omega
   have q2 : 0 ≤ j := hj.1
   have q3 : j < (l.length : Int) := hj.2
   have Z1 := Aside0.mk z1
   have Z2 := Aside0.mk z2
   have Z3 := Aside0.mk z3
   have HP := Aside0.mk hp
   have HYS := Aside0.mk hys
   have HM := Aside0.mk hm
   have HBL := Aside0.mk hbl
   have IH := Aside0.mk ih
   clear hp hS hSt hB hys z1 z2 z3 hj hm hbl ih
   go_enter Tryd.func102, Tryd.ntmps102
   go_wp2
   clear hcw hci
   go_loopg [21] 4 (fun gg v21 wr => ∃ (kk : Nat) (acc rest : List (List Int)) (vw vb : Value), kk ≤ 4 ∧ 4 - kk ≤ gg ∧ v21 = .int .i64 kk ∧ Aside0 (catM_ (fun way => (impl_boxFor.f x.f0 x.f1 x.f2 way).bind fun b => (impl_free.f l b.1 b.2.1 b.2.2.1 b.2.2.2).bind fun fr => if fr = true then (hitB_ boxes b.1 b.2.1 b.2.2.1 b.2.2.2).bind fun hit => if hit = true then some [] else plc_ l idx m (ways ++ [way]) (boxes ++ [⟨b.1, b.2.1, b.2.2.1, b.2.2.2⟩]) else some []) ([0, 1, 2, 3].drop kk) = some rest ∧ ps = acc ++ rest) ∧ Aside0 (ct = true ∨ ys ++ acc = []) ∧ Aside0 (PlS Y wr w0 gw gi gy gl gb gf vw vw (.slice (some ai) idx.length ci) (.slice (some al) l.length c0) vb vb (.func (.func gyf) #[] lby) (.func (.func 102) #[] #[.pointer (some ⟨gw, 0, none⟩), .pointer (some ⟨gi, 0, none⟩), .pointer (some ⟨gy, 0, none⟩), .pointer (some ⟨gl, 0, none⟩), .pointer (some ⟨gb, 0, none⟩), .pointer (some ⟨gf, 0, none⟩)]) ways idx boxes) ∧ Aside0 (St (ys ++ acc) wr) ∧ Aside0 (Below w0.heap.size w0 wr))
   case atStart => exact ⟨0, [], ps, _, _, by omega, by omega, rfl, ⟨HP.out, rfl⟩, ⟨by simpa using HYS.out⟩, HS, ⟨by simpa using HT.out⟩, HB⟩
   case round =>
    clear HS HT HB HP HYS
    obtain ⟨kk, acc, rest, vw, vb, hkk, hgg, rfl, HP, HYS, HS, HT, HB⟩ := hrel
    by_cases hlt : kk < 4
    ·
     have hltz : (kk : Int) < 4 := by omega
     have hw1 : wrap64 ((kk : Int) + 1) = ((kk + 1 : Nat) : Int) := by
      unfold wrap64
      omega
     obtain ⟨hp, e1⟩ := HP.out
     have ed : ([0, 1, 2, 3] : List Int).drop kk = (kk : Int) :: ([0, 1, 2, 3] : List Int).drop (kk + 1) := by
      have hk4 : kk = 0 ∨ kk = 1 ∨ kk = 2 ∨ kk = 3 := by omega
      rcases hk4 with rfl | rfl | rfl | rfl <;> rfl
     rw [ed] at hp
     unfold catM_ at hp
     obtain ⟨pa, h1, hp⟩ := Option.bind_eq_some_iff.mp hp
     obtain ⟨rest', h2, hp⟩ := Option.bind_eq_some_iff.mp hp
     obtain rfl := Option.some.inj hp
     (try simp only at h1)
     obtain ⟨⟨b0, b1, b2, b3⟩, hbf, h1⟩ := Option.bind_eq_some_iff.mp h1
     obtain ⟨fr, hfr, h1⟩ := Option.bind_eq_some_iff.mp h1
     (try simp only at hfr)
     (try simp only at h1)
     have HBF := Aside0.mk hbf
     have HFR := Aside0.mk hfr
     have HP2 := Aside0.mk h2
     have HE := Aside0.mk e1
     have HG := Aside0.mk hgg
     obtain ⟨A, c, rfl⟩ := Kd.R_slice HS.out.rW
     obtain ⟨Ab, cb, rfl⟩ := Kd.R_slice HS.out.rB
     clear hbf hfr h2 e1 hgg HP ed hp
     have hcl7 : wr.cell? ⟨gl, 0, none⟩ = some (.slice (some al) l.length c0) := (blk_cell HS.out.cl 0).trans rfl
     go_wp2
     clear hcl7
     have hT_ := H1.out (ys ++ acc) wr wr.drew HYS.out (fun k hk => rfl) HT.out
     replace HT := Aside0.mk hT_
     clear hT_
     replace HS := Aside0.mk (HS.out.below (below_drew (Below.refl _ wr)))
     replace HB := Aside0.mk (below_drew HB.out)
     refine start_ (n := 11) (S := fun w' => w'.cell? ⟨gl, 0, none⟩ = some (.slice (some al) l.length c0) ∧ w'.cell? ⟨gi, 0, none⟩ = some (.slice (some ai) idx.length ci) ∧ w'.cell? (ai.add ways.length) = some (.int .i64 j) ∧ w'.cell? (al.add (j.toNat * 3)) = some (.string x.f0) ∧ w'.cell? ⟨(al.add (j.toNat * 3)).block, (al.add (j.toNat * 3)).off + 1, none⟩ = some (.int .i64 x.f1) ∧ w'.cell? ⟨(al.add (j.toNat * 3)).block, (al.add (j.toNat * 3)).off + 2, none⟩ = some (.int .i64 x.f2)) (ds := []) place7.mkE (by kernel_rfl) rfl rfl ⟨(blk_cell HS.out.cl 0).trans rfl, (blk_cell HS.out.ci 0).trans rfl, HS.out.rI.at_ HB.out HN.out HJ.out, bc_ HB.out Z1.out, bc_ HB.out Z2.out, bc_ HB.out Z3.out⟩ (fun hHeld => ?_); refine with_tabW place7.tab place7.bits (fun HT_ HW_ => ?_)
     generalize wr.drew = W at HS HT HB hHeld ⊢
     refine pz_ HT_ 2 (some 26) place7.mk2 ?_
     refine pz_ HT_ 7 (some 31) place7.mk2_7 ?_
     refine tk_ HT_ HW_ hHeld 0 (some 24) place7.mk0_2_7 ?_
     refine tk_ HT_ HW_ hHeld 1 (some 25) place7.mk0_1_2_7 ?_
     refine pz_ HT_ 3 (some 27) place7.mk0_1_2_3_7 ?_
     refine tk_ HT_ HW_ hHeld 4 (some 28) place7.mk0_1_2_3_4_7 ?_
     refine pz_ HT_ 5 (some 29) place7.mk0_1_2_3_4_5_7 ?_
     refine tk_ HT_ HW_ hHeld 6 (some 30) place7.mk0_1_2_3_4_5_6_7 ?_
     refine join_ (σ := Nat) 1 place7.mk0_1_2_3_4_5_6_7_8_9 (fun s_ => [(32, .agg #[.int .i64 b0, .int .i64 b1, .int .i64 b2, .int .i64 b3]), (9, .pointer (some ⟨s_, 0, none⟩))]) (fun s_ w' => (w'.cell? ⟨gl, 0, none⟩ = some (.slice (some al) l.length c0) ∧ w'.cell? ⟨gi, 0, none⟩ = some (.slice (some ai) idx.length ci) ∧ w'.cell? (ai.add ways.length) = some (.int .i64 j) ∧ w'.cell? (al.add (j.toNat * 3)) = some (.string x.f0) ∧ w'.cell? ⟨(al.add (j.toNat * 3)).block, (al.add (j.toNat * 3)).off + 1, none⟩ = some (.int .i64 x.f1) ∧ w'.cell? ⟨(al.add (j.toNat * 3)).block, (al.add (j.toNat * 3)).off + 2, none⟩ = some (.int .i64 x.f2)) ∧ PlS (fun k => Y k ∨ k = s_) w' w0 gw gi gy gl gb gf (.slice A ways.length c) (.slice A ways.length c) (.slice (some ai) idx.length ci) (.slice (some al) l.length c0) (.slice Ab boxes.length cb) (.slice Ab boxes.length cb) (.func (.func gyf) #[] lby) (.func (.func 102) #[] #[.pointer (some ⟨gw, 0, none⟩), .pointer (some ⟨gi, 0, none⟩), .pointer (some ⟨gy, 0, none⟩), .pointer (some ⟨gl, 0, none⟩), .pointer (some ⟨gb, 0, none⟩), .pointer (some ⟨gf, 0, none⟩)]) ways idx boxes ∧ St (ys ++ acc) w' ∧ Below w0.heap.size w0 w' ∧ w'.heap[s_]? = some (.cells #[.int .i64 0, .int .i64 0, .int .i64 0, .int .i64 0] 26 (0, 0)) ∧ w0.heap.size ≤ s_ ∧ ¬ Y s_) ?_ ?_
     rotate_left
     ·
      intro hCont
      refine two_ (i := 8) (j := 9) (Ni := some 32) (Nj := some 9) place7.mk0_1_2_3_4_5_6_7_8 place7.mk0_1_2_3_4_5_6_7_9 rfl rfl rfl rfl (two_of HT_.out (by kernel_rfl)) (by decide) (by decide) (fun K hK => ?_) (fun K hK => ?_)
      ·
       skip
       refine gs_ Tryd.func59 #[.agg #[.string x.f0, .int .i64 x.f1, .int .i64 x.f2], .int .i64 (kk : Int)] ?_
       with_reducible refine (impl_boxFor.calls x.f0 x.f1 x.f2 (kk : Int) b0 b1 b2 b3 _ HBF.out).mono ?_
       rintro e W1 ⟨rfl, hb⟩
       refine ⟨_, rfl, ?_⟩
       have hT_ := H1.out (ys ++ acc) W W1 HYS.out (fun k hk => (hb).block k (HS.out.ys k hk)) HT.out
       replace HT := Aside0.mk hT_
       clear hT_
       replace HS := Aside0.mk (HS.out.below hb)
       replace HB := Aside0.mk (below_step HB.out hb)
       clear hb
       refine hK.out _ _ ⟨(blk_cell HS.out.cl 0).trans rfl, (blk_cell HS.out.ci 0).trans rfl, HS.out.rI.at_ HB.out HN.out HJ.out, bc_ HB.out Z1.out, bc_ HB.out Z2.out, bc_ HB.out Z3.out⟩ (fun hHeld => ?_)
       clear hK K
       refine na_ ?_
       refine one_ (i := 9) (N := some 9) place7.mk0_1_2_3_4_5_6_7_8_9 rfl rfl (one_of HT_.out (by kernel_rfl)) (by decide) (fun K hK => ?_)
       refine box_step ?hg (N := 9) ?hd (cs := #[.int .i64 0, .int .i64 0, .int .i64 0, .int .i64 0]) (t := 26) ?hr ?_; (case hd => rfl); (case hg => rfl); (case hr => first | (go_simp; done) | (go_simp; rfl))
       intro s_ hg W2 hbox hb
       have hT_ := H1.out (ys ++ acc) W1 W2 HYS.out (fun k hk => hb.block k (HS.out.ys k hk)) HT.out
       replace HT := Aside0.mk hT_
       clear hT_
       have hge : w0.heap.size ≤ s_ := by rw [hg]; exact below_size HB.out
       have hny : ¬ Y s_ := fun y => by have := HS.out.ys s_ y; omega
       replace HS := Aside0.mk (HS.out.grow hb hg (blk_lt hbox))
       replace HB := Aside0.mk (below_step HB.out hb)
       have BX := Aside0.mk hbox
       have GE := Aside0.mk hge
       have NYS := Aside0.mk hny
       clear hb hbox hg hge hny
       refine hK.out _ _ ⟨(blk_cell HS.out.cl 0).trans rfl, (blk_cell HS.out.ci 0).trans rfl, HS.out.rI.at_ HB.out HN.out HJ.out, bc_ HB.out Z1.out, bc_ HB.out Z2.out, bc_ HB.out Z3.out⟩ (fun hHeld => ?_)
       clear hK K
       refine na_ ?_
       exact norm_ (by simp only [putAll, Act.put, List.setIfInBounds_toArray, List.set_cons_zero, List.set_cons_succ]) (hCont s_ _ ⟨hHeld, HS.out, HT.out, HB.out, BX.out, GE.out, NYS.out⟩)
      ·
       skip
       refine box_step ?hg (N := 9) ?hd (cs := #[.int .i64 0, .int .i64 0, .int .i64 0, .int .i64 0]) (t := 26) ?hr ?_; (case hd => rfl); (case hg => rfl); (case hr => first | (go_simp; done) | (go_simp; rfl))
       intro s_ hg W1 hbox hb
       have hT_ := H1.out (ys ++ acc) W W1 HYS.out (fun k hk => hb.block k (HS.out.ys k hk)) HT.out
       replace HT := Aside0.mk hT_
       clear hT_
       have hge : w0.heap.size ≤ s_ := by rw [hg]; exact below_size HB.out
       have hny : ¬ Y s_ := fun y => by have := HS.out.ys s_ y; omega
       replace HS := Aside0.mk (HS.out.grow hb hg (blk_lt hbox))
       replace HB := Aside0.mk (below_step HB.out hb)
       have BX := Aside0.mk hbox
       have GE := Aside0.mk hge
       have NYS := Aside0.mk hny
       clear hb hbox hg hge hny
       refine hK.out _ _ ⟨(blk_cell HS.out.cl 0).trans rfl, (blk_cell HS.out.ci 0).trans rfl, HS.out.rI.at_ HB.out HN.out HJ.out, bc_ HB.out Z1.out, bc_ HB.out Z2.out, bc_ HB.out Z3.out⟩ (fun hHeld => ?_)
       clear hK K
       refine na_ ?_
       refine one_ (i := 8) (N := some 32) place7.mk0_1_2_3_4_5_6_7_8_9 rfl rfl (one_of HT_.out (by kernel_rfl)) (by decide) (fun K hK => ?_)
       refine gs_ Tryd.func59 #[.agg #[.string x.f0, .int .i64 x.f1, .int .i64 x.f2], .int .i64 (kk : Int)] ?_
       with_reducible refine (impl_boxFor.calls x.f0 x.f1 x.f2 (kk : Int) b0 b1 b2 b3 _ HBF.out).mono ?_
       rintro e W2 ⟨rfl, hb⟩
       refine ⟨_, rfl, ?_⟩
       have hT_ := H1.out (ys ++ acc) W1 W2 HYS.out (fun k hk => (hb).block k (HS.out.ys k (.inl hk))) HT.out
       replace HT := Aside0.mk hT_
       clear hT_
       replace HS := Aside0.mk (HS.out.below hb)
       replace HB := Aside0.mk (below_step HB.out hb)
       replace BX := Aside0.mk (bb_ BX.out hb)
       clear hb
       refine hK.out _ _ ⟨(blk_cell HS.out.cl 0).trans rfl, (blk_cell HS.out.ci 0).trans rfl, HS.out.rI.at_ HB.out HN.out HJ.out, bc_ HB.out Z1.out, bc_ HB.out Z2.out, bc_ HB.out Z3.out⟩ (fun hHeld => ?_)
       clear hK K
       refine na_ ?_
       exact norm_ (by simp only [putAll, Act.put, List.setIfInBounds_toArray, List.set_cons_zero, List.set_cons_succ]) (hCont s_ _ ⟨hHeld, HS.out, HT.out, HB.out, BX.out, GE.out, NYS.out⟩)
     clear HS HT HB hHeld
     rintro s_ W3 ⟨hHeld, hS_, hT_, hB_, hX_, GE, hny⟩
     have NYS := Aside0.mk hny
     clear hny
     have HS := Aside0.mk hS_
     have HT := Aside0.mk hT_
     have HB := Aside0.mk hB_
     have BX := Aside0.mk hX_
     clear hS_ hT_ hB_ hX_
     refine nb_ ?_
     refine one_ (i := 10) (N := none) place7.mk0_1_2_3_4_5_6_7_8_9_10 rfl rfl (one_of HT_.out (by kernel_rfl)) (by decide) (fun K hK => ?_)
     have hs0 : W3.cell? ⟨s_, 0, none⟩ = some (.int .i64 0) := (blk_cell BX.out 0).trans rfl
     have hf0 := blk_frozen BX.out 0
     have hs1 : W3.cell? ⟨s_, 1, none⟩ = some (.int .i64 0) := (blk_cell BX.out 1).trans rfl
     have hf1 := blk_frozen BX.out 1
     have hs2 : W3.cell? ⟨s_, 2, none⟩ = some (.int .i64 0) := (blk_cell BX.out 2).trans rfl
     have hf2 := blk_frozen BX.out 2
     have hs3 : W3.cell? ⟨s_, 3, none⟩ = some (.int .i64 0) := (blk_cell BX.out 3).trans rfl
     have hf3 := blk_frozen BX.out 3
     refine skip_ (w1 := ?_) (by rfl) rfl ?_ ?_
     rotate_left
     ·
      go_simp
      rfl
     clear hs0 hs1 hs2 hs3 hf0 hf1 hf2 hf3
     have hk4 := keep4_ W3 s_ (.int .i64 b0) (.int .i64 b1) (.int .i64 b2) (.int .i64 b3)
     have hT_ := H1.out (ys ++ acc) W3 ((((W3.setCell ⟨s_, 0, none⟩ (.int .i64 b0)).setCell ⟨s_, 1, none⟩ (.int .i64 b1)).setCell ⟨s_, 2, none⟩ (.int .i64 b2)).setCell ⟨s_, 3, none⟩ (.int .i64 b3)) HYS.out (fun k hk => hk4.2 k (HS.out.ys k (.inl hk)) (fun e => NYS.out (e ▸ hk)) (by simp)) HT.out
     have hS_ := HS.out.fr (FrY.of_keep hk4 (.inr rfl))
     have hX_ := p4_ BX.out (.int .i64 b0) (.int .i64 b1) (.int .i64 b2) (.int .i64 b3)
     have hB_ := below_set (j := 3) (v := .int .i64 b3) (below_set (j := 2) (v := .int .i64 b2) (below_set (j := 1) (v := .int .i64 b1) (below_set (j := 0) (v := .int .i64 b0) HB.out GE) GE) GE) GE
     clear HS HT HB BX hk4 hHeld
     generalize ((((W3.setCell ⟨s_, 0, none⟩ (.int .i64 b0)).setCell ⟨s_, 1, none⟩ (.int .i64 b1)).setCell ⟨s_, 2, none⟩ (.int .i64 b2)).setCell ⟨s_, 3, none⟩ (.int .i64 b3)) = W4 at hT_ hS_ hX_ hB_ ⊢
     have HS := Aside0.mk hS_
     have HT := Aside0.mk hT_
     have HB := Aside0.mk hB_
     have BX := Aside0.mk hX_
     clear hS_ hT_ hB_ hX_
     refine hK.out _ _ ⟨(blk_cell HS.out.cl 0).trans rfl, (blk_cell HS.out.ci 0).trans rfl, HS.out.rI.at_ HB.out HN.out HJ.out, bc_ HB.out Z1.out, bc_ HB.out Z2.out, bc_ HB.out Z3.out⟩ (fun hHeld => ?_)
     clear hK K
     refine done_ (done_of HT_.out (by kernel_rfl)) ?_
     have hcl : W4.cell? ⟨gl, 0, none⟩ = some (.slice (some al) l.length c0) := (blk_cell HS.out.cl 0).trans rfl
     have hcx : W4.cell? ⟨gb, 0, none⟩ = some (.slice Ab boxes.length cb) := (blk_cell HS.out.cx 0).trans rfl
     have hcz0 : W4.cell? ⟨s_, 0, none⟩ = some (.int .i64 b0) := (blk_cell BX.out 0).trans rfl
     have hcz1 : W4.cell? ⟨s_, 1, none⟩ = some (.int .i64 b1) := (blk_cell BX.out 1).trans rfl
     have hcz2 : W4.cell? ⟨s_, 2, none⟩ = some (.int .i64 b2) := (blk_cell BX.out 2).trans rfl
     have hcz3 : W4.cell? ⟨s_, 3, none⟩ = some (.int .i64 b3) := (blk_cell BX.out 3).trans rfl
     cases fr with
     | false =>
      rw [if_neg (by decide)] at h1
      obtain rfl := Option.some.inj h1
      go_wp2_with ((with_reducible refine gate_callee (f := 67) rfl ?_); refine ga_ (some 35) Tryd.func67 #[.slice (some al) l.length c0, .agg #[.int .i64 b0, .int .i64 b1, .int .i64 b2, .int .i64 b3]] ?_; (with_reducible refine (impl_free.calls _ _ l b0 b1 b2 b3 false _ ?side1 ?side2 HFR.out).mono ?_); (case side1 => exact Kd.C_below HR.out HB.out); (case side2 => exact HC.out); rintro e W5 ⟨rfl, hb⟩; refine ⟨_, rfl, ?_⟩; have hT_ := H1.out (ys ++ acc) W4 W5 HYS.out (fun k hk => hb.block k (HS.out.ys k (.inl hk))) HT.out; replace HT := Aside0.mk hT_; clear hT_; replace HS := Aside0.mk (HS.out.below hb); replace HB := Aside0.mk (below_step HB.out hb); replace BX := Aside0.mk (bb_ BX.out hb); replace hcx := bc_ hb hcx; clear hb hcl hcz0 hcz1 hcz2 hcz3)
      have HSF := Aside0.mk HS.out.shrink
      go_roundg (4 - (kk + 1))
      case measure => have := HG.out; omega
      case rel => exact ⟨kk + 1, acc, rest', _, _, by omega, by omega, by go_num, ⟨HP2.out, by rw [HE.out]; rfl⟩, HYS, HSF, HT, HB⟩
     | true =>
      rw [if_pos rfl] at h1
      obtain ⟨hit, hh, h1⟩ := Option.bind_eq_some_iff.mp h1
      have HH := Aside0.mk hh
      clear hh
      cases hit with
      | true =>
       rw [if_pos rfl] at h1
       obtain rfl := Option.some.inj h1
       go_wp2_with (first | ((with_reducible refine gate_callee (f := 67) rfl ?_); refine ga_ (some 35) Tryd.func67 #[.slice (some al) l.length c0, .agg #[.int .i64 b0, .int .i64 b1, .int .i64 b2, .int .i64 b3]] ?_; (with_reducible refine (impl_free.calls _ _ l b0 b1 b2 b3 true _ ?side1 ?side2 HFR.out).mono ?_); (case side1 => exact Kd.C_below HR.out HB.out); (case side2 => exact HC.out); rintro e W5 ⟨rfl, hb⟩; refine ⟨_, rfl, ?_⟩; have hT_ := H1.out (ys ++ acc) W4 W5 HYS.out (fun k hk => hb.block k (HS.out.ys k (.inl hk))) HT.out; replace HT := Aside0.mk hT_; clear hT_; replace HS := Aside0.mk (HS.out.below hb); replace HB := Aside0.mk (below_step HB.out hb); replace BX := Aside0.mk (bb_ BX.out hb); replace hcx := bc_ hb hcx; clear hb hcl hcz0 hcz1 hcz2 hcz3) | (go_at_call 68; (with_reducible refine (hit_calls Ab cb boxes b0 b1 b2 b3 true _ ?side1 ?side2 HH.out BX.out).mono ?_); (case side1 => exact (Kd.R_reads' HS.out.rB).2.2); (case side2 => exact (Kd.R_reads' HS.out.rB).2.1); rintro e W6 ⟨rfl, hb⟩; have hT_ := H1.out (ys ++ acc) W5 W6 HYS.out (fun k hk => hb.block k (HS.out.ys k (.inl hk))) HT.out; replace HT := Aside0.mk hT_; clear hT_; replace HS := Aside0.mk (HS.out.below hb); replace HB := Aside0.mk (below_step HB.out hb); replace BX := Aside0.mk (bb_ BX.out hb); clear hb hcx))
       have HSF := Aside0.mk HS.out.shrink
       go_roundg (4 - (kk + 1))
       case measure => have := HG.out; omega
       case rel => exact ⟨kk + 1, acc, rest', _, _, by omega, by omega, by go_num, ⟨HP2.out, by rw [HE.out]; rfl⟩, HYS, HSF, HT, HB⟩
      | false =>
       rw [if_neg (by decide)] at h1
       have HPA := Aside0.mk h1
       clear h1
       go_wp2_with (first | ((with_reducible refine gate_callee (f := 67) rfl ?_); refine ga_ (some 35) Tryd.func67 #[.slice (some al) l.length c0, .agg #[.int .i64 b0, .int .i64 b1, .int .i64 b2, .int .i64 b3]] ?_; (with_reducible refine (impl_free.calls _ _ l b0 b1 b2 b3 true _ ?side1 ?side2 HFR.out).mono ?_); (case side1 => exact Kd.C_below HR.out HB.out); (case side2 => exact HC.out); rintro e W5 ⟨rfl, hb⟩; refine ⟨_, rfl, ?_⟩; have hT_ := H1.out (ys ++ acc) W4 W5 HYS.out (fun k hk => hb.block k (HS.out.ys k (.inl hk))) HT.out; replace HT := Aside0.mk hT_; clear hT_; replace HS := Aside0.mk (HS.out.below hb); replace HB := Aside0.mk (below_step HB.out hb); replace BX := Aside0.mk (bb_ BX.out hb); replace hcx := bc_ hb hcx; clear hb hcl hcz0 hcz1 hcz2 hcz3) | (go_at_call 68; (with_reducible refine (hit_calls Ab cb boxes b0 b1 b2 b3 false _ ?side1 ?side2 HH.out BX.out).mono ?_); (case side1 => exact (Kd.R_reads' HS.out.rB).2.2); (case side2 => exact (Kd.R_reads' HS.out.rB).2.1); rintro e W6 ⟨rfl, hb⟩; have hT_ := H1.out (ys ++ acc) W5 W6 HYS.out (fun k hk => hb.block k (HS.out.ys k (.inl hk))) HT.out; replace HT := Aside0.mk hT_; clear hT_; replace HS := Aside0.mk (HS.out.below hb); replace HB := Aside0.mk (below_step HB.out hb); replace BX := Aside0.mk (bb_ BX.out hb); clear hb hcx))
       have hT_ := H1.out (ys ++ acc) W6 W6.drew HYS.out (fun k hk => rfl) HT.out
       replace HT := Aside0.mk hT_
       clear hT_
       replace HS := Aside0.mk (HS.out.below (below_drew (Below.refl _ W6)))
       replace HB := Aside0.mk (below_drew HB.out)
       replace BX := Aside0.mk (blk_drew BX.out)
       refine start_ (n := 10) (S := fun w' => w'.cell? ⟨gw, 0, none⟩ = some (.slice A ways.length c) ∧ w'.cell? ⟨gb, 0, none⟩ = some (.slice Ab boxes.length cb) ∧ w'.cell? ⟨s_, 0, none⟩ = some (.int .i64 b0) ∧ w'.cell? ⟨s_, 1, none⟩ = some (.int .i64 b1) ∧ w'.cell? ⟨s_, 2, none⟩ = some (.int .i64 b2) ∧ w'.cell? ⟨s_, 3, none⟩ = some (.int .i64 b3)) (ds := [8, 9]) place9.mkE (by kernel_rfl) rfl rfl ⟨(blk_cell HS.out.cw 0).trans rfl, (blk_cell HS.out.cx 0).trans rfl, (blk_cell BX.out 0).trans rfl, (blk_cell BX.out 1).trans rfl, (blk_cell BX.out 2).trans rfl, (blk_cell BX.out 3).trans rfl⟩ (fun hHeld => ?_); refine with_tabW place9.tab place9.bits (fun HT_ HW_ => ?_)
       generalize W6.drew = W7 at HS HT HB BX hHeld ⊢
       refine pz_ HT_ 1 (some 43) place9.mk1 ?_
       refine tk_ HT_ HW_ hHeld 0 (some 42) place9.mk0_1 ?_
       refine tk_ HT_ HW_ hHeld 4 (some 46) place9.mk0_1_4 ?_
       refine tk_ HT_ HW_ hHeld 5 (some 47) place9.mk0_1_4_5 ?_
       refine join_ (σ := Nat × Nat × Option Addr × Nat) 3 place9.mk0_1_2_3_4_5_6 (fun s => [(44, .slice (some ⟨s.1, 0, none⟩) 1 1), (48, .slice (some ⟨s.2.1, 0, none⟩) 1 1), (45, .slice s.2.2.1 (ways.length + 1) s.2.2.2)]) (fun s w' => (w'.cell? ⟨gw, 0, none⟩ = some (.slice A ways.length c) ∧ w'.cell? ⟨gb, 0, none⟩ = some (.slice Ab boxes.length cb) ∧ w'.cell? ⟨s_, 0, none⟩ = some (.int .i64 b0) ∧ w'.cell? ⟨s_, 1, none⟩ = some (.int .i64 b1) ∧ w'.cell? ⟨s_, 2, none⟩ = some (.int .i64 b2) ∧ w'.cell? ⟨s_, 3, none⟩ = some (.int .i64 b3)) ∧ PlS (fun k => Y k ∨ k = s_) w' w0 gw gi gy gl gb gf (.slice A ways.length c) (.slice s.2.2.1 (ways.length + 1) s.2.2.2) (.slice (some ai) idx.length ci) (.slice (some al) l.length c0) (.slice Ab boxes.length cb) (.slice Ab boxes.length cb) (.func (.func gyf) #[] lby) (.func (.func 102) #[] #[.pointer (some ⟨gw, 0, none⟩), .pointer (some ⟨gi, 0, none⟩), .pointer (some ⟨gy, 0, none⟩), .pointer (some ⟨gl, 0, none⟩), .pointer (some ⟨gb, 0, none⟩), .pointer (some ⟨gf, 0, none⟩)]) (ways ++ [(kk : Int)]) idx boxes ∧ St (ys ++ acc) w' ∧ Below w0.heap.size w0 w' ∧ w'.heap[s_]? = some (.cells #[.int .i64 b0, .int .i64 b1, .int .i64 b2, .int .i64 b3] 26 (0, 0)) ∧ w'.heap[s.2.1]? = some (.cells #[.int .i64 b0, .int .i64 b1, .int .i64 b2, .int .i64 b3] 26 (0, 0))) ?_ ?_
       rotate_left
       ·
        intro hCont; refine two_ (i := 2) (j := 6) (Ni := some 44) (Nj := some 48) place9.mk0_1_2_4_5 place9.mk0_1_4_5_6 rfl rfl rfl rfl (two_of HT_.out (by kernel_rfl)) (by decide) (by decide) (fun K hK => ?_) (fun K hK => ?_)
        ·
         skip; refine lit_step ?hg (N := 44) ?hd (cs := #[.int .i64 (kk : Int)]) (t := 3) (n := 1) ?hr ?_; (case hd => rfl); (case hg => rfl); (case hr => first | (go_simp; done) | (go_simp; rfl)); intro g2 hg W8 hbox hb; have hT_ := H1.out (ys ++ acc) W7 W8 HYS.out (fun k hk => (hb).block k (HS.out.ys k (.inl hk))) HT.out; replace HT := Aside0.mk hT_; clear hT_; replace HS := Aside0.mk (HS.out.below hb); replace HB := Aside0.mk (below_step HB.out hb); replace BX := Aside0.mk (bb_ BX.out hb); have B2 := Aside0.mk hbox; clear hb hbox hg; refine hK.out _ _ ⟨(blk_cell HS.out.cw 0).trans rfl, (blk_cell HS.out.cx 0).trans rfl, (blk_cell BX.out 0).trans rfl, (blk_cell BX.out 1).trans rfl, (blk_cell BX.out 2).trans rfl, (blk_cell BX.out 3).trans rfl⟩ (fun hHeld => ?_); clear hK K; refine na_ ?_; refine two_ (i := 3) (j := 6) (Ni := some 45) (Nj := some 48) place9.mk0_1_2_3_4_5 place9.mk0_1_2_4_5_6 rfl rfl rfl rfl (two_of HT_.out (by kernel_rfl)) (by decide) (by decide) (fun K hK => ?_) (fun K hK => ?_)
         ·
          skip; refine Kd.R_append_rows_step (Kd.int .i64) (Rr := (Kd.int .i64).K W8) (w0 := w0) w0.heap.size (by rfl) (.tmp 42) (.tmp 44) 40 3 (.int .i64 0) 8 rfl Tryd.underlying40 info3 rfl (by decide) (by omega) (.slice A ways.length c) ways [(kk : Int)] (some ⟨g2, 0, none⟩) 1 1 (fun k => ¬ (Y k ∨ k = s_)) (fun _ => False) rfl rfl HS.out.rW (C_int1_ B2.out) (fun _ _ h => h) (fun _ h => h.elim) (fun k hk hY => by have := HS.out.ys k hY; omega) HB.out (below_size HB.out) (by have := HN.out; omega) ?_; intro v1 W9 ho hB1 hg hat; obtain ⟨A1, c1, rfl⟩ := Kd.R_slice ho; simp only [List.length_append, List.length_singleton] at ho hat ⊢; have hT_ := H1.out (ys ++ acc) W8 W9 HYS.out (fun k hk => hg.block k (HS.out.ys k (.inl hk)) (fun he => HS.out.rW.1 k he.symm (.inl hk))) HT.out; replace HT := Aside0.mk hT_; clear hT_; replace BX := Aside0.mk (blk_grown BX.out hg (fun he => HS.out.rW.1 s_ he.symm (.inr rfl))); replace HS := Aside0.mk (HS.out.appW ho hg hat); replace HB := Aside0.mk hB1; clear ho hB1 hg hat; refine hK.out _ _ ⟨(blk_cell HS.out.cw 0).trans rfl, (blk_cell HS.out.cx 0).trans rfl, (blk_cell BX.out 0).trans rfl, (blk_cell BX.out 1).trans rfl, (blk_cell BX.out 2).trans rfl, (blk_cell BX.out 3).trans rfl⟩ (fun hHeld => ?_); clear hK K; refine na_ ?_; refine one_ (i := 6) (N := some 48) place9.mk0_1_2_3_4_5_6 rfl rfl (one_of HT_.out (by kernel_rfl)) (by decide) (fun K hK => ?_); refine lit_step ?hg (N := 48) ?hd (cs := #[.int .i64 b0, .int .i64 b1, .int .i64 b2, .int .i64 b3]) (t := 26) (n := 1) ?hr ?_; (case hd => rfl); (case hg => rfl); (case hr => first | (go_simp; done) | (go_simp; rfl)); intro g6 hg W10 hbox hb; have hT_ := H1.out (ys ++ acc) W9 W10 HYS.out (fun k hk => (hb).block k (HS.out.ys k (.inl hk))) HT.out; replace HT := Aside0.mk hT_; clear hT_; replace HS := Aside0.mk (HS.out.below hb); replace HB := Aside0.mk (below_step HB.out hb); replace BX := Aside0.mk (bb_ BX.out hb); have B6 := Aside0.mk hbox; clear hb hbox hg; refine hK.out _ _ ⟨(blk_cell HS.out.cw 0).trans rfl, (blk_cell HS.out.cx 0).trans rfl, (blk_cell BX.out 0).trans rfl, (blk_cell BX.out 1).trans rfl, (blk_cell BX.out 2).trans rfl, (blk_cell BX.out 3).trans rfl⟩ (fun hHeld => ?_); clear hK K; refine na_ ?_; exact norm_ (by simp only [putAll, Act.put, List.setIfInBounds_toArray, List.set_cons_zero, List.set_cons_succ]) (hCont (g2, g6, A1, c1) _ ⟨hHeld, HS.out, HT.out, HB.out, BX.out, B6.out⟩)
         ·
          skip; refine lit_step ?hg (N := 48) ?hd (cs := #[.int .i64 b0, .int .i64 b1, .int .i64 b2, .int .i64 b3]) (t := 26) (n := 1) ?hr ?_; (case hd => rfl); (case hg => rfl); (case hr => first | (go_simp; done) | (go_simp; rfl)); intro g6 hg W9 hbox hb; have hT_ := H1.out (ys ++ acc) W8 W9 HYS.out (fun k hk => (hb).block k (HS.out.ys k (.inl hk))) HT.out; replace HT := Aside0.mk hT_; clear hT_; replace HS := Aside0.mk (HS.out.below hb); replace HB := Aside0.mk (below_step HB.out hb); replace BX := Aside0.mk (bb_ BX.out hb); replace B2 := Aside0.mk (bb_ B2.out hb); have B6 := Aside0.mk hbox; clear hb hbox hg; refine hK.out _ _ ⟨(blk_cell HS.out.cw 0).trans rfl, (blk_cell HS.out.cx 0).trans rfl, (blk_cell BX.out 0).trans rfl, (blk_cell BX.out 1).trans rfl, (blk_cell BX.out 2).trans rfl, (blk_cell BX.out 3).trans rfl⟩ (fun hHeld => ?_); clear hK K; refine na_ ?_; refine one_ (i := 3) (N := some 45) place9.mk0_1_2_3_4_5_6 rfl rfl (one_of HT_.out (by kernel_rfl)) (by decide) (fun K hK => ?_); refine Kd.R_append_rows_step (Kd.int .i64) (Rr := (Kd.int .i64).K W9) (w0 := w0) w0.heap.size (by rfl) (.tmp 42) (.tmp 44) 40 3 (.int .i64 0) 8 rfl Tryd.underlying40 info3 rfl (by decide) (by omega) (.slice A ways.length c) ways [(kk : Int)] (some ⟨g2, 0, none⟩) 1 1 (fun k => ¬ (Y k ∨ k = s_)) (fun _ => False) rfl rfl HS.out.rW (C_int1_ B2.out) (fun _ _ h => h) (fun _ h => h.elim) (fun k hk hY => by have := HS.out.ys k hY; omega) HB.out (below_size HB.out) (by have := HN.out; omega) ?_; intro v1 W10 ho hB1 hg hat; obtain ⟨A1, c1, rfl⟩ := Kd.R_slice ho; simp only [List.length_append, List.length_singleton] at ho hat ⊢; have hT_ := H1.out (ys ++ acc) W9 W10 HYS.out (fun k hk => hg.block k (HS.out.ys k (.inl hk)) (fun he => HS.out.rW.1 k he.symm (.inl hk))) HT.out; replace HT := Aside0.mk hT_; clear hT_; replace BX := Aside0.mk (blk_grown BX.out hg (fun he => HS.out.rW.1 s_ he.symm (.inr rfl))); replace B6 := Aside0.mk (blk_grown B6.out hg (own_ne (Kd.R_own HS.out.rW).choose_spec B6.out (by decide))); replace HS := Aside0.mk (HS.out.appW ho hg hat); replace HB := Aside0.mk hB1; clear ho hB1 hg hat; refine hK.out _ _ ⟨(blk_cell HS.out.cw 0).trans rfl, (blk_cell HS.out.cx 0).trans rfl, (blk_cell BX.out 0).trans rfl, (blk_cell BX.out 1).trans rfl, (blk_cell BX.out 2).trans rfl, (blk_cell BX.out 3).trans rfl⟩ (fun hHeld => ?_); clear hK K; refine na_ ?_; exact norm_ (by simp only [putAll, Act.put, List.setIfInBounds_toArray, List.set_cons_zero, List.set_cons_succ]) (hCont (g2, g6, A1, c1) _ ⟨hHeld, HS.out, HT.out, HB.out, BX.out, B6.out⟩)
        ·
         skip; refine lit_step ?hg (N := 48) ?hd (cs := #[.int .i64 b0, .int .i64 b1, .int .i64 b2, .int .i64 b3]) (t := 26) (n := 1) ?hr ?_; (case hd => rfl); (case hg => rfl); (case hr => first | (go_simp; done) | (go_simp; rfl)); intro g6 hg W8 hbox hb; have hT_ := H1.out (ys ++ acc) W7 W8 HYS.out (fun k hk => (hb).block k (HS.out.ys k (.inl hk))) HT.out; replace HT := Aside0.mk hT_; clear hT_; replace HS := Aside0.mk (HS.out.below hb); replace HB := Aside0.mk (below_step HB.out hb); replace BX := Aside0.mk (bb_ BX.out hb); have B6 := Aside0.mk hbox; clear hb hbox hg; refine hK.out _ _ ⟨(blk_cell HS.out.cw 0).trans rfl, (blk_cell HS.out.cx 0).trans rfl, (blk_cell BX.out 0).trans rfl, (blk_cell BX.out 1).trans rfl, (blk_cell BX.out 2).trans rfl, (blk_cell BX.out 3).trans rfl⟩ (fun hHeld => ?_); clear hK K; refine na_ ?_; refine one_ (i := 2) (N := some 44) place9.mk0_1_2_4_5_6 rfl rfl (one_of HT_.out (by kernel_rfl)) (by decide) (fun K hK => ?_); refine lit_step ?hg (N := 44) ?hd (cs := #[.int .i64 (kk : Int)]) (t := 3) (n := 1) ?hr ?_; (case hd => rfl); (case hg => rfl); (case hr => first | (go_simp; done) | (go_simp; rfl)); intro g2 hg W9 hbox hb; have hT_ := H1.out (ys ++ acc) W8 W9 HYS.out (fun k hk => (hb).block k (HS.out.ys k (.inl hk))) HT.out; replace HT := Aside0.mk hT_; clear hT_; replace HS := Aside0.mk (HS.out.below hb); replace HB := Aside0.mk (below_step HB.out hb); replace BX := Aside0.mk (bb_ BX.out hb); replace B6 := Aside0.mk (bb_ B6.out hb); have B2 := Aside0.mk hbox; clear hb hbox hg; refine hK.out _ _ ⟨(blk_cell HS.out.cw 0).trans rfl, (blk_cell HS.out.cx 0).trans rfl, (blk_cell BX.out 0).trans rfl, (blk_cell BX.out 1).trans rfl, (blk_cell BX.out 2).trans rfl, (blk_cell BX.out 3).trans rfl⟩ (fun hHeld => ?_); clear hK K; refine na_ ?_; refine one_ (i := 3) (N := some 45) place9.mk0_1_2_3_4_5_6 rfl rfl (one_of HT_.out (by kernel_rfl)) (by decide) (fun K hK => ?_); refine Kd.R_append_rows_step (Kd.int .i64) (Rr := (Kd.int .i64).K W9) (w0 := w0) w0.heap.size (by rfl) (.tmp 42) (.tmp 44) 40 3 (.int .i64 0) 8 rfl Tryd.underlying40 info3 rfl (by decide) (by omega) (.slice A ways.length c) ways [(kk : Int)] (some ⟨g2, 0, none⟩) 1 1 (fun k => ¬ (Y k ∨ k = s_)) (fun _ => False) rfl rfl HS.out.rW (C_int1_ B2.out) (fun _ _ h => h) (fun _ h => h.elim) (fun k hk hY => by have := HS.out.ys k hY; omega) HB.out (below_size HB.out) (by have := HN.out; omega) ?_; intro v1 W10 ho hB1 hg hat; obtain ⟨A1, c1, rfl⟩ := Kd.R_slice ho; simp only [List.length_append, List.length_singleton] at ho hat ⊢; have hT_ := H1.out (ys ++ acc) W9 W10 HYS.out (fun k hk => hg.block k (HS.out.ys k (.inl hk)) (fun he => HS.out.rW.1 k he.symm (.inl hk))) HT.out; replace HT := Aside0.mk hT_; clear hT_; replace BX := Aside0.mk (blk_grown BX.out hg (fun he => HS.out.rW.1 s_ he.symm (.inr rfl))); replace B6 := Aside0.mk (blk_grown B6.out hg (own_ne (Kd.R_own HS.out.rW).choose_spec B6.out (by decide))); replace HS := Aside0.mk (HS.out.appW ho hg hat); replace HB := Aside0.mk hB1; clear ho hB1 hg hat; refine hK.out _ _ ⟨(blk_cell HS.out.cw 0).trans rfl, (blk_cell HS.out.cx 0).trans rfl, (blk_cell BX.out 0).trans rfl, (blk_cell BX.out 1).trans rfl, (blk_cell BX.out 2).trans rfl, (blk_cell BX.out 3).trans rfl⟩ (fun hHeld => ?_); clear hK K; refine na_ ?_; exact norm_ (by simp only [putAll, Act.put, List.setIfInBounds_toArray, List.set_cons_zero, List.set_cons_succ]) (hCont (g2, g6, A1, c1) _ ⟨hHeld, HS.out, HT.out, HB.out, BX.out, B6.out⟩)
       clear HS HT HB BX hHeld
       rintro ⟨g2, g6, A1, c1⟩ W11 ⟨hHeld, hS_, hT_, hB_, hX_, hX6⟩
       simp only at hHeld hS_ hT_ hB_ hX_ hX6
       have HS := Aside0.mk hS_
       have HT := Aside0.mk hT_
       have HB := Aside0.mk hB_
       have BX := Aside0.mk hX_
       clear hS_ hT_ hB_ hX_
       refine nb_ ?_
       refine one_ (i := 7) (N := some 49) place9.mk0_1_2_3_4_5_6_7 rfl rfl (one_of HT_.out (by kernel_rfl)) (by decide) (fun K hK => ?_)
       refine Kd.R_append_rows_step k26 (Rr := k26.K W11) (w0 := w0) w0.heap.size (by rfl) (.tmp 46) (.tmp 48) 79 26 (.agg #[(.int .i64 0), (.int .i64 0), (.int .i64 0), (.int .i64 0)]) 32 rfl Tryd.underlying79 info26 rfl (by decide) (by omega) (.slice Ab boxes.length cb) boxes [(⟨b0, b1, b2, b3⟩ : S26)] (some ⟨g6, 0, none⟩) 1 1 (fun k => ¬ (Y k ∨ k = s_)) (fun _ => False) rfl rfl HS.out.rB (C_box1_ hX6) (fun x_ cs_ h_ => by obtain rfl := k26_open h_; exact k26_mkM _ _ _ x_) (fun _ h => h.elim) (fun k hk hY => by have := HS.out.ys k hY; omega) HB.out (below_size HB.out) (by have := HN.out; have := HBL.out; omega) ?_
       intro v2 W12 ho hB1 hg hat
       obtain ⟨A2, c2, rfl⟩ := Kd.R_slice ho
       simp only [List.length_append, List.length_singleton] at ho hat ⊢
       have hT_ := H1.out (ys ++ acc) W11 W12 HYS.out (fun k hk => hg.block k (HS.out.ys k (.inl hk)) (fun he => HS.out.rB.1 k he.symm (.inl hk))) HT.out
       replace HT := Aside0.mk hT_
       clear hT_
       replace BX := Aside0.mk (blk_grown BX.out hg (fun he => HS.out.rB.1 s_ he.symm (.inr rfl)))
       replace HS := Aside0.mk (HS.out.appB ho hg hat)
       replace HB := Aside0.mk hB1
       clear ho hB1 hg hat hX6
       refine hK.out _ _ ⟨(blk_cell HS.out.cw 0).trans rfl, (blk_cell HS.out.cx 0).trans rfl, (blk_cell BX.out 0).trans rfl, (blk_cell BX.out 1).trans rfl, (blk_cell BX.out 2).trans rfl, (blk_cell BX.out 3).trans rfl⟩ (fun hHeld => ?_)
       clear hK K
       refine na_ ?_
       clear BX hHeld
       refine last_ (i := 8) (N := none) place9.mk0_1_2_3_4_5_6_7_8 rfl rfl (one_of HT_.out (by kernel_rfl)) (by decide) (fun K hK => ?_)
       have hs9 : W12.cell? ⟨gw, 0, none⟩ = some (.slice A ways.length c) := (blk_cell HS.out.cw 0).trans rfl
       have hfs9 := blk_frozen HS.out.cw 0
       refine skip_ (w1 := ?_) (by rfl) rfl ?_ ?_
       rotate_left
       ·
        go_simp; rfl
       refine hK.out _ _ ?_
       clear hK K hs9 hfs9
       have hT_ := H2.out (ys ++ acc) W12 gw _ _ (.slice A1 (ways.length + 1) c1) (fun y => HS.out.yw (.inl y)) HS.out.cw (.inl rfl) HT.out
       have hS_ := HS.out.setW
       have hB_ := below_set (j := 0) (v := (.slice A1 (ways.length + 1) c1)) HB.out HS.out.bw
       clear HS HT HB
       generalize W12.setCell ⟨gw, 0, none⟩ (.slice A1 (ways.length + 1) c1) = W13 at hT_ hS_ hB_ ⊢
       have HS := Aside0.mk hS_
       have HT := Aside0.mk hT_
       have HB := Aside0.mk hB_
       clear hT_ hS_ hB_
       refine last_ (i := 9) (N := none) place9.mk0_1_2_3_4_5_6_7_8_9 rfl rfl (one_of HT_.out (by kernel_rfl)) (by decide) (fun K hK => ?_)
       have hs9 : W13.cell? ⟨gb, 0, none⟩ = some (.slice Ab boxes.length cb) := (blk_cell HS.out.cx 0).trans rfl
       have hfs9 := blk_frozen HS.out.cx 0
       refine skip_ (w1 := ?_) (by rfl) rfl ?_ ?_
       rotate_left
       ·
        go_simp; rfl
       refine hK.out _ _ ?_
       clear hK K hs9 hfs9
       have hT_ := H2.out (ys ++ acc) W13 gb _ _ (.slice A2 (boxes.length + 1) c2) (fun y => HS.out.yb (.inl y)) HS.out.cx (.inr rfl) HT.out
       have hS_ := HS.out.setB
       have hB_ := below_set (j := 0) (v := (.slice A2 (boxes.length + 1) c2)) HB.out HS.out.bb
       clear HS HT HB
       generalize W13.setCell ⟨gb, 0, none⟩ (.slice A2 (boxes.length + 1) c2) = W14 at hT_ hS_ hB_ ⊢
       have HS := Aside0.mk hS_
       have HT := Aside0.mk hT_
       have HB := Aside0.mk hB_
       clear hT_ hS_ hB_
       refine done_ (done_of HT_.out (by kernel_rfl)) ?_
       replace HS := Aside0.mk HS.out.shrink
       have hcf : W14.cell? ⟨gf, 0, none⟩ = some (.func (.func 102) #[] #[.pointer (some ⟨gw, 0, none⟩), .pointer (some ⟨gi, 0, none⟩), .pointer (some ⟨gy, 0, none⟩), .pointer (some ⟨gl, 0, none⟩), .pointer (some ⟨gb, 0, none⟩), .pointer (some ⟨gf, 0, none⟩)]) := (blk_cell HS.out.cf 0).trans rfl
       go_wp2_with (go_at_call 102; (refine (IH.out (ways ++ [(kk : Int)]) (boxes ++ [(⟨b0, b1, b2, b3⟩ : S26)]) (ys ++ acc) pa _ _ _ ?i1 ?i2 HPA.out HYS.out HS.out HT.out HB.out).mono ?_); (case i1 => have := HM.out; rw [List.length_append, List.length_singleton]; omega); (case i2 => have := HBL.out; rw [List.length_append, List.length_append, List.length_singleton, List.length_singleton]; omega); rintro e W15 ⟨rfl, ⟨vw', vb', hS_⟩, hT_, hB_⟩; clear HS HT HB hcf; have HS := Aside0.mk hS_; have HT := Aside0.mk hT_; have HB := Aside0.mk hB_; clear hS_ hT_ hB_)
       obtain ⟨A3, c3, rfl⟩ := Kd.R_slice HS.out.rW
       obtain ⟨A4, c4, rfl⟩ := Kd.R_slice HS.out.rB
       have hl3 := (Kd.R_reads' HS.out.rW).2.1
       have hl4 := (Kd.R_reads' HS.out.rB).2.1
       simp only [List.length_append, List.length_singleton] at hl3 hl4 ⊢
       replace HS := Aside0.mk (by have := HS.out; simp only [List.length_append, List.length_singleton] at this; exact this)
       have hbl := HBL.out
       have q5 : (ways.length : Int) ≤ (c3 : Int) := by omega
       have q6 : (ways.length : Int) ≤ (c4 : Int) := by omega
       clear hl3 hl4 hbl
       obtain ⟨bm, hbm⟩ : ∃ bm, resB_ ct pa = bm := ⟨_, rfl⟩
       rw [hbm]
       have HBM := Aside0.mk hbm
       clear hbm
       have hTd : St (ys ++ acc ++ resY_ ct pa) W15.drew := by
        exact H3.out _ _ HT.out
       have HT2 := Aside0.mk hTd
       clear HT hTd
       replace HS := Aside0.mk (HS.out.below (below_drew (Below.refl _ W15)))
       replace HB := Aside0.mk (below_drew HB.out)
       refine start_ (n := 8) (S := fun w' => True) (ds := []) place11.mkE (by kernel_rfl) rfl rfl trivial (fun hHeld => ?_); refine with_tabW place11.tab place11.bits (fun HT_ HW_ => ?_)
       clear hHeld
       generalize W15.drew = W16 at HS HT2 HB ⊢
       have hbl := HBL.out
       have hS2 := (HS.out.cutW (m := ways.length) (by rw [List.length_append]; omega)).cutB (m := ways.length) (by rw [List.length_append]; omega)
       rw [List.take_left' rfl, List.take_left' hbl] at hS2
       clear HS hbl
       have HS := Aside0.mk hS2
       have HT := Aside0.mk HT2.out
       clear hS2 HT2
       have hgw : W16.cell? ⟨gw, 0, none⟩ = some (.slice A3 (ways.length + 1) c3) := (blk_cell HS.out.cw 0).trans rfl
       have hgb : W16.cell? ⟨gb, 0, none⟩ = some (.slice A4 (boxes.length + 1) c4) := (blk_cell HS.out.cx 0).trans rfl
       have hgf := blk_frozen HS.out.cw 0
       have hgb2 : (W16.setCell ⟨gw, 0, none⟩ (.slice A3 ways.length c3)).cell? ⟨gb, 0, none⟩ = some (.slice A4 (boxes.length + 1) c4) := (cell_far (p := ⟨gw, 0, none⟩) (blk_ne HS.out.cx HS.out.cw (by decide)) _).trans hgb
       refine pz_ HT_ 1 (some 53) place11.mk1 ?_
       refine pz_ HT_ 4 (some 56) place11.mk1_4 ?_
       refine join_ (σ := Unit) 1 place11.mk0_1_2_3_4_5_6 (fun _ => [(52, (.slice A3 (ways.length + 1) c3)), (54, (.slice A3 ways.length c3)), (55, (.slice A4 (boxes.length + 1) c4)), (57, (.slice A4 ways.length c4))]) (fun _ w' => w' = W16.setCell ⟨gw, 0, none⟩ (.slice A3 ways.length c3)) ?_ ?_
       rotate_left
       ·
        intro hCont; refine two_ (i := 0) (j := 3) (Ni := some 52) (Nj := some 55) place11.mk0_1_4 place11.mk1_3_4 rfl rfl rfl rfl (two_of HT_.out (by kernel_rfl)) (by decide) (by decide) (fun K hK => ?_) (fun K hK => ?_)
        ·
         skip; refine value_ (w1 := ?_) (v := ?_) (by rfl) rfl ?_ ?_; rotate_left 2
         ·
          go_simp
          constructor
          ·
           rfl
          ·
           rfl
         refine hK.out _ _ trivial (fun _ => ?_); clear hK K; refine na_ ?_; refine pz_ HT_ 2 (some 54) place11.mk0_1_2_4 ?_; refine two_ (i := 3) (j := 6) (Ni := some 55) (Nj := none) place11.mk0_1_2_3_4 place11.mk0_1_2_4_6 rfl rfl rfl rfl (two_of HT_.out (by kernel_rfl)) (by decide) (by decide) (fun K hK => ?_) (fun K hK => ?_)
         ·
          skip; refine value_ (w1 := ?_) (v := ?_) (by rfl) rfl ?_ ?_; rotate_left 2
          ·
           go_simp
           constructor
           ·
            rfl
           ·
            rfl
          refine hK.out _ _ trivial (fun _ => ?_); clear hK K; refine na_ ?_; refine pz_ HT_ 5 (some 57) place11.mk0_1_2_3_4_5 ?_; refine one_ (i := 6) (N := none) place11.mk0_1_2_3_4_5_6 rfl rfl (one_of HT_.out (by kernel_rfl)) (by decide) (fun K hK => ?_); refine skip_ (w1 := ?_) (by rfl) rfl ?_ ?_; rotate_left
          ·
           go_simp; rfl
          refine hK.out _ _ trivial (fun _ => ?_); clear hK K; exact norm_ (by simp only [putAll, Act.put, List.setIfInBounds_toArray, List.set_cons_zero, List.set_cons_succ]) (hCont () _ rfl)
         ·
          skip; refine skip_ (w1 := ?_) (by rfl) rfl ?_ ?_; rotate_left
          ·
           go_simp; rfl
          refine hK.out _ _ trivial (fun _ => ?_); clear hK K; refine one_ (i := 3) (N := some 55) place11.mk0_1_2_3_4_6 rfl rfl (one_of HT_.out (by kernel_rfl)) (by decide) (fun K hK => ?_); refine value_ (w1 := ?_) (v := ?_) (by rfl) rfl ?_ ?_; rotate_left 2
          ·
           go_simp
           constructor
           ·
            rfl
           ·
            rfl
          refine hK.out _ _ trivial (fun _ => ?_); clear hK K; refine na_ ?_; refine pz_ HT_ 5 (some 57) place11.mk0_1_2_3_4_5_6 ?_; exact norm_ (by simp only [putAll, Act.put, List.setIfInBounds_toArray, List.set_cons_zero, List.set_cons_succ]) (hCont () _ rfl)
        ·
         skip; refine value_ (w1 := ?_) (v := ?_) (by rfl) rfl ?_ ?_; rotate_left 2
         ·
          go_simp
          constructor
          ·
           rfl
          ·
           rfl
         refine hK.out _ _ trivial (fun _ => ?_); clear hK K; refine na_ ?_; refine pz_ HT_ 5 (some 57) place11.mk1_3_4_5 ?_; refine one_ (i := 0) (N := some 52) place11.mk0_1_3_4_5 rfl rfl (one_of HT_.out (by kernel_rfl)) (by decide) (fun K hK => ?_); refine value_ (w1 := ?_) (v := ?_) (by rfl) rfl ?_ ?_; rotate_left 2
         ·
          go_simp
          constructor
          ·
           rfl
          ·
           rfl
         refine hK.out _ _ trivial (fun _ => ?_); clear hK K; refine na_ ?_; refine pz_ HT_ 2 (some 54) place11.mk0_1_2_3_4_5 ?_; refine one_ (i := 6) (N := none) place11.mk0_1_2_3_4_5_6 rfl rfl (one_of HT_.out (by kernel_rfl)) (by decide) (fun K hK => ?_); refine skip_ (w1 := ?_) (by rfl) rfl ?_ ?_; rotate_left
         ·
          go_simp; rfl
         refine hK.out _ _ trivial (fun _ => ?_); clear hK K; exact norm_ (by simp only [putAll, Act.put, List.setIfInBounds_toArray, List.set_cons_zero, List.set_cons_succ]) (hCont () _ rfl)
       rintro - W17 rfl
       clear hgw hgb hgf hgb2
       have hT_ := H2.out (ys ++ acc ++ resY_ ct pa) W16 gw _ _ (.slice A3 ways.length c3) HS.out.yw HS.out.cw (.inl rfl) HT.out
       have hS_ := HS.out.setW
       have hB_ := below_set (j := 0) (v := (.slice A3 ways.length c3)) HB.out HS.out.bw
       clear HS HT HB
       generalize W16.setCell ⟨gw, 0, none⟩ (.slice A3 ways.length c3) = W17 at hT_ hS_ hB_ ⊢
       have HS := Aside0.mk hS_
       have HT := Aside0.mk hT_
       have HB := Aside0.mk hB_
       clear hT_ hS_ hB_
       refine nb_ ?_
       refine one_ (i := 7) (N := none) place11.mk0_1_2_3_4_5_6_7 rfl rfl (one_of HT_.out (by kernel_rfl)) (by decide) (fun K hK => ?_)
       have hs9 : W17.cell? ⟨gb, 0, none⟩ = some (.slice A4 (boxes.length + 1) c4) := (blk_cell HS.out.cx 0).trans rfl
       have hfs9 := blk_frozen HS.out.cx 0
       refine skip_ (w1 := ?_) (by rfl) rfl ?_ ?_
       rotate_left
       ·
        go_simp; rfl
       refine hK.out _ _ trivial (fun _ => ?_)
       clear hK K
       clear hs9 hfs9
       have hT_ := H2.out (ys ++ acc ++ resY_ ct pa) W17 gb _ _ (.slice A4 ways.length c4) HS.out.yb HS.out.cx (.inr rfl) HT.out
       have hS_ := HS.out.setB
       have hB_ := below_set (j := 0) (v := (.slice A4 ways.length c4)) HB.out HS.out.bb
       clear HS HT HB
       generalize W17.setCell ⟨gb, 0, none⟩ (.slice A4 ways.length c4) = W18 at hT_ hS_ hB_ ⊢
       have HS := Aside0.mk hS_
       have HT := Aside0.mk hT_
       have HB := Aside0.mk hB_
       clear hT_ hS_ hB_
       refine done_ (done_of HT_.out (by kernel_rfl)) ?_
       cases bm with
       | true =>
        obtain ⟨r1, r2⟩ := res_go_ HYS.out HBM.out
        go_wp2
        go_roundg (4 - (kk + 1))
        case measure => have := HG.out; omega
        case rel => exact ⟨kk + 1, acc ++ pa, rest', _, _, by omega, by omega, by go_num, ⟨HP2.out, by rw [HE.out, List.append_assoc]⟩, ⟨r2⟩, HS, ⟨by have := HT.out; rw [r1, List.append_assoc] at this; exact this⟩, HB⟩
       | false =>
        obtain ⟨r1, r2⟩ := res_stop_ HYS.out HBM.out rest'
        go_wp2
        go_ret
        refine ⟨?_, ⟨_, _, HS.out⟩, ?_, HB.out⟩
        ·
         rw [HE.out, r1]
         rfl
        ·
         rw [HE.out, r2]
         exact HT.out
    ·
     have hltz : ¬ (kk : Int) < 4 := by omega
     obtain ⟨hp, e1⟩ := HP.out
     rw [List.drop_of_length_le (by show 4 ≤ kk; omega)] at hp
     unfold catM_ at hp
     obtain rfl := Option.some.inj hp
     rw [List.append_nil] at e1
     subst e1
     go_wp2
     go_ret
     refine ⟨?_, ⟨_, _, HS.out⟩, ?_, HB.out⟩
     ·
      have : resB_ ct ps = true := by
       rcases HYS.out with h | h
       ·
        rw [h]; rfl
       ·
        rw [(List.append_eq_nil_iff.1 h).2]; cases ct <;> rfl
      rw [this]
      rfl
     ·
      have : resY_ ct ps = ps := by
       rcases HYS.out with h | h
       ·
        rw [h]; rfl
       ·
        rw [(List.append_eq_nil_iff.1 h).2]; cases ct <;> rfl
      rw [this]
      exact HT.out
  ·
   rw [if_neg hj] at hp
   cases hp
theorem st_func_ (P : Program) (w : World) (a : Addr) (fn : Fn) (first captured : Array Value) (m : Mode) : (store a (.func fn first captured) m).run P w = stored P w a (.func fn first captured) m := run_store P w a _ m rfl
attribute [local go_sem] st_func_
set_option maxHeartbeats 8000000 in
set_option maxRecDepth 100000 in
theorem each_ (l : List S29) (A0 : Option Addr) (c0 : Nat) (w0 : World) (hr0 : Kd.C k29 w0 A0 l.length l) (hc0 : l.length ≤ c0) (Y : Nat → Prop) (gyf : Nat) (lby : Array Value) (egy : ∀ args w, (callFunc gyf args).run Tryd.prog w = .ok (.enter gyf args) w) (ct : Bool) (St : List (List Int) → World → Prop)
  (hst1 : ∀ ys (W W' : World), (ct = true ∨ ys = []) → (∀ k, Y k → W'.heap[k]? = W.heap[k]?) → St ys W → St ys W')
  (hst2 : ∀ ys (W : World) (g t : Nat) (cs : Array Value) (u : Value), ¬ Y g → W.heap[g]? = some (.cells cs t (0, 0)) → (t = 40 ∨ t = 79) → St ys W → St ys (W.setCell ⟨g, 0, none⟩ u))
  (hst3 : ∀ ys (W : World), St ys W → St ys W.drew)
  (hy : ∀ ys (ways : List Int) (v : Value) (W : World), (ct = true ∨ ys = []) → (∀ k, Y k → k < W.heap.size) → St ys W → (Kd.int .i64).R 3 W w0.heap.size (fun k => ¬ Y k) v ways → Below w0.heap.size w0 W → Calls Tryd.prog gyf (#[v] ++ lby) W fun e w' => e = .returned (.bool ct) ∧ St (ys ++ [ways]) w' ∧ FrY Y W w' ∧ Below w0.heap.size w0 w')
  (vi : Value) (idx : List Int) (hidx : idx.length < 1000000) (ps : List (List Int)) (w : World) (hp : plc_ l idx idx.length [] [] = some ps) (hYs : ∀ k, Y k → k < w.heap.size) (hI : IdxR Y w w0 (.slice none 0 0) vi idx) (hSt : St [] w) (hB : Below w0.heap.size w0 w) :
  Calls Tryd.prog 77 #[.slice A0 l.length c0, vi, (.func (.func gyf) #[] lby)] w fun e w' => e = .returned (.tuple #[]) ∧ St (resY_ ct ps) w' ∧ Below w0.heap.size w0 w' := by
 have HR := Aside0.mk hr0
 have HC := Aside0.mk hc0
 have HY := Aside0.mk hy
 have H1 := Aside0.mk hst1
 have H2 := Aside0.mk hst2
 have H3 := Aside0.mk hst3
 have HP := Aside0.mk hp
 have HYS := Aside0.mk hYs
 have HT := Aside0.mk hSt
 have HB := Aside0.mk hB
 obtain ⟨Ai, ci, rfl⟩ := hI.slice_
 have HI := Aside0.mk hI
 clear hr0 hc0 hy hst1 hst2 hst3 hp hYs hSt hB hI
 go_enter Tryd.func77, Tryd.ntmps77
 go_wp2_with (first | ((with_reducible refine gate_dst (N := 3) rfl ?_); refine box_event ?hg (N := 3) ?hd (cs := #[.slice A0 l.length c0]) (t := 36) ?hr ?_; (case hd => rfl); (case hg => rfl); (case hr => first | (go_simp; done) | (go_simp; rfl)); intro gl hg W1 hbox hb; have hny : ¬ Y gl := (fun y => by have := HYS.out gl y; omega); have hge : w0.heap.size ≤ gl := (by rw [hg]; exact below_size HB.out); have hT_ := H1.out [] w W1 (.inr rfl) (fun k hk => hb.block k (HYS.out k hk)) HT.out; replace HT := Aside0.mk hT_; clear hT_; replace HYS := Aside0.mk (fun k hk => Nat.lt_of_lt_of_le (HYS.out k hk) hb.size : ∀ k, Y k → k < W1.heap.size); replace HI := Aside0.mk (HI.out.step (fun k _ _ hl => hb.block k hl)); replace HB := Aside0.mk (below_step HB.out hb); have Bgl := Aside0.mk hbox; have Ngl := Aside0.mk hny; have Ggl := Aside0.mk hge; clear hg hbox hb hny hge) | ((with_reducible refine gate_dst (N := 4) rfl ?_); refine box_event ?hg (N := 4) ?hd (cs := #[.slice Ai idx.length ci]) (t := 40) ?hr ?_; (case hd => rfl); (case hg => rfl); (case hr => first | (go_simp; done) | (go_simp; rfl)); intro gi hg W2 hbox hb; have hny : ¬ Y gi := (fun y => by have := HYS.out gi y; omega); have hge : w0.heap.size ≤ gi := (by rw [hg]; exact below_size HB.out); have hT_ := H1.out [] W1 W2 (.inr rfl) (fun k hk => hb.block k (HYS.out k hk)) HT.out; replace HT := Aside0.mk hT_; clear hT_; replace HYS := Aside0.mk (fun k hk => Nat.lt_of_lt_of_le (HYS.out k hk) hb.size : ∀ k, Y k → k < W2.heap.size); replace HI := Aside0.mk (HI.out.step (fun k _ _ hl => hb.block k hl)); replace HB := Aside0.mk (below_step HB.out hb); replace Bgl := Aside0.mk (bb_ Bgl.out hb); have Bgi := Aside0.mk hbox; have Ngi := Aside0.mk hny; have Ggi := Aside0.mk hge; clear hg hbox hb hny hge) | ((with_reducible refine gate_dst (N := 5) rfl ?_); refine box_event ?hg (N := 5) ?hd (cs := #[(.func (.func gyf) #[] lby)]) (t := 91) ?hr ?_; (case hd => rfl); (case hg => rfl); (case hr => first | (go_simp; done) | (go_simp; rfl)); intro gy hg W3 hbox hb; have hny : ¬ Y gy := (fun y => by have := HYS.out gy y; omega); have hge : w0.heap.size ≤ gy := (by rw [hg]; exact below_size HB.out); have hT_ := H1.out [] W2 W3 (.inr rfl) (fun k hk => hb.block k (HYS.out k hk)) HT.out; replace HT := Aside0.mk hT_; clear hT_; replace HYS := Aside0.mk (fun k hk => Nat.lt_of_lt_of_le (HYS.out k hk) hb.size : ∀ k, Y k → k < W3.heap.size); replace HI := Aside0.mk (HI.out.step (fun k _ _ hl => hb.block k hl)); replace HB := Aside0.mk (below_step HB.out hb); replace Bgl := Aside0.mk (bb_ Bgl.out hb); replace Bgi := Aside0.mk (bb_ Bgi.out hb); have Bgy := Aside0.mk hbox; have Ngy := Aside0.mk hny; have Ggy := Aside0.mk hge; clear hg hbox hb hny hge) | ((with_reducible refine gate_dst (N := 6) rfl ?_); refine box_event ?hg (N := 6) ?hd (cs := #[.slice none 0 0]) (t := 40) ?hr ?_; (case hd => rfl); (case hg => rfl); (case hr => first | (go_simp; done) | (go_simp; rfl)); intro gw hg W4 hbox hb; have hny : ¬ Y gw := (fun y => by have := HYS.out gw y; omega); have hge : w0.heap.size ≤ gw := (by rw [hg]; exact below_size HB.out); have hne : gi ≠ gw := nl_ hg Bgi.out; have NE := Aside0.mk hne; clear hne; have hT_ := H1.out [] W3 W4 (.inr rfl) (fun k hk => hb.block k (HYS.out k hk)) HT.out; replace HT := Aside0.mk hT_; clear hT_; replace HYS := Aside0.mk (fun k hk => Nat.lt_of_lt_of_le (HYS.out k hk) hb.size : ∀ k, Y k → k < W4.heap.size); replace HI := Aside0.mk (HI.out.step (fun k _ _ hl => hb.block k hl)); replace HB := Aside0.mk (below_step HB.out hb); replace Bgl := Aside0.mk (bb_ Bgl.out hb); replace Bgi := Aside0.mk (bb_ Bgi.out hb); replace Bgy := Aside0.mk (bb_ Bgy.out hb); have Bgw := Aside0.mk hbox; have Ngw := Aside0.mk hny; have Ggw := Aside0.mk hge; clear hg hbox hb hny hge) | ((with_reducible refine gate_dst (N := 7) rfl ?_); refine box_event ?hg (N := 7) ?hd (cs := #[.slice none 0 0]) (t := 79) ?hr ?_; (case hd => rfl); (case hg => rfl); (case hr => first | (go_simp; done) | (go_simp; rfl)); intro gb hg W5 hbox hb; have hny : ¬ Y gb := (fun y => by have := HYS.out gb y; omega); have hge : w0.heap.size ≤ gb := (by rw [hg]; exact below_size HB.out); have hT_ := H1.out [] W4 W5 (.inr rfl) (fun k hk => hb.block k (HYS.out k hk)) HT.out; replace HT := Aside0.mk hT_; clear hT_; replace HYS := Aside0.mk (fun k hk => Nat.lt_of_lt_of_le (HYS.out k hk) hb.size : ∀ k, Y k → k < W5.heap.size); replace HI := Aside0.mk (HI.out.step (fun k _ _ hl => hb.block k hl)); replace HB := Aside0.mk (below_step HB.out hb); replace Bgl := Aside0.mk (bb_ Bgl.out hb); replace Bgi := Aside0.mk (bb_ Bgi.out hb); replace Bgy := Aside0.mk (bb_ Bgy.out hb); replace Bgw := Aside0.mk (bb_ Bgw.out hb); have Bgb := Aside0.mk hbox; have Ngb := Aside0.mk hny; have Ggb := Aside0.mk hge; clear hg hbox hb hny hge) | ((with_reducible refine gate_dst (N := 8) rfl ?_); refine box_event ?hg (N := 8) ?hd (cs := #[.nilFunc]) (t := 108) ?hr ?_; (case hd => rfl); (case hg => rfl); (case hr => first | (go_simp; done) | (go_simp; rfl)); intro gf hg W6 hbox hb; have hny : ¬ Y gf := (fun y => by have := HYS.out gf y; omega); have hge : w0.heap.size ≤ gf := (by rw [hg]; exact below_size HB.out); have hT_ := H1.out [] W5 W6 (.inr rfl) (fun k hk => hb.block k (HYS.out k hk)) HT.out; replace HT := Aside0.mk hT_; clear hT_; replace HYS := Aside0.mk (fun k hk => Nat.lt_of_lt_of_le (HYS.out k hk) hb.size : ∀ k, Y k → k < W6.heap.size); replace HI := Aside0.mk (HI.out.step (fun k _ _ hl => hb.block k hl)); replace HB := Aside0.mk (below_step HB.out hb); replace Bgl := Aside0.mk (bb_ Bgl.out hb); replace Bgi := Aside0.mk (bb_ Bgi.out hb); replace Bgy := Aside0.mk (bb_ Bgy.out hb); replace Bgw := Aside0.mk (bb_ Bgw.out hb); replace Bgb := Aside0.mk (bb_ Bgb.out hb); have Bgf := Aside0.mk hbox; have Ngf := Aside0.mk hny; have Ggf := Aside0.mk hge; clear hg hbox hb hny hge; have hsf : W6.cell? ⟨gf, 0, none⟩ = some .nilFunc := (blk_cell Bgf.out 0).trans rfl; have hff := blk_frozen Bgf.out 0) | ((with_reducible refine gate_store (t := 108) (p := 8) rfl ?_); refine store_event (t := 108) (p := 8) (v := ?vo_) (w1 := (W6.setCell ⟨gf, 0, none⟩ (.func (.func 102) #[] #[.pointer (some ⟨gw, 0, none⟩), .pointer (some ⟨gi, 0, none⟩), .pointer (some ⟨gy, 0, none⟩), .pointer (some ⟨gl, 0, none⟩), .pointer (some ⟨gb, 0, none⟩), .pointer (some ⟨gf, 0, none⟩)]))) ?hg ?ho ?hn ?hr ?_; (case ho => rfl); (case hg => rfl); (case hn => rfl); (case hr => first | (go_simp; done) | (go_simp; rfl)); intro W7 hw; have HWE := Aside0.mk hw; clear hw hsf hff; have hcf : W7.cell? ⟨gf, 0, none⟩ = some (.func (.func 102) #[] #[.pointer (some ⟨gw, 0, none⟩), .pointer (some ⟨gi, 0, none⟩), .pointer (some ⟨gy, 0, none⟩), .pointer (some ⟨gl, 0, none⟩), .pointer (some ⟨gb, 0, none⟩), .pointer (some ⟨gf, 0, none⟩)]) := (by rw [HWE.out]; exact (blk_cell (blk_put Bgf.out 0 (.func (.func 102) #[] #[.pointer (some ⟨gw, 0, none⟩), .pointer (some ⟨gi, 0, none⟩), .pointer (some ⟨gy, 0, none⟩), .pointer (some ⟨gl, 0, none⟩), .pointer (some ⟨gb, 0, none⟩), .pointer (some ⟨gf, 0, none⟩)]) rfl) 0).trans rfl)) | (go_at_call 102; have hPl : PlS Y W7 w0 gw gi gy gl gb gf (.slice none 0 0) (.slice none 0 0) (.slice Ai idx.length ci) (.slice A0 l.length c0) (.slice none 0 0) (.slice none 0 0) (.func (.func gyf) #[] lby) (.func (.func 102) #[] #[.pointer (some ⟨gw, 0, none⟩), .pointer (some ⟨gi, 0, none⟩), .pointer (some ⟨gy, 0, none⟩), .pointer (some ⟨gl, 0, none⟩), .pointer (some ⟨gb, 0, none⟩), .pointer (some ⟨gf, 0, none⟩)]) [] idx [] := (by rw [HWE.out]; exact ⟨blk_far (p := ⟨gf, 0, none⟩) Bgw.out (blk_ne Bgw.out Bgf.out (by decide)) (.func (.func 102) #[] #[.pointer (some ⟨gw, 0, none⟩), .pointer (some ⟨gi, 0, none⟩), .pointer (some ⟨gy, 0, none⟩), .pointer (some ⟨gl, 0, none⟩), .pointer (some ⟨gb, 0, none⟩), .pointer (some ⟨gf, 0, none⟩)]), blk_far (p := ⟨gf, 0, none⟩) Bgi.out (blk_ne Bgi.out Bgf.out (by decide)) (.func (.func 102) #[] #[.pointer (some ⟨gw, 0, none⟩), .pointer (some ⟨gi, 0, none⟩), .pointer (some ⟨gy, 0, none⟩), .pointer (some ⟨gl, 0, none⟩), .pointer (some ⟨gb, 0, none⟩), .pointer (some ⟨gf, 0, none⟩)]), blk_far (p := ⟨gf, 0, none⟩) Bgy.out (blk_ne Bgy.out Bgf.out (by decide)) (.func (.func 102) #[] #[.pointer (some ⟨gw, 0, none⟩), .pointer (some ⟨gi, 0, none⟩), .pointer (some ⟨gy, 0, none⟩), .pointer (some ⟨gl, 0, none⟩), .pointer (some ⟨gb, 0, none⟩), .pointer (some ⟨gf, 0, none⟩)]), blk_far (p := ⟨gf, 0, none⟩) Bgl.out (blk_ne Bgl.out Bgf.out (by decide)) (.func (.func 102) #[] #[.pointer (some ⟨gw, 0, none⟩), .pointer (some ⟨gi, 0, none⟩), .pointer (some ⟨gy, 0, none⟩), .pointer (some ⟨gl, 0, none⟩), .pointer (some ⟨gb, 0, none⟩), .pointer (some ⟨gf, 0, none⟩)]), blk_far (p := ⟨gf, 0, none⟩) Bgb.out (blk_ne Bgb.out Bgf.out (by decide)) (.func (.func 102) #[] #[.pointer (some ⟨gw, 0, none⟩), .pointer (some ⟨gi, 0, none⟩), .pointer (some ⟨gy, 0, none⟩), .pointer (some ⟨gl, 0, none⟩), .pointer (some ⟨gb, 0, none⟩), .pointer (some ⟨gf, 0, none⟩)]), blk_put Bgf.out 0 (.func (.func 102) #[] #[.pointer (some ⟨gw, 0, none⟩), .pointer (some ⟨gi, 0, none⟩), .pointer (some ⟨gy, 0, none⟩), .pointer (some ⟨gl, 0, none⟩), .pointer (some ⟨gb, 0, none⟩), .pointer (some ⟨gf, 0, none⟩)]) rfl, NE.out, Ggw.out, Ggb.out, Ngw.out, Ngi.out, Ngy.out, Ngl.out, Ngb.out, Ngf.out, fun k hk => Nat.lt_of_lt_of_le (HYS.out k hk) (KeepBut.set_ (KeepBut.refl W6 gf none) 0 (.func (.func 102) #[] #[.pointer (some ⟨gw, 0, none⟩), .pointer (some ⟨gi, 0, none⟩), .pointer (some ⟨gy, 0, none⟩), .pointer (some ⟨gl, 0, none⟩), .pointer (some ⟨gb, 0, none⟩), .pointer (some ⟨gf, 0, none⟩)])).1, HI.out.set_ Bgf.out (by decide) (.func (.func 102) #[] #[.pointer (some ⟨gw, 0, none⟩), .pointer (some ⟨gi, 0, none⟩), .pointer (some ⟨gy, 0, none⟩), .pointer (some ⟨gl, 0, none⟩), .pointer (some ⟨gb, 0, none⟩), .pointer (some ⟨gf, 0, none⟩)]), Kd.R_nil _ _ _ _ _, Kd.R_nil _ _ _ _ _⟩); have hTT : St [] W7 := (by rw [HWE.out]; exact H1.out [] W6 _ (.inr rfl) (fun k hk => Below.heap_setCell W6 ⟨gf, 0, none⟩ _ k (fun e => Ngf.out ((show k = gf from e) ▸ hk))) HT.out); have hBB : Below w0.heap.size w0 W7 := (by rw [HWE.out]; exact below_set (j := 0) HB.out Ggf.out); refine (from_ l A0 c0 w0 HR.out HC.out Y gyf lby egy ct St H1.out H2.out H3.out HY.out gw gi gy gl gb gf _ idx hidx idx.length [] [] [] ps W7 _ _ (by simp) rfl HP.out (.inr rfl) hPl hTT hBB).mono ?_; rintro e W8 ⟨rfl, hq_, hT8, hB8⟩; clear hq_ hPl hTT hBB hcf))
 first | go_end0 | ((try simp only [Exit.inBlock, Exit.then]); refine bodyPost_ret (results_none rfl _ _ _) rfl ?_)
 exact ⟨rfl, by simpa using hT8, hB8⟩
def FirstS (base gF gD : Nat) (ys : List (List Int)) (w : World) : Prop := gF < w.heap.size ∧ gD < w.heap.size ∧ ∃ v, w.heap[gF]? = some (.cells #[v] 40 (0, 0)) ∧ w.heap[gD]? = some (.cells #[.bool (!ys.isEmpty)] 4 (0, 0)) ∧ ((ys = [] ∧ v = .slice none 0 0) ∨ ∃ p, ys = [p] ∧ (Kd.int .i64).R 3 w base (fun _ => True) v p)
set_option maxHeartbeats 8000000 in
set_option maxRecDepth 100000 in
theorem firstYield_ (base gF gD : Nat) (hne : gF ≠ gD) (hbF : base ≤ gF) (hbD : base ≤ gD) (ways : List Int) (v : Value) (W w0 : World) (hw0 : base = w0.heap.size) (hS : FirstS base gF gD [] W) (hv : (Kd.int .i64).R 3 W base (fun k => ¬ (k = gF ∨ k = gD)) v ways) (hB : Below base w0 W) :
  Calls Tryd.prog 105 (#[v] ++ #[.pointer (some ⟨gF, 0, none⟩), .pointer (some ⟨gD, 0, none⟩)]) W fun e w' => e = .returned (.bool false) ∧ FirstS base gF gD ([] ++ [ways]) w' ∧ FrY (fun k => k = gF ∨ k = gD) W w' ∧ Below base w0 w' := by
 subst hw0
 show Calls Tryd.prog 105 #[v, .pointer (some ⟨gF, 0, none⟩), .pointer (some ⟨gD, 0, none⟩)] W _
 obtain ⟨l1, l2, v0, hF, hD, _⟩ := hS
 obtain ⟨A, c, rfl⟩ := Kd.R_slice hv
 have hF2 := blk_put hF 0 (.slice A ways.length c) rfl
 have hD2 : (W.setCell ⟨gF, 0, none⟩ (.slice A ways.length c)).heap[gD]? = _ := blk_far hD (p := ⟨gF, 0, none⟩) (Ne.symm hne) (.slice A ways.length c)
 have hF3 := blk_far hF2 (p := ⟨gD, 0, none⟩) hne (.bool true)
 have hD3 := blk_put hD2 0 (.bool true) rfl
 have hR1 := Kd.R_set hv hF (by decide) 0 (.slice A ways.length c)
 have hR2 := Kd.R_set hR1 hD2 (by decide) 0 (.bool true)
 have hB2 := below_set (j := 0) (v := .bool true) (below_set (j := 0) (v := .slice A ways.length c) hB hbF) hbD
 have hk : KeepBut W (W.setCell ⟨gF, 0, none⟩ (.slice A ways.length c)) gF none := KeepBut.set_ (KeepBut.refl _ _ _) 0 _
 have hk2 : KeepBut (W.setCell ⟨gF, 0, none⟩ (.slice A ways.length c)) ((W.setCell ⟨gF, 0, none⟩ (.slice A ways.length c)).setCell ⟨gD, 0, none⟩ (.bool true)) gD none := KeepBut.set_ (KeepBut.refl _ _ _) 0 _
 have hcF : W.cell? ⟨gF, 0, none⟩ = some v0 := (blk_cell hF 0).trans rfl
 have hfF := blk_frozen hF 0
 have hcD : (W.setCell ⟨gF, 0, none⟩ (.slice A ways.length c)).cell? ⟨gD, 0, none⟩ = some (.bool (!([] : List (List Int)).isEmpty)) := (blk_cell hD2 0).trans rfl
 have hfD := blk_frozen hD2 0
 have FIN : FirstS w0.heap.size gF gD [ways] ((W.setCell ⟨gF, 0, none⟩ (.slice A ways.length c)).setCell ⟨gD, 0, none⟩ (.bool true)) := ⟨blk_lt hF3, blk_lt hD3, _, hF3, hD3, .inr ⟨ways, rfl, Kd.R_mono hR2 (fun _ _ => trivial)⟩⟩
 have FRY : FrY (fun k => k = gF ∨ k = gD) W ((W.setCell ⟨gF, 0, none⟩ (.slice A ways.length c)).setCell ⟨gD, 0, none⟩ (.bool true)) := ⟨Nat.le_trans hk.1 hk2.1, fun k hl hY => (hk2.2 k (Nat.lt_of_lt_of_le hl hk.1) (fun e => hY (.inr e)) (by simp)).trans (hk.2 k hl (fun e => hY (.inl e)) (by simp))⟩
 have FA := Aside0.mk FIN
 have FB := Aside0.mk FRY
 have FC := Aside0.mk hB2
 clear hF hD hF2 hD2 hF3 hD3 hR1 hR2 hB2 hk hk2 FIN FRY hv hB
 go_enter Tryd.func105, Tryd.ntmps105
 go_wp2
 go_ret
 exact ⟨rfl, FA.out, FB.out, FC.out⟩
theorem FirstS.keep {base gF gD : Nat} {ys : List (List Int)} {W W' : World} (h : FirstS base gF gD ys W) (hy : ys = []) (hF : W'.heap[gF]? = W.heap[gF]?) (hD : W'.heap[gD]? = W.heap[gD]?) : FirstS base gF gD ys W' := by
 subst hy
 obtain ⟨l1, l2, v, h1, h2, h3⟩ := h
 rw [← hF] at h1
 rw [← hD] at h2
 refine ⟨blk_lt h1, blk_lt h2, v, h1, h2, .inl ?_⟩
 rcases h3 with h3 | ⟨p, hp, _⟩
 ·
  exact h3
 ·
  cases hp
theorem FirstS.set_ {base gF gD : Nat} {ys : List (List Int)} {W : World} (h : FirstS base gF gD ys W) {g t : Nat} {cs : Array Value} (u : Value) (hg : ¬ (g = gF ∨ g = gD)) (hc : W.heap[g]? = some (.cells cs t (0, 0))) (ht : t = 40 ∨ t = 79) : FirstS base gF gD ys (W.setCell ⟨g, 0, none⟩ u) := by
 obtain ⟨l1, l2, v, h1, h2, h3⟩ := h
 have k1 := blk_far h1 (p := ⟨g, 0, none⟩) (fun e => hg (.inl e.symm)) u
 have k2 := blk_far h2 (p := ⟨g, 0, none⟩) (fun e => hg (.inr e.symm)) u
 refine ⟨blk_lt k1, blk_lt k2, v, k1, k2, ?_⟩
 rcases h3 with h3 | ⟨p, hp, hr⟩
 ·
  exact .inl h3
 ·
  refine .inr ⟨p, hp, Kd.R_set hr hc (fun q hq => ?_) 0 u⟩
  rw [List.mem_singleton.1 hq]
  rcases ht with rfl | rfl <;> decide
theorem FirstS.drew {base gF gD : Nat} {ys : List (List Int)} {W : World} (h : FirstS base gF gD ys W) : FirstS base gF gD ys W.drew := by
 obtain ⟨l1, l2, v, h1, h2, h3⟩ := h
 refine ⟨l1, l2, v, blk_drew h1, blk_drew h2, ?_⟩
 rcases h3 with h3 | ⟨p, hp, hr⟩
 ·
  exact .inl h3
 ·
  exact .inr ⟨p, hp, Kd.R_drew hr⟩
def impl_firstPlacing.f (l0 : List S29) (l1 : List Int) : Option (List Int × Bool) :=
 if l1.length < 1000000 then (plc_ l0 l1 l1.length [] []).bind fun ps => some (ps.headD [], !ps.isEmpty) else none
def firstP4.T : Bool × List (List Nat × List Nat) := (true, [([], []), ([], []), ([0, 0], [0]), ([1, 2, 0, 1, 2], [1])])
def firstP4.B : List Nat := [0, 0, 1, 7]
theorem firstP4.tab : rtab .any (opsOf Tryd.f80 4) = firstP4.T := by kernel_rfl
theorem firstP4.bits : waitsOk firstP4.T.2 firstP4.B = true := by kernel_rfl
abbrev firstP4.mkE : Array Bool := #[false, false, false, false]
abbrev firstP4.mk0 : Array Bool := #[true, false, false, false]
abbrev firstP4.mk0_1 : Array Bool := #[true, true, false, false]
abbrev firstP4.mk0_1_2 : Array Bool := #[true, true, true, false]
abbrev firstP4.mk0_1_2_3 : Array Bool := #[true, true, true, true]
set_option maxHeartbeats 8000000 in
set_option maxRecDepth 100000 in
theorem impl_firstPlacing.calls (A0 : Option Addr) (c0 : Nat) (l0 : List S29) (A1 : Option Addr) (c1 : Nat) (l1 : List Int) (r1 : List Int) (r2 : Bool) (w : World) (hr0 : Kd.C k29 w A0 l0.length l0) (hc0 : l0.length ≤ c0) (hr1 : Kd.C (Kd.int .i64) w A1 l1.length l1) (hc1 : l1.length ≤ c1) (h : impl_firstPlacing.f l0 l1 = some (r1, r2)) :
  Calls Tryd.prog 80 #[.slice A0 l0.length c0, .slice A1 l1.length c1] w fun e w' => ∃ v0_ : Value, e = .returned (.tuple #[v0_, .bool r2]) ∧ Kd.R (Kd.int .i64) 3 w' w.heap.size (fun _ => True) v0_ r1 ∧ Below w.heap.size w w' := by
 unfold impl_firstPlacing.f at h
 by_cases hi : l1.length < 1000000
 ·
  rw [if_pos hi] at h
  obtain ⟨ps, hp, h⟩ := Option.bind_eq_some_iff.mp h
  simp only [Option.some.injEq, Prod.mk.injEq] at h
  obtain ⟨rfl, rfl⟩ := h
  have HR0 := Aside0.mk hr0
  have HC0 := Aside0.mk hc0
  have HR1 := Aside0.mk hr1
  have HC1 := Aside0.mk hc1
  have HI := Aside0.mk hi
  have HP := Aside0.mk hp
  obtain ⟨b, hb⟩ : ∃ b, (!ps.isEmpty) = b := ⟨_, rfl⟩
  rw [hb]
  have HBB := Aside0.mk hb
  clear hr0 hc0 hr1 hc1 hi hp hb
  go_enter Tryd.func80, Tryd.ntmps80
  go_wp2_with (first | ((with_reducible refine gate_dst (N := 6) rfl ?_); refine box_event ?hg (N := 6) ?hd (cs := #[.slice none 0 0]) (t := 40) ?hr ?_; (case hd => rfl); (case hg => rfl); (case hr => first | (go_simp; done) | (go_simp; rfl)); intro gF hg W1 hbox hb; have hge : w.heap.size ≤ gF := (by rw [hg]; exact Nat.le_refl _); have BF := Aside0.mk hbox; have GF := Aside0.mk hge; have HB := Aside0.mk hb; clear hg hbox hb hge) | ((with_reducible refine gate_dst (N := 7) rfl ?_); refine box_event ?hg (N := 7) ?hd (cs := #[.bool false]) (t := 4) ?hr ?_; (case hd => rfl); (case hg => rfl); (case hr => first | (go_simp; done) | (go_simp; rfl)); intro gD hg W2 hbox hb; have hge : w.heap.size ≤ gD := (by rw [hg]; exact below_size HB.out); have hne : gF ≠ gD := nl_ hg BF.out; replace BF := Aside0.mk (bb_ BF.out hb); have BD := Aside0.mk hbox; have GD := Aside0.mk hge; have NE := Aside0.mk hne; replace HB := Aside0.mk (below_step HB.out hb); clear hg hbox hb hge hne) | ((with_reducible refine gate_store (t := 4) (p := 7) rfl ?_); have hsd : W2.cell? ⟨gD, 0, none⟩ = some (.bool false) := (blk_cell BD.out 0).trans rfl; have hfd := blk_frozen BD.out 0; refine store_event (t := 4) (p := 7) (v := ?vo_) (w1 := (W2.setCell ⟨gD, 0, none⟩ (.bool false))) ?hg ?ho ?hn ?hr ?_; (case ho => rfl); (case hg => rfl); (case hn => rfl); (case hr => first | (go_simp; done) | (go_simp; rfl)); intro W3 hw; replace BF := Aside0.mk (show W3.heap[gF]? = some (.cells #[.slice none 0 0] 40 (0, 0)) from by rw [hw]; exact blk_far (p := ⟨gD, 0, none⟩) BF.out NE.out (.bool false)); replace BD := Aside0.mk (show W3.heap[gD]? = some (.cells #[.bool false] 4 (0, 0)) from by rw [hw]; exact blk_put BD.out 0 (.bool false) rfl); replace HB := Aside0.mk (show Below w.heap.size w W3 from by rw [hw]; exact below_set (j := 0) HB.out GD.out); clear hw hsd hfd) | (go_at_call 77; refine (each_ l0 A0 c0 w HR0.out HC0.out (fun k => k = gF ∨ k = gD) 105 #[.pointer (some ⟨gF, 0, none⟩), .pointer (some ⟨gD, 0, none⟩)] (fun _ _ => rfl) false (FirstS w.heap.size gF gD) (fun ys W W' h hk hS => hS.keep (h.resolve_left (by decide)) (hk _ (.inl rfl)) (hk _ (.inr rfl))) (fun ys W g t cs u hg hc ht hS => hS.set_ u hg hc ht) (fun ys W hS => hS.drew) (fun ys ways v W h hYs hS hv hB => by (obtain rfl : ys = [] := h.resolve_left (by decide)); exact firstYield_ w.heap.size gF gD NE.out GF.out GD.out ways v W w rfl hS hv hB) (.slice A1 l1.length c1) l1 HI.out ps _ HP.out (by rintro k (rfl | rfl); exact blk_lt BF.out; exact blk_lt BD.out) (.inr ⟨A1, c1, rfl, HC1.out, HR1.out⟩) ⟨blk_lt BF.out, blk_lt BD.out, _, BF.out, BD.out, .inl ⟨rfl, rfl⟩⟩ HB.out).mono ?_; rintro e W4 ⟨rfl, hS4, hB4⟩; clear BF BD HB; have HS := Aside0.mk hS4; have HB := Aside0.mk hB4; clear hS4 hB4))
  obtain ⟨_, _, v, hF, hD, hv⟩ := HS.out
  have hw : ∃ A c, v = .slice A (ps.headD []).length c ∧ (Kd.int .i64).R 3 W4 w.heap.size (fun _ => True) v (ps.headD []) := by
   cases ps with
   | nil =>
    rcases hv with ⟨_, rfl⟩ | ⟨p, hp, _⟩
    ·
     exact ⟨none, 0, rfl, Kd.R_nil _ _ _ _ _⟩
    ·
     cases hp
   | cons p t =>
    rcases hv with ⟨hp, _⟩ | ⟨p', hp, hr⟩
    ·
     cases hp
    ·
     injection hp with hp
     subst hp
     obtain ⟨A, c, e⟩ := Kd.R_slice hr
     exact ⟨A, c, e, hr⟩
  obtain ⟨A, c, rfl, hR⟩ := hw
  have eb : (!(resY_ false ps).isEmpty) = b := by rw [← HBB.out]; cases ps <;> rfl
  rw [eb] at hD
  have BF := Aside0.mk hF
  have BD := Aside0.mk hD
  have HRR := Aside0.mk (Kd.R_drew hR)
  replace HB := Aside0.mk (below_drew HB.out)
  clear hF hD hv hR HS eb
  refine start_ (n := 4) (S := fun w' => w'.cell? ⟨gF, 0, none⟩ = some (.slice A (ps.headD []).length c) ∧ w'.cell? ⟨gD, 0, none⟩ = some (.bool b)) (ds := []) firstP4.mkE (by kernel_rfl) rfl rfl ⟨(blk_cell BF.out 0).trans rfl, (blk_cell BD.out 0).trans rfl⟩ (fun hHeld => ?_); refine with_tabW firstP4.tab firstP4.bits (fun HT_ HW_ => ?_)
  generalize W4.drew = W5 at HRR HB hHeld ⊢
  refine tk_ HT_ HW_ hHeld 0 (some 12) firstP4.mk0 ?_
  refine tk_ HT_ HW_ hHeld 1 (some 13) firstP4.mk0_1 ?_
  refine pz_ HT_ 2 (some 4) firstP4.mk0_1_2 ?_
  refine pz_ HT_ 3 (some 5) firstP4.mk0_1_2_3 ?_
  refine done_ (done_of HT_.out (by kernel_rfl)) ?_
  go_wp2
  go_ret2
  exact ⟨_, rr_, HRR.out, HB.out⟩
 ·
  rw [if_neg hi] at h
  cases h
def cmp_Or_int.l0 : Nat → Int → List Int → Int → Int → Option (Int)
 | 0, _, _, _, _ => none
 | k + 1, x3, x6, x7, x8 => if x8 < x7 then (if 0 ≤ x8 then (if x8 < (x6.length : Int) then (if (rd x6 x8) = x3 then (cmp_Or_int.l0 k x3 x6 x7 (wrap64 (x8 + 1))) else (some (rd x6 x8))) else (none)) else (none)) else (some x3)
def cmp_Or_int.f (k : Nat) (l0 : List Int) : Option (Int) := cmp_Or_int.l0 k 0 l0 (l0.length : Int) 0
set_option maxHeartbeats 8000000 in
set_option maxRecDepth 100000 in
theorem cmp_Or_int.calls (k : Nat) (A0 : Option Addr) (c0 : Nat) (l0 : List Int) (r : Int) (w : World) (hr0 : Kd.C (Kd.int .i64) w A0 l0.length l0) (hc0 : l0.length ≤ c0) (h : cmp_Or_int.f k l0 = some r) :
  Calls Tryd.prog 82 #[.slice A0 l0.length c0] w fun e w' => e = .returned (.int .i64 r) ∧ Drawn0 w w' := by
 have HR0 := Aside0.mk hr0
 have HC0 := Aside0.mk hc0
 clear hr0 hc0
 have H : (cmp_Or_int.l0 k 0 l0 (l0.length : Int) 0) = some r := h
 clear h
 have H' := Aside0.mk H
 clear H
 go_enter Tryd.func82, Tryd.ntmps82
 go_wp2
 go_loopg [8] k (fun kq v8 w' => ∃ (x8_1 : Int), v8 = .int .i64 x8_1 ∧ Aside0 (cmp_Or_int.l0 kq 0 l0 (l0.length : Int) x8_1 = some r) ∧ Aside0 (kq ≤ k) ∧ Drawn0 w w')
 case atStart => exact ⟨(0), (by first | rfl | (simp; done) | (simp [*]; done)), H', ⟨Nat.le_refl _⟩, by repeat (first | exact Drawn0.refl _ | apply Drawn0.step)⟩
 case round =>
  clear H'
  obtain ⟨x8_1, rfl, HA, HK1, ⟨m1, rfl⟩⟩ := hrel
  cases gk with
  | zero => exact absurd HA.out (by simp [cmp_Or_int.l0])
  | succ k1 =>
   have H := HA.out
   clear HA
   simp only [cmp_Or_int.l0] at H
   by_cases c2 : x8_1 < (l0.length : Int)
   ·
    rw [if_pos c2] at H
    have c2b0 : decide (x8_1 < (l0.length : Int)) = true := decide_eq_true c2
    clear c2
    by_cases c3 : 0 ≤ x8_1
    ·
     rw [if_pos c3] at H
     have c3b0 : decide (0 ≤ x8_1) = true := decide_eq_true c3
     clear c3
     by_cases c4 : x8_1 < (l0.length : Int)
     ·
      rw [if_pos c4] at H
      have c4b0 : decide (x8_1 < (l0.length : Int)) = true := decide_eq_true c4
      clear c4
      by_cases c5 : (rd l0 x8_1) = 0
      ·
       rw [if_pos c5] at H
       have c5b0 : ((rd l0 x8_1) == 0) = true := beq_iff_eq.mpr c5
       have c5b1 : ((rd l0 x8_1) != 0) = false := bne_eq_false_iff_eq.mpr c5
       clear c5
       have H' := Aside0.mk H
       clear H
       have p537 : 0 ≤ (x8_1 : Int) := dt_
       have q537 : x8_1 < (l0.length : Int) := dt_
       obtain ⟨ad537, e537, hx537_0⟩ := Kd.at_int HR0.out x8_1 p537 q537
       cases e537
       replace p537 := eq_true p537
       replace q537 := eq_true q537
       go_wp2
       go_roundg k1
       case measure => have := HK1.out; omega
       case rel => exact ⟨(wrap64 (x8_1 + 1)), (by first | rfl | (simp; done) | (simp [*]; done)), H', ⟨by have := HK1.out; omega⟩, by repeat (first | exact Drawn0.refl _ | apply Drawn0.step)⟩
      ·
       rw [if_neg c5] at H
       have c5b0 : ((rd l0 x8_1) == 0) = false := beq_eq_false_iff_ne.mpr c5
       have c5b1 : ((rd l0 x8_1) != 0) = true := bne_iff_ne.mpr c5
       obtain rfl := Option.some.inj H
       have p537 : 0 ≤ (x8_1 : Int) := dt_
       have q537 : x8_1 < (l0.length : Int) := dt_
       obtain ⟨ad537, e537, hx537_0⟩ := Kd.at_int HR0.out x8_1 p537 q537
       cases e537
       replace p537 := eq_true p537
       replace q537 := eq_true q537
       go_wp2
       go_ret
       exact ⟨by first | rfl | (simp; done) | (simp [*]; done), by repeat (first | exact Drawn0.refl _ | apply Drawn0.step)⟩
     ·
      rw [if_neg c4] at H
      exact absurd H (by simp)
    ·
     rw [if_neg c3] at H
     exact absurd H (by simp)
   ·
    rw [if_neg c2] at H
    have c2b0 : decide (x8_1 < (l0.length : Int)) = false := decide_eq_false c2
    clear c2
    obtain rfl := Option.some.inj H
    go_wp2
    go_ret
    exact ⟨by first | rfl | (simp; done) | (simp [*]; done), by repeat (first | exact Drawn0.refl _ | apply Drawn0.step)⟩
def cmp_isNaN_int.f (a0 : Int) : Option (Bool) := some (a0 != a0)
set_option maxHeartbeats 8000000 in
set_option maxRecDepth 100000 in
theorem cmp_isNaN_int.calls (a0 : Int) (r : Bool) (w : World) (h : cmp_isNaN_int.f a0 = some r) :
  Calls Tryd.prog 106 #[.int .i64 a0] w fun e w' => e = .returned (.bool r) ∧ Drawn0 w w' := by
 have H : (some (a0 != a0)) = some r := h
 clear h
 obtain rfl := Option.some.inj H
 go_enter Tryd.func106, Tryd.ntmps106
 go_wp2
 go_ret
 exact ⟨by first | rfl | (simp; done) | (simp [*]; done), by repeat (first | exact Drawn0.refl _ | apply Drawn0.step)⟩
def cmp_Compare_int.f (a0 : Int) (a1 : Int) : Option (Int) := (cmp_isNaN_int.f a0).bind fun t538 => ((cmp_isNaN_int.f a1).bind fun t539 => (if t538 = true then (if t539 = true then (some 0) else (some (-1))) else (if t539 = true then (some 1) else (if a0 < a1 then (some (-1)) else (if a0 > a1 then (some 1) else (some 0))))))
set_option maxHeartbeats 8000000 in
set_option maxRecDepth 100000 in
theorem cmp_Compare_int.calls (a0 : Int) (a1 : Int) (r : Int) (w : World) (h : cmp_Compare_int.f a0 a1 = some r) :
  Calls Tryd.prog 83 #[.int .i64 a0, .int .i64 a1] w fun e w' => e = .returned (.int .i64 r) ∧ Drawn0 w w' := by
 have H : ((cmp_isNaN_int.f a0).bind fun t538 => ((cmp_isNaN_int.f a1).bind fun t539 => (if t538 = true then (if t539 = true then (some 0) else (some (-1))) else (if t539 = true then (some 1) else (if a0 < a1 then (some (-1)) else (if a0 > a1 then (some 1) else (some 0))))))) = some r := h
 clear h
 replace H := Option.bind_eq_some_iff.mp H
 obtain ⟨t538, A30, H⟩ := H
 replace H : ((cmp_isNaN_int.f a1).bind fun t539 => (if t538 = true then (if t539 = true then (some 0) else (some (-1))) else (if t539 = true then (some 1) else (if a0 < a1 then (some (-1)) else (if a0 > a1 then (some 1) else (some 0)))))) = some r := H
 have A3 := Aside0.mk A30
 clear A30
 replace H := Option.bind_eq_some_iff.mp H
 obtain ⟨t539, A40, H⟩ := H
 replace H : (if t538 = true then (if t539 = true then (some 0) else (some (-1))) else (if t539 = true then (some 1) else (if a0 < a1 then (some (-1)) else (if a0 > a1 then (some 1) else (some 0))))) = some r := H
 have A4 := Aside0.mk A40
 clear A40
 by_cases c5 : t538 = true
 ·
  subst c5
  have H1 : (if t539 = true then (some 0) else (some (-1))) = some r := by rw [if_pos rfl] at H; exact H
  clear H
  have H := H1
  clear H1
  by_cases c6 : t539 = true
  ·
   subst c6
   have H1 : (some 0) = some r := by rw [if_pos rfl] at H; exact H
   clear H
   have H := H1
   clear H1
   obtain rfl := Option.some.inj H
   go_enter Tryd.func83, Tryd.ntmps83
   go_wp2_with (first | ((with_reducible refine gate_callee (f := 106) rfl ?_); refine ga_ (some 8) Tryd.func106 #[.int .i64 a0] ?_; (with_reducible refine (cmp_isNaN_int.calls a0 true _ A3.out).mono ?_); rintro e w' ⟨rfl, ⟨nd, rfl⟩⟩; refine ⟨_, rfl, ?_⟩) | ((with_reducible refine gate_callee (f := 106) rfl ?_); refine ga_ (some 10) Tryd.func106 #[.int .i64 a1] ?_; (with_reducible refine (cmp_isNaN_int.calls a1 true _ A4.out).mono ?_); rintro e w' ⟨rfl, ⟨nd, rfl⟩⟩; refine ⟨_, rfl, ?_⟩))
   go_ret
   exact ⟨by first | rfl | (simp; done) | (simp [*]; done), by repeat (first | exact Drawn0.refl _ | apply Drawn0.step)⟩
  ·
   replace c6 := Bool.eq_false_iff.mpr c6
   subst c6
   have H1 : (some (-1)) = some r := by rw [if_neg (show ¬ (false = true) by decide)] at H; exact H
   clear H
   have H := H1
   clear H1
   obtain rfl := Option.some.inj H
   go_enter Tryd.func83, Tryd.ntmps83
   go_wp2_with (first | ((with_reducible refine gate_callee (f := 106) rfl ?_); refine ga_ (some 8) Tryd.func106 #[.int .i64 a0] ?_; (with_reducible refine (cmp_isNaN_int.calls a0 true _ A3.out).mono ?_); rintro e w' ⟨rfl, ⟨nd, rfl⟩⟩; refine ⟨_, rfl, ?_⟩) | ((with_reducible refine gate_callee (f := 106) rfl ?_); refine ga_ (some 10) Tryd.func106 #[.int .i64 a1] ?_; (with_reducible refine (cmp_isNaN_int.calls a1 false _ A4.out).mono ?_); rintro e w' ⟨rfl, ⟨nd, rfl⟩⟩; refine ⟨_, rfl, ?_⟩))
   go_ret
   exact ⟨by first | rfl | (simp; done) | (simp [*]; done), by repeat (first | exact Drawn0.refl _ | apply Drawn0.step)⟩
 ·
  replace c5 := Bool.eq_false_iff.mpr c5
  subst c5
  have H1 : (if t539 = true then (some 1) else (if a0 < a1 then (some (-1)) else (if a0 > a1 then (some 1) else (some 0)))) = some r := by rw [if_neg (show ¬ (false = true) by decide)] at H; exact H
  clear H
  have H := H1
  clear H1
  by_cases c7 : t539 = true
  ·
   subst c7
   have H1 : (some 1) = some r := by rw [if_pos rfl] at H; exact H
   clear H
   have H := H1
   clear H1
   obtain rfl := Option.some.inj H
   go_enter Tryd.func83, Tryd.ntmps83
   go_wp2_with (first | ((with_reducible refine gate_callee (f := 106) rfl ?_); refine ga_ (some 8) Tryd.func106 #[.int .i64 a0] ?_; (with_reducible refine (cmp_isNaN_int.calls a0 false _ A3.out).mono ?_); rintro e w' ⟨rfl, ⟨nd, rfl⟩⟩; refine ⟨_, rfl, ?_⟩) | ((with_reducible refine gate_callee (f := 106) rfl ?_); refine ga_ (some 10) Tryd.func106 #[.int .i64 a1] ?_; (with_reducible refine (cmp_isNaN_int.calls a1 true _ A4.out).mono ?_); rintro e w' ⟨rfl, ⟨nd, rfl⟩⟩; refine ⟨_, rfl, ?_⟩))
   go_ret
   exact ⟨by first | rfl | (simp; done) | (simp [*]; done), by repeat (first | exact Drawn0.refl _ | apply Drawn0.step)⟩
  ·
   replace c7 := Bool.eq_false_iff.mpr c7
   subst c7
   have H1 : (if a0 < a1 then (some (-1)) else (if a0 > a1 then (some 1) else (some 0))) = some r := by rw [if_neg (show ¬ (false = true) by decide)] at H; exact H
   clear H
   have H := H1
   clear H1
   by_cases c8 : a0 < a1
   ·
    rw [if_pos c8] at H
    have c8b0 : decide (a0 < a1) = true := decide_eq_true c8
    clear c8
    obtain rfl := Option.some.inj H
    go_enter Tryd.func83, Tryd.ntmps83
    go_wp2_with (first | ((with_reducible refine gate_callee (f := 106) rfl ?_); refine ga_ (some 8) Tryd.func106 #[.int .i64 a0] ?_; (with_reducible refine (cmp_isNaN_int.calls a0 false _ A3.out).mono ?_); rintro e w' ⟨rfl, ⟨nd, rfl⟩⟩; refine ⟨_, rfl, ?_⟩) | ((with_reducible refine gate_callee (f := 106) rfl ?_); refine ga_ (some 10) Tryd.func106 #[.int .i64 a1] ?_; (with_reducible refine (cmp_isNaN_int.calls a1 false _ A4.out).mono ?_); rintro e w' ⟨rfl, ⟨nd, rfl⟩⟩; refine ⟨_, rfl, ?_⟩))
    go_ret
    exact ⟨by first | rfl | (simp; done) | (simp [*]; done), by repeat (first | exact Drawn0.refl _ | apply Drawn0.step)⟩
   ·
    rw [if_neg c8] at H
    have c8b0 : decide (a0 < a1) = false := decide_eq_false c8
    clear c8
    by_cases c9 : a0 > a1
    ·
     rw [if_pos c9] at H
     have c9b0 : decide (a1 < a0) = true := decide_eq_true c9
     clear c9
     obtain rfl := Option.some.inj H
     go_enter Tryd.func83, Tryd.ntmps83
     go_wp2_with (first | ((with_reducible refine gate_callee (f := 106) rfl ?_); refine ga_ (some 8) Tryd.func106 #[.int .i64 a0] ?_; (with_reducible refine (cmp_isNaN_int.calls a0 false _ A3.out).mono ?_); rintro e w' ⟨rfl, ⟨nd, rfl⟩⟩; refine ⟨_, rfl, ?_⟩) | ((with_reducible refine gate_callee (f := 106) rfl ?_); refine ga_ (some 10) Tryd.func106 #[.int .i64 a1] ?_; (with_reducible refine (cmp_isNaN_int.calls a1 false _ A4.out).mono ?_); rintro e w' ⟨rfl, ⟨nd, rfl⟩⟩; refine ⟨_, rfl, ?_⟩))
     go_ret
     exact ⟨by first | rfl | (simp; done) | (simp [*]; done), by repeat (first | exact Drawn0.refl _ | apply Drawn0.step)⟩
    ·
     rw [if_neg c9] at H
     have c9b0 : decide (a1 < a0) = false := decide_eq_false c9
     clear c9
     obtain rfl := Option.some.inj H
     go_enter Tryd.func83, Tryd.ntmps83
     go_wp2_with (first | ((with_reducible refine gate_callee (f := 106) rfl ?_); refine ga_ (some 8) Tryd.func106 #[.int .i64 a0] ?_; (with_reducible refine (cmp_isNaN_int.calls a0 false _ A3.out).mono ?_); rintro e w' ⟨rfl, ⟨nd, rfl⟩⟩; refine ⟨_, rfl, ?_⟩) | ((with_reducible refine gate_callee (f := 106) rfl ?_); refine ga_ (some 10) Tryd.func106 #[.int .i64 a1] ?_; (with_reducible refine (cmp_isNaN_int.calls a1 false _ A4.out).mono ?_); rintro e w' ⟨rfl, ⟨nd, rfl⟩⟩; refine ⟨_, rfl, ?_⟩))
     go_ret
     exact ⟨by first | rfl | (simp; done) | (simp [*]; done), by repeat (first | exact Drawn0.refl _ | apply Drawn0.step)⟩
def slices_Compare_int_int.l0 : Nat → List Int → List Int → List Int → Int → Int → Option (Int)
 | 0, _, _, _, _, _ => none
 | k + 1, x0, x1, x9, x10, x11 => if x11 < x10 then (if 0 ≤ x11 then (if x11 < (x9.length : Int) then (if x11 ≥ (x1.length : Int) then (some 1) else (if x11 < (x1.length : Int) then ((cmp_Compare_int.f (rd x9 x11) (rd x1 x11)).bind fun t542 => (if t542 = 0 then (slices_Compare_int_int.l0 k x0 x1 x9 x10 (wrap64 (x11 + 1))) else (some t542))) else (none))) else (none)) else (none)) else (if (x0.length : Int) < (x1.length : Int) then (some (-1)) else (some 0))
def slices_Compare_int_int.f (k : Nat) (l0 : List Int) (l1 : List Int) : Option (Int) := slices_Compare_int_int.l0 k l0 l1 l0 (l0.length : Int) 0
set_option maxHeartbeats 8000000 in
set_option maxRecDepth 100000 in
theorem slices_Compare_int_int.calls (k : Nat) (A0 : Option Addr) (c0 : Nat) (l0 : List Int) (A1 : Option Addr) (c1 : Nat) (l1 : List Int) (r : Int) (w : World) (hr0 : Kd.C (Kd.int .i64) w A0 l0.length l0) (hc0 : l0.length ≤ c0) (hr1 : Kd.C (Kd.int .i64) w A1 l1.length l1) (hc1 : l1.length ≤ c1) (h : slices_Compare_int_int.f k l0 l1 = some r) :
  Calls Tryd.prog 84 #[.slice A0 l0.length c0, .slice A1 l1.length c1] w fun e w' => e = .returned (.int .i64 r) ∧ Drawn0 w w' := by
 have HR0 := Aside0.mk hr0
 have HC0 := Aside0.mk hc0
 clear hr0 hc0
 have HR1 := Aside0.mk hr1
 have HC1 := Aside0.mk hc1
 clear hr1 hc1
 have H : (slices_Compare_int_int.l0 k l0 l1 l0 (l0.length : Int) 0) = some r := h
 clear h
 have H' := Aside0.mk H
 clear H
 go_enter Tryd.func84, Tryd.ntmps84
 go_wp2
 go_loopg [11] k (fun kq v11 w' => ∃ (x11_1 : Int), v11 = .int .i64 x11_1 ∧ Aside0 (slices_Compare_int_int.l0 kq l0 l1 l0 (l0.length : Int) x11_1 = some r) ∧ Aside0 (kq ≤ k) ∧ Drawn0 w w')
 case atStart => exact ⟨(0), (by first | rfl | (simp; done) | (simp [*]; done)), H', ⟨Nat.le_refl _⟩, by repeat (first | exact Drawn0.refl _ | apply Drawn0.step)⟩
 case round =>
  clear H'
  try clear c1
  try clear p2
  obtain ⟨x11_1, rfl, HA, HK1, ⟨m1, rfl⟩⟩ := hrel
  cases gk with
  | zero => exact absurd HA.out (by simp [slices_Compare_int_int.l0])
  | succ k1 =>
   have H := HA.out
   clear HA
   simp only [slices_Compare_int_int.l0] at H
   by_cases c3 : x11_1 < (l0.length : Int)
   ·
    rw [if_pos c3] at H
    have c3b0 : decide (x11_1 < (l0.length : Int)) = true := decide_eq_true c3
    clear c3
    by_cases c4 : 0 ≤ x11_1
    ·
     rw [if_pos c4] at H
     have c4b0 : decide (0 ≤ x11_1) = true := decide_eq_true c4
     clear c4
     by_cases c5 : x11_1 < (l0.length : Int)
     ·
      rw [if_pos c5] at H
      have c5b0 : decide (x11_1 < (l0.length : Int)) = true := decide_eq_true c5
      clear c5
      by_cases c6 : x11_1 ≥ (l1.length : Int)
      ·
       rw [if_pos c6] at H
       have c6b0 : decide ((l1.length : Int) ≤ x11_1) = true := decide_eq_true c6
       clear c6
       obtain rfl := Option.some.inj H
       have p540 : 0 ≤ (x11_1 : Int) := dt_
       have q540 : x11_1 < (l0.length : Int) := dt_
       obtain ⟨ad540, e540, hx540_0⟩ := Kd.at_int HR0.out x11_1 p540 q540
       cases e540
       replace p540 := eq_true p540
       replace q540 := eq_true q540
       go_wp2
       go_ret
       exact ⟨by first | rfl | (simp; done) | (simp [*]; done), by repeat (first | exact Drawn0.refl _ | apply Drawn0.step)⟩
      ·
       rw [if_neg c6] at H
       have c6b0 : decide ((l1.length : Int) ≤ x11_1) = false := decide_eq_false c6
       clear c6
       by_cases c7 : x11_1 < (l1.length : Int)
       ·
        rw [if_pos c7] at H
        have c7b0 : decide (x11_1 < (l1.length : Int)) = true := decide_eq_true c7; clear c7; replace H := Option.bind_eq_some_iff.mp H; obtain ⟨t542, A80, H⟩ := H; replace H : (if t542 = 0 then (slices_Compare_int_int.l0 k1 l0 l1 l0 (l0.length : Int) (wrap64 (x11_1 + 1))) else (some t542)) = some r := H; have A8 := Aside0.mk A80; clear A80
        by_cases c9 : t542 = 0
        ·
         rw [if_pos c9] at H
         have c9b0 : (t542 == 0) = true := beq_iff_eq.mpr c9; have c9b1 : (t542 != 0) = false := bne_eq_false_iff_eq.mpr c9; clear c9; have H' := Aside0.mk H; clear H; have p540 : 0 ≤ (x11_1 : Int) := dt_; have q540 : x11_1 < (l0.length : Int) := dt_; obtain ⟨ad540, e540, hx540_0⟩ := Kd.at_int HR0.out x11_1 p540 q540
         cases e540
         replace p540 := eq_true p540; replace q540 := eq_true q540; have p541 : 0 ≤ (x11_1 : Int) := dt_; have q541 : x11_1 < (l1.length : Int) := dt_; obtain ⟨ad541, e541, hx541_0⟩ := Kd.at_int HR1.out x11_1 p541 q541
         cases e541
         replace p541 := eq_true p541; replace q541 := eq_true q541
         go_wp2_with (first | ((with_reducible refine gate_callee (f := 83) rfl ?_); refine ga_ (some 26) Tryd.func83 #[.int .i64 (rd l0 x11_1), .int .i64 (rd l1 x11_1)] ?_; (with_reducible refine (cmp_Compare_int.calls (rd l0 x11_1) (rd l1 x11_1) t542 _ A8.out).mono ?_); rintro e w' ⟨rfl, ⟨nd, rfl⟩⟩; refine ⟨_, rfl, ?_⟩))
         go_roundg k1
         case measure => have := HK1.out; omega
         case rel => exact ⟨(wrap64 (x11_1 + 1)), (by first | rfl | (simp; done) | (simp [*]; done)), H', ⟨by have := HK1.out; omega⟩, by repeat (first | exact Drawn0.refl _ | apply Drawn0.step)⟩
        ·
         rw [if_neg c9] at H
         have c9b0 : (t542 == 0) = false := beq_eq_false_iff_ne.mpr c9; have c9b1 : (t542 != 0) = true := bne_iff_ne.mpr c9; obtain rfl := Option.some.inj H; have p540 : 0 ≤ (x11_1 : Int) := dt_; have q540 : x11_1 < (l0.length : Int) := dt_; obtain ⟨ad540, e540, hx540_0⟩ := Kd.at_int HR0.out x11_1 p540 q540
         cases e540
         replace p540 := eq_true p540; replace q540 := eq_true q540; have p541 : 0 ≤ (x11_1 : Int) := dt_; have q541 : x11_1 < (l1.length : Int) := dt_; obtain ⟨ad541, e541, hx541_0⟩ := Kd.at_int HR1.out x11_1 p541 q541
         cases e541
         replace p541 := eq_true p541; replace q541 := eq_true q541
         go_wp2_with (first | ((with_reducible refine gate_callee (f := 83) rfl ?_); refine ga_ (some 26) Tryd.func83 #[.int .i64 (rd l0 x11_1), .int .i64 (rd l1 x11_1)] ?_; (with_reducible refine (cmp_Compare_int.calls (rd l0 x11_1) (rd l1 x11_1) t542 _ A8.out).mono ?_); rintro e w' ⟨rfl, ⟨nd, rfl⟩⟩; refine ⟨_, rfl, ?_⟩))
         go_ret
         exact ⟨by first | rfl | (simp; done) | (simp [*]; done), by repeat (first | exact Drawn0.refl _ | apply Drawn0.step)⟩
       ·
        rw [if_neg c7] at H
        exact absurd H (by simp)
     ·
      rw [if_neg c5] at H
      exact absurd H (by simp)
    ·
     rw [if_neg c4] at H
     exact absurd H (by simp)
   ·
    rw [if_neg c3] at H
    have c3b0 : decide (x11_1 < (l0.length : Int)) = false := decide_eq_false c3
    clear c3
    by_cases c10 : (l0.length : Int) < (l1.length : Int)
    ·
     rw [if_pos c10] at H
     have c10b0 : decide ((l0.length : Int) < (l1.length : Int)) = true := decide_eq_true c10
     have c10b1 : decide (l0.length < l1.length) = true := decide_eq_true (Int.ofNat_lt.mp c10)
     clear c10
     obtain rfl := Option.some.inj H
     go_wp2
     go_ret
     exact ⟨by first | rfl | (simp; done) | (simp [*]; done), by repeat (first | exact Drawn0.refl _ | apply Drawn0.step)⟩
    ·
     rw [if_neg c10] at H
     have c10b0 : decide ((l0.length : Int) < (l1.length : Int)) = false := decide_eq_false c10
     have c10b1 : decide (l0.length < l1.length) = false := decide_eq_false (fun h => c10 (Int.ofNat_lt.mpr h))
     clear c10
     obtain rfl := Option.some.inj H
     go_wp2
     go_ret
     exact ⟨by first | rfl | (simp; done) | (simp [*]; done), by repeat (first | exact Drawn0.refl _ | apply Drawn0.step)⟩
mutual
def impl_MostPlaced.l0 : Nat → List (S29) → List Int → Int → Int → Option (List Int × Bool)
 | 0, _, _, _, _ => none
 | k + 1, x0, x4, x15, x16 => if x16 < x15 then (impl_MostPlaced.l1 k x0 x4 x16 ([] : List Int) x15 x16 (x0.length : Int) 0) else (some (x4, true))
def impl_MostPlaced.l1 : Nat → List (S29) → List Int → Int → List Int → Int → Int → Int → Int → Option (List Int × Bool)
 | 0, _, _, _, _, _, _, _, _ => none
 | k + 1, x0, x4, x5, x6, x15, x16, x20, x21 => if x21 < x20 then (if 0 ≤ x21 then (if (Go.bits .and .i64 (shr .i64 x5 x21) 1) = 1 then (if x6.length < 17592186044416 then (impl_MostPlaced.l1 k x0 x4 x5 (x6 ++ [x21]) x15 x16 x20 (wrap64 (x21 + 1))) else (none)) else (impl_MostPlaced.l1 k x0 x4 x5 x6 x15 x16 x20 (wrap64 (x21 + 1)))) else (none)) else ((cmp_Compare_int.f (x4.length : Int) (x6.length : Int)).bind fun t547 => ((slices_Compare_int_int.f k x6 x4).bind fun t548 => ((cmp_Or_int.f k (([t547, t548] : List Int))).bind fun t552 => (if t552 ≥ 0 then (impl_MostPlaced.l0 k x0 x4 x15 (wrap64 (x16 + 1))) else ((impl_firstPlacing.f x0 x6).bind fun bt553 => (if bt553.2 = true then (impl_MostPlaced.l0 k x0 x6 x15 (wrap64 (x16 + 1))) else (impl_MostPlaced.l0 k x0 x4 x15 (wrap64 (x16 + 1)))))))))
end
def impl_MostPlaced.f (k : Nat) (l0 : List (S29)) : Option (List Int × Bool) := (impl_AreLabels.f l0).bind fun t543 => (if t543 = true then (impl_MostPlaced.l0 k l0 ([] : List Int) (shl .i64 1 (l0.length : Int)) 0) else (some (([] : List Int), false)))
set_option maxHeartbeats 8000000 in
set_option maxRecDepth 100000 in
theorem impl_MostPlaced.calls (k : Nat) (A0 : Option Addr) (c0 : Nat) (l0 : List (S29)) (r1 : List Int) (r2 : Bool) (w : World) (hr0 : Kd.C k29 w A0 l0.length l0) (hc0 : l0.length ≤ c0) (h : impl_MostPlaced.f k l0 = some (r1, r2)) :
  Calls Tryd.prog 42 #[.slice A0 l0.length c0] w fun e w' => ∃ v0_ : Value, e = .returned (.tuple #[v0_, .bool r2]) ∧ Kd.R (Kd.int .i64) 3 w' w.heap.size (fun _ => True) v0_ r1 ∧ Below w.heap.size w w' := by
 have HR0 := Aside0.mk hr0
 have HC0 := Aside0.mk hc0
 clear hr0 hc0
 have HB := Aside0.mk (Below.refl w.heap.size w)
 have H : ((impl_AreLabels.f l0).bind fun t543 => (if t543 = true then (impl_MostPlaced.l0 k l0 ([] : List Int) (shl .i64 1 (l0.length : Int)) 0) else (some (([] : List Int), false)))) = some (r1, r2) := h
 clear h
 replace H := Option.bind_eq_some_iff.mp H
 obtain ⟨t543, A20, H⟩ := H
 replace H : (if t543 = true then (impl_MostPlaced.l0 k l0 ([] : List Int) (shl .i64 1 (l0.length : Int)) 0) else (some (([] : List Int), false))) = some (r1, r2) := H
 have A2 := Aside0.mk A20
 clear A20
 by_cases c3 : t543 = true
 ·
  subst c3
  have H1 : (impl_MostPlaced.l0 k l0 ([] : List Int) (shl .i64 1 (l0.length : Int)) 0) = some (r1, r2) := by rw [if_pos rfl] at H; exact H
  clear H
  have H := H1
  clear H1
  obtain ⟨ji4, hji4⟩ : ∃ j_ : Int, (shl .i64 1 (l0.length : Int)) = j_ := ⟨_, rfl⟩
  replace H : (impl_MostPlaced.l0 k l0 ([] : List Int) ji4 0) = some (r1, r2) := by first | (rw [hji4] at H; exact H) | (simp only [hji4] at H ⊢; exact H)
  (try rw [hji4] at A2)
  have hji4_ : (IntKind.i64.wrap (1 * 2 ^ min (l0.length : Int).toNat 64)) = ji4 := hji4
  have hji4z : (l0.length : Int) ≤ 64 → (IntKind.i64.wrap (1 * 2 ^ (l0.length : Int).toNat)) = ji4 := shl_small hji4
  have hji4p : (IntKind.i64.wrap (1 * 2 ^ min l0.length 64)) = ji4 := hji4_
  have hji4q : (l0.length : Int) ≤ 64 → (IntKind.i64.wrap (1 * 2 ^ l0.length)) = ji4 := hji4z
  have hji4r : (IntKind.i64.wrap (2 ^ min l0.length 64)) = ji4 := by have h_ := hji4p; rw [Int.one_mul] at h_; exact h_
  have hji4s : (l0.length : Int) ≤ 64 → (IntKind.i64.wrap (2 ^ l0.length)) = ji4 := fun hle_ => by have h_ := hji4q hle_; rw [Int.one_mul] at h_; exact h_
  have hji4u : (IntKind.i64.wrap (2 ^ min (l0.length : Int).toNat 64)) = ji4 := by have h_ := hji4_; rw [Int.one_mul] at h_; exact h_
  have hji4v : (l0.length : Int) ≤ 64 → (IntKind.i64.wrap (2 ^ (l0.length : Int).toNat)) = ji4 := fun hle_ => by have h_ := hji4z hle_; rw [Int.one_mul] at h_; exact h_
  have hji4y : (wrap64 (1 * 2 ^ min (l0.length : Int).toNat 64)) = ji4 := (i64_w _).symm.trans hji4_
  have hji4x : (l0.length : Int) ≤ 64 → (wrap64 (1 * 2 ^ (l0.length : Int).toNat)) = ji4 := fun h_ => (i64_w _).symm.trans (hji4z h_)
  have H' := Aside0.mk H
  clear H
  go_enter Tryd.func42, Tryd.ntmps42
  go_wp2_with (first | ((with_reducible refine gate_callee (f := 21) rfl ?_); refine ga_ (some 11) Tryd.func21 #[.slice A0 l0.length c0] ?_; (with_reducible refine (impl_AreLabels.calls _ _ l0 true _ ?side1 ?side2 A2.out).mono ?_); (case side1 => exact kc_ HR0.out); (case side2 => exact HC0.out); rintro e w5 ⟨rfl, hb⟩; refine ⟨_, rfl, ?_⟩; replace HB := Aside0.mk (below_step (lb0_ HB.out) hb); (try clear hb); (try clear hb2); (try clear hk); (try clear hi)))
  go_loopg [4, 16] k (fun kq v4 v16 w' => ∃ (x4_1 : List Int) (x16_1 : Int), v16 = .int .i64 x16_1 ∧ Aside0 (impl_MostPlaced.l0 kq l0 x4_1 ji4 x16_1 = some (r1, r2)) ∧ Aside0 (kq ≤ k) ∧ Aside0 (Kd.R (Kd.int .i64) 3 w' w.heap.size (fun _ => True) v4 x4_1) ∧ Aside0 (Below w.heap.size w w'))
  case atStart => exact ⟨(([] : List Int)), (0), (by first | rfl | (simp; done) | (simp [*]; done)), H', ⟨Nat.le_refl _⟩, ⟨by first | exact Kd.R_nil _ _ _ _ _ | exact Kd.N_nil _ _ _ _ _ | exact Kd.V_nil _ _ _ _ _ | exact Kd.Q_nil _ _ _ _ _ | exact Kd.S_nil _ _ _ _ _⟩, ⟨lb0_ HB.out⟩⟩
  case round =>
   clear H'
   try clear c2
   try clear p2
   try clear c3
   try clear c4
   obtain ⟨x4_1, x16_1, rfl, HA, HK1, HO_4, HB⟩ := hrel
   cases gk with
   | zero => exact absurd HA.out (by simp [impl_MostPlaced.l0])
   | succ k1 =>
    have H := HA.out
    clear HA
    simp only [impl_MostPlaced.l0] at H
    by_cases c6 : x16_1 < ji4
    ·
     rw [if_pos c6] at H
     have c6b0 : decide (x16_1 < ji4) = true := decide_eq_true c6
     clear c6
     have H' := Aside0.mk H
     clear H
     go_wp2
     go_loopg [6, 21] k1 (fun kq v6 v21 w' => ∃ (x6_2 : List Int) (x21_2 : Int), v21 = .int .i64 x21_2 ∧ Aside0 (impl_MostPlaced.l1 kq l0 x4_1 x16_1 x6_2 ji4 x16_1 (l0.length : Int) x21_2 = some (r1, r2)) ∧ Aside0 (kq ≤ k1) ∧ Aside0 (Kd.R (Kd.int .i64) 3 w' w.heap.size (fun k_ => some k_ ≠ (v6 : Value).ownBlock) u4 x4_1) ∧ Aside0 (Kd.R (Kd.int .i64) 3 w' w.heap.size (fun k_ => some k_ ≠ (u4 : Value).ownBlock) v6 x6_2) ∧ Aside0 (Below w.heap.size w w'))
     case atStart => exact ⟨(([] : List Int)), (0), (by first | rfl | (simp; done) | (simp [*]; done)), H', ⟨Nat.le_refl _⟩, ⟨krm_ HO_4.out (fun _ hk => (by simp [Value.ownBlock]))⟩, ⟨by first | exact Kd.R_nil _ _ _ _ _ | exact Kd.N_nil _ _ _ _ _ | exact Kd.V_nil _ _ _ _ _ | exact Kd.Q_nil _ _ _ _ _ | exact Kd.S_nil _ _ _ _ _⟩, ⟨lb0_ HB.out⟩⟩
     case round =>
      clear H'
      try clear c2
      try clear p2
      try clear c3
      try clear c4
      try clear c6
      try clear c6b0
      try clear p6
      try clear p2
      obtain ⟨x6_2, x21_2, rfl, HA, HK2, HO_4, HO_6, HB⟩ := hrel
      cases gk with
      | zero => exact absurd HA.out (by simp [impl_MostPlaced.l1])
      | succ k2 =>
       have H := HA.out
       clear HA
       simp only [impl_MostPlaced.l1] at H
       by_cases c7 : x21_2 < (l0.length : Int)
       ·
        rw [if_pos c7] at H
        have c7b0 : decide (x21_2 < (l0.length : Int)) = true := decide_eq_true c7; clear c7
        by_cases c8 : 0 ≤ x21_2
        ·
         rw [if_pos c8] at H
         have c8b0 := eq_true c8; have c8b1 : decide (0 ≤ x21_2) = true := decide_eq_true c8; clear c8
         obtain ⟨ji9, hji9⟩ : ∃ j_ : Int, (shr .i64 x16_1 x21_2) = j_ := ⟨_, rfl⟩
         replace H : (if (Go.bits .and .i64 (ji9) 1) = 1 then (if x6_2.length < 17592186044416 then (impl_MostPlaced.l1 k2 l0 x4_1 x16_1 (x6_2 ++ [x21_2]) ji4 x16_1 (l0.length : Int) (wrap64 (x21_2 + 1))) else (none)) else (impl_MostPlaced.l1 k2 l0 x4_1 x16_1 x6_2 ji4 x16_1 (l0.length : Int) (wrap64 (x21_2 + 1)))) = some (r1, r2) := by first | (rw [hji9] at H; exact H) | (simp only [hji9] at H ⊢; exact H)
         have hji9_ : (x16_1 / 2 ^ min x21_2.toNat 64) = ji9 := hji9; have hji9z : x21_2 ≤ 64 → (x16_1 / 2 ^ x21_2.toNat) = ji9 := shr_small hji9
         by_cases c10 : (Go.bits .and .i64 (ji9) 1) = 1
         ·
          rw [if_pos c10] at H
          have c10b0 : ((Go.bits .and .i64 (ji9) 1) == 1) = true := beq_iff_eq.mpr c10; have c10b1 : ((Go.bits .and .i64 (ji9) 1) != 1) = false := bne_eq_false_iff_eq.mpr c10; clear c10
          by_cases c11 : x6_2.length < 17592186044416
          ·
           rw [if_pos c11] at H
           have LMc11 := Aside0.mk c11; clear c11
           obtain ⟨y544, hy544⟩ : ∃ y_ : List Int, y_ = (x6_2 ++ [x21_2]) := ⟨_, rfl⟩
           replace H : (impl_MostPlaced.l1 k2 l0 x4_1 x16_1 y544 ji4 x16_1 (l0.length : Int) (wrap64 (x21_2 + 1))) = some (r1, r2) := by first | (rw [hy544]; with_reducible exact H) | (have H2_ := (Option.bind_some _ _).symm.trans H; rw [hy544]; with_reducible exact H2_) | (have H2_ := (Option.bind_some _ _).symm.trans H; with_reducible exact H2_) | with_reducible exact H | (rw [hy544]; exact H) | exact H
           have Ny544 := Aside0.mk hy544; clear hy544; have H' := Aside0.mk H; clear H
           go_wp2_with (first | ((with_reducible refine gate_builtin (b := .append) (xs := #[.tmp 29, .tmp 31]) rfl ?_); at_builtin; refine Kd.R_append (Kd.int .i64) (w0 := w) w.heap.size rfl (.tmp 29) (.tmp 31) 40 3 (.int .i64 0) 8 rfl Tryd.underlying40 info3 rfl (by decide) (by omega) u6 x6_2 x21_2 [.int .i64 x21_2] (fun k_ => some k_ ≠ (u4 : Value).ownBlock) (fun _ => False) rfl rfl ?aP (fun _ hk => hk.elim) ?aF ?aO ?aB ?aS ?aL ?_; (case aP => exact rfl); (case aB => exact (lb0_ HB.out)); (case aF => exact (fun k_ hk => Kd.fresh' (Kd.R_lt (kr_ HO_4.out)) k_ hk)); (case aO => exact (kr_ HO_6.out)); (case aS => exact (below_size (lb0_ HB.out))); (case aL => have := LMc11.out; omega); intro v545 w12 ho hb hg hat; rw [← Ny544.out] at ho; replace HO_4 := Aside0.mk (Kd.R_after (ok := (fun _ => True)) (krm_ HO_4.out (fun _ hk => ⟨trivial, hk⟩)) hg hat); replace HB := Aside0.mk (hb); have HO546 := Aside0.mk (ho); clear HO_6; clear ho hb hg hat))
           go_roundg k2
           case measure => have := HK1.out; have := HK2.out; omega
           case rel => exact ⟨(y544), (wrap64 (x21_2 + 1)), (by first | rfl | (simp; done) | (simp [*]; done)), H', ⟨by have := HK1.out; have := HK2.out; omega⟩, ⟨krm_ HO_4.out (fun _ hk => hk.2)⟩, ⟨kr_ HO546.out⟩, ⟨lb0_ HB.out⟩⟩
          ·
           rw [if_neg c11] at H
           exact absurd H (by simp)
         ·
          rw [if_neg c10] at H
          have c10b0 : ((Go.bits .and .i64 (ji9) 1) == 1) = false := beq_eq_false_iff_ne.mpr c10; have c10b1 : ((Go.bits .and .i64 (ji9) 1) != 1) = true := bne_iff_ne.mpr c10; have H' := Aside0.mk H; clear H
          go_wp2
          go_roundg k2
          case measure => have := HK1.out; have := HK2.out; omega
          case rel => exact ⟨(x6_2), (wrap64 (x21_2 + 1)), (by first | rfl | (simp; done) | (simp [*]; done)), H', ⟨by have := HK1.out; have := HK2.out; omega⟩, ⟨kr_ HO_4.out⟩, ⟨kr_ HO_6.out⟩, ⟨lb0_ HB.out⟩⟩
        ·
         rw [if_neg c8] at H
         exact absurd H (by simp)
       ·
        rw [if_neg c7] at H
        have c7b0 : decide (x21_2 < (l0.length : Int)) = false := decide_eq_false c7; clear c7; replace H := Option.bind_eq_some_iff.mp H; obtain ⟨t547, A130, H⟩ := H; replace H : ((slices_Compare_int_int.f k2 x6_2 x4_1).bind fun t548 => ((cmp_Or_int.f k2 (([t547, t548] : List Int))).bind fun t552 => (if t552 ≥ 0 then (impl_MostPlaced.l0 k2 l0 x4_1 ji4 (wrap64 (x16_1 + 1))) else ((impl_firstPlacing.f l0 x6_2).bind fun bt553 => (if bt553.2 = true then (impl_MostPlaced.l0 k2 l0 x6_2 ji4 (wrap64 (x16_1 + 1))) else (impl_MostPlaced.l0 k2 l0 x4_1 ji4 (wrap64 (x16_1 + 1)))))))) = some (r1, r2) := H; have A13 := Aside0.mk A130; clear A130; replace H := Option.bind_eq_some_iff.mp H; obtain ⟨t548, A140, H⟩ := H; replace H : ((cmp_Or_int.f k2 (([t547, t548] : List Int))).bind fun t552 => (if t552 ≥ 0 then (impl_MostPlaced.l0 k2 l0 x4_1 ji4 (wrap64 (x16_1 + 1))) else ((impl_firstPlacing.f l0 x6_2).bind fun bt553 => (if bt553.2 = true then (impl_MostPlaced.l0 k2 l0 x6_2 ji4 (wrap64 (x16_1 + 1))) else (impl_MostPlaced.l0 k2 l0 x4_1 ji4 (wrap64 (x16_1 + 1))))))) = some (r1, r2) := H; have A14 := Aside0.mk A140; clear A140
        obtain ⟨y549, hy549⟩ : ∃ y_ : List Int, y_ = (([t547, t548] : List Int)) := ⟨_, rfl⟩
        replace H : ((cmp_Or_int.f k2 y549).bind fun t552 => (if t552 ≥ 0 then (impl_MostPlaced.l0 k2 l0 x4_1 ji4 (wrap64 (x16_1 + 1))) else ((impl_firstPlacing.f l0 x6_2).bind fun bt553 => (if bt553.2 = true then (impl_MostPlaced.l0 k2 l0 x6_2 ji4 (wrap64 (x16_1 + 1))) else (impl_MostPlaced.l0 k2 l0 x4_1 ji4 (wrap64 (x16_1 + 1))))))) = some (r1, r2) := by first | (rw [hy549]; with_reducible exact H) | (have H2_ := (Option.bind_some _ _).symm.trans H; rw [hy549]; with_reducible exact H2_) | (have H2_ := (Option.bind_some _ _).symm.trans H; with_reducible exact H2_) | with_reducible exact H | (rw [hy549]; exact H) | exact H
        have Ny549 := Aside0.mk hy549; clear hy549; replace H := Option.bind_eq_some_iff.mp H; obtain ⟨t552, A150, H⟩ := H; replace H : (if t552 ≥ 0 then (impl_MostPlaced.l0 k2 l0 x4_1 ji4 (wrap64 (x16_1 + 1))) else ((impl_firstPlacing.f l0 x6_2).bind fun bt553 => (if bt553.2 = true then (impl_MostPlaced.l0 k2 l0 x6_2 ji4 (wrap64 (x16_1 + 1))) else (impl_MostPlaced.l0 k2 l0 x4_1 ji4 (wrap64 (x16_1 + 1)))))) = some (r1, r2) := H; have A15 := Aside0.mk A150; clear A150
        by_cases c16 : t552 ≥ 0
        ·
         rw [if_pos c16] at H
         have c16b0 : decide (0 ≤ t552) = true := decide_eq_true c16; clear c16; have H' := Aside0.mk H; clear H; obtain ⟨Ao17, co17, eo17⟩ := Kd.R_slice HO_4.out; subst eo17; obtain ⟨Ao18, co18, eo18⟩ := Kd.R_slice HO_6.out; subst eo18
         go_wp2_with (first | ((with_reducible refine gate_callee (f := 83) rfl ?_); refine ga_ (some 38) Tryd.func83 #[.int .i64 (x4_1.length : Int), .int .i64 (x6_2.length : Int)] ?_; (with_reducible refine (cmp_Compare_int.calls (x4_1.length : Int) (x6_2.length : Int) t547 _ A13.out).mono ?_); rintro e w' ⟨rfl, ⟨nd, rfl⟩⟩; refine ⟨_, rfl, ?_⟩) | ((with_reducible refine gate_callee (f := 84) rfl ?_); refine ga_ (some 41) Tryd.func84 #[.slice Ao18 x6_2.length co18, .slice Ao17 x4_1.length co17] ?_; (with_reducible refine (slices_Compare_int_int.calls k2 _ _ x6_2 _ _ x4_1 t548 _ ?side1 ?side2 ?side3 ?side4 A14.out).mono ?_); (case side1 => exact kc_ (Kd.R_reads' HO_6.out).2.2); (case side2 => exact (Kd.R_reads' HO_6.out).2.1); (case side3 => exact kc_ (Kd.R_reads' HO_4.out).2.2); (case side4 => exact (Kd.R_reads' HO_4.out).2.1); rintro e w' ⟨rfl, ⟨nd, rfl⟩⟩; refine ⟨_, rfl, ?_⟩) | ((with_reducible refine gate_dst (N := 42) rfl ?_); refine Kd.R_lit (Kd.int .i64) _ 3 ?hg (N := 42) ?hd (xs := ([t547, t548] : List Int)) (inner := [.int .i64 t547, .int .i64 t548]) (ok := fun _ => True) (okp := fun _ => True) ?hr ?hp (fun _ hk => hk) trivial (Below.refl _ _) (Nat.le_refl _) (by simp) ?_; (case hd => rfl); (case hg => rfl); (case hr => first | (go_simp; done) | (go_simp; rfl)); (case hp => exact (Reps.one (show Kd.M (Kd.int .i64) _ _ _ t547 [.int .i64 t547] from rfl) (Reps.one (show Kd.M (Kd.int .i64) _ _ _ t548 [.int .i64 t548] from rfl) (Reps.none _ _)))); intro v550 w19 ho20 hb hg_ hnew_; clear hg_ hnew_; replace ho20 := ry_ Ny549.out ho20; have HO551 := Aside0.mk (Kd.R_lower (Kd.R_new' (Kd.R_new' ho20 (Kd.R_lt (kr_ HO_4.out))) (Kd.R_lt (kr_ HO_6.out))) (below_size (lb0_ HB.out))); replace HO_4 := Aside0.mk (Kd.R_elder' (kr_ HO_4.out) (Kd.R_base ho20) hb); replace HO_6 := Aside0.mk (Kd.R_elder' (kr_ HO_6.out) (Kd.R_base ho20) hb); replace HB := Aside0.mk (below_step (lb0_ HB.out) hb); clear hb ho20; obtain ⟨Ao21, co21, eo21⟩ := Kd.R_slice HO551.out; subst eo21) | ((with_reducible refine gate_callee (f := 82) rfl ?_); refine ga_ (some 43) Tryd.func82 #[.slice Ao21 y549.length co21] ?_; (with_reducible refine (cmp_Or_int.calls k2 _ _ y549 t552 _ ?side1 ?side2 A15.out).mono ?_); (case side1 => exact kc_ (Kd.R_reads' HO551.out).2.2); (case side2 => exact (Kd.R_reads' HO551.out).2.1); rintro e w' ⟨rfl, ⟨nd, rfl⟩⟩; refine ⟨_, rfl, ?_⟩))
         go_roundg k2
         case measure => have := HK1.out; have := HK2.out; omega
         case rel => exact ⟨(x4_1), (wrap64 (x16_1 + 1)), (by first | rfl | (simp; done) | (simp [*]; done)), H', ⟨by have := HK1.out; have := HK2.out; omega⟩, ⟨krm_ HO_4.out (fun _ hk => trivial)⟩, ⟨lb0_ HB.out⟩⟩
        ·
         rw [if_neg c16] at H
         have c16b0 : decide (0 ≤ t552) = false := decide_eq_false c16; clear c16; replace H := Option.bind_eq_some_iff.mp H; obtain ⟨⟨t553, t554⟩, A220, H⟩ := H; replace H : (if t554 = true then (impl_MostPlaced.l0 k2 l0 x6_2 ji4 (wrap64 (x16_1 + 1))) else (impl_MostPlaced.l0 k2 l0 x4_1 ji4 (wrap64 (x16_1 + 1)))) = some (r1, r2) := H; have A22 := Aside0.mk A220; clear A220
         by_cases c23 : t554 = true
         ·
          subst c23
          have H1 : (impl_MostPlaced.l0 k2 l0 x6_2 ji4 (wrap64 (x16_1 + 1))) = some (r1, r2) := by rw [if_pos rfl] at H; exact H
          clear H; have H := H1; clear H1; have H' := Aside0.mk H; clear H; obtain ⟨Ao24, co24, eo24⟩ := Kd.R_slice HO_4.out; subst eo24; obtain ⟨Ao25, co25, eo25⟩ := Kd.R_slice HO_6.out; subst eo25
          go_wp2_with (first | ((with_reducible refine gate_callee (f := 83) rfl ?_); refine ga_ (some 38) Tryd.func83 #[.int .i64 (x4_1.length : Int), .int .i64 (x6_2.length : Int)] ?_; (with_reducible refine (cmp_Compare_int.calls (x4_1.length : Int) (x6_2.length : Int) t547 _ A13.out).mono ?_); rintro e w' ⟨rfl, ⟨nd, rfl⟩⟩; refine ⟨_, rfl, ?_⟩) | ((with_reducible refine gate_callee (f := 84) rfl ?_); refine ga_ (some 41) Tryd.func84 #[.slice Ao25 x6_2.length co25, .slice Ao24 x4_1.length co24] ?_; (with_reducible refine (slices_Compare_int_int.calls k2 _ _ x6_2 _ _ x4_1 t548 _ ?side1 ?side2 ?side3 ?side4 A14.out).mono ?_); (case side1 => exact kc_ (Kd.R_reads' HO_6.out).2.2); (case side2 => exact (Kd.R_reads' HO_6.out).2.1); (case side3 => exact kc_ (Kd.R_reads' HO_4.out).2.2); (case side4 => exact (Kd.R_reads' HO_4.out).2.1); rintro e w' ⟨rfl, ⟨nd, rfl⟩⟩; refine ⟨_, rfl, ?_⟩) | ((with_reducible refine gate_dst (N := 42) rfl ?_); refine Kd.R_lit (Kd.int .i64) _ 3 ?hg (N := 42) ?hd (xs := ([t547, t548] : List Int)) (inner := [.int .i64 t547, .int .i64 t548]) (ok := fun _ => True) (okp := fun _ => True) ?hr ?hp (fun _ hk => hk) trivial (Below.refl _ _) (Nat.le_refl _) (by simp) ?_; (case hd => rfl); (case hg => rfl); (case hr => first | (go_simp; done) | (go_simp; rfl)); (case hp => exact (Reps.one (show Kd.M (Kd.int .i64) _ _ _ t547 [.int .i64 t547] from rfl) (Reps.one (show Kd.M (Kd.int .i64) _ _ _ t548 [.int .i64 t548] from rfl) (Reps.none _ _)))); intro v550 w26 ho27 hb hg_ hnew_; clear hg_ hnew_; replace ho27 := ry_ Ny549.out ho27; have HO551 := Aside0.mk (Kd.R_lower (Kd.R_new' (Kd.R_new' ho27 (Kd.R_lt (kr_ HO_4.out))) (Kd.R_lt (kr_ HO_6.out))) (below_size (lb0_ HB.out))); replace HO_4 := Aside0.mk (Kd.R_elder' (kr_ HO_4.out) (Kd.R_base ho27) hb); replace HO_6 := Aside0.mk (Kd.R_elder' (kr_ HO_6.out) (Kd.R_base ho27) hb); replace HB := Aside0.mk (below_step (lb0_ HB.out) hb); clear hb ho27; obtain ⟨Ao28, co28, eo28⟩ := Kd.R_slice HO551.out; subst eo28) | ((with_reducible refine gate_callee (f := 82) rfl ?_); refine ga_ (some 43) Tryd.func82 #[.slice Ao28 y549.length co28] ?_; (with_reducible refine (cmp_Or_int.calls k2 _ _ y549 t552 _ ?side1 ?side2 A15.out).mono ?_); (case side1 => exact kc_ (Kd.R_reads' HO551.out).2.2); (case side2 => exact (Kd.R_reads' HO551.out).2.1); rintro e w' ⟨rfl, ⟨nd, rfl⟩⟩; refine ⟨_, rfl, ?_⟩) | ((with_reducible refine gate_callee (f := 80) rfl ?_); refine ga_ (some 48) Tryd.func80 #[.slice A0 l0.length c0, .slice Ao25 x6_2.length co25] ?_; (with_reducible refine (impl_firstPlacing.calls _ _ l0 _ _ x6_2 t553 true _ ?side1 ?side2 ?side3 ?side4 A22.out).mono ?_); (case side1 => exact kc_ (Kd.C_below HR0.out (lb0_ HB.out))); (case side2 => exact HC0.out); (case side3 => exact kc_ (Kd.R_reads' HO_6.out).2.2); (case side4 => exact (Kd.R_reads' HO_6.out).2.1); rintro e w29 ⟨v555, rfl, ho0, hb⟩; refine ⟨_, rfl, ?_⟩; have HO556 := Aside0.mk (Kd.R_lower (Kd.R_new' (Kd.R_new' (Kd.R_new' ho0 (Kd.R_lt (kr_ HO_4.out))) (Kd.R_lt (kr_ HO_6.out))) (Kd.R_lt (kr_ HO551.out))) (below_size (lb0_ HB.out))); replace HO_4 := Aside0.mk (Kd.R_elder' (kr_ HO_4.out) (Kd.R_base ho0) hb); replace HO_6 := Aside0.mk (Kd.R_elder' (kr_ HO_6.out) (Kd.R_base ho0) hb); replace HO551 := Aside0.mk (Kd.R_elder' (kr_ HO551.out) (Kd.R_base ho0) hb); replace HB := Aside0.mk (below_step (lb0_ HB.out) hb); (try clear hb); (try clear hb2); (try clear hk); (try clear hi); (try clear ho0)))
          go_roundg k2
          case measure => have := HK1.out; have := HK2.out; omega
          case rel => exact ⟨(x6_2), (wrap64 (x16_1 + 1)), (by first | rfl | (simp; done) | (simp [*]; done)), H', ⟨by have := HK1.out; have := HK2.out; omega⟩, ⟨krm_ HO_6.out (fun _ hk => trivial)⟩, ⟨lb0_ HB.out⟩⟩
         ·
          replace c23 := Bool.eq_false_iff.mpr c23; subst c23
          have H1 : (impl_MostPlaced.l0 k2 l0 x4_1 ji4 (wrap64 (x16_1 + 1))) = some (r1, r2) := by rw [if_neg (show ¬ (false = true) by decide)] at H; exact H
          clear H; have H := H1; clear H1; have H' := Aside0.mk H; clear H; obtain ⟨Ao30, co30, eo30⟩ := Kd.R_slice HO_4.out; subst eo30; obtain ⟨Ao31, co31, eo31⟩ := Kd.R_slice HO_6.out; subst eo31
          go_wp2_with (first | ((with_reducible refine gate_callee (f := 83) rfl ?_); refine ga_ (some 38) Tryd.func83 #[.int .i64 (x4_1.length : Int), .int .i64 (x6_2.length : Int)] ?_; (with_reducible refine (cmp_Compare_int.calls (x4_1.length : Int) (x6_2.length : Int) t547 _ A13.out).mono ?_); rintro e w' ⟨rfl, ⟨nd, rfl⟩⟩; refine ⟨_, rfl, ?_⟩) | ((with_reducible refine gate_callee (f := 84) rfl ?_); refine ga_ (some 41) Tryd.func84 #[.slice Ao31 x6_2.length co31, .slice Ao30 x4_1.length co30] ?_; (with_reducible refine (slices_Compare_int_int.calls k2 _ _ x6_2 _ _ x4_1 t548 _ ?side1 ?side2 ?side3 ?side4 A14.out).mono ?_); (case side1 => exact kc_ (Kd.R_reads' HO_6.out).2.2); (case side2 => exact (Kd.R_reads' HO_6.out).2.1); (case side3 => exact kc_ (Kd.R_reads' HO_4.out).2.2); (case side4 => exact (Kd.R_reads' HO_4.out).2.1); rintro e w' ⟨rfl, ⟨nd, rfl⟩⟩; refine ⟨_, rfl, ?_⟩) | ((with_reducible refine gate_dst (N := 42) rfl ?_); refine Kd.R_lit (Kd.int .i64) _ 3 ?hg (N := 42) ?hd (xs := ([t547, t548] : List Int)) (inner := [.int .i64 t547, .int .i64 t548]) (ok := fun _ => True) (okp := fun _ => True) ?hr ?hp (fun _ hk => hk) trivial (Below.refl _ _) (Nat.le_refl _) (by simp) ?_; (case hd => rfl); (case hg => rfl); (case hr => first | (go_simp; done) | (go_simp; rfl)); (case hp => exact (Reps.one (show Kd.M (Kd.int .i64) _ _ _ t547 [.int .i64 t547] from rfl) (Reps.one (show Kd.M (Kd.int .i64) _ _ _ t548 [.int .i64 t548] from rfl) (Reps.none _ _)))); intro v550 w32 ho33 hb hg_ hnew_; clear hg_ hnew_; replace ho33 := ry_ Ny549.out ho33; have HO551 := Aside0.mk (Kd.R_lower (Kd.R_new' (Kd.R_new' ho33 (Kd.R_lt (kr_ HO_4.out))) (Kd.R_lt (kr_ HO_6.out))) (below_size (lb0_ HB.out))); replace HO_4 := Aside0.mk (Kd.R_elder' (kr_ HO_4.out) (Kd.R_base ho33) hb); replace HO_6 := Aside0.mk (Kd.R_elder' (kr_ HO_6.out) (Kd.R_base ho33) hb); replace HB := Aside0.mk (below_step (lb0_ HB.out) hb); clear hb ho33; obtain ⟨Ao34, co34, eo34⟩ := Kd.R_slice HO551.out; subst eo34) | ((with_reducible refine gate_callee (f := 82) rfl ?_); refine ga_ (some 43) Tryd.func82 #[.slice Ao34 y549.length co34] ?_; (with_reducible refine (cmp_Or_int.calls k2 _ _ y549 t552 _ ?side1 ?side2 A15.out).mono ?_); (case side1 => exact kc_ (Kd.R_reads' HO551.out).2.2); (case side2 => exact (Kd.R_reads' HO551.out).2.1); rintro e w' ⟨rfl, ⟨nd, rfl⟩⟩; refine ⟨_, rfl, ?_⟩) | ((with_reducible refine gate_callee (f := 80) rfl ?_); refine ga_ (some 48) Tryd.func80 #[.slice A0 l0.length c0, .slice Ao31 x6_2.length co31] ?_; (with_reducible refine (impl_firstPlacing.calls _ _ l0 _ _ x6_2 t553 false _ ?side1 ?side2 ?side3 ?side4 A22.out).mono ?_); (case side1 => exact kc_ (Kd.C_below HR0.out (lb0_ HB.out))); (case side2 => exact HC0.out); (case side3 => exact kc_ (Kd.R_reads' HO_6.out).2.2); (case side4 => exact (Kd.R_reads' HO_6.out).2.1); rintro e w35 ⟨v555, rfl, ho0, hb⟩; refine ⟨_, rfl, ?_⟩; have HO556 := Aside0.mk (Kd.R_lower (Kd.R_new' (Kd.R_new' (Kd.R_new' ho0 (Kd.R_lt (kr_ HO_4.out))) (Kd.R_lt (kr_ HO_6.out))) (Kd.R_lt (kr_ HO551.out))) (below_size (lb0_ HB.out))); replace HO_4 := Aside0.mk (Kd.R_elder' (kr_ HO_4.out) (Kd.R_base ho0) hb); replace HO_6 := Aside0.mk (Kd.R_elder' (kr_ HO_6.out) (Kd.R_base ho0) hb); replace HO551 := Aside0.mk (Kd.R_elder' (kr_ HO551.out) (Kd.R_base ho0) hb); replace HB := Aside0.mk (below_step (lb0_ HB.out) hb); (try clear hb); (try clear hb2); (try clear hk); (try clear hi); (try clear ho0)))
          go_roundg k2
          case measure => have := HK1.out; have := HK2.out; omega
          case rel => exact ⟨(x4_1), (wrap64 (x16_1 + 1)), (by first | rfl | (simp; done) | (simp [*]; done)), H', ⟨by have := HK1.out; have := HK2.out; omega⟩, ⟨krm_ HO_4.out (fun _ hk => trivial)⟩, ⟨lb0_ HB.out⟩⟩
    ·
     rw [if_neg c6] at H
     have c6b0 : decide (x16_1 < ji4) = false := decide_eq_false c6
     clear c6
     simp only [Option.some.injEq, Prod.mk.injEq] at H
     obtain ⟨rfl, rfl⟩ := H
     go_wp2
     go_ret2
     exact ⟨_, by first | rfl | (simp [errW_none, errW_some] <;> rfl) | (simp only [← hji4]; first | rfl | (simp [errW_none, errW_some] <;> rfl)) | (simp [*, errW_none, errW_some] <;> rfl), kr_ HO_4.out, lb0_ HB.out⟩
 ·
  replace c3 := Bool.eq_false_iff.mpr c3
  subst c3
  have H1 : (some (([] : List Int), false)) = some (r1, r2) := by rw [if_neg (show ¬ (false = true) by decide)] at H; exact H
  clear H
  have H := H1
  clear H1
  simp only [Option.some.injEq, Prod.mk.injEq] at H
  obtain ⟨rfl, rfl⟩ := H
  go_enter Tryd.func42, Tryd.ntmps42
  go_wp2_with (first | ((with_reducible refine gate_callee (f := 21) rfl ?_); refine ga_ (some 11) Tryd.func21 #[.slice A0 l0.length c0] ?_; (with_reducible refine (impl_AreLabels.calls _ _ l0 false _ ?side1 ?side2 A2.out).mono ?_); (case side1 => exact kc_ HR0.out); (case side2 => exact HC0.out); rintro e w36 ⟨rfl, hb⟩; refine ⟨_, rfl, ?_⟩; replace HB := Aside0.mk (below_step (lb0_ HB.out) hb); (try clear hb); (try clear hb2); (try clear hk); (try clear hi)))
  go_ret2
  exact ⟨_, rr_, by first | exact Kd.R_nil _ _ _ _ _ | exact Kd.N_nil _ _ _ _ _ | exact Kd.V_nil _ _ _ _ _ | exact Kd.Q_nil _ _ _ _ _ | exact Kd.S_nil _ _ _ _ _, lb0_ HB.out⟩
mutual
def laws_FnExactMostPlaced.j0 : Nat → List (S23) → List Int → Bool → List (S29) → List Int → Bool → Bool → Option (Bool)
 | 0, _, _, _, _, _, _, _ => none
 | k + 1, x0, x4, x5, x6, x7, x8, x40 => if x40 = true then (none) else ((laws_toLabelS.f k x0).bind fun t573 => ((laws_eqLabelS.f k x6 t573).bind fun t576 => (if t576 = true then ((laws_markLabelS.f k x6 1).bind fun bt577 => (if bt577.1 < 0 then (laws_FnExactMostPlaced.j1 k x0 x4 x5 x7 true) else ((laws_eqIntS.f k x7 x4).bind fun t579 => (if t579 = true then (laws_FnExactMostPlaced.j1 k x0 x4 x5 x7 (x8 != x5)) else (laws_FnExactMostPlaced.j1 k x0 x4 x5 x7 true))))) else (none))))
def laws_FnExactMostPlaced.j1 : Nat → List (S23) → List Int → Bool → List Int → Bool → Option (Bool)
 | 0, _, _, _, _, _ => none
 | k + 1, x0, x4, x5, x7, x61 => if x61 = true then (none) else ((laws_markIntS.f k x7 1).bind fun bt580 => ((laws_heldIntS.f k bt580.2 1).bind fun t582 => (if t582 < 0 then (none) else (if t582 = bt580.1 then ((laws_toLabelS.f k x0).bind fun t583 => ((impl_MostPlaced.f k t583).bind fun bt586 => ((laws_eqIntS.f k bt586.1 x4).bind fun t590 => (if t590 = true then (laws_FnExactMostPlaced.j2 k bt580.2 bt580.1 (bt586.2 != x5)) else (laws_FnExactMostPlaced.j2 k bt580.2 bt580.1 true))))) else (none)))))
def laws_FnExactMostPlaced.j2 : Nat → List Int → Int → Bool → Option (Bool)
 | 0, _, _, _ => none
 | k + 1, x7, x10, x87 => if x87 = true then (none) else ((laws_heldIntS.f k x7 1).bind fun t591 => (if t591 < 0 then (none) else (if t591 = x10 then (some true) else (none))))
end
def laws_FnExactMostPlaced.f (k : Nat) (l0 : List (S23)) : Option (Bool) := (laws_szLabelS.f k l0 1048576).bind fun t557 => (if t557 < 0 then (some true) else ((laws_toLabelS.f k l0).bind fun t558 => ((spec_MostPlaced.f k t558).bind fun bt561 => ((laws_toLabelS.f k l0).bind fun t565 => ((impl_MostPlaced.f k t565).bind fun bt568 => ((laws_eqIntS.f k bt568.1 bt561.1).bind fun t572 => (if t572 = true then (laws_FnExactMostPlaced.j0 k l0 bt561.1 bt561.2 t565 bt568.1 bt568.2 (bt568.2 != bt561.2)) else (laws_FnExactMostPlaced.j0 k l0 bt561.1 bt561.2 t565 bt568.1 bt568.2 true))))))))
set_option maxHeartbeats 64000000 in
set_option maxRecDepth 100000 in
theorem laws_FnExactMostPlaced.calls (k : Nat) (A0 : Option Addr) (c0 : Nat) (l0 : List (S23)) (r : Bool) (w : World) (hr0 : Kd.C k23 w A0 l0.length l0) (hc0 : l0.length ≤ c0) (h : laws_FnExactMostPlaced.f k l0 = some r) :
  Calls Tryd.prog 10 #[.slice A0 l0.length c0] w fun e w' => e = .returned (.bool r) ∧ Below w.heap.size w w' := by
 have HR0 := Aside0.mk hr0
 have HC0 := Aside0.mk hc0
 clear hr0 hc0
 have HB := Aside0.mk (Below.refl w.heap.size w)
 have H : ((laws_szLabelS.f k l0 1048576).bind fun t557 => (if t557 < 0 then (some true) else ((laws_toLabelS.f k l0).bind fun t558 => ((spec_MostPlaced.f k t558).bind fun bt561 => ((laws_toLabelS.f k l0).bind fun t565 => ((impl_MostPlaced.f k t565).bind fun bt568 => ((laws_eqIntS.f k bt568.1 bt561.1).bind fun t572 => (if t572 = true then (laws_FnExactMostPlaced.j0 k l0 bt561.1 bt561.2 t565 bt568.1 bt568.2 (bt568.2 != bt561.2)) else (laws_FnExactMostPlaced.j0 k l0 bt561.1 bt561.2 t565 bt568.1 bt568.2 true))))))))) = some r := h
 clear h
 replace H := Option.bind_eq_some_iff.mp H
 obtain ⟨t557, A20, H⟩ := H
 replace H : (if t557 < 0 then (some true) else ((laws_toLabelS.f k l0).bind fun t558 => ((spec_MostPlaced.f k t558).bind fun bt561 => ((laws_toLabelS.f k l0).bind fun t565 => ((impl_MostPlaced.f k t565).bind fun bt568 => ((laws_eqIntS.f k bt568.1 bt561.1).bind fun t572 => (if t572 = true then (laws_FnExactMostPlaced.j0 k l0 bt561.1 bt561.2 t565 bt568.1 bt568.2 (bt568.2 != bt561.2)) else (laws_FnExactMostPlaced.j0 k l0 bt561.1 bt561.2 t565 bt568.1 bt568.2 true)))))))) = some r := H
 have A2 := Aside0.mk A20
 clear A20
 by_cases c3 : t557 < 0
 ·
  rw [if_pos c3] at H
  have c3b0 : decide (t557 < 0) = true := decide_eq_true c3
  clear c3
  obtain rfl := Option.some.inj H
  go_enter Tryd.func10, Tryd.ntmps10
  go_wp2_with (first | ((with_reducible refine gate_callee (f := 18) rfl ?_); refine ga_ (some 16) Tryd.func18 #[.slice A0 l0.length c0, .int .i64 1048576] ?_; (with_reducible refine (laws_szLabelS.calls k _ _ l0 1048576 t557 _ ?side1 ?side2 A2.out).mono ?_); (case side1 => exact kc_ HR0.out); (case side2 => exact HC0.out); rintro e w4 ⟨rfl, hb⟩; refine ⟨_, rfl, ?_⟩; replace HB := Aside0.mk (below_step (lb0_ HB.out) hb); (try clear hb); (try clear hb2); (try clear hk); (try clear hi)))
  go_ret
  exact ⟨rr_, lb0_ HB.out⟩
 ·
  rw [if_neg c3] at H
  have c3b0 : decide (t557 < 0) = false := decide_eq_false c3
  clear c3
  replace H := Option.bind_eq_some_iff.mp H
  obtain ⟨t558, A50, H⟩ := H
  replace H : ((spec_MostPlaced.f k t558).bind fun bt561 => ((laws_toLabelS.f k l0).bind fun t565 => ((impl_MostPlaced.f k t565).bind fun bt568 => ((laws_eqIntS.f k bt568.1 bt561.1).bind fun t572 => (if t572 = true then (laws_FnExactMostPlaced.j0 k l0 bt561.1 bt561.2 t565 bt568.1 bt568.2 (bt568.2 != bt561.2)) else (laws_FnExactMostPlaced.j0 k l0 bt561.1 bt561.2 t565 bt568.1 bt568.2 true)))))) = some r := H
  have A5 := Aside0.mk A50
  clear A50
  replace H := Option.bind_eq_some_iff.mp H
  obtain ⟨⟨t561, t562⟩, A60, H⟩ := H
  replace H : ((laws_toLabelS.f k l0).bind fun t565 => ((impl_MostPlaced.f k t565).bind fun bt568 => ((laws_eqIntS.f k bt568.1 t561).bind fun t572 => (if t572 = true then (laws_FnExactMostPlaced.j0 k l0 t561 t562 t565 bt568.1 bt568.2 (bt568.2 != t562)) else (laws_FnExactMostPlaced.j0 k l0 t561 t562 t565 bt568.1 bt568.2 true))))) = some r := H
  have A6 := Aside0.mk A60
  clear A60
  replace H := Option.bind_eq_some_iff.mp H
  obtain ⟨t565, A70, H⟩ := H
  replace H : ((impl_MostPlaced.f k t565).bind fun bt568 => ((laws_eqIntS.f k bt568.1 t561).bind fun t572 => (if t572 = true then (laws_FnExactMostPlaced.j0 k l0 t561 t562 t565 bt568.1 bt568.2 (bt568.2 != t562)) else (laws_FnExactMostPlaced.j0 k l0 t561 t562 t565 bt568.1 bt568.2 true)))) = some r := H
  have A7 := Aside0.mk A70
  clear A70
  replace H := Option.bind_eq_some_iff.mp H
  obtain ⟨⟨t568, t569⟩, A80, H⟩ := H
  replace H : ((laws_eqIntS.f k t568 t561).bind fun t572 => (if t572 = true then (laws_FnExactMostPlaced.j0 k l0 t561 t562 t565 t568 t569 (t569 != t562)) else (laws_FnExactMostPlaced.j0 k l0 t561 t562 t565 t568 t569 true))) = some r := H
  have A8 := Aside0.mk A80
  clear A80
  have HC9 := Aside0.mk H
  clear H
  go_enter Tryd.func10, Tryd.ntmps10
  go_upto_region 8 with (first | ((with_reducible refine gate_callee (f := 18) rfl ?_); refine ga_ (some 16) Tryd.func18 #[.slice A0 l0.length c0, .int .i64 1048576] ?_; (with_reducible refine (laws_szLabelS.calls k _ _ l0 1048576 t557 _ ?side1 ?side2 A2.out).mono ?_); (case side1 => exact kc_ HR0.out); (case side2 => exact HC0.out); rintro e w10 ⟨rfl, hb⟩; refine ⟨_, rfl, ?_⟩; replace HB := Aside0.mk (below_step (lb0_ HB.out) hb); (try clear hb); (try clear hb2); (try clear hk); (try clear hi)) | ((with_reducible refine gate_callee (f := 20) rfl ?_); refine ga_ (some 21) Tryd.func20 #[.slice A0 l0.length c0] ?_; (with_reducible refine (laws_toLabelS.calls k _ _ l0 t558 _ ?side1 ?side2 A5.out).mono ?_); (case side1 => exact kc_ (Kd.C_below HR0.out HB.out)); (case side2 => exact HC0.out); rintro e w11 ⟨v559, rfl, ho0, hb⟩; refine ⟨_, rfl, ?_⟩; have HO560 := Aside0.mk (Kd.R_lower ho0 (below_size (lb0_ HB.out))); replace HB := Aside0.mk (below_step (lb0_ HB.out) hb); (try clear hb); (try clear hb2); (try clear hk); (try clear hi); (try clear ho0); obtain ⟨Ao12, co12, eo12⟩ := Kd.R_slice HO560.out; subst eo12) | ((with_reducible refine gate_callee (f := 41) rfl ?_); refine ga_ (some 22) Tryd.func41 #[.slice Ao12 t558.length co12] ?_; (with_reducible refine (spec_MostPlaced.calls k _ _ t558 t561 t562 _ ?side1 ?side2 A6.out).mono ?_); (case side1 => exact kc_ (Kd.R_reads' HO560.out).2.2); (case side2 => exact (Kd.R_reads' HO560.out).2.1); rintro e w13 ⟨v563, rfl, ho0, hb⟩; refine ⟨_, rfl, ?_⟩; replace HO560 := Aside0.mk (Kd.R_below (kr_ HO560.out) hb); have HO564 := Aside0.mk (Kd.R_lower ho0 (below_size (lb0_ HB.out))); replace HB := Aside0.mk (below_step (lb0_ HB.out) hb); (try clear hb); (try clear hb2); (try clear hk); (try clear hi); (try clear ho0)) | ((with_reducible refine gate_callee (f := 20) rfl ?_); refine ga_ (some 26) Tryd.func20 #[.slice A0 l0.length c0] ?_; (with_reducible refine (laws_toLabelS.calls k _ _ l0 t565 _ ?side1 ?side2 A7.out).mono ?_); (case side1 => exact kc_ (Kd.C_below HR0.out HB.out)); (case side2 => exact HC0.out); rintro e w14 ⟨v566, rfl, ho0, hb⟩; refine ⟨_, rfl, ?_⟩; replace HO564 := Aside0.mk (Kd.R_below (kr_ HO564.out) hb); have HO567 := Aside0.mk (Kd.R_lower (Kd.R_new' ho0 (Kd.R_lt (kr_ HO560.out))) (below_size (lb0_ HB.out))); replace HO560 := Aside0.mk (Kd.R_elder' (kr_ HO560.out) (Kd.R_base ho0) hb); replace HB := Aside0.mk (below_step (lb0_ HB.out) hb); (try clear hb); (try clear hb2); (try clear hk); (try clear hi); (try clear ho0); obtain ⟨Ao15, co15, eo15⟩ := Kd.R_slice HO567.out; subst eo15) | ((with_reducible refine gate_callee (f := 42) rfl ?_); refine ga_ (some 29) Tryd.func42 #[.slice Ao15 t565.length co15] ?_; (with_reducible refine (impl_MostPlaced.calls k _ _ t565 t568 t569 _ ?side1 ?side2 A8.out).mono ?_); (case side1 => exact kc_ (Kd.R_reads' HO567.out).2.2); (case side2 => exact (Kd.R_reads' HO567.out).2.1); rintro e w16 ⟨v570, rfl, ho0, hb⟩; refine ⟨_, rfl, ?_⟩; replace HO560 := Aside0.mk (Kd.R_below (kr_ HO560.out) hb); replace HO567 := Aside0.mk (Kd.R_below (kr_ HO567.out) hb); have HO571 := Aside0.mk (Kd.R_lower (Kd.R_new' ho0 (Kd.R_lt (kr_ HO564.out))) (below_size (lb0_ HB.out))); replace HO564 := Aside0.mk (Kd.R_elder' (kr_ HO564.out) (Kd.R_base ho0) hb); replace HB := Aside0.mk (below_step (lb0_ HB.out) hb); (try clear hb); (try clear hb2); (try clear hk); (try clear hi); (try clear ho0)))
  (try simp only [Act.put, List.setIfInBounds_toArray, List.set_cons_zero, List.set_cons_succ])
  go_cut [40] (fun v40 wc => ∃ (kq : Nat) (x40_8 : Bool), v40 = .bool x40_8 ∧ Aside0 (laws_FnExactMostPlaced.j0 kq l0 t561 t562 t565 t568 t569 x40_8 = some r) ∧ Aside0 (kq ≤ k) ∧ Aside0 (Kd.R (Kd.int .i64) 3 wc w.heap.size (fun k_ => some k_ ≠ (v570 : Value).ownBlock) v563 t561) ∧ Aside0 (Kd.R k29 29 wc w.heap.size (fun _ => True) (.slice Ao15 t565.length co15) t565) ∧ Aside0 (Kd.R (Kd.int .i64) 3 wc w.heap.size (fun k_ => some k_ ≠ (v563 : Value).ownBlock) v570 t568) ∧ Aside0 (Below w.heap.size w wc))
  case first =>
   have H := HC9.out
   clear HC9
   replace H := Option.bind_eq_some_iff.mp H
   obtain ⟨t572, A170, H⟩ := H
   replace H : (if t572 = true then (laws_FnExactMostPlaced.j0 k l0 t561 t562 t565 t568 t569 (t569 != t562)) else (laws_FnExactMostPlaced.j0 k l0 t561 t562 t565 t568 t569 true)) = some r := H
   have A17 := Aside0.mk A170
   clear A170
   by_cases c18 : t572 = true
   ·
    subst c18
    have H1 : (laws_FnExactMostPlaced.j0 k l0 t561 t562 t565 t568 t569 (t569 != t562)) = some r := by rw [if_pos rfl] at H; exact H
    clear H
    have H := H1
    clear H1
    have H' := Aside0.mk H
    clear H
    obtain ⟨Ao19, co19, eo19⟩ := Kd.R_slice HO571.out
    subst eo19
    obtain ⟨Ao20, co20, eo20⟩ := Kd.R_slice HO564.out
    subst eo20
    go_wp2_with (first | ((with_reducible refine gate_callee (f := 26) rfl ?_); refine ga_ (some 34) Tryd.func26 #[.slice Ao19 t568.length co19, .slice Ao20 t561.length co20] ?_; (with_reducible refine (laws_eqIntS.calls k _ _ t568 _ _ t561 true _ ?side1 ?side2 ?side3 ?side4 A17.out).mono ?_); (case side1 => exact kc_ (Kd.R_reads' HO571.out).2.2); (case side2 => exact (Kd.R_reads' HO571.out).2.1); (case side3 => exact kc_ (Kd.R_reads' HO564.out).2.2); (case side4 => exact (Kd.R_reads' HO564.out).2.1); rintro e w' ⟨rfl, ⟨nd, rfl⟩⟩; refine ⟨_, rfl, ?_⟩))
    go_meet
    case rel => exact ⟨_, ((t569 != t562)), (by first | rfl | (simp; done) | (simp [*]; done)), H', ⟨by first | omega | exact Nat.le_refl _⟩, ⟨krm_ HO564.out (fun _ hk => hk.2)⟩, ⟨krm_ HO567.out (fun _ hk => trivial)⟩, ⟨krm_ HO571.out (fun _ hk => hk.2)⟩, ⟨lb0_ HB.out⟩⟩
   ·
    replace c18 := Bool.eq_false_iff.mpr c18
    subst c18
    have H1 : (laws_FnExactMostPlaced.j0 k l0 t561 t562 t565 t568 t569 true) = some r := by rw [if_neg (show ¬ (false = true) by decide)] at H; exact H
    clear H
    have H := H1
    clear H1
    have H' := Aside0.mk H
    clear H
    obtain ⟨Ao21, co21, eo21⟩ := Kd.R_slice HO571.out
    subst eo21
    obtain ⟨Ao22, co22, eo22⟩ := Kd.R_slice HO564.out
    subst eo22
    go_wp2_with (first | ((with_reducible refine gate_callee (f := 26) rfl ?_); refine ga_ (some 34) Tryd.func26 #[.slice Ao21 t568.length co21, .slice Ao22 t561.length co22] ?_; (with_reducible refine (laws_eqIntS.calls k _ _ t568 _ _ t561 false _ ?side1 ?side2 ?side3 ?side4 A17.out).mono ?_); (case side1 => exact kc_ (Kd.R_reads' HO571.out).2.2); (case side2 => exact (Kd.R_reads' HO571.out).2.1); (case side3 => exact kc_ (Kd.R_reads' HO564.out).2.2); (case side4 => exact (Kd.R_reads' HO564.out).2.1); rintro e w' ⟨rfl, ⟨nd, rfl⟩⟩; refine ⟨_, rfl, ?_⟩))
    go_meet
    case rel => exact ⟨_, (true), (by first | rfl | (simp; done) | (simp [*]; done)), H', ⟨by first | omega | exact Nat.le_refl _⟩, ⟨krm_ HO564.out (fun _ hk => hk.2)⟩, ⟨krm_ HO567.out (fun _ hk => trivial)⟩, ⟨krm_ HO571.out (fun _ hk => hk.2)⟩, ⟨lb0_ HB.out⟩⟩
  case rest =>
   clear HC9
   try clear c1
   try clear c2
   try clear p2
   try clear c3
   try clear c3b0
   try clear c4
   try clear c10
   try clear c18
   try clear c20
   obtain ⟨kq, x40_8, rfl, HA, HJ8, HO_4, HO_6, HO_7, HB⟩ := hcut
   cases kq with
   | zero => exact absurd HA.out (by simp [laws_FnExactMostPlaced.j0])
   | succ kj8 =>
    have H := HA.out
    clear HA
    simp only [laws_FnExactMostPlaced.j0] at H
    by_cases c23 : x40_8 = true
    ·
     subst c23
     have H1 : (none) = some r := by rw [if_pos rfl] at H; exact H
     clear H
     have H := H1
     clear H1
     exact absurd H (by simp)
    ·
     replace c23 := Bool.eq_false_iff.mpr c23
     subst c23
     have H1 : ((laws_toLabelS.f kj8 l0).bind fun t573 => ((laws_eqLabelS.f kj8 t565 t573).bind fun t576 => (if t576 = true then ((laws_markLabelS.f kj8 t565 1).bind fun bt577 => (if bt577.1 < 0 then (laws_FnExactMostPlaced.j1 kj8 l0 t561 t562 t568 true) else ((laws_eqIntS.f kj8 t568 t561).bind fun t579 => (if t579 = true then (laws_FnExactMostPlaced.j1 kj8 l0 t561 t562 t568 (t569 != t562)) else (laws_FnExactMostPlaced.j1 kj8 l0 t561 t562 t568 true))))) else (none)))) = some r := by rw [if_neg (show ¬ (false = true) by decide)] at H; exact H
     clear H
     have H := H1
     clear H1
     replace H := Option.bind_eq_some_iff.mp H
     obtain ⟨t573, A240, H⟩ := H
     replace H : ((laws_eqLabelS.f kj8 t565 t573).bind fun t576 => (if t576 = true then ((laws_markLabelS.f kj8 t565 1).bind fun bt577 => (if bt577.1 < 0 then (laws_FnExactMostPlaced.j1 kj8 l0 t561 t562 t568 true) else ((laws_eqIntS.f kj8 t568 t561).bind fun t579 => (if t579 = true then (laws_FnExactMostPlaced.j1 kj8 l0 t561 t562 t568 (t569 != t562)) else (laws_FnExactMostPlaced.j1 kj8 l0 t561 t562 t568 true))))) else (none))) = some r := H
     have A24 := Aside0.mk A240
     clear A240
     replace H := Option.bind_eq_some_iff.mp H
     obtain ⟨t576, A250, H⟩ := H
     replace H : (if t576 = true then ((laws_markLabelS.f kj8 t565 1).bind fun bt577 => (if bt577.1 < 0 then (laws_FnExactMostPlaced.j1 kj8 l0 t561 t562 t568 true) else ((laws_eqIntS.f kj8 t568 t561).bind fun t579 => (if t579 = true then (laws_FnExactMostPlaced.j1 kj8 l0 t561 t562 t568 (t569 != t562)) else (laws_FnExactMostPlaced.j1 kj8 l0 t561 t562 t568 true))))) else (none)) = some r := H
     have A25 := Aside0.mk A250
     clear A250
     by_cases c26 : t576 = true
     ·
      subst c26
      have H1 : ((laws_markLabelS.f kj8 t565 1).bind fun bt577 => (if bt577.1 < 0 then (laws_FnExactMostPlaced.j1 kj8 l0 t561 t562 t568 true) else ((laws_eqIntS.f kj8 t568 t561).bind fun t579 => (if t579 = true then (laws_FnExactMostPlaced.j1 kj8 l0 t561 t562 t568 (t569 != t562)) else (laws_FnExactMostPlaced.j1 kj8 l0 t561 t562 t568 true))))) = some r := by rw [if_pos rfl] at H; exact H
      clear H
      have H := H1
      clear H1
      replace H := Option.bind_eq_some_iff.mp H
      obtain ⟨⟨t577, t578⟩, A270, H⟩ := H
      replace H : (if t577 < 0 then (laws_FnExactMostPlaced.j1 kj8 l0 t561 t562 t568 true) else ((laws_eqIntS.f kj8 t568 t561).bind fun t579 => (if t579 = true then (laws_FnExactMostPlaced.j1 kj8 l0 t561 t562 t568 (t569 != t562)) else (laws_FnExactMostPlaced.j1 kj8 l0 t561 t562 t568 true)))) = some r := H
      have A27 := Aside0.mk A270
      clear A270
      have HC28 := Aside0.mk H
      clear H
      go_upto_region 14 with (first | ((with_reducible refine gate_callee (f := 20) rfl ?_); refine ga_ (some 43) Tryd.func20 #[.slice A0 l0.length c0] ?_; (with_reducible refine (laws_toLabelS.calls kj8 _ _ l0 t573 _ ?side1 ?side2 A24.out).mono ?_); (case side1 => exact kc_ (Kd.C_below HR0.out HB.out)); (case side2 => exact HC0.out); rintro e w29 ⟨v574, rfl, ho0, hb⟩; refine ⟨_, rfl, ?_⟩; replace HO_4 := Aside0.mk (Kd.R_below (kr_ HO_4.out) hb); replace HO_7 := Aside0.mk (Kd.R_below (kr_ HO_7.out) hb); have HO575 := Aside0.mk (Kd.R_lower (Kd.R_new' ho0 (Kd.R_lt (kr_ HO_6.out))) (below_size (lb0_ HB.out))); replace HO_6 := Aside0.mk (Kd.R_elder' (kr_ HO_6.out) (Kd.R_base ho0) hb); replace HB := Aside0.mk (below_step (lb0_ HB.out) hb); (try clear hb); (try clear hb2); (try clear hk); (try clear hi); (try clear ho0); obtain ⟨Ao30, co30, eo30⟩ := Kd.R_slice HO575.out; subst eo30) | ((with_reducible refine gate_callee (f := 22) rfl ?_); refine ga_ (some 44) Tryd.func22 #[.slice Ao15 t565.length co15, .slice Ao30 t573.length co30] ?_; (with_reducible refine (laws_eqLabelS.calls kj8 _ _ t565 _ _ t573 true _ ?side1 ?side2 ?side3 ?side4 A25.out).mono ?_); (case side1 => exact kc_ (Kd.R_reads' HO_6.out).2.2); (case side2 => exact (Kd.R_reads' HO_6.out).2.1); (case side3 => exact kc_ (Kd.R_reads' HO575.out).2.2); (case side4 => exact (Kd.R_reads' HO575.out).2.1); rintro e w31 ⟨rfl, hb⟩; refine ⟨_, rfl, ?_⟩; replace HO_4 := Aside0.mk (Kd.R_below (kr_ HO_4.out) hb); replace HO_6 := Aside0.mk (Kd.R_below (kr_ HO_6.out) hb); replace HO_7 := Aside0.mk (Kd.R_below (kr_ HO_7.out) hb); replace HO575 := Aside0.mk (Kd.R_below (kr_ HO575.out) hb); replace HB := Aside0.mk (below_step (lb0_ HB.out) hb); (try clear hb); (try clear hb2); (try clear hk); (try clear hi)) | ((with_reducible refine gate_callee (f := 29) rfl ?_); refine ga_ (some 48) Tryd.func29 #[.slice Ao15 t565.length co15, .int .i64 1] ?_; (with_reducible refine (laws_markLabelS.calls kj8 (fun k_ => some k_ = (.slice Ao15 t565.length co15 : Value).ownBlock) (.slice Ao15 t565.length co15) t565 1 t577 t578 w _ ?side1 ?side2 A27.out).mono ?_); (case side1 => exact lb0_ HB.out); (case side2 => exact Kd.R_tight rfl HO_6.out); rintro e w32 ⟨rfl, hy0, hb, hkp⟩; refine ⟨_, rfl, ?_⟩; replace HO_4 := Aside0.mk (Kd.R_mono (ok' := fun k_ => some k_ ≠ (v570 : Value).ownBlock) (Kd.R_keptB ((Kd.R_apart' HO_4.out (Kd.R_typed HO_6.out) (by decide))) hkp (fun k_ hk_ hs_ => (hk_.2) hs_)) (fun k_ hk_ => hk_.1.1)); replace HO_7 := Aside0.mk (Kd.R_mono (ok' := fun k_ => some k_ ≠ (v563 : Value).ownBlock) (Kd.R_keptB ((Kd.R_apart' HO_7.out (Kd.R_typed HO_6.out) (by decide))) hkp (fun k_ hk_ hs_ => (hk_.2) hs_)) (fun k_ hk_ => hk_.1.1)); replace HO_6 := Aside0.mk (Kd.R_reok rfl hy0 (fun k_ e_ => HO_6.out.1 k_ e_)); replace HO575 := Aside0.mk (Kd.R_mono (ok' := fun k_ => some k_ ≠ (.slice Ao15 t565.length co15 : Value).ownBlock) (Kd.R_keptB (HO575.out) hkp (fun k_ hk_ hs_ => (hk_.2) hs_)) (fun k_ hk_ => hk_.1.2)); replace HB := Aside0.mk (hb); (try clear hb); (try clear hkp); (try clear hy0)))
      (try simp only [Act.put, List.setIfInBounds_toArray, List.set_cons_zero, List.set_cons_succ])
      go_cut [61] (fun v61 wc => ∃ (kq : Nat) (x61_27 : Bool), v61 = .bool x61_27 ∧ Aside0 (laws_FnExactMostPlaced.j1 kq l0 t561 t562 t568 x61_27 = some r) ∧ Aside0 (kq ≤ kj8) ∧ Aside0 (Kd.R (Kd.int .i64) 3 wc w.heap.size (fun k_ => some k_ ≠ (v570 : Value).ownBlock) v563 t561) ∧ Aside0 (Kd.R (Kd.int .i64) 3 wc w.heap.size (fun k_ => some k_ ≠ (v563 : Value).ownBlock) v570 t568) ∧ Aside0 (Below w.heap.size w wc))
      case first =>
       have H := HC28.out
       clear HC28
       by_cases c33 : t577 < 0
       ·
        rw [if_pos c33] at H
        have c33b0 : decide (t577 < 0) = true := decide_eq_true c33; clear c33
        (first | rw [c33b0] | (simp only [i64_w, i32_w]; rw [c33b0]) | skip)
        have H' := Aside0.mk H; clear H
        go_wp2
        go_meet
        case rel => exact ⟨_, (true), (by first | rfl | (simp; done) | (simp [*]; done)), H', ⟨by have := HJ8.out; first | omega | exact Nat.le_refl _⟩, ⟨kr_ HO_4.out⟩, ⟨kr_ HO_7.out⟩, ⟨lb0_ HB.out⟩⟩
       ·
        rw [if_neg c33] at H
        have c33b0 : decide (t577 < 0) = false := decide_eq_false c33; clear c33
        (first | rw [c33b0] | (simp only [i64_w, i32_w]; rw [c33b0]) | skip)
        replace H := Option.bind_eq_some_iff.mp H; obtain ⟨t579, A340, H⟩ := H; replace H : (if t579 = true then (laws_FnExactMostPlaced.j1 kj8 l0 t561 t562 t568 (t569 != t562)) else (laws_FnExactMostPlaced.j1 kj8 l0 t561 t562 t568 true)) = some r := H; have A34 := Aside0.mk A340; clear A340
        by_cases c35 : t579 = true
        ·
         subst c35
         have H1 : (laws_FnExactMostPlaced.j1 kj8 l0 t561 t562 t568 (t569 != t562)) = some r := by rw [if_pos rfl] at H; exact H
         clear H; have H := H1; clear H1; have H' := Aside0.mk H; clear H; obtain ⟨Ao36, co36, eo36⟩ := Kd.R_slice HO_7.out; subst eo36; obtain ⟨Ao37, co37, eo37⟩ := Kd.R_slice HO_4.out; subst eo37
         go_wp2_with (first | (go_at_call 26; (with_reducible refine (laws_eqIntS.calls kj8 _ _ t568 _ _ t561 true _ ?side1 ?side2 ?side3 ?side4 A34.out).mono ?_); (case side1 => exact kc_ (Kd.R_reads' HO_7.out).2.2); (case side2 => exact (Kd.R_reads' HO_7.out).2.1); (case side3 => exact kc_ (Kd.R_reads' HO_4.out).2.2); (case side4 => exact (Kd.R_reads' HO_4.out).2.1); rintro e w' ⟨rfl, ⟨nd, rfl⟩⟩))
         go_meet
         case rel => exact ⟨_, ((t569 != t562)), (by first | rfl | (simp; done) | (simp [*]; done)), H', ⟨by have := HJ8.out; first | omega | exact Nat.le_refl _⟩, ⟨kr_ HO_4.out⟩, ⟨kr_ HO_7.out⟩, ⟨lb0_ HB.out⟩⟩
        ·
         replace c35 := Bool.eq_false_iff.mpr c35; subst c35
         have H1 : (laws_FnExactMostPlaced.j1 kj8 l0 t561 t562 t568 true) = some r := by rw [if_neg (show ¬ (false = true) by decide)] at H; exact H
         clear H; have H := H1; clear H1; have H' := Aside0.mk H; clear H; obtain ⟨Ao38, co38, eo38⟩ := Kd.R_slice HO_7.out; subst eo38; obtain ⟨Ao39, co39, eo39⟩ := Kd.R_slice HO_4.out; subst eo39
         go_wp2_with (first | (go_at_call 26; (with_reducible refine (laws_eqIntS.calls kj8 _ _ t568 _ _ t561 false _ ?side1 ?side2 ?side3 ?side4 A34.out).mono ?_); (case side1 => exact kc_ (Kd.R_reads' HO_7.out).2.2); (case side2 => exact (Kd.R_reads' HO_7.out).2.1); (case side3 => exact kc_ (Kd.R_reads' HO_4.out).2.2); (case side4 => exact (Kd.R_reads' HO_4.out).2.1); rintro e w' ⟨rfl, ⟨nd, rfl⟩⟩))
         go_meet
         case rel => exact ⟨_, (true), (by first | rfl | (simp; done) | (simp [*]; done)), H', ⟨by have := HJ8.out; first | omega | exact Nat.le_refl _⟩, ⟨kr_ HO_4.out⟩, ⟨kr_ HO_7.out⟩, ⟨lb0_ HB.out⟩⟩
      case rest =>
       clear HC28
       try clear c1
       try clear c2
       try clear p2
       try clear c3
       try clear c3b0
       try clear c4
       try clear c10
       try clear c18
       try clear c20
       try clear c22
       try clear c23
       try clear c26
       try clear c29
       try clear c33
       try clear c33b0
       try clear c35
       try clear p2
       obtain ⟨kq, x61_27, rfl, HA, HJ27, HO_4, HO_7, HB⟩ := hcut
       cases kq with
       | zero => exact absurd HA.out (by simp [laws_FnExactMostPlaced.j1])
       | succ kj27 =>
        have H := HA.out; clear HA; simp only [laws_FnExactMostPlaced.j1] at H
        by_cases c40 : x61_27 = true
        ·
         subst c40
         have H1 : (none) = some r := by rw [if_pos rfl] at H; exact H
         clear H; have H := H1; clear H1; exact absurd H (by simp)
        ·
         replace c40 := Bool.eq_false_iff.mpr c40; subst c40
         have H1 : ((laws_markIntS.f kj27 t568 1).bind fun bt580 => ((laws_heldIntS.f kj27 bt580.2 1).bind fun t582 => (if t582 < 0 then (none) else (if t582 = bt580.1 then ((laws_toLabelS.f kj27 l0).bind fun t583 => ((impl_MostPlaced.f kj27 t583).bind fun bt586 => ((laws_eqIntS.f kj27 bt586.1 t561).bind fun t590 => (if t590 = true then (laws_FnExactMostPlaced.j2 kj27 bt580.2 bt580.1 (bt586.2 != t562)) else (laws_FnExactMostPlaced.j2 kj27 bt580.2 bt580.1 true))))) else (none))))) = some r := by rw [if_neg (show ¬ (false = true) by decide)] at H; exact H
         clear H; have H := H1; clear H1; replace H := Option.bind_eq_some_iff.mp H; obtain ⟨⟨t580, t581⟩, A410, H⟩ := H; replace H : ((laws_heldIntS.f kj27 t581 1).bind fun t582 => (if t582 < 0 then (none) else (if t582 = t580 then ((laws_toLabelS.f kj27 l0).bind fun t583 => ((impl_MostPlaced.f kj27 t583).bind fun bt586 => ((laws_eqIntS.f kj27 bt586.1 t561).bind fun t590 => (if t590 = true then (laws_FnExactMostPlaced.j2 kj27 t581 t580 (bt586.2 != t562)) else (laws_FnExactMostPlaced.j2 kj27 t581 t580 true))))) else (none)))) = some r := H; have A41 := Aside0.mk A410; clear A410; replace H := Option.bind_eq_some_iff.mp H; obtain ⟨t582, A420, H⟩ := H; replace H : (if t582 < 0 then (none) else (if t582 = t580 then ((laws_toLabelS.f kj27 l0).bind fun t583 => ((impl_MostPlaced.f kj27 t583).bind fun bt586 => ((laws_eqIntS.f kj27 bt586.1 t561).bind fun t590 => (if t590 = true then (laws_FnExactMostPlaced.j2 kj27 t581 t580 (bt586.2 != t562)) else (laws_FnExactMostPlaced.j2 kj27 t581 t580 true))))) else (none))) = some r := H; have A42 := Aside0.mk A420; clear A420
         by_cases c43 : t582 < 0
         ·
          rw [if_pos c43] at H
          exact absurd H (by simp)
         ·
          rw [if_neg c43] at H
          have c43b0 : decide (t582 < 0) = false := decide_eq_false c43; clear c43
          by_cases c44 : t582 = t580
          ·
           rw [if_pos c44] at H
           have c44b0 : (t582 == t580) = true := beq_iff_eq.mpr c44; have c44b1 : (t582 != t580) = false := bne_eq_false_iff_eq.mpr c44; clear c44; replace H := Option.bind_eq_some_iff.mp H; obtain ⟨t583, A450, H⟩ := H; replace H : ((impl_MostPlaced.f kj27 t583).bind fun bt586 => ((laws_eqIntS.f kj27 bt586.1 t561).bind fun t590 => (if t590 = true then (laws_FnExactMostPlaced.j2 kj27 t581 t580 (bt586.2 != t562)) else (laws_FnExactMostPlaced.j2 kj27 t581 t580 true)))) = some r := H; have A45 := Aside0.mk A450; clear A450; replace H := Option.bind_eq_some_iff.mp H; obtain ⟨⟨t586, t587⟩, A460, H⟩ := H; replace H : ((laws_eqIntS.f kj27 t586 t561).bind fun t590 => (if t590 = true then (laws_FnExactMostPlaced.j2 kj27 t581 t580 (t587 != t562)) else (laws_FnExactMostPlaced.j2 kj27 t581 t580 true))) = some r := H; have A46 := Aside0.mk A460; clear A460; have HC47 := Aside0.mk H; clear H; obtain ⟨Ao48, co48, eo48⟩ := Kd.R_slice HO_7.out; subst eo48
           go_upto_region 25 with (first | ((with_reducible refine gate_callee (f := 30) rfl ?_); refine ga_ (some 64) Tryd.func30 #[.slice Ao48 t568.length co48, .int .i64 1] ?_; (with_reducible refine (laws_markIntS.calls kj27 (fun k_ => some k_ = (.slice Ao48 t568.length co48 : Value).ownBlock) (.slice Ao48 t568.length co48) t568 1 t580 t581 w _ ?side1 ?side2 A41.out).mono ?_); (case side1 => exact lb0_ HB.out); (case side2 => exact Kd.R_tight rfl HO_7.out); rintro e w49 ⟨rfl, hy0, hb, hkp⟩; refine ⟨_, rfl, ?_⟩; replace HO_4 := Aside0.mk (Kd.R_mono (ok' := fun k_ => some k_ ≠ (.slice Ao48 t568.length co48 : Value).ownBlock) (Kd.R_keptB (HO_4.out) hkp (fun k_ hk_ hs_ => (hk_) hs_)) (fun k_ hk_ => hk_.1)); replace HO_7 := Aside0.mk (Kd.R_reok rfl hy0 (fun k_ e_ => HO_7.out.1 k_ e_)); replace HB := Aside0.mk (hb); (try clear hb); (try clear hkp); (try clear hy0)) | ((with_reducible refine gate_callee (f := 31) rfl ?_); refine goesL_ (some 67) rfl rfl Tryd.func31 (by kernel_rfl) rfl #[.slice Ao48 t581.length co48, .int .i64 1] rfl (by (try simp only [List.map_toArray, List.map_cons, List.map_nil]); first | done | (rw [show t581.length = t568.length from (Kd.R_reads' HO_7.out).1.symm] <;> rfl) | rfl | (simp only [List.length_drop, List.length_take]; rfl)) ?_; (with_reducible refine (laws_heldIntS.calls kj27 _ _ t581 1 t582 _ ?side1 ?side2 A42.out).mono ?_); (case side1 => exact kc_ (Kd.R_reads' HO_7.out).2.2); (case side2 => rw [show t581.length = t568.length from (Kd.R_reads' HO_7.out).1.symm]; exact (Kd.R_reads' HO_7.out).2.1); rintro e w' ⟨rfl, ⟨nd, rfl⟩⟩; refine ⟨_, rfl, ?_⟩) | ((with_reducible refine gate_callee (f := 20) rfl ?_); refine ga_ (some 75) Tryd.func20 #[.slice A0 l0.length c0] ?_; (with_reducible refine (laws_toLabelS.calls kj27 _ _ l0 t583 _ ?side1 ?side2 A45.out).mono ?_); (case side1 => exact kc_ (Kd.C_below HR0.out (lb0_ HB.out))); (case side2 => exact HC0.out); rintro e w50 ⟨v584, rfl, ho0, hb⟩; refine ⟨_, rfl, ?_⟩; replace HO_4 := Aside0.mk (Kd.R_below (kr_ HO_4.out) hb); replace HO_7 := Aside0.mk (Kd.R_below (kr_ HO_7.out) hb); have HO585 := Aside0.mk (Kd.R_lower ho0 (below_size (lb0_ HB.out))); replace HB := Aside0.mk (below_step (lb0_ HB.out) hb); (try clear hb); (try clear hb2); (try clear hk); (try clear hi); (try clear ho0); obtain ⟨Ao51, co51, eo51⟩ := Kd.R_slice HO585.out; subst eo51) | ((with_reducible refine gate_callee (f := 42) rfl ?_); refine ga_ (some 76) Tryd.func42 #[.slice Ao51 t583.length co51] ?_; (with_reducible refine (impl_MostPlaced.calls kj27 _ _ t583 t586 t587 _ ?side1 ?side2 A46.out).mono ?_); (case side1 => exact kc_ (Kd.R_reads' HO585.out).2.2); (case side2 => exact (Kd.R_reads' HO585.out).2.1); rintro e w52 ⟨v588, rfl, ho0, hb⟩; refine ⟨_, rfl, ?_⟩; replace HO585 := Aside0.mk (Kd.R_below (kr_ HO585.out) hb); have HO589 := Aside0.mk (Kd.R_lower (Kd.R_new' (Kd.R_new' ho0 (Kd.R_lt (kr_ HO_4.out))) (Kd.R_lt (kr_ HO_7.out))) (below_size (lb0_ HB.out))); replace HO_4 := Aside0.mk (Kd.R_elder' (kr_ HO_4.out) (Kd.R_base ho0) hb); replace HO_7 := Aside0.mk (Kd.R_elder' (kr_ HO_7.out) (Kd.R_base ho0) hb); replace HB := Aside0.mk (below_step (lb0_ HB.out) hb); (try clear hb); (try clear hb2); (try clear hk); (try clear hi); (try clear ho0)))
           (try simp only [Act.put, List.setIfInBounds_toArray, List.set_cons_zero, List.set_cons_succ])
           go_cut [87] (fun v87 wc => ∃ (kq : Nat) (x87_46 : Bool), v87 = .bool x87_46 ∧ Aside0 (laws_FnExactMostPlaced.j2 kq t581 t580 x87_46 = some r) ∧ Aside0 (kq ≤ kj27) ∧ Aside0 (Kd.R (Kd.int .i64) 3 wc w.heap.size (fun _ => True) (.slice Ao48 t568.length co48) t581) ∧ Aside0 (Below w.heap.size w wc))
           case first =>
            have H := HC47.out; clear HC47; replace H := Option.bind_eq_some_iff.mp H; obtain ⟨t590, A530, H⟩ := H; replace H : (if t590 = true then (laws_FnExactMostPlaced.j2 kj27 t581 t580 (t587 != t562)) else (laws_FnExactMostPlaced.j2 kj27 t581 t580 true)) = some r := H; have A53 := Aside0.mk A530; clear A530
            by_cases c54 : t590 = true
            ·
             subst c54
             have H1 : (laws_FnExactMostPlaced.j2 kj27 t581 t580 (t587 != t562)) = some r := by rw [if_pos rfl] at H; exact H
             clear H; have H := H1; clear H1; have H' := Aside0.mk H; clear H; obtain ⟨Ao55, co55, eo55⟩ := Kd.R_slice HO589.out; subst eo55; obtain ⟨Ao56, co56, eo56⟩ := Kd.R_slice HO_4.out; subst eo56
             go_wp2_with (first | ((with_reducible refine gate_callee (f := 26) rfl ?_); refine ga_ (some 81) Tryd.func26 #[.slice Ao55 t586.length co55, .slice Ao56 t561.length co56] ?_; (with_reducible refine (laws_eqIntS.calls kj27 _ _ t586 _ _ t561 true _ ?side1 ?side2 ?side3 ?side4 A53.out).mono ?_); (case side1 => exact kc_ (Kd.R_reads' HO589.out).2.2); (case side2 => exact (Kd.R_reads' HO589.out).2.1); (case side3 => exact kc_ (Kd.R_reads' HO_4.out).2.2); (case side4 => exact (Kd.R_reads' HO_4.out).2.1); rintro e w' ⟨rfl, ⟨nd, rfl⟩⟩; refine ⟨_, rfl, ?_⟩))
             go_meet
             case rel => exact ⟨_, ((t587 != t562)), (by first | rfl | (simp; done) | (simp [*]; done)), H', ⟨by have := HJ8.out; have := HJ27.out; first | omega | exact Nat.le_refl _⟩, ⟨krm_ HO_7.out (fun _ hk => trivial)⟩, ⟨lb0_ HB.out⟩⟩
            ·
             replace c54 := Bool.eq_false_iff.mpr c54; subst c54
             have H1 : (laws_FnExactMostPlaced.j2 kj27 t581 t580 true) = some r := by rw [if_neg (show ¬ (false = true) by decide)] at H; exact H
             clear H; have H := H1; clear H1; have H' := Aside0.mk H; clear H; obtain ⟨Ao57, co57, eo57⟩ := Kd.R_slice HO589.out; subst eo57; obtain ⟨Ao58, co58, eo58⟩ := Kd.R_slice HO_4.out; subst eo58
             go_wp2_with (first | ((with_reducible refine gate_callee (f := 26) rfl ?_); refine ga_ (some 81) Tryd.func26 #[.slice Ao57 t586.length co57, .slice Ao58 t561.length co58] ?_; (with_reducible refine (laws_eqIntS.calls kj27 _ _ t586 _ _ t561 false _ ?side1 ?side2 ?side3 ?side4 A53.out).mono ?_); (case side1 => exact kc_ (Kd.R_reads' HO589.out).2.2); (case side2 => exact (Kd.R_reads' HO589.out).2.1); (case side3 => exact kc_ (Kd.R_reads' HO_4.out).2.2); (case side4 => exact (Kd.R_reads' HO_4.out).2.1); rintro e w' ⟨rfl, ⟨nd, rfl⟩⟩; refine ⟨_, rfl, ?_⟩))
             go_meet
             case rel => exact ⟨_, (true), (by first | rfl | (simp; done) | (simp [*]; done)), H', ⟨by have := HJ8.out; have := HJ27.out; first | omega | exact Nat.le_refl _⟩, ⟨krm_ HO_7.out (fun _ hk => trivial)⟩, ⟨lb0_ HB.out⟩⟩
           case rest =>
            clear HC47
            try clear c1
            try clear c2
            try clear p2
            try clear c3
            try clear c3b0
            try clear c4
            try clear c5
            try clear c10
            try clear c18
            try clear c20
            try clear c22
            try clear c23
            try clear c26
            try clear c29
            try clear c30
            try clear c31
            try clear c33
            try clear c33b0
            try clear c35
            try clear c40
            try clear c41
            try clear c42
            try clear c43
            try clear c43b0
            try clear c44
            try clear c44b0
            try clear c44b1
            try clear c54
            try clear p2
            obtain ⟨kq, x87_46, rfl, HA, HJ46, HO_7, HB⟩ := hcut; have hl7_46 := (Kd.R_reads' HO_7.out).1
            rw [hl7_46] at HO_7
            (try simp only [hl7_46])
            cases kq with
            | zero => exact absurd HA.out (by simp [laws_FnExactMostPlaced.j2])
            | succ kj46 =>
             have H := HA.out; clear HA; simp only [laws_FnExactMostPlaced.j2] at H
             by_cases c59 : x87_46 = true
             ·
              subst c59
              have H1 : (none) = some r := by rw [if_pos rfl] at H; exact H
              clear H; have H := H1; clear H1; exact absurd H (by simp)
             ·
              replace c59 := Bool.eq_false_iff.mpr c59; subst c59
              have H1 : ((laws_heldIntS.f kj46 t581 1).bind fun t591 => (if t591 < 0 then (none) else (if t591 = t580 then (some true) else (none)))) = some r := by rw [if_neg (show ¬ (false = true) by decide)] at H; exact H
              clear H; have H := H1; clear H1; replace H := Option.bind_eq_some_iff.mp H; obtain ⟨t591, A600, H⟩ := H; replace H : (if t591 < 0 then (none) else (if t591 = t580 then (some true) else (none))) = some r := H; have A60 := Aside0.mk A600; clear A600
              by_cases c61 : t591 < 0
              ·
               rw [if_pos c61] at H
               exact absurd H (by simp)
              ·
               rw [if_neg c61] at H
               have c61b0 : decide (t591 < 0) = false := decide_eq_false c61; clear c61
               by_cases c62 : t591 = t580
               ·
                rw [if_pos c62] at H
                have c62b0 : (t591 == t580) = true := beq_iff_eq.mpr c62; have c62b1 : (t591 != t580) = false := bne_eq_false_iff_eq.mpr c62; clear c62; obtain rfl := Option.some.inj H
                go_wp2_with (first | ((with_reducible refine gate_callee (f := 31) rfl ?_); refine ga_ (some 90) Tryd.func31 #[.slice Ao48 t581.length co48, .int .i64 1] ?_; (with_reducible refine (laws_heldIntS.calls kj46 _ _ t581 1 t591 _ ?side1 ?side2 A60.out).mono ?_); (case side1 => exact kc_ (Kd.R_reads' HO_7.out).2.2); (case side2 => exact (Kd.R_reads' HO_7.out).2.1); rintro e w' ⟨rfl, ⟨nd, rfl⟩⟩; refine ⟨_, rfl, ?_⟩))
                go_ret
                exact ⟨rr_, lb0_ HB.out⟩
               ·
                rw [if_neg c62] at H
                exact absurd H (by simp)
          ·
           rw [if_neg c44] at H
           exact absurd H (by simp)
     ·
      replace c26 := Bool.eq_false_iff.mpr c26
      subst c26
      have H1 : (none) = some r := by rw [if_neg (show ¬ (false = true) by decide)] at H; exact H
      clear H
      have H := H1
      clear H1
      exact absurd H (by simp)
end Go.Proofs.YtjkcfpmonpkhhaaDoor.Pr

