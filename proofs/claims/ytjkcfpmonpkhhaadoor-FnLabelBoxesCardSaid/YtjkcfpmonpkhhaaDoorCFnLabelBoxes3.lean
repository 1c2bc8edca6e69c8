/-
What is proved: parts of the law FnLabelBoxes: what the functions that it reaches compute, and the plain law.
Conditions: those of each theorem.
-/
import Derived.Test.YtjkcfpmonpkhhaaDoorCFnLabelBoxes2
namespace Go.Proofs.YtjkcfpmonpkhhaaDoor.Pr
open Go.RowKit Go.Proofs.YtjkcfpmonpkhhaaDoorW.PrintWords Go.Proofs.YtjkcfpmonpkhhaaDoorW.PrintLast Go.Proofs.YtjkcfpmonpkhhaaDoorW.PrintMore
attribute [local go_sem] max2_int min2_int max_two min_two max_three min_three max_four min_four   -- for this text's walks alone
set_option linter.unusedVariables false
set_option linter.unusedSimpArgs false
mutual
def impl_MostPlaced.l0 : Nat → List (S29) → List Int → Int → Int → Option (List Int × Bool)
 | 0, _, _, _, _ => none
 | k + 1, x0, x4, x15, x16 => if x16 < x15 then (impl_MostPlaced.l1 k x0 x4 x16 ([] : List Int) x15 x16 (x0.length : Int) 0) else (some (x4, true))
def impl_MostPlaced.l1 : Nat → List (S29) → List Int → Int → List Int → Int → Int → Int → Int → Option (List Int × Bool)
 | 0, _, _, _, _, _, _, _, _ => none
 | k + 1, x0, x4, x5, x6, x15, x16, x20, x21 => if x21 < x20 then (if 0 ≤ x21 then (if (Go.bits .and .i64 (shr .i64 x5 x21) 1) = 1 then (if x6.length < 17592186044416 then (impl_MostPlaced.l1 k x0 x4 x5 (x6 ++ [x21]) x15 x16 x20 (wrap64 (x21 + 1))) else (none)) else (impl_MostPlaced.l1 k x0 x4 x5 x6 x15 x16 x20 (wrap64 (x21 + 1)))) else (none)) else ((cmp_Compare_int.f (x4.length : Int) (x6.length : Int)).bind fun t547 => ((slices_Compare_int_int.f k x6 x4).bind fun t548 => ((cmp_Or_int.f k (([t547, t548] : List Int))).bind fun t552 => (if t552 ≥ 0 then (impl_MostPlaced.l0 k x0 x4 x15 (wrap64 (x16 + 1))) else ((impl_firstPlacing.f x0 x6).bind fun bt553 => (if bt553.2 = true then (impl_MostPlaced.l0 k x0 x6 x15 (wrap64 (x16 + 1))) else (impl_MostPlaced.l0 k x0 x4 x15 (wrap64 (x16 + 1)))))))))
end
def impl_MostPlaced.f (k : Nat) (l0 : List (S29)) : Option (List Int × Bool) := (impl_AreLabels.f l0).bind fun t543 => (if t543 = true then (impl_MostPlaced.l0 k l0 ([] : List Int) (shl .i64 1 (l0.length : Int)) 0) else (some (([] : List Int), false)))
set_option maxHeartbeats 8000000 in
set_option maxRecDepth 100000 in
theorem impl_MostPlaced.calls (k : Nat) (A0 : Option Addr) (c0 : Nat) (l0 : List (S29)) (r1 : List Int) (r2 : Bool) (w : World) (hr0 : Kd.C k29 w A0 l0.length l0) (hc0 : l0.length ≤ c0) (h : impl_MostPlaced.f k l0 = some (r1, r2)) :
  Calls Tryd.prog 42 #[.slice A0 l0.length c0] w fun e w' => ∃ v0_ : Value, e = .returned (.tuple #[v0_, .bool r2]) ∧ Kd.R (Kd.int .i64) 3 w' w.heap.size (fun _ => True) v0_ r1 ∧ Below w.heap.size w w' := by
 have HR0 := Aside0.mk hr0
 have HC0 := Aside0.mk hc0
 clear hr0 hc0
 have HB := Aside0.mk (Below.refl w.heap.size w)
 have H : ((impl_AreLabels.f l0).bind fun t543 => (if t543 = true then (impl_MostPlaced.l0 k l0 ([] : List Int) (shl .i64 1 (l0.length : Int)) 0) else (some (([] : List Int), false)))) = some (r1, r2) := h
 clear h
 replace H := Option.bind_eq_some_iff.mp H
 obtain ⟨t543, A20, H⟩ := H
 replace H : (if t543 = true then (impl_MostPlaced.l0 k l0 ([] : List Int) (shl .i64 1 (l0.length : Int)) 0) else (some (([] : List Int), false))) = some (r1, r2) := H
 have A2 := Aside0.mk A20
 clear A20
 by_cases c3 : t543 = true
 ·
  subst c3
  have H1 : (impl_MostPlaced.l0 k l0 ([] : List Int) (shl .i64 1 (l0.length : Int)) 0) = some (r1, r2) := by rw [if_pos rfl] at H; exact H
  clear H
  have H := H1
  clear H1
  obtain ⟨ji4, hji4⟩ : ∃ j_ : Int, (shl .i64 1 (l0.length : Int)) = j_ := ⟨_, rfl⟩
  replace H : (impl_MostPlaced.l0 k l0 ([] : List Int) ji4 0) = some (r1, r2) := by first | (rw [hji4] at H; exact H) | (simp only [hji4] at H ⊢; exact H)
  (try rw [hji4] at A2)
  have hji4_ : (IntKind.i64.wrap (1 * 2 ^ min (l0.length : Int).toNat 64)) = ji4 := hji4
  have hji4z : (l0.length : Int) ≤ 64 → (IntKind.i64.wrap (1 * 2 ^ (l0.length : Int).toNat)) = ji4 := shl_small hji4
  have hji4p : (IntKind.i64.wrap (1 * 2 ^ min l0.length 64)) = ji4 := hji4_
  have hji4q : (l0.length : Int) ≤ 64 → (IntKind.i64.wrap (1 * 2 ^ l0.length)) = ji4 := hji4z
  have hji4r : (IntKind.i64.wrap (2 ^ min l0.length 64)) = ji4 := by have h_ := hji4p; rw [Int.one_mul] at h_; exact h_
  have hji4s : (l0.length : Int) ≤ 64 → (IntKind.i64.wrap (2 ^ l0.length)) = ji4 := fun hle_ => by have h_ := hji4q hle_; rw [Int.one_mul] at h_; exact h_
  have hji4u : (IntKind.i64.wrap (2 ^ min (l0.length : Int).toNat 64)) = ji4 := by have h_ := hji4_; rw [Int.one_mul] at h_; exact h_
  have hji4v : (l0.length : Int) ≤ 64 → (IntKind.i64.wrap (2 ^ (l0.length : Int).toNat)) = ji4 := fun hle_ => by have h_ := hji4z hle_; rw [Int.one_mul] at h_; exact h_
  have hji4y : (wrap64 (1 * 2 ^ min (l0.length : Int).toNat 64)) = ji4 := (i64_w _).symm.trans hji4_
  have hji4x : (l0.length : Int) ≤ 64 → (wrap64 (1 * 2 ^ (l0.length : Int).toNat)) = ji4 := fun h_ => (i64_w _).symm.trans (hji4z h_)
  have H' := Aside0.mk H
  clear H
  go_enter Tryd.func42, Tryd.ntmps42
  go_wp2_with (first | ((with_reducible refine gate_callee (f := 21) rfl ?_); refine ga_ (some 11) Tryd.func21 #[.slice A0 l0.length c0] ?_; (with_reducible refine (impl_AreLabels.calls _ _ l0 true _ ?side1 ?side2 A2.out).mono ?_); (case side1 => exact kc_ HR0.out); (case side2 => exact HC0.out); rintro e w5 ⟨rfl, hb⟩; refine ⟨_, rfl, ?_⟩; replace HB := Aside0.mk (below_step (lb0_ HB.out) hb); (try clear hb); (try clear hb2); (try clear hk); (try clear hi)))
  go_loopg [4, 16] k (fun kq v4 v16 w' => ∃ (x4_1 : List Int) (x16_1 : Int), v16 = .int .i64 x16_1 ∧ Aside0 (impl_MostPlaced.l0 kq l0 x4_1 ji4 x16_1 = some (r1, r2)) ∧ Aside0 (kq ≤ k) ∧ Aside0 (Kd.R (Kd.int .i64) 3 w' w.heap.size (fun _ => True) v4 x4_1) ∧ Aside0 (Below w.heap.size w w'))
  case atStart => exact ⟨(([] : List Int)), (0), (by first | rfl | (simp; done) | (simp [*]; done)), H', ⟨Nat.le_refl _⟩, ⟨by first | exact Kd.R_nil _ _ _ _ _ | exact Kd.N_nil _ _ _ _ _ | exact Kd.V_nil _ _ _ _ _ | exact Kd.Q_nil _ _ _ _ _ | exact Kd.S_nil _ _ _ _ _⟩, ⟨lb0_ HB.out⟩⟩
  case round =>
   clear H'
   try clear c2
   try clear p2
   try clear c3
   try clear c4
   obtain ⟨x4_1, x16_1, rfl, HA, HK1, HO_4, HB⟩ := hrel
   cases gk with
   | zero => exact absurd HA.out (by simp [impl_MostPlaced.l0])
   | succ k1 =>
    have H := HA.out
    clear HA
    simp only [impl_MostPlaced.l0] at H
    by_cases c6 : x16_1 < ji4
    ·
     rw [if_pos c6] at H
     have c6b0 : decide (x16_1 < ji4) = true := decide_eq_true c6
     clear c6
     have H' := Aside0.mk H
     clear H
     go_wp2
     go_loopg [6, 21] k1 (fun kq v6 v21 w' => ∃ (x6_2 : List Int) (x21_2 : Int), v21 = .int .i64 x21_2 ∧ Aside0 (impl_MostPlaced.l1 kq l0 x4_1 x16_1 x6_2 ji4 x16_1 (l0.length : Int) x21_2 = some (r1, r2)) ∧ Aside0 (kq ≤ k1) ∧ Aside0 (Kd.R (Kd.int .i64) 3 w' w.heap.size (fun k_ => some k_ ≠ (v6 : Value).ownBlock) u4 x4_1) ∧ Aside0 (Kd.R (Kd.int .i64) 3 w' w.heap.size (fun k_ => some k_ ≠ (u4 : Value).ownBlock) v6 x6_2) ∧ Aside0 (Below w.heap.size w w'))
     case atStart => exact ⟨(([] : List Int)), (0), (by first | rfl | (simp; done) | (simp [*]; done)), H', ⟨Nat.le_refl _⟩, ⟨krm_ HO_4.out (fun _ hk => (by simp [Value.ownBlock]))⟩, ⟨by first | exact Kd.R_nil _ _ _ _ _ | exact Kd.N_nil _ _ _ _ _ | exact Kd.V_nil _ _ _ _ _ | exact Kd.Q_nil _ _ _ _ _ | exact Kd.S_nil _ _ _ _ _⟩, ⟨lb0_ HB.out⟩⟩
     case round =>
      clear H'
      try clear c2
      try clear p2
      try clear c3
      try clear c4
      try clear c6
      try clear c6b0
      try clear p6
      try clear p2
      obtain ⟨x6_2, x21_2, rfl, HA, HK2, HO_4, HO_6, HB⟩ := hrel
      cases gk with
      | zero => exact absurd HA.out (by simp [impl_MostPlaced.l1])
      | succ k2 =>
       have H := HA.out
       clear HA
       simp only [impl_MostPlaced.l1] at H
       by_cases c7 : x21_2 < (l0.length : Int)
       ·
        rw [if_pos c7] at H
        have c7b0 : decide (x21_2 < (l0.length : Int)) = true := decide_eq_true c7; clear c7
        by_cases c8 : 0 ≤ x21_2
        ·
         rw [if_pos c8] at H
         have c8b0 := eq_true c8; have c8b1 : decide (0 ≤ x21_2) = true := decide_eq_true c8; clear c8
         obtain ⟨ji9, hji9⟩ : ∃ j_ : Int, (shr .i64 x16_1 x21_2) = j_ := ⟨_, rfl⟩
         replace H : (if (Go.bits .and .i64 (ji9) 1) = 1 then (if x6_2.length < 17592186044416 then (impl_MostPlaced.l1 k2 l0 x4_1 x16_1 (x6_2 ++ [x21_2]) ji4 x16_1 (l0.length : Int) (wrap64 (x21_2 + 1))) else (none)) else (impl_MostPlaced.l1 k2 l0 x4_1 x16_1 x6_2 ji4 x16_1 (l0.length : Int) (wrap64 (x21_2 + 1)))) = some (r1, r2) := by first | (rw [hji9] at H; exact H) | (simp only [hji9] at H ⊢; exact H)
         have hji9_ : (x16_1 / 2 ^ min x21_2.toNat 64) = ji9 := hji9; have hji9z : x21_2 ≤ 64 → (x16_1 / 2 ^ x21_2.toNat) = ji9 := shr_small hji9
         by_cases c10 : (Go.bits .and .i64 (ji9) 1) = 1
         ·
          rw [if_pos c10] at H
          have c10b0 : ((Go.bits .and .i64 (ji9) 1) == 1) = true := beq_iff_eq.mpr c10; have c10b1 : ((Go.bits .and .i64 (ji9) 1) != 1) = false := bne_eq_false_iff_eq.mpr c10; clear c10
          by_cases c11 : x6_2.length < 17592186044416
          ·
           rw [if_pos c11] at H
           have LMc11 := Aside0.mk c11; clear c11
           obtain ⟨y544, hy544⟩ : ∃ y_ : List Int, y_ = (x6_2 ++ [x21_2]) := ⟨_, rfl⟩
           replace H : (impl_MostPlaced.l1 k2 l0 x4_1 x16_1 y544 ji4 x16_1 (l0.length : Int) (wrap64 (x21_2 + 1))) = some (r1, r2) := by first | (rw [hy544]; with_reducible exact H) | (have H2_ := (Option.bind_some _ _).symm.trans H; rw [hy544]; with_reducible exact H2_) | (have H2_ := (Option.bind_some _ _).symm.trans H; with_reducible exact H2_) | with_reducible exact H | (rw [hy544]; exact H) | exact H
           have Ny544 := Aside0.mk hy544; clear hy544; have H' := Aside0.mk H; clear H
           go_wp2_with (first | ((with_reducible refine gate_builtin (b := .append) (xs := #[.tmp 29, .tmp 31]) rfl ?_); at_builtin; refine Kd.R_append (Kd.int .i64) (w0 := w) w.heap.size rfl (.tmp 29) (.tmp 31) 40 3 (.int .i64 0) 8 rfl Tryd.underlying40 info3 rfl (by decide) (by omega) u6 x6_2 x21_2 [.int .i64 x21_2] (fun k_ => some k_ ≠ (u4 : Value).ownBlock) (fun _ => False) rfl rfl ?aP (fun _ hk => hk.elim) ?aF ?aO ?aB ?aS ?aL ?_; (case aP => exact rfl); (case aB => exact (lb0_ HB.out)); (case aF => exact (fun k_ hk => Kd.fresh' (Kd.R_lt (kr_ HO_4.out)) k_ hk)); (case aO => exact (kr_ HO_6.out)); (case aS => exact (below_size (lb0_ HB.out))); (case aL => have := LMc11.out; omega); intro v545 w12 ho hb hg hat; rw [← Ny544.out] at ho; replace HO_4 := Aside0.mk (Kd.R_after (ok := (fun _ => True)) (krm_ HO_4.out (fun _ hk => ⟨trivial, hk⟩)) hg hat); replace HB := Aside0.mk (hb); have HO546 := Aside0.mk (ho); clear HO_6; clear ho hb hg hat))
           go_roundg k2
           case measure => have := HK1.out; have := HK2.out; omega
           case rel => exact ⟨(y544), (wrap64 (x21_2 + 1)), (by first | rfl | (simp; done) | (simp [*]; done)), H', ⟨by have := HK1.out; have := HK2.out; omega⟩, ⟨krm_ HO_4.out (fun _ hk => hk.2)⟩, ⟨kr_ HO546.out⟩, ⟨lb0_ HB.out⟩⟩
          ·
           rw [if_neg c11] at H
           exact absurd H (by simp)
         ·
          rw [if_neg c10] at H
          have c10b0 : ((Go.bits .and .i64 (ji9) 1) == 1) = false := beq_eq_false_iff_ne.mpr c10; have c10b1 : ((Go.bits .and .i64 (ji9) 1) != 1) = true := bne_iff_ne.mpr c10; have H' := Aside0.mk H; clear H
          go_wp2
          go_roundg k2
          case measure => have := HK1.out; have := HK2.out; omega
          case rel => exact ⟨(x6_2), (wrap64 (x21_2 + 1)), (by first | rfl | (simp; done) | (simp [*]; done)), H', ⟨by have := HK1.out; have := HK2.out; omega⟩, ⟨kr_ HO_4.out⟩, ⟨kr_ HO_6.out⟩, ⟨lb0_ HB.out⟩⟩
        ·
         rw [if_neg c8] at H
         exact absurd H (by simp)
       ·
        rw [if_neg c7] at H
        have c7b0 : decide (x21_2 < (l0.length : Int)) = false := decide_eq_false c7; clear c7; replace H := Option.bind_eq_some_iff.mp H; obtain ⟨t547, A130, H⟩ := H; replace H : ((slices_Compare_int_int.f k2 x6_2 x4_1).bind fun t548 => ((cmp_Or_int.f k2 (([t547, t548] : List Int))).bind fun t552 => (if t552 ≥ 0 then (impl_MostPlaced.l0 k2 l0 x4_1 ji4 (wrap64 (x16_1 + 1))) else ((impl_firstPlacing.f l0 x6_2).bind fun bt553 => (if bt553.2 = true then (impl_MostPlaced.l0 k2 l0 x6_2 ji4 (wrap64 (x16_1 + 1))) else (impl_MostPlaced.l0 k2 l0 x4_1 ji4 (wrap64 (x16_1 + 1)))))))) = some (r1, r2) := H; have A13 := Aside0.mk A130; clear A130; replace H := Option.bind_eq_some_iff.mp H; obtain ⟨t548, A140, H⟩ := H; replace H : ((cmp_Or_int.f k2 (([t547, t548] : List Int))).bind fun t552 => (if t552 ≥ 0 then (impl_MostPlaced.l0 k2 l0 x4_1 ji4 (wrap64 (x16_1 + 1))) else ((impl_firstPlacing.f l0 x6_2).bind fun bt553 => (if bt553.2 = true then (impl_MostPlaced.l0 k2 l0 x6_2 ji4 (wrap64 (x16_1 + 1))) else (impl_MostPlaced.l0 k2 l0 x4_1 ji4 (wrap64 (x16_1 + 1))))))) = some (r1, r2) := H; have A14 := Aside0.mk A140; clear A140
        obtain ⟨y549, hy549⟩ : ∃ y_ : List Int, y_ = (([t547, t548] : List Int)) := ⟨_, rfl⟩
        replace H : ((cmp_Or_int.f k2 y549).bind fun t552 => (if t552 ≥ 0 then (impl_MostPlaced.l0 k2 l0 x4_1 ji4 (wrap64 (x16_1 + 1))) else ((impl_firstPlacing.f l0 x6_2).bind fun bt553 => (if bt553.2 = true then (impl_MostPlaced.l0 k2 l0 x6_2 ji4 (wrap64 (x16_1 + 1))) else (impl_MostPlaced.l0 k2 l0 x4_1 ji4 (wrap64 (x16_1 + 1))))))) = some (r1, r2) := by first | (rw [hy549]; with_reducible exact H) | (have H2_ := (Option.bind_some _ _).symm.trans H; rw [hy549]; with_reducible exact H2_) | (have H2_ := (Option.bind_some _ _).symm.trans H; with_reducible exact H2_) | with_reducible exact H | (rw [hy549]; exact H) | exact H
        have Ny549 := Aside0.mk hy549; clear hy549; replace H := Option.bind_eq_some_iff.mp H; obtain ⟨t552, A150, H⟩ := H; replace H : (if t552 ≥ 0 then (impl_MostPlaced.l0 k2 l0 x4_1 ji4 (wrap64 (x16_1 + 1))) else ((impl_firstPlacing.f l0 x6_2).bind fun bt553 => (if bt553.2 = true then (impl_MostPlaced.l0 k2 l0 x6_2 ji4 (wrap64 (x16_1 + 1))) else (impl_MostPlaced.l0 k2 l0 x4_1 ji4 (wrap64 (x16_1 + 1)))))) = some (r1, r2) := H; have A15 := Aside0.mk A150; clear A150
        by_cases c16 : t552 ≥ 0
        ·
         rw [if_pos c16] at H
         have c16b0 : decide (0 ≤ t552) = true := decide_eq_true c16; clear c16; have H' := Aside0.mk H; clear H; obtain ⟨Ao17, co17, eo17⟩ := Kd.R_slice HO_4.out; subst eo17; obtain ⟨Ao18, co18, eo18⟩ := Kd.R_slice HO_6.out; subst eo18
         go_wp2_with (first | ((with_reducible refine gate_callee (f := 83) rfl ?_); refine ga_ (some 38) Tryd.func83 #[.int .i64 (x4_1.length : Int), .int .i64 (x6_2.length : Int)] ?_; (with_reducible refine (cmp_Compare_int.calls (x4_1.length : Int) (x6_2.length : Int) t547 _ A13.out).mono ?_); rintro e w' ⟨rfl, ⟨nd, rfl⟩⟩; refine ⟨_, rfl, ?_⟩) | ((with_reducible refine gate_callee (f := 84) rfl ?_); refine ga_ (some 41) Tryd.func84 #[.slice Ao18 x6_2.length co18, .slice Ao17 x4_1.length co17] ?_; (with_reducible refine (slices_Compare_int_int.calls k2 _ _ x6_2 _ _ x4_1 t548 _ ?side1 ?side2 ?side3 ?side4 A14.out).mono ?_); (case side1 => exact kc_ (Kd.R_reads' HO_6.out).2.2); (case side2 => exact (Kd.R_reads' HO_6.out).2.1); (case side3 => exact kc_ (Kd.R_reads' HO_4.out).2.2); (case side4 => exact (Kd.R_reads' HO_4.out).2.1); rintro e w' ⟨rfl, ⟨nd, rfl⟩⟩; refine ⟨_, rfl, ?_⟩) | ((with_reducible refine gate_dst (N := 42) rfl ?_); refine Kd.R_lit (Kd.int .i64) _ 3 ?hg (N := 42) ?hd (xs := ([t547, t548] : List Int)) (inner := [.int .i64 t547, .int .i64 t548]) (ok := fun _ => True) (okp := fun _ => True) ?hr ?hp (fun _ hk => hk) trivial (Below.refl _ _) (Nat.le_refl _) (by simp) ?_; (case hd => rfl); (case hg => rfl); (case hr => first | (go_simp; done) | (go_simp; rfl)); (case hp => exact (Reps.one (show Kd.M (Kd.int .i64) _ _ _ t547 [.int .i64 t547] from rfl) (Reps.one (show Kd.M (Kd.int .i64) _ _ _ t548 [.int .i64 t548] from rfl) (Reps.none _ _)))); intro v550 w19 ho20 hb hg_ hnew_; clear hg_ hnew_; replace ho20 := ry_ Ny549.out ho20; have HO551 := Aside0.mk (Kd.R_lower (Kd.R_new' (Kd.R_new' ho20 (Kd.R_lt (kr_ HO_4.out))) (Kd.R_lt (kr_ HO_6.out))) (below_size (lb0_ HB.out))); replace HO_4 := Aside0.mk (Kd.R_elder' (kr_ HO_4.out) (Kd.R_base ho20) hb); replace HO_6 := Aside0.mk (Kd.R_elder' (kr_ HO_6.out) (Kd.R_base ho20) hb); replace HB := Aside0.mk (below_step (lb0_ HB.out) hb); clear hb ho20; obtain ⟨Ao21, co21, eo21⟩ := Kd.R_slice HO551.out; subst eo21) | ((with_reducible refine gate_callee (f := 82) rfl ?_); refine ga_ (some 43) Tryd.func82 #[.slice Ao21 y549.length co21] ?_; (with_reducible refine (cmp_Or_int.calls k2 _ _ y549 t552 _ ?side1 ?side2 A15.out).mono ?_); (case side1 => exact kc_ (Kd.R_reads' HO551.out).2.2); (case side2 => exact (Kd.R_reads' HO551.out).2.1); rintro e w' ⟨rfl, ⟨nd, rfl⟩⟩; refine ⟨_, rfl, ?_⟩))
         go_roundg k2
         case measure => have := HK1.out; have := HK2.out; omega
         case rel => exact ⟨(x4_1), (wrap64 (x16_1 + 1)), (by first | rfl | (simp; done) | (simp [*]; done)), H', ⟨by have := HK1.out; have := HK2.out; omega⟩, ⟨krm_ HO_4.out (fun _ hk => trivial)⟩, ⟨lb0_ HB.out⟩⟩
        ·
         rw [if_neg c16] at H
         have c16b0 : decide (0 ≤ t552) = false := decide_eq_false c16; clear c16; replace H := Option.bind_eq_some_iff.mp H; obtain ⟨⟨t553, t554⟩, A220, H⟩ := H; replace H : (if t554 = true then (impl_MostPlaced.l0 k2 l0 x6_2 ji4 (wrap64 (x16_1 + 1))) else (impl_MostPlaced.l0 k2 l0 x4_1 ji4 (wrap64 (x16_1 + 1)))) = some (r1, r2) := H; have A22 := Aside0.mk A220; clear A220
         by_cases c23 : t554 = true
         ·
          subst c23
          have H1 : (impl_MostPlaced.l0 k2 l0 x6_2 ji4 (wrap64 (x16_1 + 1))) = some (r1, r2) := by rw [if_pos rfl] at H; exact H
          clear H; have H := H1; clear H1; have H' := Aside0.mk H; clear H; obtain ⟨Ao24, co24, eo24⟩ := Kd.R_slice HO_4.out; subst eo24; obtain ⟨Ao25, co25, eo25⟩ := Kd.R_slice HO_6.out; subst eo25
          go_wp2_with (first | ((with_reducible refine gate_callee (f := 83) rfl ?_); refine ga_ (some 38) Tryd.func83 #[.int .i64 (x4_1.length : Int), .int .i64 (x6_2.length : Int)] ?_; (with_reducible refine (cmp_Compare_int.calls (x4_1.length : Int) (x6_2.length : Int) t547 _ A13.out).mono ?_); rintro e w' ⟨rfl, ⟨nd, rfl⟩⟩; refine ⟨_, rfl, ?_⟩) | ((with_reducible refine gate_callee (f := 84) rfl ?_); refine ga_ (some 41) Tryd.func84 #[.slice Ao25 x6_2.length co25, .slice Ao24 x4_1.length co24] ?_; (with_reducible refine (slices_Compare_int_int.calls k2 _ _ x6_2 _ _ x4_1 t548 _ ?side1 ?side2 ?side3 ?side4 A14.out).mono ?_); (case side1 => exact kc_ (Kd.R_reads' HO_6.out).2.2); (case side2 => exact (Kd.R_reads' HO_6.out).2.1); (case side3 => exact kc_ (Kd.R_reads' HO_4.out).2.2); (case side4 => exact (Kd.R_reads' HO_4.out).2.1); rintro e w' ⟨rfl, ⟨nd, rfl⟩⟩; refine ⟨_, rfl, ?_⟩) | ((with_reducible refine gate_dst (N := 42) rfl ?_); refine Kd.R_lit (Kd.int .i64) _ 3 ?hg (N := 42) ?hd (xs := ([t547, t548] : List Int)) (inner := [.int .i64 t547, .int .i64 t548]) (ok := fun _ => True) (okp := fun _ => True) ?hr ?hp (fun _ hk => hk) trivial (Below.refl _ _) (Nat.le_refl _) (by simp) ?_; (case hd => rfl); (case hg => rfl); (case hr => first | (go_simp; done) | (go_simp; rfl)); (case hp => exact (Reps.one (show Kd.M (Kd.int .i64) _ _ _ t547 [.int .i64 t547] from rfl) (Reps.one (show Kd.M (Kd.int .i64) _ _ _ t548 [.int .i64 t548] from rfl) (Reps.none _ _)))); intro v550 w26 ho27 hb hg_ hnew_; clear hg_ hnew_; replace ho27 := ry_ Ny549.out ho27; have HO551 := Aside0.mk (Kd.R_lower (Kd.R_new' (Kd.R_new' ho27 (Kd.R_lt (kr_ HO_4.out))) (Kd.R_lt (kr_ HO_6.out))) (below_size (lb0_ HB.out))); replace HO_4 := Aside0.mk (Kd.R_elder' (kr_ HO_4.out) (Kd.R_base ho27) hb); replace HO_6 := Aside0.mk (Kd.R_elder' (kr_ HO_6.out) (Kd.R_base ho27) hb); replace HB := Aside0.mk (below_step (lb0_ HB.out) hb); clear hb ho27; obtain ⟨Ao28, co28, eo28⟩ := Kd.R_slice HO551.out; subst eo28) | ((with_reducible refine gate_callee (f := 82) rfl ?_); refine ga_ (some 43) Tryd.func82 #[.slice Ao28 y549.length co28] ?_; (with_reducible refine (cmp_Or_int.calls k2 _ _ y549 t552 _ ?side1 ?side2 A15.out).mono ?_); (case side1 => exact kc_ (Kd.R_reads' HO551.out).2.2); (case side2 => exact (Kd.R_reads' HO551.out).2.1); rintro e w' ⟨rfl, ⟨nd, rfl⟩⟩; refine ⟨_, rfl, ?_⟩) | ((with_reducible refine gate_callee (f := 80) rfl ?_); refine ga_ (some 48) Tryd.func80 #[.slice A0 l0.length c0, .slice Ao25 x6_2.length co25] ?_; (with_reducible refine (impl_firstPlacing.calls _ _ l0 _ _ x6_2 t553 true _ ?side1 ?side2 ?side3 ?side4 A22.out).mono ?_); (case side1 => exact kc_ (Kd.C_below HR0.out (lb0_ HB.out))); (case side2 => exact HC0.out); (case side3 => exact kc_ (Kd.R_reads' HO_6.out).2.2); (case side4 => exact (Kd.R_reads' HO_6.out).2.1); rintro e w29 ⟨v555, rfl, ho0, hb⟩; refine ⟨_, rfl, ?_⟩; have HO556 := Aside0.mk (Kd.R_lower (Kd.R_new' (Kd.R_new' (Kd.R_new' ho0 (Kd.R_lt (kr_ HO_4.out))) (Kd.R_lt (kr_ HO_6.out))) (Kd.R_lt (kr_ HO551.out))) (below_size (lb0_ HB.out))); replace HO_4 := Aside0.mk (Kd.R_elder' (kr_ HO_4.out) (Kd.R_base ho0) hb); replace HO_6 := Aside0.mk (Kd.R_elder' (kr_ HO_6.out) (Kd.R_base ho0) hb); replace HO551 := Aside0.mk (Kd.R_elder' (kr_ HO551.out) (Kd.R_base ho0) hb); replace HB := Aside0.mk (below_step (lb0_ HB.out) hb); (try clear hb); (try clear hb2); (try clear hk); (try clear hi); (try clear ho0)))
          go_roundg k2
          case measure => have := HK1.out; have := HK2.out; omega
          case rel => exact ⟨(x6_2), (wrap64 (x16_1 + 1)), (by first | rfl | (simp; done) | (simp [*]; done)), H', ⟨by have := HK1.out; have := HK2.out; omega⟩, ⟨krm_ HO_6.out (fun _ hk => trivial)⟩, ⟨lb0_ HB.out⟩⟩
         ·
          replace c23 := Bool.eq_false_iff.mpr c23; subst c23
          have H1 : (impl_MostPlaced.l0 k2 l0 x4_1 ji4 (wrap64 (x16_1 + 1))) = some (r1, r2) := by rw [if_neg (show ¬ (false = true) by decide)] at H; exact H
          clear H; have H := H1; clear H1; have H' := Aside0.mk H; clear H; obtain ⟨Ao30, co30, eo30⟩ := Kd.R_slice HO_4.out; subst eo30; obtain ⟨Ao31, co31, eo31⟩ := Kd.R_slice HO_6.out; subst eo31
          go_wp2_with (first | ((with_reducible refine gate_callee (f := 83) rfl ?_); refine ga_ (some 38) Tryd.func83 #[.int .i64 (x4_1.length : Int), .int .i64 (x6_2.length : Int)] ?_; (with_reducible refine (cmp_Compare_int.calls (x4_1.length : Int) (x6_2.length : Int) t547 _ A13.out).mono ?_); rintro e w' ⟨rfl, ⟨nd, rfl⟩⟩; refine ⟨_, rfl, ?_⟩) | ((with_reducible refine gate_callee (f := 84) rfl ?_); refine ga_ (some 41) Tryd.func84 #[.slice Ao31 x6_2.length co31, .slice Ao30 x4_1.length co30] ?_; (with_reducible refine (slices_Compare_int_int.calls k2 _ _ x6_2 _ _ x4_1 t548 _ ?side1 ?side2 ?side3 ?side4 A14.out).mono ?_); (case side1 => exact kc_ (Kd.R_reads' HO_6.out).2.2); (case side2 => exact (Kd.R_reads' HO_6.out).2.1); (case side3 => exact kc_ (Kd.R_reads' HO_4.out).2.2); (case side4 => exact (Kd.R_reads' HO_4.out).2.1); rintro e w' ⟨rfl, ⟨nd, rfl⟩⟩; refine ⟨_, rfl, ?_⟩) | ((with_reducible refine gate_dst (N := 42) rfl ?_); refine Kd.R_lit (Kd.int .i64) _ 3 ?hg (N := 42) ?hd (xs := ([t547, t548] : List Int)) (inner := [.int .i64 t547, .int .i64 t548]) (ok := fun _ => True) (okp := fun _ => True) ?hr ?hp (fun _ hk => hk) trivial (Below.refl _ _) (Nat.le_refl _) (by simp) ?_; (case hd => rfl); (case hg => rfl); (case hr => first | (go_simp; done) | (go_simp; rfl)); (case hp => exact (Reps.one (show Kd.M (Kd.int .i64) _ _ _ t547 [.int .i64 t547] from rfl) (Reps.one (show Kd.M (Kd.int .i64) _ _ _ t548 [.int .i64 t548] from rfl) (Reps.none _ _)))); intro v550 w32 ho33 hb hg_ hnew_; clear hg_ hnew_; replace ho33 := ry_ Ny549.out ho33; have HO551 := Aside0.mk (Kd.R_lower (Kd.R_new' (Kd.R_new' ho33 (Kd.R_lt (kr_ HO_4.out))) (Kd.R_lt (kr_ HO_6.out))) (below_size (lb0_ HB.out))); replace HO_4 := Aside0.mk (Kd.R_elder' (kr_ HO_4.out) (Kd.R_base ho33) hb); replace HO_6 := Aside0.mk (Kd.R_elder' (kr_ HO_6.out) (Kd.R_base ho33) hb); replace HB := Aside0.mk (below_step (lb0_ HB.out) hb); clear hb ho33; obtain ⟨Ao34, co34, eo34⟩ := Kd.R_slice HO551.out; subst eo34) | ((with_reducible refine gate_callee (f := 82) rfl ?_); refine ga_ (some 43) Tryd.func82 #[.slice Ao34 y549.length co34] ?_; (with_reducible refine (cmp_Or_int.calls k2 _ _ y549 t552 _ ?side1 ?side2 A15.out).mono ?_); (case side1 => exact kc_ (Kd.R_reads' HO551.out).2.2); (case side2 => exact (Kd.R_reads' HO551.out).2.1); rintro e w' ⟨rfl, ⟨nd, rfl⟩⟩; refine ⟨_, rfl, ?_⟩) | ((with_reducible refine gate_callee (f := 80) rfl ?_); refine ga_ (some 48) Tryd.func80 #[.slice A0 l0.length c0, .slice Ao31 x6_2.length co31] ?_; (with_reducible refine (impl_firstPlacing.calls _ _ l0 _ _ x6_2 t553 false _ ?side1 ?side2 ?side3 ?side4 A22.out).mono ?_); (case side1 => exact kc_ (Kd.C_below HR0.out (lb0_ HB.out))); (case side2 => exact HC0.out); (case side3 => exact kc_ (Kd.R_reads' HO_6.out).2.2); (case side4 => exact (Kd.R_reads' HO_6.out).2.1); rintro e w35 ⟨v555, rfl, ho0, hb⟩; refine ⟨_, rfl, ?_⟩; have HO556 := Aside0.mk (Kd.R_lower (Kd.R_new' (Kd.R_new' (Kd.R_new' ho0 (Kd.R_lt (kr_ HO_4.out))) (Kd.R_lt (kr_ HO_6.out))) (Kd.R_lt (kr_ HO551.out))) (below_size (lb0_ HB.out))); replace HO_4 := Aside0.mk (Kd.R_elder' (kr_ HO_4.out) (Kd.R_base ho0) hb); replace HO_6 := Aside0.mk (Kd.R_elder' (kr_ HO_6.out) (Kd.R_base ho0) hb); replace HO551 := Aside0.mk (Kd.R_elder' (kr_ HO551.out) (Kd.R_base ho0) hb); replace HB := Aside0.mk (below_step (lb0_ HB.out) hb); (try clear hb); (try clear hb2); (try clear hk); (try clear hi); (try clear ho0)))
          go_roundg k2
          case measure => have := HK1.out; have := HK2.out; omega
          case rel => exact ⟨(x4_1), (wrap64 (x16_1 + 1)), (by first | rfl | (simp; done) | (simp [*]; done)), H', ⟨by have := HK1.out; have := HK2.out; omega⟩, ⟨krm_ HO_4.out (fun _ hk => trivial)⟩, ⟨lb0_ HB.out⟩⟩
    ·
     rw [if_neg c6] at H
     have c6b0 : decide (x16_1 < ji4) = false := decide_eq_false c6
     clear c6
     simp only [Option.some.injEq, Prod.mk.injEq] at H
     obtain ⟨rfl, rfl⟩ := H
     go_wp2
     go_ret2
     exact ⟨_, by first | rfl | (simp [errW_none, errW_some] <;> rfl) | (simp only [← hji4]; first | rfl | (simp [errW_none, errW_some] <;> rfl)) | (simp [*, errW_none, errW_some] <;> rfl), kr_ HO_4.out, lb0_ HB.out⟩
 ·
  replace c3 := Bool.eq_false_iff.mpr c3
  subst c3
  have H1 : (some (([] : List Int), false)) = some (r1, r2) := by rw [if_neg (show ¬ (false = true) by decide)] at H; exact H
  clear H
  have H := H1
  clear H1
  simp only [Option.some.injEq, Prod.mk.injEq] at H
  obtain ⟨rfl, rfl⟩ := H
  go_enter Tryd.func42, Tryd.ntmps42
  go_wp2_with (first | ((with_reducible refine gate_callee (f := 21) rfl ?_); refine ga_ (some 11) Tryd.func21 #[.slice A0 l0.length c0] ?_; (with_reducible refine (impl_AreLabels.calls _ _ l0 false _ ?side1 ?side2 A2.out).mono ?_); (case side1 => exact kc_ HR0.out); (case side2 => exact HC0.out); rintro e w36 ⟨rfl, hb⟩; refine ⟨_, rfl, ?_⟩; replace HB := Aside0.mk (below_step (lb0_ HB.out) hb); (try clear hb); (try clear hb2); (try clear hk); (try clear hi)))
  go_ret2
  exact ⟨_, rr_, by first | exact Kd.R_nil _ _ _ _ _ | exact Kd.N_nil _ _ _ _ _ | exact Kd.V_nil _ _ _ _ _ | exact Kd.Q_nil _ _ _ _ _ | exact Kd.S_nil _ _ _ _ _, lb0_ HB.out⟩
def laws_rBig.f (l0 : List Int) : Option (Bool) := some (decide ((l0.length : Int) > 65536))
set_option maxHeartbeats 8000000 in
set_option maxRecDepth 100000 in
theorem laws_rBig.calls (A0 : Option Addr) (c0 : Nat) (l0 : List Int) (r : Bool) (w : World) (hr0 : Kd.C (Kd.int .u8) w A0 l0.length l0) (hc0 : l0.length ≤ c0) (h : laws_rBig.f l0 = some r) :
  Calls Tryd.prog 43 #[.slice A0 l0.length c0] w fun e w' => e = .returned (.bool r) ∧ Drawn0 w w' := by
 have HR0 := Aside0.mk hr0
 have HC0 := Aside0.mk hc0
 clear hr0 hc0
 have H : (some (decide ((l0.length : Int) > 65536))) = some r := h
 clear h
 obtain rfl := Option.some.inj H
 go_enter Tryd.func43, Tryd.ntmps43
 go_wp2
 go_ret
 exact ⟨by first | rfl | (simp; done) | (simp [*]; done), by repeat (first | exact Drawn0.refl _ | apply Drawn0.step)⟩
def laws_rInts.l0 : Nat → List Int → List Int → Int → Option (Bool)
 | 0, _, _, _ => none
 | k + 1, x0, x1, x5 => if x5 < (x0.length : Int) then (if 0 ≤ x5 then (if x5 < (x1.length : Int) then (if (rd x0 x5) = (rd x1 x5) then (laws_rInts.l0 k x0 x1 (wrap64 (x5 + 1))) else (some false)) else (none)) else (none)) else (some true)
def laws_rInts.f (k : Nat) (l0 : List Int) (l1 : List Int) : Option (Bool) := if (l0.length : Int) = (l1.length : Int) then (laws_rInts.l0 k l0 l1 0) else (some false)
set_option maxHeartbeats 8000000 in
set_option maxRecDepth 100000 in
theorem laws_rInts.calls (k : Nat) (A0 : Option Addr) (c0 : Nat) (l0 : List Int) (A1 : Option Addr) (c1 : Nat) (l1 : List Int) (r : Bool) (w : World) (hr0 : Kd.C (Kd.int .i64) w A0 l0.length l0) (hc0 : l0.length ≤ c0) (hr1 : Kd.C (Kd.int .i64) w A1 l1.length l1) (hc1 : l1.length ≤ c1) (h : laws_rInts.f k l0 l1 = some r) :
  Calls Tryd.prog 45 #[.slice A0 l0.length c0, .slice A1 l1.length c1] w fun e w' => e = .returned (.bool r) ∧ Drawn0 w w' := by
 have HR0 := Aside0.mk hr0
 have HC0 := Aside0.mk hc0
 clear hr0 hc0
 have HR1 := Aside0.mk hr1
 have HC1 := Aside0.mk hc1
 clear hr1 hc1
 have H : (if (l0.length : Int) = (l1.length : Int) then (laws_rInts.l0 k l0 l1 0) else (some false)) = some r := h
 clear h
 by_cases c3 : (l0.length : Int) = (l1.length : Int)
 ·
  rw [if_pos c3] at H
  have c3b0 : ((l0.length : Int) == (l1.length : Int)) = true := beq_iff_eq.mpr c3
  have c3b1 : ((l0.length : Int) != (l1.length : Int)) = false := bne_eq_false_iff_eq.mpr c3
  have c3b2 : (l0.length == l1.length) = true := by first | simpa using c3 | (simp at c3 ⊢; omega)
  clear c3
  have H' := Aside0.mk H
  clear H
  go_enter Tryd.func45, Tryd.ntmps45
  go_wp2
  repeat (go_quiet (fail); try go_wp2)
  go_loopg [5] k (fun kq v5 w' => ∃ (x5_1 : Int), v5 = .int .i64 x5_1 ∧ Aside0 (laws_rInts.l0 kq l0 l1 x5_1 = some r) ∧ Aside0 (kq ≤ k) ∧ Drawn0 w w')
  case atStart => exact ⟨(0), (by first | rfl | (simp; done) | (simp [*]; done)), H', ⟨Nat.le_refl _⟩, by repeat (first | exact Drawn0.refl _ | apply Drawn0.step)⟩
  case round =>
   clear H'
   try clear c1
   try clear p2
   try clear c3
   try clear c3b0
   try clear c3b1
   try clear c3b2
   obtain ⟨x5_1, rfl, HA, HK1, ⟨m1, rfl⟩⟩ := hrel
   cases gk with
   | zero => exact absurd HA.out (by simp [laws_rInts.l0])
   | succ k1 =>
    have H := HA.out
    clear HA
    simp only [laws_rInts.l0] at H
    by_cases c4 : x5_1 < (l0.length : Int)
    ·
     rw [if_pos c4] at H
     have c4b0 : decide (x5_1 < (l0.length : Int)) = true := decide_eq_true c4
     clear c4
     by_cases c5 : 0 ≤ x5_1
     ·
      rw [if_pos c5] at H
      have c5b0 : decide (0 ≤ x5_1) = true := decide_eq_true c5
      clear c5
      by_cases c6 : x5_1 < (l1.length : Int)
      ·
       rw [if_pos c6] at H
       have c6b0 : decide (x5_1 < (l1.length : Int)) = true := decide_eq_true c6
       clear c6
       by_cases c7 : (rd l0 x5_1) = (rd l1 x5_1)
       ·
        rw [if_pos c7] at H
        have c7b0 : ((rd l0 x5_1) == (rd l1 x5_1)) = true := beq_iff_eq.mpr c7; have c7b1 : ((rd l0 x5_1) != (rd l1 x5_1)) = false := bne_eq_false_iff_eq.mpr c7; clear c7; have H' := Aside0.mk H; clear H; have p712 : 0 ≤ (x5_1 : Int) := dt_; have q712 : x5_1 < (l0.length : Int) := dt_; obtain ⟨ad712, e712, hx712_0⟩ := Kd.at_int HR0.out x5_1 p712 q712
        cases e712
        replace p712 := eq_true p712; replace q712 := eq_true q712; have p713 : 0 ≤ (x5_1 : Int) := dt_; have q713 : x5_1 < (l1.length : Int) := dt_; obtain ⟨ad713, e713, hx713_0⟩ := Kd.at_int HR1.out x5_1 p713 q713
        cases e713
        replace p713 := eq_true p713; replace q713 := eq_true q713
        go_wp2
        repeat (go_quiet (fail); try go_wp2)
        go_roundg k1
        case measure => have := HK1.out; omega
        case rel => exact ⟨(wrap64 (x5_1 + 1)), (by first | rfl | (simp; done) | (simp [*]; done)), H', ⟨by have := HK1.out; omega⟩, by repeat (first | exact Drawn0.refl _ | apply Drawn0.step)⟩
       ·
        rw [if_neg c7] at H
        have c7b0 : ((rd l0 x5_1) == (rd l1 x5_1)) = false := beq_eq_false_iff_ne.mpr c7; have c7b1 : ((rd l0 x5_1) != (rd l1 x5_1)) = true := bne_iff_ne.mpr c7; obtain rfl := Option.some.inj H; have p712 : 0 ≤ (x5_1 : Int) := dt_; have q712 : x5_1 < (l0.length : Int) := dt_; obtain ⟨ad712, e712, hx712_0⟩ := Kd.at_int HR0.out x5_1 p712 q712
        cases e712
        replace p712 := eq_true p712; replace q712 := eq_true q712; have p713 : 0 ≤ (x5_1 : Int) := dt_; have q713 : x5_1 < (l1.length : Int) := dt_; obtain ⟨ad713, e713, hx713_0⟩ := Kd.at_int HR1.out x5_1 p713 q713
        cases e713
        replace p713 := eq_true p713; replace q713 := eq_true q713
        go_wp2
        repeat (go_quiet (fail); try go_wp2)
        go_ret
        exact ⟨by first | rfl | (simp; done) | (simp [*]; done), by repeat (first | exact Drawn0.refl _ | apply Drawn0.step)⟩
      ·
       rw [if_neg c6] at H
       exact absurd H (by simp)
     ·
      rw [if_neg c5] at H
      exact absurd H (by simp)
    ·
     rw [if_neg c4] at H
     have c4b0 : decide (x5_1 < (l0.length : Int)) = false := decide_eq_false c4
     clear c4
     obtain rfl := Option.some.inj H
     go_wp2
     repeat (go_quiet (fail); try go_wp2)
     go_ret
     exact ⟨by first | rfl | (simp; done) | (simp [*]; done), by repeat (first | exact Drawn0.refl _ | apply Drawn0.step)⟩
 ·
  rw [if_neg c3] at H
  have c3b0 : ((l0.length : Int) == (l1.length : Int)) = false := beq_eq_false_iff_ne.mpr c3
  have c3b1 : ((l0.length : Int) != (l1.length : Int)) = true := bne_iff_ne.mpr c3
  have c3b2 : (l0.length == l1.length) = false := by first | simpa using c3 | (simp at c3 ⊢; omega)
  obtain rfl := Option.some.inj H
  go_enter Tryd.func45, Tryd.ntmps45
  go_wp2
  repeat (go_quiet (fail); try go_wp2)
  go_ret
  exact ⟨by first | rfl | (simp; done) | (simp [*]; done), by repeat (first | exact Drawn0.refl _ | apply Drawn0.step)⟩
def spec_newCur.f (l0 : List Int) : Option (List Int × Int × Int) := some (l0, 0, 0)
def IsS99 (w0 W : World) (g : Nat) (f0 : List Int) (f1 : Int) (f2 : Int) : Prop := ∃ A0 c0, W.heap[g]? = some (.cells #[.slice A0 f0.length c0, .int .i64 f1, .int .u64 f2] 99 (0, 0)) ∧ w0.heap.size ≤ g ∧ Kd.C (Kd.int .u8) w0 A0 f0.length f0
theorem IsS99.grown {w0 W : World} {g : Nat} {f0 : List Int} {f1 : Int} {f2 : Int} {W1 : World} {row : Option Nat} (h : IsS99 w0 W g f0 f1 f2) (hw : W.grownBy W1 row) (hne : some g ≠ row) : IsS99 w0 W1 g f0 f1 f2 := by
 obtain ⟨A0, c0, hb, hg, hr0⟩ := h
 exact ⟨A0, c0, blk_grown hb hw hne, hg, hr0⟩
theorem IsS99.below {w0 W : World} {g : Nat} {f0 : List Int} {f1 : Int} {f2 : Int} {W1 : World} (h : IsS99 w0 W g f0 f1 f2) (hw : Below W.heap.size W W1) : IsS99 w0 W1 g f0 f1 f2 := h.grown (grown_of_below hw none) (by simp)
theorem IsS99.alloc {w0 W : World} {g : Nat} {f0 : List Int} {f1 : Int} {f2 : Int} (h : IsS99 w0 W g f0 f1 f2) (o : Obj) : IsS99 w0 (W.alloc o) g f0 f1 f2 := h.below (below_alloc (Below.refl _ _) o)
theorem IsS99.drewN {w0 W : World} {g : Nat} {f0 : List Int} {f1 : Int} {f2 : Int} (h : IsS99 w0 W g f0 f1 f2) (m : Nat) : IsS99 w0 (W.drewN m) g f0 f1 f2 := h
theorem IsS99.drew {w0 W : World} {g : Nat} {f0 : List Int} {f1 : Int} {f2 : Int} (h : IsS99 w0 W g f0 f1 f2) : IsS99 w0 W.drew g f0 f1 f2 := h
theorem IsS99.at_ {w0 W : World} {g : Nat} {f0 : List Int} {f1 : Int} {f2 : Int} {w' : World} {m : Nat} (hq : W.drewN m = w') (h : IsS99 w0 W g f0 f1 f2) : IsS99 w0 w' g f0 f1 f2 := by subst hq; exact IsS99.drewN h m
theorem IsS99.apart {w0 W : World} {g : Nat} {f0 : List Int} {f1 : Int} {f2 : Int} {α : Type} {d : Kd α} {e : Nat} {base : Nat} {ok : Nat → Prop} {v : Value} {xs : List α} (h : IsS99 w0 W g f0 f1 f2) (ho : d.R e W base ok v xs) (ht : ∀ q, q ∈ e :: d.E → q ≠ 99) : d.R e W base (fun k => ok k ∧ k ≠ g) v xs := by
 obtain ⟨A0, c0, hb, hg, hr0⟩ := h
 exact Kd.R_types ho hb ht
theorem IsS99.own_ne {w0 W : World} {g : Nat} {f0 : List Int} {f1 : Int} {f2 : Int} {α : Type} {d : Kd α} {e : Nat} {base : Nat} {ok : Nat → Prop} {v : Value} {xs : List α} (h : IsS99 w0 W g f0 f1 f2) (ho : d.R e W base ok v xs) (ht : e ≠ 99) : some g ≠ v.ownBlock := by
 obtain ⟨A0, c0, hb, hg, hr0⟩ := h
 exact Kd.R_ne ho hb ht
theorem IsS99.lt {w0 W : World} {g : Nat} {f0 : List Int} {f1 : Int} {f2 : Int} (h : IsS99 w0 W g f0 f1 f2) : g < W.heap.size := by
 obtain ⟨A0, c0, hb, hg, hr0⟩ := h
 exact blk_lt hb
theorem IsS99.ge {w0 W : World} {g : Nat} {f0 : List Int} {f1 : Int} {f2 : Int} (h : IsS99 w0 W g f0 f1 f2) : w0.heap.size ≤ g := by
 obtain ⟨A0, c0, hb, hg, hr0⟩ := h
 exact hg
theorem IsS99.ne_blk {w0 W : World} {g : Nat} {f0 : List Int} {f1 : Int} {f2 : Int} {a : Nat} {cs : Array Value} {t : TypeId} {fr : Nat × Nat} (h : IsS99 w0 W g f0 f1 f2) (hb2 : W.heap[a]? = some (.cells cs t fr)) (ht : t ≠ 99) : g ≠ a := by
 obtain ⟨A0, c0, hb, hg, hr0⟩ := h
 rintro rfl
 rw [hb] at hb2
 injection hb2 with hb2
 injection hb2 with _ ht2
 exact ht ht2.symm
theorem IsS99.far {w0 W : World} {g : Nat} {f0 : List Int} {f1 : Int} {f2 : Int} {p : Addr} (h : IsS99 w0 W g f0 f1 f2) (hne : g ≠ p.block) (u : Value) : IsS99 w0 (W.setCell p u) g f0 f1 f2 := by
 obtain ⟨A0, c0, hb, hg, hr0⟩ := h
 exact ⟨A0, c0, blk_far hb hne u, hg, hr0⟩
theorem cellS99_0 {W : World} {g : Nat} {A0 : Option Addr} {c0 : Nat} {f0 : List Int} {f1 : Int} {f2 : Int} (h : W.heap[g]? = some (.cells #[.slice A0 f0.length c0, .int .i64 f1, .int .u64 f2] 99 (0, 0))) : W.cell? ⟨g, 0, none⟩ = some (.slice A0 f0.length c0) := (blk_cell h 0).trans rfl
theorem cellS99_1 {W : World} {g : Nat} {A0 : Option Addr} {c0 : Nat} {f0 : List Int} {f1 : Int} {f2 : Int} (h : W.heap[g]? = some (.cells #[.slice A0 f0.length c0, .int .i64 f1, .int .u64 f2] 99 (0, 0))) : W.cell? ⟨g, 1, none⟩ = some (.int .i64 f1) := (blk_cell h 1).trans rfl
theorem IsS99.set_1 {w0 W : World} {g : Nat} {f0 : List Int} {f1 : Int} {f2 : Int} (h : IsS99 w0 W g f0 f1 f2) (x : Int) : IsS99 w0 (W.setCell ⟨g, 1, none⟩ (.int .i64 x)) g f0 x f2 := by
 obtain ⟨A0, c0, hb, hg, hr0⟩ := h
 exact ⟨A0, c0, by simpa using blk_set hb 1 (.int .i64 x), hg, hr0⟩
theorem cellS99_2 {W : World} {g : Nat} {A0 : Option Addr} {c0 : Nat} {f0 : List Int} {f1 : Int} {f2 : Int} (h : W.heap[g]? = some (.cells #[.slice A0 f0.length c0, .int .i64 f1, .int .u64 f2] 99 (0, 0))) : W.cell? ⟨g, 2, none⟩ = some (.int .u64 f2) := (blk_cell h 2).trans rfl
theorem IsS99.set_2 {w0 W : World} {g : Nat} {f0 : List Int} {f1 : Int} {f2 : Int} (h : IsS99 w0 W g f0 f1 f2) (x : Int) : IsS99 w0 (W.setCell ⟨g, 2, none⟩ (.int .u64 x)) g f0 f1 x := by
 obtain ⟨A0, c0, hb, hg, hr0⟩ := h
 exact ⟨A0, c0, by simpa using blk_set hb 2 (.int .u64 x), hg, hr0⟩
theorem is99_0 {w0 W W1 : World} {g : Nat} {f0 f0' : List Int} {f1 f1' : Int} {f2 f2' : Int} (h : IsS99 w0 W g f0 f1 f2) (hh : IsS99 w0 W g f0 f1 f2 → IsS99 w0 W1 g f0' f1' f2' := by intro h_ ; repeat (first | (with_reducible first | exact h_ | apply IsS99.alloc | apply IsS99.drewN | apply IsS99.drew | apply IsS99.set_1 | apply IsS99.set_2) | exact h_)) : IsS99 w0 W1 g f0' f1' f2' := hh h
theorem is99_1 {w0 W W1 : World} {g : Nat} {f0 f0' : List Int} {f1 f1' : Int} {f2 f2' : Int} {A : Prop} (h : IsS99 w0 W g f0 f1 f2) (h0 : A) (hh : IsS99 w0 W g f0 f1 f2 → A → IsS99 w0 W1 g f0' f1' f2' := by intro h_ n0_; repeat (first | (with_reducible first | exact h_ | apply IsS99.alloc | apply IsS99.drewN | apply IsS99.drew | apply IsS99.set_1 | apply IsS99.set_2 | refine IsS99.far ?_ n0_ _) | exact h_)) : IsS99 w0 W1 g f0' f1' f2' := hh h h0
theorem is99_2 {w0 W W1 : World} {g : Nat} {f0 f0' : List Int} {f1 f1' : Int} {f2 f2' : Int} {A B : Prop} (h : IsS99 w0 W g f0 f1 f2) (h0 : A) (h1 : B) (hh : IsS99 w0 W g f0 f1 f2 → A → B → IsS99 w0 W1 g f0' f1' f2' := by intro h_ n0_ n1_; repeat (first | (with_reducible first | exact h_ | apply IsS99.alloc | apply IsS99.drewN | apply IsS99.drew | apply IsS99.set_1 | apply IsS99.set_2 | refine IsS99.far ?_ n0_ _ | refine IsS99.far ?_ n1_ _) | exact h_)) : IsS99 w0 W1 g f0' f1' f2' := hh h h0 h1
def spec_l1Cur_next.f (s0_0 : List Int) (s0_1 : Int) (s0_2 : Int) : Option (Int × Int × Int) := if s0_1 < (s0_0.length : Int) then (if 0 ≤ s0_1 then (if (wrap64 (s0_1 + 1)) ≤ (s0_0.length : Int) then (some (wrap64 (rd s0_0 s0_1), wrap64 (s0_1 + 1), IntKind.u64.wrap ((IntKind.u64.wrap ((IntKind.u64.wrap (s0_2 * 6364136223846793005)) + (IntKind.u64.wrap (wrap64 (rd s0_0 s0_1))))) + 933933))) else (some (wrap64 (Go.bits .and .u64 ((IntKind.u64.wrap ((IntKind.u64.wrap ((IntKind.u64.wrap (s0_2 * 6364136223846793005)) + (IntKind.u64.wrap (wrap64 (rd s0_0 s0_1))))) + 933933)) / 1099511627776) 255), wrap64 (s0_1 + 1), IntKind.u64.wrap ((IntKind.u64.wrap ((IntKind.u64.wrap (s0_2 * 6364136223846793005)) + (IntKind.u64.wrap (wrap64 (rd s0_0 s0_1))))) + 933933)))) else (none)) else (if (wrap64 (s0_1 + 1)) ≤ (s0_0.length : Int) then (some (0, wrap64 (s0_1 + 1), IntKind.u64.wrap ((IntKind.u64.wrap ((IntKind.u64.wrap (s0_2 * 6364136223846793005)) + 0)) + 933933))) else (some (wrap64 (Go.bits .and .u64 ((IntKind.u64.wrap ((IntKind.u64.wrap ((IntKind.u64.wrap (s0_2 * 6364136223846793005)) + 0)) + 933933)) / 1099511627776) 255), wrap64 (s0_1 + 1), IntKind.u64.wrap ((IntKind.u64.wrap ((IntKind.u64.wrap (s0_2 * 6364136223846793005)) + 0)) + 933933))))
set_option maxHeartbeats 8000000 in
set_option maxRecDepth 100000 in
theorem spec_l1Cur_next.calls (g : Nat) (s0_0 : List Int) (s0_1 : Int) (s0_2 : Int) (r1 : Int) (r2 : Int) (r3 : Int) (w0 w : World) (hI : IsS99 w0 w g s0_0 s0_1 s0_2) (hB : Below w0.heap.size w0 w) (h : spec_l1Cur_next.f s0_0 s0_1 s0_2 = some (r1, r2, r3)) :
  Calls Tryd.prog 107 #[.pointer (some ⟨g, 0, none⟩)] w fun e w' => e = .returned (.int .i64 r1) ∧ IsS99 w0 w' g s0_0 r2 r3 ∧ Below w0.heap.size w0 w' ∧ KeepBut w w' g none := by
 have HI0 := Aside0.mk hI
 have HK := Aside0.mk (KeepBut.refl w g none)
 have HL := Aside0.mk hB.size
 clear hI
 have HW0 := Aside0.mk hB.size
 have HB := Aside0.mk hB
 clear hB
 have H : (if s0_1 < (s0_0.length : Int) then (if 0 ≤ s0_1 then (if (wrap64 (s0_1 + 1)) ≤ (s0_0.length : Int) then (some (wrap64 (rd s0_0 s0_1), wrap64 (s0_1 + 1), IntKind.u64.wrap ((IntKind.u64.wrap ((IntKind.u64.wrap (s0_2 * 6364136223846793005)) + (IntKind.u64.wrap (wrap64 (rd s0_0 s0_1))))) + 933933))) else (some (wrap64 (Go.bits .and .u64 ((IntKind.u64.wrap ((IntKind.u64.wrap ((IntKind.u64.wrap (s0_2 * 6364136223846793005)) + (IntKind.u64.wrap (wrap64 (rd s0_0 s0_1))))) + 933933)) / 1099511627776) 255), wrap64 (s0_1 + 1), IntKind.u64.wrap ((IntKind.u64.wrap ((IntKind.u64.wrap (s0_2 * 6364136223846793005)) + (IntKind.u64.wrap (wrap64 (rd s0_0 s0_1))))) + 933933)))) else (none)) else (if (wrap64 (s0_1 + 1)) ≤ (s0_0.length : Int) then (some (0, wrap64 (s0_1 + 1), IntKind.u64.wrap ((IntKind.u64.wrap ((IntKind.u64.wrap (s0_2 * 6364136223846793005)) + 0)) + 933933))) else (some (wrap64 (Go.bits .and .u64 ((IntKind.u64.wrap ((IntKind.u64.wrap ((IntKind.u64.wrap (s0_2 * 6364136223846793005)) + 0)) + 933933)) / 1099511627776) 255), wrap64 (s0_1 + 1), IntKind.u64.wrap ((IntKind.u64.wrap ((IntKind.u64.wrap (s0_2 * 6364136223846793005)) + 0)) + 933933))))) = some (r1, r2, r3) := h
 clear h
 by_cases c2 : s0_1 < (s0_0.length : Int)
 ·
  rw [if_pos c2] at H
  have c2b0 : decide (s0_1 < (s0_0.length : Int)) = true := decide_eq_true c2
  clear c2
  by_cases c3 : 0 ≤ s0_1
  ·
   rw [if_pos c3] at H
   have c3b0 : decide (0 ≤ s0_1) = true := decide_eq_true c3
   clear c3
   by_cases c4 : (wrap64 (s0_1 + 1)) ≤ (s0_0.length : Int)
   ·
    rw [if_pos c4] at H
    have c4b0 : decide ((wrap64 (s0_1 + 1)) ≤ (s0_0.length : Int)) = true := decide_eq_true c4
    clear c4
    simp only [Option.some.injEq, Prod.mk.injEq] at H
    obtain ⟨rfl, rfl, rfl⟩ := H
    obtain ⟨ASz5_0, cSz5_0, HGz5, hgz5, HSz5_0⟩ := HI0.out
    have hcz5_0 := cellS99_0 HGz5
    have hcz5_1 := cellS99_1 HGz5
    have hcz5_2 := cellS99_2 HGz5
    have hfz5_1 := blk_frozen HGz5 1
    have hfz5_2 := blk_frozen HGz5 2
    clear HGz5 hgz5
    have p592 : 0 ≤ (s0_1 : Int) := dt_
    have q592 : s0_1 < (s0_0.length : Int) := dt_
    obtain ⟨ad592, e592, hx592_0⟩ := Kd.at_int HSz5_0 s0_1 p592 q592
    cases e592
    replace hx592_0 := pw_cell_below HB.out hx592_0
    replace p592 := eq_true p592
    replace q592 := eq_true q592
    go_enter Tryd.func107, Tryd.ntmps107
    go_wp2
    repeat (go_quiet (fail); try go_wp2)
    go_ret
    (try simp only [Int.add_zero])
    exact ⟨rr_, is99_0 HI0.out, lb1_ HB.out (IsS99.ge HI0.out), kb0_ HK.out⟩
   ·
    rw [if_neg c4] at H
    have c4b0 : decide ((wrap64 (s0_1 + 1)) ≤ (s0_0.length : Int)) = false := decide_eq_false c4
    clear c4
    simp only [Option.some.injEq, Prod.mk.injEq] at H
    obtain ⟨rfl, rfl, rfl⟩ := H
    obtain ⟨ASz6_0, cSz6_0, HGz6, hgz6, HSz6_0⟩ := HI0.out
    have hcz6_0 := cellS99_0 HGz6
    have hcz6_1 := cellS99_1 HGz6
    have hcz6_2 := cellS99_2 HGz6
    have hfz6_1 := blk_frozen HGz6 1
    have hfz6_2 := blk_frozen HGz6 2
    clear HGz6 hgz6
    have p592 : 0 ≤ (s0_1 : Int) := dt_
    have q592 : s0_1 < (s0_0.length : Int) := dt_
    obtain ⟨ad592, e592, hx592_0⟩ := Kd.at_int HSz6_0 s0_1 p592 q592
    cases e592
    replace hx592_0 := pw_cell_below HB.out hx592_0
    replace p592 := eq_true p592
    replace q592 := eq_true q592
    go_enter Tryd.func107, Tryd.ntmps107
    go_wp2
    repeat (go_quiet (fail); try go_wp2)
    go_ret
    (try simp only [Int.add_zero])
    exact ⟨rr_, is99_0 HI0.out, lb1_ HB.out (IsS99.ge HI0.out), kb0_ HK.out⟩
  ·
   rw [if_neg c3] at H
   exact absurd H (by simp)
 ·
  rw [if_neg c2] at H
  have c2b0 : decide (s0_1 < (s0_0.length : Int)) = false := decide_eq_false c2
  clear c2
  by_cases c7 : (wrap64 (s0_1 + 1)) ≤ (s0_0.length : Int)
  ·
   rw [if_pos c7] at H
   have c7b0 : decide ((wrap64 (s0_1 + 1)) ≤ (s0_0.length : Int)) = true := decide_eq_true c7
   clear c7
   simp only [Option.some.injEq, Prod.mk.injEq] at H
   obtain ⟨rfl, rfl, rfl⟩ := H
   obtain ⟨ASz8_0, cSz8_0, HGz8, hgz8, HSz8_0⟩ := HI0.out
   have hcz8_0 := cellS99_0 HGz8
   have hcz8_1 := cellS99_1 HGz8
   have hcz8_2 := cellS99_2 HGz8
   have hfz8_1 := blk_frozen HGz8 1
   have hfz8_2 := blk_frozen HGz8 2
   clear HGz8 hgz8
   go_enter Tryd.func107, Tryd.ntmps107
   go_wp2
   repeat (go_quiet (fail); try go_wp2)
   go_ret
   (try simp only [Int.add_zero])
   exact ⟨rr_, is99_0 HI0.out, lb1_ HB.out (IsS99.ge HI0.out), kb0_ HK.out⟩
  ·
   rw [if_neg c7] at H
   have c7b0 : decide ((wrap64 (s0_1 + 1)) ≤ (s0_0.length : Int)) = false := decide_eq_false c7
   clear c7
   simp only [Option.some.injEq, Prod.mk.injEq] at H
   obtain ⟨rfl, rfl, rfl⟩ := H
   obtain ⟨ASz9_0, cSz9_0, HGz9, hgz9, HSz9_0⟩ := HI0.out
   have hcz9_0 := cellS99_0 HGz9
   have hcz9_1 := cellS99_1 HGz9
   have hcz9_2 := cellS99_2 HGz9
   have hfz9_1 := blk_frozen HGz9 1
   have hfz9_2 := blk_frozen HGz9 2
   clear HGz9 hgz9
   go_enter Tryd.func107, Tryd.ntmps107
   go_wp2
   repeat (go_quiet (fail); try go_wp2)
   go_ret
   (try simp only [Int.add_zero])
   exact ⟨rr_, is99_0 HI0.out, lb1_ HB.out (IsS99.ge HI0.out), kb0_ HK.out⟩
def spec_l1Cur_pick.f (s0_0 : List Int) (s0_1 : Int) (s0_2 : Int) (a1 : Int) : Option (Int × Int × Int) := if a1 ≤ 1 then (some (0, s0_1, s0_2)) else ((spec_l1Cur_next.f s0_0 s0_1 s0_2).bind fun bt593 => (if a1 > 200 then ((spec_l1Cur_next.f s0_0 bt593.2.1 bt593.2.2).bind fun bt596 => (if a1 = 0 then (none) else (some (Int.tmod (wrap64 ((wrap64 (bt593.1 * 256)) + bt596.1)) a1, bt596.2.1, bt596.2.2)))) else (if a1 = 0 then (none) else (some (Int.tmod bt593.1 a1, bt593.2.1, bt593.2.2)))))
set_option maxHeartbeats 8000000 in
set_option maxRecDepth 100000 in
theorem spec_l1Cur_pick.calls (g : Nat) (s0_0 : List Int) (s0_1 : Int) (s0_2 : Int) (a1 : Int) (r1 : Int) (r2 : Int) (r3 : Int) (w0 w : World) (hI : IsS99 w0 w g s0_0 s0_1 s0_2) (hB : Below w0.heap.size w0 w) (h : spec_l1Cur_pick.f s0_0 s0_1 s0_2 a1 = some (r1, r2, r3)) :
  Calls Tryd.prog 86 #[.pointer (some ⟨g, 0, none⟩), .int .i64 a1] w fun e w' => e = .returned (.int .i64 r1) ∧ IsS99 w0 w' g s0_0 r2 r3 ∧ Below w0.heap.size w0 w' ∧ KeepBut w w' g none := by
 have HI0 := Aside0.mk hI
 have HK := Aside0.mk (KeepBut.refl w g none)
 have HL := Aside0.mk hB.size
 clear hI
 have HW0 := Aside0.mk hB.size
 have HB := Aside0.mk hB
 clear hB
 have H : (if a1 ≤ 1 then (some (0, s0_1, s0_2)) else ((spec_l1Cur_next.f s0_0 s0_1 s0_2).bind fun bt593 => (if a1 > 200 then ((spec_l1Cur_next.f s0_0 bt593.2.1 bt593.2.2).bind fun bt596 => (if a1 = 0 then (none) else (some (Int.tmod (wrap64 ((wrap64 (bt593.1 * 256)) + bt596.1)) a1, bt596.2.1, bt596.2.2)))) else (if a1 = 0 then (none) else (some (Int.tmod bt593.1 a1, bt593.2.1, bt593.2.2)))))) = some (r1, r2, r3) := h
 clear h
 by_cases c3 : a1 ≤ 1
 ·
  rw [if_pos c3] at H
  have c3b0 : decide (a1 ≤ 1) = true := decide_eq_true c3
  clear c3
  simp only [Option.some.injEq, Prod.mk.injEq] at H
  obtain ⟨rfl, rfl, rfl⟩ := H
  go_enter Tryd.func86, Tryd.ntmps86
  go_wp2
  go_ret
  exact ⟨rr_, is99_0 HI0.out, lb1_ HB.out (IsS99.ge HI0.out), kb0_ HK.out⟩
 ·
  rw [if_neg c3] at H
  have c3b0 : decide (a1 ≤ 1) = false := decide_eq_false c3
  clear c3
  replace H := Option.bind_eq_some_iff.mp H
  obtain ⟨⟨t593, t594, t595⟩, A40, H⟩ := H
  replace H : (if a1 > 200 then ((spec_l1Cur_next.f s0_0 t594 t595).bind fun bt596 => (if a1 = 0 then (none) else (some (Int.tmod (wrap64 ((wrap64 (t593 * 256)) + bt596.1)) a1, bt596.2.1, bt596.2.2)))) else (if a1 = 0 then (none) else (some (Int.tmod t593 a1, t594, t595)))) = some (r1, r2, r3) := H
  have A4 := Aside0.mk A40
  clear A40
  by_cases c5 : a1 > 200
  ·
   rw [if_pos c5] at H
   have c5b0 : decide (200 < a1) = true := decide_eq_true c5
   clear c5
   replace H := Option.bind_eq_some_iff.mp H
   obtain ⟨⟨t596, t597, t598⟩, A60, H⟩ := H
   replace H : (if a1 = 0 then (none) else (some (Int.tmod (wrap64 ((wrap64 (t593 * 256)) + t596)) a1, t597, t598))) = some (r1, r2, r3) := H
   have A6 := Aside0.mk A60
   clear A60
   by_cases c7 : a1 = 0
   ·
    rw [if_pos c7] at H
    exact absurd H (by simp)
   ·
    rw [if_neg c7] at H
    have c7b0 : (a1 == 0) = false := beq_eq_false_iff_ne.mpr c7
    have c7b1 : (a1 != 0) = true := bne_iff_ne.mpr c7
    simp only [Option.some.injEq, Prod.mk.injEq] at H
    obtain ⟨rfl, rfl, rfl⟩ := H
    go_enter Tryd.func86, Tryd.ntmps86
    go_wp2_with (first | ((with_reducible refine gate_callee (f := 107) rfl ?_); refine ga_ (some 9) Tryd.func107 #[.pointer (some ⟨g, 0, none⟩)] ?_; (with_reducible refine (spec_l1Cur_next.calls g s0_0 s0_1 s0_2 t593 t594 t595 w0 _ ?side1 ?side2 A4.out).mono ?_); (case side1 => exact is99_0 HI0.out); (case side2 => exact lb1_ HB.out (IsS99.ge HI0.out)); rintro e w8 ⟨rfl, hi, hb, hk⟩; refine ⟨_, rfl, ?_⟩; replace HK := Aside0.mk (KeepBut.trans (kb0_ HK.out) hk (.inl rfl)); replace HB := Aside0.mk (hb); replace HI0 := Aside0.mk (hi); (try clear hb); (try clear hb2); (try clear hk); (try clear hi)) | ((with_reducible refine gate_callee (f := 107) rfl ?_); refine ga_ (some 15) Tryd.func107 #[.pointer (some ⟨g, 0, none⟩)] ?_; (with_reducible refine (spec_l1Cur_next.calls g s0_0 t594 t595 t596 t597 t598 w0 _ ?side1 ?side2 A6.out).mono ?_); (case side1 => exact is99_0 HI0.out); (case side2 => exact lb1_ HB.out (IsS99.ge HI0.out)); rintro e w9 ⟨rfl, hi, hb, hk⟩; refine ⟨_, rfl, ?_⟩; replace HK := Aside0.mk (KeepBut.trans (kb0_ HK.out) hk (.inl rfl)); replace HB := Aside0.mk (hb); replace HI0 := Aside0.mk (hi); (try clear hb); (try clear hb2); (try clear hk); (try clear hi)))
    go_ret
    exact ⟨rr_, is99_0 HI0.out, lb1_ HB.out (IsS99.ge HI0.out), kb0_ HK.out⟩
  ·
   rw [if_neg c5] at H
   have c5b0 : decide (200 < a1) = false := decide_eq_false c5
   clear c5
   by_cases c10 : a1 = 0
   ·
    rw [if_pos c10] at H
    exact absurd H (by simp)
   ·
    rw [if_neg c10] at H
    have c10b0 : (a1 == 0) = false := beq_eq_false_iff_ne.mpr c10
    have c10b1 : (a1 != 0) = true := bne_iff_ne.mpr c10
    simp only [Option.some.injEq, Prod.mk.injEq] at H
    obtain ⟨rfl, rfl, rfl⟩ := H
    go_enter Tryd.func86, Tryd.ntmps86
    go_wp2_with (first | ((with_reducible refine gate_callee (f := 107) rfl ?_); refine ga_ (some 9) Tryd.func107 #[.pointer (some ⟨g, 0, none⟩)] ?_; (with_reducible refine (spec_l1Cur_next.calls g s0_0 s0_1 s0_2 t593 t594 t595 w0 _ ?side1 ?side2 A4.out).mono ?_); (case side1 => exact is99_0 HI0.out); (case side2 => exact lb1_ HB.out (IsS99.ge HI0.out)); rintro e w11 ⟨rfl, hi, hb, hk⟩; refine ⟨_, rfl, ?_⟩; replace HK := Aside0.mk (KeepBut.trans (kb0_ HK.out) hk (.inl rfl)); replace HB := Aside0.mk (hb); replace HI0 := Aside0.mk (hi); (try clear hb); (try clear hb2); (try clear hk); (try clear hi)))
    go_ret
    exact ⟨rr_, is99_0 HI0.out, lb1_ HB.out (IsS99.ge HI0.out), kb0_ HK.out⟩
def spec_l1Cur_among.f (s0_0 : List Int) (s0_1 : Int) (s0_2 : Int) (l1 : List Int) : Option (Int × Int × Int) := (spec_l1Cur_pick.f s0_0 s0_1 s0_2 (l1.length : Int)).bind fun bt602 => (if 0 ≤ bt602.1 then (if bt602.1 < (l1.length : Int) then (some (rd l1 bt602.1, bt602.2.1, bt602.2.2)) else (none)) else (none))
set_option maxHeartbeats 8000000 in
set_option maxRecDepth 100000 in
theorem spec_l1Cur_among.calls (g : Nat) (s0_0 : List Int) (s0_1 : Int) (s0_2 : Int) (A1 : Option Addr) (c1 : Nat) (l1 : List Int) (r1 : Int) (r2 : Int) (r3 : Int) (w0 w : World) (hI : IsS99 w0 w g s0_0 s0_1 s0_2) (hB : Below w0.heap.size w0 w) (hr1 : Kd.C (Kd.int .i64) w A1 l1.length l1) (hc1 : l1.length ≤ c1) (hf1 : ∀ ad, A1 = some ad → 0 < l1.length → ad.block ≠ g) (h : spec_l1Cur_among.f s0_0 s0_1 s0_2 l1 = some (r1, r2, r3)) :
  Calls Tryd.prog 88 #[.pointer (some ⟨g, 0, none⟩), .slice A1 l1.length c1] w fun e w' => e = .returned (.int .i64 r1) ∧ IsS99 w0 w' g s0_0 r2 r3 ∧ Below w0.heap.size w0 w' ∧ KeepBut w w' g none := by
 have HR1 := Aside0.mk hr1
 have HC1 := Aside0.mk hc1
 clear hr1 hc1
 have HI0 := Aside0.mk hI
 have HK := Aside0.mk (KeepBut.refl w g none)
 have HL := Aside0.mk hB.size
 clear hI
 have HW0 := Aside0.mk hB.size
 have HB := Aside0.mk hB
 clear hB
 have H : ((spec_l1Cur_pick.f s0_0 s0_1 s0_2 (l1.length : Int)).bind fun bt602 => (if 0 ≤ bt602.1 then (if bt602.1 < (l1.length : Int) then (some (rd l1 bt602.1, bt602.2.1, bt602.2.2)) else (none)) else (none))) = some (r1, r2, r3) := h
 clear h
 replace H := Option.bind_eq_some_iff.mp H
 obtain ⟨⟨t602, t603, t604⟩, A30, H⟩ := H
 replace H : (if 0 ≤ t602 then (if t602 < (l1.length : Int) then (some (rd l1 t602, t603, t604)) else (none)) else (none)) = some (r1, r2, r3) := H
 have A3 := Aside0.mk A30
 clear A30
 by_cases c4 : 0 ≤ t602
 ·
  rw [if_pos c4] at H
  have c4b0 : decide (0 ≤ t602) = true := decide_eq_true c4
  clear c4
  by_cases c5 : t602 < (l1.length : Int)
  ·
   rw [if_pos c5] at H
   have c5b0 : decide (t602 < (l1.length : Int)) = true := decide_eq_true c5
   clear c5
   simp only [Option.some.injEq, Prod.mk.injEq] at H
   obtain ⟨rfl, rfl, rfl⟩ := H
   go_enter Tryd.func88, Tryd.ntmps88
   go_wp2_with (first | ((with_reducible refine gate_callee (f := 86) rfl ?_); refine ga_ (some 9) Tryd.func86 #[.pointer (some ⟨g, 0, none⟩), .int .i64 (l1.length : Int)] ?_; (with_reducible refine (spec_l1Cur_pick.calls g s0_0 s0_1 s0_2 (l1.length : Int) t602 t603 t604 w0 _ ?side1 ?side2 A3.out).mono ?_); (case side1 => exact is99_0 HI0.out); (case side2 => exact lb1_ HB.out (IsS99.ge HI0.out)); rintro e w6 ⟨rfl, hi, hb, hk⟩; refine ⟨_, rfl, ?_⟩; replace HK := Aside0.mk (KeepBut.trans (kb0_ HK.out) hk (.inl rfl)); replace HB := Aside0.mk (hb); replace HI0 := Aside0.mk (hi); (try clear hb); (try clear hb2); (try clear hk); (try clear hi); have p605 : 0 ≤ (t602 : Int) := dt_; have q605 : t602 < (l1.length : Int) := dt_; obtain ⟨ad605, e605, hx605_0⟩ := Kd.at_int HR1.out t602 p605 q605; cases e605; replace hx605_0 := keep_cell HK.out hx605_0 (by first | (rw [add_block]; exact hf1 _ rfl (by omega)) | exact hf1 _ rfl (by omega) | exact hf1 ad605 rfl (by omega)); replace p605 := eq_true p605; replace q605 := eq_true q605))
   go_ret
   exact ⟨rr_, is99_0 HI0.out, lb1_ HB.out (IsS99.ge HI0.out), kb0_ HK.out⟩
  ·
   rw [if_neg c5] at H
   exact absurd H (by simp)
 ·
  rw [if_neg c4] at H
  exact absurd H (by simp)
def spec_l1Cur_of.f (s0_0 : List Int) (s0_1 : Int) (s0_2 : Int) (l1 : List ByteArray) : Option (ByteArray × Int × Int) := (spec_l1Cur_pick.f s0_0 s0_1 s0_2 (l1.length : Int)).bind fun bt606 => (if 0 ≤ bt606.1 then (if bt606.1 < (l1.length : Int) then (some (rdOf ByteArray.empty l1 bt606.1, bt606.2.1, bt606.2.2)) else (none)) else (none))
set_option maxHeartbeats 8000000 in
set_option maxRecDepth 100000 in
theorem spec_l1Cur_of.calls (g : Nat) (s0_0 : List Int) (s0_1 : Int) (s0_2 : Int) (A1 : Option Addr) (c1 : Nat) (l1 : List ByteArray) (r1 : ByteArray) (r2 : Int) (r3 : Int) (w0 w : World) (hI : IsS99 w0 w g s0_0 s0_1 s0_2) (hB : Below w0.heap.size w0 w) (hr1 : Kd.C Kd.string w A1 l1.length l1) (hc1 : l1.length ≤ c1) (hf1 : ∀ ad, A1 = some ad → 0 < l1.length → ad.block ≠ g) (h : spec_l1Cur_of.f s0_0 s0_1 s0_2 l1 = some (r1, r2, r3)) :
  Calls Tryd.prog 108 #[.pointer (some ⟨g, 0, none⟩), .slice A1 l1.length c1] w fun e w' => e = .returned (.string r1) ∧ IsS99 w0 w' g s0_0 r2 r3 ∧ Below w0.heap.size w0 w' ∧ KeepBut w w' g none := by
 have HR1 := Aside0.mk hr1
 have HC1 := Aside0.mk hc1
 clear hr1 hc1
 have HI0 := Aside0.mk hI
 have HK := Aside0.mk (KeepBut.refl w g none)
 have HL := Aside0.mk hB.size
 clear hI
 have HW0 := Aside0.mk hB.size
 have HB := Aside0.mk hB
 clear hB
 have H : ((spec_l1Cur_pick.f s0_0 s0_1 s0_2 (l1.length : Int)).bind fun bt606 => (if 0 ≤ bt606.1 then (if bt606.1 < (l1.length : Int) then (some (rdOf ByteArray.empty l1 bt606.1, bt606.2.1, bt606.2.2)) else (none)) else (none))) = some (r1, r2, r3) := h
 clear h
 replace H := Option.bind_eq_some_iff.mp H
 obtain ⟨⟨t606, t607, t608⟩, A30, H⟩ := H
 replace H : (if 0 ≤ t606 then (if t606 < (l1.length : Int) then (some (rdOf ByteArray.empty l1 t606, t607, t608)) else (none)) else (none)) = some (r1, r2, r3) := H
 have A3 := Aside0.mk A30
 clear A30
 by_cases c4 : 0 ≤ t606
 ·
  rw [if_pos c4] at H
  have c4b0 : decide (0 ≤ t606) = true := decide_eq_true c4
  clear c4
  by_cases c5 : t606 < (l1.length : Int)
  ·
   rw [if_pos c5] at H
   have c5b0 : decide (t606 < (l1.length : Int)) = true := decide_eq_true c5
   clear c5
   simp only [Option.some.injEq, Prod.mk.injEq] at H
   obtain ⟨rfl, rfl, rfl⟩ := H
   go_enter Tryd.func108, Tryd.ntmps108
   go_wp2_with (first | ((with_reducible refine gate_callee (f := 86) rfl ?_); refine ga_ (some 9) Tryd.func86 #[.pointer (some ⟨g, 0, none⟩), .int .i64 (l1.length : Int)] ?_; (with_reducible refine (spec_l1Cur_pick.calls g s0_0 s0_1 s0_2 (l1.length : Int) t606 t607 t608 w0 _ ?side1 ?side2 A3.out).mono ?_); (case side1 => exact is99_0 HI0.out); (case side2 => exact lb1_ HB.out (IsS99.ge HI0.out)); rintro e w6 ⟨rfl, hi, hb, hk⟩; refine ⟨_, rfl, ?_⟩; replace HK := Aside0.mk (KeepBut.trans (kb0_ HK.out) hk (.inl rfl)); replace HB := Aside0.mk (hb); replace HI0 := Aside0.mk (hi); (try clear hb); (try clear hb2); (try clear hk); (try clear hi); have p609 : 0 ≤ (t606 : Int) := dt_; have q609 : t606 < (l1.length : Int) := dt_; obtain ⟨ad609, e609, hx609_0⟩ := Kd.at_string HR1.out t606 p609 q609; cases e609; replace hx609_0 := keep_cell HK.out hx609_0 (by first | (rw [add_block]; exact hf1 _ rfl (by omega)) | exact hf1 _ rfl (by omega) | exact hf1 ad609 rfl (by omega)); replace p609 := eq_true p609; replace q609 := eq_true q609))
   go_ret
   exact ⟨rr_, is99_0 HI0.out, lb1_ HB.out (IsS99.ge HI0.out), kb0_ HK.out⟩
  ·
   rw [if_neg c5] at H
   exact absurd H (by simp)
 ·
  rw [if_neg c4] at H
  exact absurd H (by simp)
end Go.Proofs.YtjkcfpmonpkhhaaDoor.Pr

namespace Go.Proofs.YtjkcfpmonpkhhaaDoor.Pr
open Go.RowKit Go.Proofs.YtjkcfpmonpkhhaaDoorW.PrintWords Go.Proofs.YtjkcfpmonpkhhaaDoorW.PrintLast Go.Proofs.YtjkcfpmonpkhhaaDoorW.PrintMore
set_option linter.unusedVariables false
set_option linter.unusedSimpArgs false
theorem kg_ {α : Type} {d : Kd α} {e base g t : Nat} {w w1 : World} {ok : Nat → Prop} {v : Value} {xs : List α} {cs : Array Value} (h : d.R e w base ok v xs) (B : w.heap[g]? = some (.cells cs t (0, 0))) (ht : ∀ q, q ∈ e :: d.E → q ≠ t := by decide) (hh : d.R e w base (fun k => ok k ∧ k ≠ g) v xs → d.R e w1 base (fun k => ok k ∧ k ≠ g) v xs := by intro h_; (repeat (with_reducible first | exact h_ | apply Kd.R_alloc | apply Kd.R_drewN | apply Kd.R_drew | refine Kd.R_far ?_ (fun _ hk => hk.2) _))) : d.R e w1 base ok v xs := Kd.R_mono (hh (Kd.R_types h B ht)) (fun _ h_ => h_.1)
end Go.Proofs.YtjkcfpmonpkhhaaDoor.Pr

namespace Go.Proofs.YtjkcfpmonpkhhaaDoor.Pr
open Go.RowKit Go.Proofs.YtjkcfpmonpkhhaaDoorW.PrintWords Go.Proofs.YtjkcfpmonpkhhaaDoorW.PrintLast Go.Proofs.YtjkcfpmonpkhhaaDoorW.PrintMore
attribute [local go_sem] max2_int min2_int max_two min_two max_three min_three max_four min_four   -- for this text's walks alone
set_option linter.unusedVariables false
set_option linter.unusedSimpArgs false
def spec_l1Cur_label.f (s0_0 : List Int) (s0_1 : Int) (s0_2 : Int) : Option (ByteArray × Int × Int × Int × Int) := (spec_l1Cur_of.f s0_0 s0_1 s0_2 (([(⟨#[97]⟩ : ByteArray), (⟨#[115, 117, 109, 112]⟩ : ByteArray), (⟨#[98, 105, 103]⟩ : ByteArray), (⟨#[104, 97, 108, 108]⟩ : ByteArray), (⟨#[108, 111, 110, 103, 110, 97, 109, 101]⟩ : ByteArray), (⟨#[97, 98, 99, 100, 101, 102, 103, 104, 105, 106]⟩ : ByteArray)] : List ByteArray))).bind fun bt614 => ((spec_l1Cur_among.f s0_0 bt614.2.1 bt614.2.2 (([0, 5, 9, 12, 13, 99] : List Int))).bind fun bt620 => ((spec_l1Cur_among.f s0_0 bt620.2.1 bt620.2.2 (([0, 1, 8, 10, 11, 99] : List Int))).bind fun bt626 => ((spec_l1Cur_pick.f s0_0 bt626.2.1 bt626.2.2 60).bind fun bt630 => (if bt630.1 = 0 then ((spec_l1Cur_of.f s0_0 bt630.2.1 bt630.2.2 (([(⟨#[]⟩ : ByteArray), (⟨#[65]⟩ : ByteArray), (⟨#[97, 98, 99, 100, 101, 102, 103, 104, 105, 106, 107]⟩ : ByteArray)] : List ByteArray))).bind fun bt636 => (some (bt636.1, bt620.1, bt626.1, bt636.2.1, bt636.2.2))) else (if bt630.1 = 1 then ((spec_l1Cur_among.f s0_0 bt630.2.1 bt630.2.2 (([(-1), 100] : List Int))).bind fun bt642 => (some (bt614.1, bt642.1, bt626.1, bt642.2.1, bt642.2.2))) else (if bt630.1 = 2 then ((spec_l1Cur_among.f s0_0 bt630.2.1 bt630.2.2 (([(-1), 100] : List Int))).bind fun bt648 => (some (bt614.1, bt620.1, bt648.1, bt648.2.1, bt648.2.2))) else (some (bt614.1, bt620.1, bt626.1, bt630.2.1, bt630.2.2))))))))
set_option maxHeartbeats 8000000 in
set_option maxRecDepth 100000 in
theorem spec_l1Cur_label.calls (g : Nat) (s0_0 : List Int) (s0_1 : Int) (s0_2 : Int) (r1 : ByteArray) (r2 : Int) (r3 : Int) (r4 : Int) (r5 : Int) (w0 w : World) (hI : IsS99 w0 w g s0_0 s0_1 s0_2) (hB : Below w0.heap.size w0 w) (h : spec_l1Cur_label.f s0_0 s0_1 s0_2 = some (r1, r2, r3, r4, r5)) :
  Calls Tryd.prog 89 #[.pointer (some ⟨g, 0, none⟩)] w fun e w' => e = .returned (.agg #[.string r1, .int .i64 r2, .int .i64 r3]) ∧ IsS99 w0 w' g s0_0 r4 r5 ∧ Below w0.heap.size w0 w' ∧ KeepBut w w' g none := by
 have hu29 := Tryd.underlying29
 have HI0 := Aside0.mk hI
 have HK := Aside0.mk (KeepBut.refl w g none)
 have HL := Aside0.mk hB.size
 clear hI
 have HW0 := Aside0.mk hB.size
 have HB := Aside0.mk hB
 clear hB
 have H : ((spec_l1Cur_of.f s0_0 s0_1 s0_2 (([(⟨#[97]⟩ : ByteArray), (⟨#[115, 117, 109, 112]⟩ : ByteArray), (⟨#[98, 105, 103]⟩ : ByteArray), (⟨#[104, 97, 108, 108]⟩ : ByteArray), (⟨#[108, 111, 110, 103, 110, 97, 109, 101]⟩ : ByteArray), (⟨#[97, 98, 99, 100, 101, 102, 103, 104, 105, 106]⟩ : ByteArray)] : List ByteArray))).bind fun bt614 => ((spec_l1Cur_among.f s0_0 bt614.2.1 bt614.2.2 (([0, 5, 9, 12, 13, 99] : List Int))).bind fun bt620 => ((spec_l1Cur_among.f s0_0 bt620.2.1 bt620.2.2 (([0, 1, 8, 10, 11, 99] : List Int))).bind fun bt626 => ((spec_l1Cur_pick.f s0_0 bt626.2.1 bt626.2.2 60).bind fun bt630 => (if bt630.1 = 0 then ((spec_l1Cur_of.f s0_0 bt630.2.1 bt630.2.2 (([(⟨#[]⟩ : ByteArray), (⟨#[65]⟩ : ByteArray), (⟨#[97, 98, 99, 100, 101, 102, 103, 104, 105, 106, 107]⟩ : ByteArray)] : List ByteArray))).bind fun bt636 => (some (bt636.1, bt620.1, bt626.1, bt636.2.1, bt636.2.2))) else (if bt630.1 = 1 then ((spec_l1Cur_among.f s0_0 bt630.2.1 bt630.2.2 (([(-1), 100] : List Int))).bind fun bt642 => (some (bt614.1, bt642.1, bt626.1, bt642.2.1, bt642.2.2))) else (if bt630.1 = 2 then ((spec_l1Cur_among.f s0_0 bt630.2.1 bt630.2.2 (([(-1), 100] : List Int))).bind fun bt648 => (some (bt614.1, bt620.1, bt648.1, bt648.2.1, bt648.2.2))) else (some (bt614.1, bt620.1, bt626.1, bt630.2.1, bt630.2.2))))))))) = some (r1, r2, r3, r4, r5) := h
 clear h
 obtain ⟨y611, hy611⟩ : ∃ y_ : List ByteArray, y_ = (([(⟨#[97]⟩ : ByteArray), (⟨#[115, 117, 109, 112]⟩ : ByteArray), (⟨#[98, 105, 103]⟩ : ByteArray), (⟨#[104, 97, 108, 108]⟩ : ByteArray), (⟨#[108, 111, 110, 103, 110, 97, 109, 101]⟩ : ByteArray), (⟨#[97, 98, 99, 100, 101, 102, 103, 104, 105, 106]⟩ : ByteArray)] : List ByteArray)) := ⟨_, rfl⟩
 replace H : ((spec_l1Cur_of.f s0_0 s0_1 s0_2 y611).bind fun bt614 => ((spec_l1Cur_among.f s0_0 bt614.2.1 bt614.2.2 (([0, 5, 9, 12, 13, 99] : List Int))).bind fun bt620 => ((spec_l1Cur_among.f s0_0 bt620.2.1 bt620.2.2 (([0, 1, 8, 10, 11, 99] : List Int))).bind fun bt626 => ((spec_l1Cur_pick.f s0_0 bt626.2.1 bt626.2.2 60).bind fun bt630 => (if bt630.1 = 0 then ((spec_l1Cur_of.f s0_0 bt630.2.1 bt630.2.2 (([(⟨#[]⟩ : ByteArray), (⟨#[65]⟩ : ByteArray), (⟨#[97, 98, 99, 100, 101, 102, 103, 104, 105, 106, 107]⟩ : ByteArray)] : List ByteArray))).bind fun bt636 => (some (bt636.1, bt620.1, bt626.1, bt636.2.1, bt636.2.2))) else (if bt630.1 = 1 then ((spec_l1Cur_among.f s0_0 bt630.2.1 bt630.2.2 (([(-1), 100] : List Int))).bind fun bt642 => (some (bt614.1, bt642.1, bt626.1, bt642.2.1, bt642.2.2))) else (if bt630.1 = 2 then ((spec_l1Cur_among.f s0_0 bt630.2.1 bt630.2.2 (([(-1), 100] : List Int))).bind fun bt648 => (some (bt614.1, bt620.1, bt648.1, bt648.2.1, bt648.2.2))) else (some (bt614.1, bt620.1, bt626.1, bt630.2.1, bt630.2.2))))))))) = some (r1, r2, r3, r4, r5) := by first | (rw [hy611]; with_reducible exact H) | (have H2_ := (Option.bind_some _ _).symm.trans H; rw [hy611]; with_reducible exact H2_) | (have H2_ := (Option.bind_some _ _).symm.trans H; with_reducible exact H2_) | with_reducible exact H | (rw [hy611]; exact H) | exact H
 have Ny611 := Aside0.mk hy611
 clear hy611
 replace H := Option.bind_eq_some_iff.mp H
 obtain ⟨⟨t614, t615, t616⟩, A20, H⟩ := H
 replace H : ((spec_l1Cur_among.f s0_0 t615 t616 (([0, 5, 9, 12, 13, 99] : List Int))).bind fun bt620 => ((spec_l1Cur_among.f s0_0 bt620.2.1 bt620.2.2 (([0, 1, 8, 10, 11, 99] : List Int))).bind fun bt626 => ((spec_l1Cur_pick.f s0_0 bt626.2.1 bt626.2.2 60).bind fun bt630 => (if bt630.1 = 0 then ((spec_l1Cur_of.f s0_0 bt630.2.1 bt630.2.2 (([(⟨#[]⟩ : ByteArray), (⟨#[65]⟩ : ByteArray), (⟨#[97, 98, 99, 100, 101, 102, 103, 104, 105, 106, 107]⟩ : ByteArray)] : List ByteArray))).bind fun bt636 => (some (bt636.1, bt620.1, bt626.1, bt636.2.1, bt636.2.2))) else (if bt630.1 = 1 then ((spec_l1Cur_among.f s0_0 bt630.2.1 bt630.2.2 (([(-1), 100] : List Int))).bind fun bt642 => (some (t614, bt642.1, bt626.1, bt642.2.1, bt642.2.2))) else (if bt630.1 = 2 then ((spec_l1Cur_among.f s0_0 bt630.2.1 bt630.2.2 (([(-1), 100] : List Int))).bind fun bt648 => (some (t614, bt620.1, bt648.1, bt648.2.1, bt648.2.2))) else (some (t614, bt620.1, bt626.1, bt630.2.1, bt630.2.2)))))))) = some (r1, r2, r3, r4, r5) := H
 have A2 := Aside0.mk A20
 clear A20
 obtain ⟨y617, hy617⟩ : ∃ y_ : List Int, y_ = (([0, 5, 9, 12, 13, 99] : List Int)) := ⟨_, rfl⟩
 replace H : ((spec_l1Cur_among.f s0_0 t615 t616 y617).bind fun bt620 => ((spec_l1Cur_among.f s0_0 bt620.2.1 bt620.2.2 (([0, 1, 8, 10, 11, 99] : List Int))).bind fun bt626 => ((spec_l1Cur_pick.f s0_0 bt626.2.1 bt626.2.2 60).bind fun bt630 => (if bt630.1 = 0 then ((spec_l1Cur_of.f s0_0 bt630.2.1 bt630.2.2 (([(⟨#[]⟩ : ByteArray), (⟨#[65]⟩ : ByteArray), (⟨#[97, 98, 99, 100, 101, 102, 103, 104, 105, 106, 107]⟩ : ByteArray)] : List ByteArray))).bind fun bt636 => (some (bt636.1, bt620.1, bt626.1, bt636.2.1, bt636.2.2))) else (if bt630.1 = 1 then ((spec_l1Cur_among.f s0_0 bt630.2.1 bt630.2.2 (([(-1), 100] : List Int))).bind fun bt642 => (some (t614, bt642.1, bt626.1, bt642.2.1, bt642.2.2))) else (if bt630.1 = 2 then ((spec_l1Cur_among.f s0_0 bt630.2.1 bt630.2.2 (([(-1), 100] : List Int))).bind fun bt648 => (some (t614, bt620.1, bt648.1, bt648.2.1, bt648.2.2))) else (some (t614, bt620.1, bt626.1, bt630.2.1, bt630.2.2)))))))) = some (r1, r2, r3, r4, r5) := by first | (rw [hy617]; with_reducible exact H) | (have H2_ := (Option.bind_some _ _).symm.trans H; rw [hy617]; with_reducible exact H2_) | (have H2_ := (Option.bind_some _ _).symm.trans H; with_reducible exact H2_) | with_reducible exact H | (rw [hy617]; exact H) | exact H
 have Ny617 := Aside0.mk hy617
 clear hy617
 replace H := Option.bind_eq_some_iff.mp H
 obtain ⟨⟨t620, t621, t622⟩, A30, H⟩ := H
 replace H : ((spec_l1Cur_among.f s0_0 t621 t622 (([0, 1, 8, 10, 11, 99] : List Int))).bind fun bt626 => ((spec_l1Cur_pick.f s0_0 bt626.2.1 bt626.2.2 60).bind fun bt630 => (if bt630.1 = 0 then ((spec_l1Cur_of.f s0_0 bt630.2.1 bt630.2.2 (([(⟨#[]⟩ : ByteArray), (⟨#[65]⟩ : ByteArray), (⟨#[97, 98, 99, 100, 101, 102, 103, 104, 105, 106, 107]⟩ : ByteArray)] : List ByteArray))).bind fun bt636 => (some (bt636.1, t620, bt626.1, bt636.2.1, bt636.2.2))) else (if bt630.1 = 1 then ((spec_l1Cur_among.f s0_0 bt630.2.1 bt630.2.2 (([(-1), 100] : List Int))).bind fun bt642 => (some (t614, bt642.1, bt626.1, bt642.2.1, bt642.2.2))) else (if bt630.1 = 2 then ((spec_l1Cur_among.f s0_0 bt630.2.1 bt630.2.2 (([(-1), 100] : List Int))).bind fun bt648 => (some (t614, t620, bt648.1, bt648.2.1, bt648.2.2))) else (some (t614, t620, bt626.1, bt630.2.1, bt630.2.2))))))) = some (r1, r2, r3, r4, r5) := H
 have A3 := Aside0.mk A30
 clear A30
 obtain ⟨y623, hy623⟩ : ∃ y_ : List Int, y_ = (([0, 1, 8, 10, 11, 99] : List Int)) := ⟨_, rfl⟩
 replace H : ((spec_l1Cur_among.f s0_0 t621 t622 y623).bind fun bt626 => ((spec_l1Cur_pick.f s0_0 bt626.2.1 bt626.2.2 60).bind fun bt630 => (if bt630.1 = 0 then ((spec_l1Cur_of.f s0_0 bt630.2.1 bt630.2.2 (([(⟨#[]⟩ : ByteArray), (⟨#[65]⟩ : ByteArray), (⟨#[97, 98, 99, 100, 101, 102, 103, 104, 105, 106, 107]⟩ : ByteArray)] : List ByteArray))).bind fun bt636 => (some (bt636.1, t620, bt626.1, bt636.2.1, bt636.2.2))) else (if bt630.1 = 1 then ((spec_l1Cur_among.f s0_0 bt630.2.1 bt630.2.2 (([(-1), 100] : List Int))).bind fun bt642 => (some (t614, bt642.1, bt626.1, bt642.2.1, bt642.2.2))) else (if bt630.1 = 2 then ((spec_l1Cur_among.f s0_0 bt630.2.1 bt630.2.2 (([(-1), 100] : List Int))).bind fun bt648 => (some (t614, t620, bt648.1, bt648.2.1, bt648.2.2))) else (some (t614, t620, bt626.1, bt630.2.1, bt630.2.2))))))) = some (r1, r2, r3, r4, r5) := by first | (rw [hy623]; with_reducible exact H) | (have H2_ := (Option.bind_some _ _).symm.trans H; rw [hy623]; with_reducible exact H2_) | (have H2_ := (Option.bind_some _ _).symm.trans H; with_reducible exact H2_) | with_reducible exact H | (rw [hy623]; exact H) | exact H
 have Ny623 := Aside0.mk hy623
 clear hy623
 replace H := Option.bind_eq_some_iff.mp H
 obtain ⟨⟨t626, t627, t628⟩, A40, H⟩ := H
 replace H : ((spec_l1Cur_pick.f s0_0 t627 t628 60).bind fun bt630 => (if bt630.1 = 0 then ((spec_l1Cur_of.f s0_0 bt630.2.1 bt630.2.2 (([(⟨#[]⟩ : ByteArray), (⟨#[65]⟩ : ByteArray), (⟨#[97, 98, 99, 100, 101, 102, 103, 104, 105, 106, 107]⟩ : ByteArray)] : List ByteArray))).bind fun bt636 => (some (bt636.1, t620, t626, bt636.2.1, bt636.2.2))) else (if bt630.1 = 1 then ((spec_l1Cur_among.f s0_0 bt630.2.1 bt630.2.2 (([(-1), 100] : List Int))).bind fun bt642 => (some (t614, bt642.1, t626, bt642.2.1, bt642.2.2))) else (if bt630.1 = 2 then ((spec_l1Cur_among.f s0_0 bt630.2.1 bt630.2.2 (([(-1), 100] : List Int))).bind fun bt648 => (some (t614, t620, bt648.1, bt648.2.1, bt648.2.2))) else (some (t614, t620, t626, bt630.2.1, bt630.2.2)))))) = some (r1, r2, r3, r4, r5) := H
 have A4 := Aside0.mk A40
 clear A40
 replace H := Option.bind_eq_some_iff.mp H
 obtain ⟨⟨t630, t631, t632⟩, A50, H⟩ := H
 replace H : (if t630 = 0 then ((spec_l1Cur_of.f s0_0 t631 t632 (([(⟨#[]⟩ : ByteArray), (⟨#[65]⟩ : ByteArray), (⟨#[97, 98, 99, 100, 101, 102, 103, 104, 105, 106, 107]⟩ : ByteArray)] : List ByteArray))).bind fun bt636 => (some (bt636.1, t620, t626, bt636.2.1, bt636.2.2))) else (if t630 = 1 then ((spec_l1Cur_among.f s0_0 t631 t632 (([(-1), 100] : List Int))).bind fun bt642 => (some (t614, bt642.1, t626, bt642.2.1, bt642.2.2))) else (if t630 = 2 then ((spec_l1Cur_among.f s0_0 t631 t632 (([(-1), 100] : List Int))).bind fun bt648 => (some (t614, t620, bt648.1, bt648.2.1, bt648.2.2))) else (some (t614, t620, t626, t631, t632))))) = some (r1, r2, r3, r4, r5) := H
 have A5 := Aside0.mk A50
 clear A50
 by_cases c6 : t630 = 0
 ·
  rw [if_pos c6] at H
  have c6b0 : (t630 == 0) = true := beq_iff_eq.mpr c6
  have c6b1 : (t630 != 0) = false := bne_eq_false_iff_eq.mpr c6
  clear c6
  obtain ⟨y633, hy633⟩ : ∃ y_ : List ByteArray, y_ = (([(⟨#[]⟩ : ByteArray), (⟨#[65]⟩ : ByteArray), (⟨#[97, 98, 99, 100, 101, 102, 103, 104, 105, 106, 107]⟩ : ByteArray)] : List ByteArray)) := ⟨_, rfl⟩
  replace H : ((spec_l1Cur_of.f s0_0 t631 t632 y633).bind fun bt636 => (some (bt636.1, t620, t626, bt636.2.1, bt636.2.2))) = some (r1, r2, r3, r4, r5) := by first | (rw [hy633]; with_reducible exact H) | (have H2_ := (Option.bind_some _ _).symm.trans H; rw [hy633]; with_reducible exact H2_) | (have H2_ := (Option.bind_some _ _).symm.trans H; with_reducible exact H2_) | with_reducible exact H | (rw [hy633]; exact H) | exact H
  have Ny633 := Aside0.mk hy633
  clear hy633
  replace H := Option.bind_eq_some_iff.mp H
  obtain ⟨⟨t636, t637, t638⟩, A70, H⟩ := H
  replace H : (some (t636, t620, t626, t637, t638)) = some (r1, r2, r3, r4, r5) := H
  have A7 := Aside0.mk A70
  clear A70
  simp only [Option.some.injEq, Prod.mk.injEq] at H
  obtain ⟨rfl, rfl, rfl, rfl, rfl⟩ := H
  go_enter Tryd.func89, Tryd.ntmps89
  go_wp2_with (first | ((with_reducible refine gate_dst (N := 2) rfl ?_); refine box_event ?hg (N := 2) ?hd (cs := #[.string (⟨#[]⟩ : ByteArray), .int .i64 0, .int .i64 0]) (t := 29) ?hr ?_; (case hd => rfl); (case hg => rfl); (case hr => first | (go_simp; done) | (go_simp; rfl)); intro gb610 hg w8 hbox hb; replace HB := Aside0.mk (below_step (lb1_ HB.out (IsS99.ge HI0.out)) hb); have BK610 := Aside0.mk (hbox); have GW610 := Aside0.mk ((by rw [hg]; exact (keep_size (w := w) (g := g) (row := none) (kb0_ HK.out)) : w.heap.size ≤ gb610)); have GE610 := Aside0.mk ((Nat.le_trans HW0.out (by rw [hg]; exact (keep_size (w := w) (g := g) (row := none) (kb0_ HK.out)) : w.heap.size ≤ gb610) : w0.heap.size ≤ gb610)); replace HK := Aside0.mk (KeepBut.trans (kb0_ HK.out) (KeepBut.of_below hb g none) (.inl rfl)); have NB0_610 := Aside0.mk ((by rw [hg]; exact Nat.ne_of_lt (IsS99.lt (show IsS99 w0 _ g s0_0 s0_1 s0_2 from is99_0 HI0.out)) : g ≠ gb610)); have NB610_0 := Aside0.mk ((by rw [hg]; exact Nat.ne_of_gt (IsS99.lt (show IsS99 w0 _ g s0_0 s0_1 s0_2 from is99_0 HI0.out)) : gb610 ≠ g)); replace HI0 := Aside0.mk (IsS99.below (is99_0 HI0.out) hb); clear hb hbox hg) | ((with_reducible refine gate_dst (N := 5) rfl ?_); refine Kd.R_lit Kd.string _ 9 ?hg (N := 5) ?hd (xs := ([(⟨#[97]⟩ : ByteArray), (⟨#[115, 117, 109, 112]⟩ : ByteArray), (⟨#[98, 105, 103]⟩ : ByteArray), (⟨#[104, 97, 108, 108]⟩ : ByteArray), (⟨#[108, 111, 110, 103, 110, 97, 109, 101]⟩ : ByteArray), (⟨#[97, 98, 99, 100, 101, 102, 103, 104, 105, 106]⟩ : ByteArray)] : List ByteArray)) (inner := [.string (⟨#[97]⟩ : ByteArray), .string (⟨#[115, 117, 109, 112]⟩ : ByteArray), .string (⟨#[98, 105, 103]⟩ : ByteArray), .string (⟨#[104, 97, 108, 108]⟩ : ByteArray), .string (⟨#[108, 111, 110, 103, 110, 97, 109, 101]⟩ : ByteArray), .string (⟨#[97, 98, 99, 100, 101, 102, 103, 104, 105, 106]⟩ : ByteArray)]) (ok := fun _ => True) (okp := fun _ => True) ?hr ?hp (fun _ hk => hk) trivial (Below.refl _ _) (Nat.le_refl _) (by simp) ?_; (case hd => rfl); (case hg => rfl); (case hr => first | (go_simp; done) | (go_simp; rfl)); (case hp => exact (Reps.one (show Kd.M Kd.string _ _ _ (⟨#[97]⟩ : ByteArray) [.string (⟨#[97]⟩ : ByteArray)] from rfl) (Reps.one (show Kd.M Kd.string _ _ _ (⟨#[115, 117, 109, 112]⟩ : ByteArray) [.string (⟨#[115, 117, 109, 112]⟩ : ByteArray)] from rfl) (Reps.one (show Kd.M Kd.string _ _ _ (⟨#[98, 105, 103]⟩ : ByteArray) [.string (⟨#[98, 105, 103]⟩ : ByteArray)] from rfl) (Reps.one (show Kd.M Kd.string _ _ _ (⟨#[104, 97, 108, 108]⟩ : ByteArray) [.string (⟨#[104, 97, 108, 108]⟩ : ByteArray)] from rfl) (Reps.one (show Kd.M Kd.string _ _ _ (⟨#[108, 111, 110, 103, 110, 97, 109, 101]⟩ : ByteArray) [.string (⟨#[108, 111, 110, 103, 110, 97, 109, 101]⟩ : ByteArray)] from rfl) (Reps.one (show Kd.M Kd.string _ _ _ (⟨#[97, 98, 99, 100, 101, 102, 103, 104, 105, 106]⟩ : ByteArray) [.string (⟨#[97, 98, 99, 100, 101, 102, 103, 104, 105, 106]⟩ : ByteArray)] from rfl) (Reps.none _ _)))))))); intro v612 w9 ho10 hb hg_ hnew_; clear hg_ hnew_; replace ho10 := ry_ Ny611.out ho10; have HO613 := Aside0.mk (Kd.R_lower ho10 (keep_size (w := w) (g := g) (row := none) (kb1_ HK.out GW610.out))); replace BK610 := Aside0.mk (bb_ (bk_ BK610.out) hb); replace HK := Aside0.mk (KeepBut.trans (kb1_ HK.out GW610.out) (KeepBut.of_below hb g none) (.inl rfl)); replace HB := Aside0.mk (below_step (lb2_ HB.out (IsS99.ge HI0.out) GE610.out) hb); replace HI0 := Aside0.mk (IsS99.below (is99_1 HI0.out NB0_610.out) hb); clear hb ho10; obtain ⟨Ao11, co11, eo11⟩ := Kd.R_slice HO613.out; subst eo11) | ((with_reducible refine gate_callee (f := 108) rfl ?_); refine ga_ (some 6) Tryd.func108 #[.pointer (some ⟨g, 0, none⟩), .slice Ao11 y611.length co11] ?_; (with_reducible refine (spec_l1Cur_of.calls g s0_0 s0_1 s0_2 _ _ y611 t614 t615 t616 w0 _ ?side1 ?side2 ?side3 ?side4 ?side5 A2.out).mono ?_); (case side1 => exact is99_1 HI0.out NB0_610.out); (case side2 => exact lb2_ HB.out (IsS99.ge HI0.out) GE610.out); (case side3 => exact kc_ (Kd.R_reads' HO613.out).2.2); (case side4 => exact (Kd.R_reads' HO613.out).2.1); (case side5 => exact far_slice (IsS99.own_ne HI0.out HO613.out (by decide))); rintro e w12 ⟨rfl, hi, hb, hk⟩; refine ⟨_, rfl, ?_⟩; replace BK610 := Aside0.mk (KeepBut.blk hk (g' := gb610) (o := .cells #[.string (⟨#[]⟩ : ByteArray), .int .i64 0, .int .i64 0] 29 (0, 0)) (bk_ BK610.out) NB610_0.out (by simp)); replace HO613 := Aside0.mk (Kd.R_mono (Kd.R_keep (IsS99.apart (show IsS99 w0 _ g s0_0 s0_1 s0_2 from is99_1 HI0.out NB0_610.out) (kr_ HO613.out) (by decide)) hk (fun _ h => h.2)) (fun _ h => h.1)); replace HK := Aside0.mk (KeepBut.trans (kb1_ HK.out GW610.out) hk (.inl rfl)); replace HB := Aside0.mk (hb); replace HI0 := Aside0.mk (hi); (try clear hb); (try clear hb2); (try clear hk); (try clear hi)) | ((with_reducible refine gate_dst (N := 8) rfl ?_); refine Kd.R_lit (Kd.int .i64) _ 3 ?hg (N := 8) ?hd (xs := ([0, 5, 9, 12, 13, 99] : List Int)) (inner := [.int .i64 0, .int .i64 5, .int .i64 9, .int .i64 12, .int .i64 13, .int .i64 99]) (ok := fun _ => True) (okp := fun _ => True) ?hr ?hp (fun _ hk => hk) trivial (Below.refl _ _) (Nat.le_refl _) (by simp) ?_; (case hd => rfl); (case hg => rfl); (case hr => first | (go_simp; done) | (go_simp; rfl)); (case hp => exact (Reps.one (show Kd.M (Kd.int .i64) _ _ _ 0 [.int .i64 0] from rfl) (Reps.one (show Kd.M (Kd.int .i64) _ _ _ 5 [.int .i64 5] from rfl) (Reps.one (show Kd.M (Kd.int .i64) _ _ _ 9 [.int .i64 9] from rfl) (Reps.one (show Kd.M (Kd.int .i64) _ _ _ 12 [.int .i64 12] from rfl) (Reps.one (show Kd.M (Kd.int .i64) _ _ _ 13 [.int .i64 13] from rfl) (Reps.one (show Kd.M (Kd.int .i64) _ _ _ 99 [.int .i64 99] from rfl) (Reps.none _ _)))))))); intro v618 w13 ho14 hb hg_ hnew_; clear hg_ hnew_; replace ho14 := ry_ Ny617.out ho14; replace HO613 := Aside0.mk (Kd.R_below (kr_ HO613.out) hb); have HO619 := Aside0.mk (Kd.R_lower ho14 (keep_size (w := w) (g := g) (row := none) (kb1_ HK.out GW610.out))); replace BK610 := Aside0.mk (bb_ (bk_ BK610.out) hb); replace HK := Aside0.mk (KeepBut.trans (kb1_ HK.out GW610.out) (KeepBut.of_below hb g none) (.inl rfl)); replace HB := Aside0.mk (below_step (lb2_ HB.out (IsS99.ge HI0.out) GE610.out) hb); replace HI0 := Aside0.mk (IsS99.below (is99_1 HI0.out NB0_610.out) hb); clear hb ho14; obtain ⟨Ao15, co15, eo15⟩ := Kd.R_slice HO619.out; subst eo15) | ((with_reducible refine gate_callee (f := 88) rfl ?_); refine ga_ (some 9) Tryd.func88 #[.pointer (some ⟨g, 0, none⟩), .slice Ao15 y617.length co15] ?_; (with_reducible refine (spec_l1Cur_among.calls g s0_0 t615 t616 _ _ y617 t620 t621 t622 w0 _ ?side1 ?side2 ?side3 ?side4 ?side5 A3.out).mono ?_); (case side1 => exact is99_1 HI0.out NB0_610.out); (case side2 => exact lb2_ HB.out (IsS99.ge HI0.out) GE610.out); (case side3 => exact kc_ (Kd.R_reads' HO619.out).2.2); (case side4 => exact (Kd.R_reads' HO619.out).2.1); (case side5 => exact far_slice (IsS99.own_ne HI0.out HO619.out (by decide))); rintro e w16 ⟨rfl, hi, hb, hk⟩; refine ⟨_, rfl, ?_⟩; replace BK610 := Aside0.mk (KeepBut.blk hk (g' := gb610) (o := .cells #[.string (⟨#[]⟩ : ByteArray), .int .i64 0, .int .i64 0] 29 (0, 0)) (bk_ BK610.out) NB610_0.out (by simp)); replace HO613 := Aside0.mk (Kd.R_mono (Kd.R_keep (IsS99.apart (show IsS99 w0 _ g s0_0 t615 t616 from is99_1 HI0.out NB0_610.out) (kr_ HO613.out) (by decide)) hk (fun _ h => h.2)) (fun _ h => h.1)); replace HO619 := Aside0.mk (Kd.R_mono (Kd.R_keep (IsS99.apart (show IsS99 w0 _ g s0_0 t615 t616 from is99_1 HI0.out NB0_610.out) (kr_ HO619.out) (by decide)) hk (fun _ h => h.2)) (fun _ h => h.1)); replace HK := Aside0.mk (KeepBut.trans (kb1_ HK.out GW610.out) hk (.inl rfl)); replace HB := Aside0.mk (hb); replace HI0 := Aside0.mk (hi); (try clear hb); (try clear hb2); (try clear hk); (try clear hi)) | ((with_reducible refine gate_dst (N := 11) rfl ?_); refine Kd.R_lit (Kd.int .i64) _ 3 ?hg (N := 11) ?hd (xs := ([0, 1, 8, 10, 11, 99] : List Int)) (inner := [.int .i64 0, .int .i64 1, .int .i64 8, .int .i64 10, .int .i64 11, .int .i64 99]) (ok := fun _ => True) (okp := fun _ => True) ?hr ?hp (fun _ hk => hk) trivial (Below.refl _ _) (Nat.le_refl _) (by simp) ?_; (case hd => rfl); (case hg => rfl); (case hr => first | (go_simp; done) | (go_simp; rfl)); (case hp => exact (Reps.one (show Kd.M (Kd.int .i64) _ _ _ 0 [.int .i64 0] from rfl) (Reps.one (show Kd.M (Kd.int .i64) _ _ _ 1 [.int .i64 1] from rfl) (Reps.one (show Kd.M (Kd.int .i64) _ _ _ 8 [.int .i64 8] from rfl) (Reps.one (show Kd.M (Kd.int .i64) _ _ _ 10 [.int .i64 10] from rfl) (Reps.one (show Kd.M (Kd.int .i64) _ _ _ 11 [.int .i64 11] from rfl) (Reps.one (show Kd.M (Kd.int .i64) _ _ _ 99 [.int .i64 99] from rfl) (Reps.none _ _)))))))); intro v624 w17 ho18 hb hg_ hnew_; clear hg_ hnew_; replace ho18 := ry_ Ny623.out ho18; replace HO613 := Aside0.mk (Kd.R_below (kr_ HO613.out) hb); have HO625 := Aside0.mk (Kd.R_lower (Kd.R_new' ho18 (Kd.R_lt (kr_ HO619.out))) (keep_size (w := w) (g := g) (row := none) (kb1_ HK.out GW610.out))); replace HO619 := Aside0.mk (Kd.R_elder' (kr_ HO619.out) (Kd.R_base ho18) hb); replace BK610 := Aside0.mk (bb_ (bk_ BK610.out) hb); replace HK := Aside0.mk (KeepBut.trans (kb1_ HK.out GW610.out) (KeepBut.of_below hb g none) (.inl rfl)); replace HB := Aside0.mk (below_step (lb2_ HB.out (IsS99.ge HI0.out) GE610.out) hb); replace HI0 := Aside0.mk (IsS99.below (is99_1 HI0.out NB0_610.out) hb); clear hb ho18; obtain ⟨Ao19, co19, eo19⟩ := Kd.R_slice HO625.out; subst eo19) | ((with_reducible refine gate_callee (f := 88) rfl ?_); refine ga_ (some 12) Tryd.func88 #[.pointer (some ⟨g, 0, none⟩), .slice Ao19 y623.length co19] ?_; (with_reducible refine (spec_l1Cur_among.calls g s0_0 t621 t622 _ _ y623 t626 t627 t628 w0 _ ?side1 ?side2 ?side3 ?side4 ?side5 A4.out).mono ?_); (case side1 => exact is99_1 HI0.out NB0_610.out); (case side2 => exact lb2_ HB.out (IsS99.ge HI0.out) GE610.out); (case side3 => exact kc_ (Kd.R_reads' HO625.out).2.2); (case side4 => exact (Kd.R_reads' HO625.out).2.1); (case side5 => exact far_slice (IsS99.own_ne HI0.out HO625.out (by decide))); rintro e w20 ⟨rfl, hi, hb, hk⟩; refine ⟨_, rfl, ?_⟩; replace BK610 := Aside0.mk (KeepBut.blk hk (g' := gb610) (o := .cells #[.string (⟨#[]⟩ : ByteArray), .int .i64 0, .int .i64 0] 29 (0, 0)) (bk_ BK610.out) NB610_0.out (by simp)); replace HO613 := Aside0.mk (Kd.R_mono (Kd.R_keep (IsS99.apart (show IsS99 w0 _ g s0_0 t621 t622 from is99_1 HI0.out NB0_610.out) (kr_ HO613.out) (by decide)) hk (fun _ h => h.2)) (fun _ h => h.1)); replace HO619 := Aside0.mk (Kd.R_mono (Kd.R_keep (IsS99.apart (show IsS99 w0 _ g s0_0 t621 t622 from is99_1 HI0.out NB0_610.out) (kr_ HO619.out) (by decide)) hk (fun _ h => h.2)) (fun _ h => h.1)); replace HO625 := Aside0.mk (Kd.R_mono (Kd.R_keep (IsS99.apart (show IsS99 w0 _ g s0_0 t621 t622 from is99_1 HI0.out NB0_610.out) (kr_ HO625.out) (by decide)) hk (fun _ h => h.2)) (fun _ h => h.1)); replace HK := Aside0.mk (KeepBut.trans (kb1_ HK.out GW610.out) hk (.inl rfl)); replace HB := Aside0.mk (hb); replace HI0 := Aside0.mk (hi); (try clear hb); (try clear hb2); (try clear hk); (try clear hi)) | ((with_reducible refine gate_dst (N := 3) rfl ?_); refine box_event ?hg (N := 3) ?hd (cs := #[.string (⟨#[]⟩ : ByteArray), .int .i64 0, .int .i64 0]) (t := 29) ?hr ?_; (case hd => rfl); (case hg => rfl); (case hr => first | (go_simp; done) | (go_simp; rfl)); intro gb629 hg w21 hbox hb; replace HO613 := Aside0.mk (Kd.R_below (kr_ HO613.out) hb); replace HO619 := Aside0.mk (Kd.R_below (kr_ HO619.out) hb); replace HO625 := Aside0.mk (Kd.R_below (kr_ HO625.out) hb); replace HB := Aside0.mk (below_step (lb2_ HB.out (IsS99.ge HI0.out) GE610.out) hb); have BK629 := Aside0.mk (hbox); have GW629 := Aside0.mk ((by rw [hg]; exact (keep_size (w := w) (g := g) (row := none) (kb1_ HK.out GW610.out)) : w.heap.size ≤ gb629)); have GE629 := Aside0.mk ((Nat.le_trans HW0.out (by rw [hg]; exact (keep_size (w := w) (g := g) (row := none) (kb1_ HK.out GW610.out)) : w.heap.size ≤ gb629) : w0.heap.size ≤ gb629)); replace HK := Aside0.mk (KeepBut.trans (kb1_ HK.out GW610.out) (KeepBut.of_below hb g none) (.inl rfl)); have NB610_629 := Aside0.mk (nl_ hg BK610.out); have NB629_610 := Aside0.mk (ng_ hg BK610.out); replace BK610 := Aside0.mk (bb_ (bk_ BK610.out) hb); have NB0_629 := Aside0.mk ((by rw [hg]; exact Nat.ne_of_lt (IsS99.lt (show IsS99 w0 _ g s0_0 t627 t628 from is99_1 HI0.out NB0_610.out)) : g ≠ gb629)); have NB629_0 := Aside0.mk ((by rw [hg]; exact Nat.ne_of_gt (IsS99.lt (show IsS99 w0 _ g s0_0 t627 t628 from is99_1 HI0.out NB0_610.out)) : gb629 ≠ g)); replace HI0 := Aside0.mk (IsS99.below (is99_1 HI0.out NB0_610.out) hb); clear hb hbox hg; have hnb22 := NB629_610.out; have hnc22 := NB610_629.out; have hnb23 := NB629_0.out; have hnc23 := NB0_629.out; obtain ⟨hcz24_0, hcz24_1, hcz24_2⟩ := cz3_ BK629.out; obtain ⟨hfz24_0, hfz24_1, hfz24_2⟩ := fz3_ BK629.out) | ((with_reducible refine gate_callee (f := 86) rfl ?_); refine ga_ (some 15) Tryd.func86 #[.pointer (some ⟨g, 0, none⟩), .int .i64 60] ?_; (with_reducible refine (spec_l1Cur_pick.calls g s0_0 t627 t628 60 t630 t631 t632 w0 _ ?side1 ?side2 A5.out).mono ?_); (case side1 => exact is99_2 HI0.out NB0_610.out NB0_629.out); (case side2 => exact lb3_ HB.out (IsS99.ge HI0.out) GE610.out GE629.out); rintro e w25 ⟨rfl, hi, hb, hk⟩; refine ⟨_, rfl, ?_⟩; replace BK610 := Aside0.mk (KeepBut.blk hk (g' := gb610) (o := .cells #[.string (⟨#[]⟩ : ByteArray), .int .i64 0, .int .i64 0] 29 (0, 0)) (by (with_reducible repeat (first | refine blk_drewN ?_ _ | refine blk_drew ?_ | refine blk_alloc ?_ _)); exact (f3_ BK610.out NB610_629.out _ _ _)) NB610_0.out (by simp)); replace HO613 := Aside0.mk (Kd.R_mono (Kd.R_keep (IsS99.apart (show IsS99 w0 _ g s0_0 t627 t628 from is99_2 HI0.out NB0_610.out NB0_629.out) (kg_ HO613.out BK629.out) (by decide)) hk (fun _ h => h.2)) (fun _ h => h.1)); replace HO619 := Aside0.mk (Kd.R_mono (Kd.R_keep (IsS99.apart (show IsS99 w0 _ g s0_0 t627 t628 from is99_2 HI0.out NB0_610.out NB0_629.out) (kg_ HO619.out BK629.out) (by decide)) hk (fun _ h => h.2)) (fun _ h => h.1)); replace HO625 := Aside0.mk (Kd.R_mono (Kd.R_keep (IsS99.apart (show IsS99 w0 _ g s0_0 t627 t628 from is99_2 HI0.out NB0_610.out NB0_629.out) (kg_ HO625.out BK629.out) (by decide)) hk (fun _ h => h.2)) (fun _ h => h.1)); replace BK629 := Aside0.mk (KeepBut.blk hk (g' := gb629) (o := .cells #[.string t614, .int .i64 t620, .int .i64 t626] 29 (0, 0)) (by (with_reducible repeat (first | refine blk_drewN ?_ _ | refine blk_drew ?_ | refine blk_alloc ?_ _)); exact (p3_ BK629.out _ _ _)) NB629_0.out (by simp)); replace HK := Aside0.mk (KeepBut.trans (kb2_ HK.out GW610.out GW629.out) hk (.inl rfl)); replace HB := Aside0.mk (hb); replace HI0 := Aside0.mk (hi); (try clear hb); (try clear hb2); (try clear hk); (try clear hi)) | ((with_reducible refine gate_dst (N := 19) rfl ?_); refine Kd.R_lit Kd.string _ 9 ?hg (N := 19) ?hd (xs := ([(⟨#[]⟩ : ByteArray), (⟨#[65]⟩ : ByteArray), (⟨#[97, 98, 99, 100, 101, 102, 103, 104, 105, 106, 107]⟩ : ByteArray)] : List ByteArray)) (inner := [.string (⟨#[]⟩ : ByteArray), .string (⟨#[65]⟩ : ByteArray), .string (⟨#[97, 98, 99, 100, 101, 102, 103, 104, 105, 106, 107]⟩ : ByteArray)]) (ok := fun _ => True) (okp := fun _ => True) ?hr ?hp (fun _ hk => hk) trivial (Below.refl _ _) (Nat.le_refl _) (by simp) ?_; (case hd => rfl); (case hg => rfl); (case hr => first | (go_simp; done) | (go_simp; rfl)); (case hp => exact (Reps.one (show Kd.M Kd.string _ _ _ (⟨#[]⟩ : ByteArray) [.string (⟨#[]⟩ : ByteArray)] from rfl) (Reps.one (show Kd.M Kd.string _ _ _ (⟨#[65]⟩ : ByteArray) [.string (⟨#[65]⟩ : ByteArray)] from rfl) (Reps.one (show Kd.M Kd.string _ _ _ (⟨#[97, 98, 99, 100, 101, 102, 103, 104, 105, 106, 107]⟩ : ByteArray) [.string (⟨#[97, 98, 99, 100, 101, 102, 103, 104, 105, 106, 107]⟩ : ByteArray)] from rfl) (Reps.none _ _))))); intro v634 w26 ho27 hb hg_ hnew_; clear hg_ hnew_; replace ho27 := ry_ Ny633.out ho27; replace HO619 := Aside0.mk (Kd.R_below (kr_ HO619.out) hb); replace HO625 := Aside0.mk (Kd.R_below (kr_ HO625.out) hb); have HO635 := Aside0.mk (Kd.R_lower (Kd.R_new' ho27 (Kd.R_lt (kr_ HO613.out))) (keep_size (w := w) (g := g) (row := none) (kb2_ HK.out GW610.out GW629.out))); replace HO613 := Aside0.mk (Kd.R_elder' (kr_ HO613.out) (Kd.R_base ho27) hb); replace BK610 := Aside0.mk (bb_ (bk_ BK610.out) hb); replace BK629 := Aside0.mk (bb_ (bk_ BK629.out) hb); replace HK := Aside0.mk (KeepBut.trans (kb2_ HK.out GW610.out GW629.out) (KeepBut.of_below hb g none) (.inl rfl)); replace HB := Aside0.mk (below_step (lb3_ HB.out (IsS99.ge HI0.out) GE610.out GE629.out) hb); replace HI0 := Aside0.mk (IsS99.below (is99_2 HI0.out NB0_610.out NB0_629.out) hb); clear hb ho27; obtain ⟨Ao28, co28, eo28⟩ := Kd.R_slice HO635.out; subst eo28) | ((with_reducible refine gate_callee (f := 108) rfl ?_); refine ga_ (some 20) Tryd.func108 #[.pointer (some ⟨g, 0, none⟩), .slice Ao28 y633.length co28] ?_; (with_reducible refine (spec_l1Cur_of.calls g s0_0 t631 t632 _ _ y633 t636 t637 t638 w0 _ ?side1 ?side2 ?side3 ?side4 ?side5 A7.out).mono ?_); (case side1 => exact is99_2 HI0.out NB0_610.out NB0_629.out); (case side2 => exact lb3_ HB.out (IsS99.ge HI0.out) GE610.out GE629.out); (case side3 => exact kc_ (Kd.R_reads' HO635.out).2.2); (case side4 => exact (Kd.R_reads' HO635.out).2.1); (case side5 => exact far_slice (IsS99.own_ne HI0.out HO635.out (by decide))); rintro e w29 ⟨rfl, hi, hb, hk⟩; refine ⟨_, rfl, ?_⟩; replace BK610 := Aside0.mk (KeepBut.blk hk (g' := gb610) (o := .cells #[.string (⟨#[]⟩ : ByteArray), .int .i64 0, .int .i64 0] 29 (0, 0)) (bk_ BK610.out) NB610_0.out (by simp)); replace HO613 := Aside0.mk (Kd.R_mono (Kd.R_keep (IsS99.apart (show IsS99 w0 _ g s0_0 t631 t632 from is99_2 HI0.out NB0_610.out NB0_629.out) (kr_ HO613.out) (by decide)) hk (fun _ h => h.2)) (fun _ h => h.1)); replace HO619 := Aside0.mk (Kd.R_mono (Kd.R_keep (IsS99.apart (show IsS99 w0 _ g s0_0 t631 t632 from is99_2 HI0.out NB0_610.out NB0_629.out) (kr_ HO619.out) (by decide)) hk (fun _ h => h.2)) (fun _ h => h.1)); replace HO625 := Aside0.mk (Kd.R_mono (Kd.R_keep (IsS99.apart (show IsS99 w0 _ g s0_0 t631 t632 from is99_2 HI0.out NB0_610.out NB0_629.out) (kr_ HO625.out) (by decide)) hk (fun _ h => h.2)) (fun _ h => h.1)); replace BK629 := Aside0.mk (KeepBut.blk hk (g' := gb629) (o := .cells #[.string t614, .int .i64 t620, .int .i64 t626] 29 (0, 0)) (bk_ BK629.out) NB629_0.out (by simp)); replace HO635 := Aside0.mk (Kd.R_mono (Kd.R_keep (IsS99.apart (show IsS99 w0 _ g s0_0 t631 t632 from is99_2 HI0.out NB0_610.out NB0_629.out) (kr_ HO635.out) (by decide)) hk (fun _ h => h.2)) (fun _ h => h.1)); replace HK := Aside0.mk (KeepBut.trans (kb2_ HK.out GW610.out GW629.out) hk (.inl rfl)); replace HB := Aside0.mk (hb); replace HI0 := Aside0.mk (hi); (try clear hb); (try clear hb2); (try clear hk); (try clear hi); obtain ⟨hcz30_0, hcz30_1, hcz30_2⟩ := cz3_ BK629.out; obtain ⟨hfz30_0, hfz30_1, hfz30_2⟩ := fz3_ BK629.out; have hnb31 := NB610_0.out; have hnc31 := NB0_610.out; obtain ⟨hcz32_0, hcz32_1, hcz32_2⟩ := cz3_ BK610.out; obtain ⟨hfz32_0, hfz32_1, hfz32_2⟩ := fz3_ BK610.out))
  refine bodyPost_ret (results_cell_row rfl _ _ gb610 29 #[.string t636, .int .i64 t620, .int .i64 t626] (0, 0) _ rfl (by (with_reducible repeat (first | refine blk_drewN ?_ _ | refine blk_drew ?_ | refine blk_alloc ?_ _)); refine blk_put (cs := #[.string t636, .int .i64 t620, .int .i64 0]) ?_ 2 _ rfl; (with_reducible repeat (first | refine blk_drewN ?_ _ | refine blk_drew ?_ | refine blk_alloc ?_ _)); refine blk_put (cs := #[.string t636, .int .i64 0, .int .i64 0]) ?_ 1 _ rfl; (with_reducible repeat (first | refine blk_drewN ?_ _ | refine blk_drew ?_ | refine blk_alloc ?_ _)); refine blk_put (cs := #[.string (⟨#[]⟩ : ByteArray), .int .i64 0, .int .i64 0]) ?_ 0 _ rfl; (with_reducible repeat (first | refine blk_drewN ?_ _ | refine blk_drew ?_ | refine blk_alloc ?_ _)); refine blk_far ?_ NB610_629.out _; (with_reducible repeat (first | refine blk_drewN ?_ _ | refine blk_drew ?_ | refine blk_alloc ?_ _)); exact BK610.out) Tryd.underlying29 rfl (by kernel_rfl)) rfl ?_
  exact ⟨rr_, is99_2 HI0.out NB0_610.out NB0_629.out, lb3_ HB.out (IsS99.ge HI0.out) GE610.out GE629.out, kb2_ HK.out GW610.out GW629.out⟩
 ·
  rw [if_neg c6] at H
  have c6b0 : (t630 == 0) = false := beq_eq_false_iff_ne.mpr c6
  have c6b1 : (t630 != 0) = true := bne_iff_ne.mpr c6
  by_cases c33 : t630 = 1
  ·
   rw [if_pos c33] at H
   have c33b0 : (t630 == 1) = true := beq_iff_eq.mpr c33
   have c33b1 : (t630 != 1) = false := bne_eq_false_iff_eq.mpr c33
   clear c33
   obtain ⟨y639, hy639⟩ : ∃ y_ : List Int, y_ = (([(-1), 100] : List Int)) := ⟨_, rfl⟩
   replace H : ((spec_l1Cur_among.f s0_0 t631 t632 y639).bind fun bt642 => (some (t614, bt642.1, t626, bt642.2.1, bt642.2.2))) = some (r1, r2, r3, r4, r5) := by first | (rw [hy639]; with_reducible exact H) | (have H2_ := (Option.bind_some _ _).symm.trans H; rw [hy639]; with_reducible exact H2_) | (have H2_ := (Option.bind_some _ _).symm.trans H; with_reducible exact H2_) | with_reducible exact H | (rw [hy639]; exact H) | exact H
   have Ny639 := Aside0.mk hy639
   clear hy639
   replace H := Option.bind_eq_some_iff.mp H
   obtain ⟨⟨t642, t643, t644⟩, A340, H⟩ := H
   replace H : (some (t614, t642, t626, t643, t644)) = some (r1, r2, r3, r4, r5) := H
   have A34 := Aside0.mk A340
   clear A340
   simp only [Option.some.injEq, Prod.mk.injEq] at H
   obtain ⟨rfl, rfl, rfl, rfl, rfl⟩ := H
   go_enter Tryd.func89, Tryd.ntmps89
   go_wp2_with (first | ((with_reducible refine gate_dst (N := 2) rfl ?_); refine box_event ?hg (N := 2) ?hd (cs := #[.string (⟨#[]⟩ : ByteArray), .int .i64 0, .int .i64 0]) (t := 29) ?hr ?_; (case hd => rfl); (case hg => rfl); (case hr => first | (go_simp; done) | (go_simp; rfl)); intro gb610 hg w35 hbox hb; replace HB := Aside0.mk (below_step (lb1_ HB.out (IsS99.ge HI0.out)) hb); have BK610 := Aside0.mk (hbox); have GW610 := Aside0.mk ((by rw [hg]; exact (keep_size (w := w) (g := g) (row := none) (kb0_ HK.out)) : w.heap.size ≤ gb610)); have GE610 := Aside0.mk ((Nat.le_trans HW0.out (by rw [hg]; exact (keep_size (w := w) (g := g) (row := none) (kb0_ HK.out)) : w.heap.size ≤ gb610) : w0.heap.size ≤ gb610)); replace HK := Aside0.mk (KeepBut.trans (kb0_ HK.out) (KeepBut.of_below hb g none) (.inl rfl)); have NB0_610 := Aside0.mk ((by rw [hg]; exact Nat.ne_of_lt (IsS99.lt (show IsS99 w0 _ g s0_0 s0_1 s0_2 from is99_0 HI0.out)) : g ≠ gb610)); have NB610_0 := Aside0.mk ((by rw [hg]; exact Nat.ne_of_gt (IsS99.lt (show IsS99 w0 _ g s0_0 s0_1 s0_2 from is99_0 HI0.out)) : gb610 ≠ g)); replace HI0 := Aside0.mk (IsS99.below (is99_0 HI0.out) hb); clear hb hbox hg) | ((with_reducible refine gate_dst (N := 5) rfl ?_); refine Kd.R_lit Kd.string _ 9 ?hg (N := 5) ?hd (xs := ([(⟨#[97]⟩ : ByteArray), (⟨#[115, 117, 109, 112]⟩ : ByteArray), (⟨#[98, 105, 103]⟩ : ByteArray), (⟨#[104, 97, 108, 108]⟩ : ByteArray), (⟨#[108, 111, 110, 103, 110, 97, 109, 101]⟩ : ByteArray), (⟨#[97, 98, 99, 100, 101, 102, 103, 104, 105, 106]⟩ : ByteArray)] : List ByteArray)) (inner := [.string (⟨#[97]⟩ : ByteArray), .string (⟨#[115, 117, 109, 112]⟩ : ByteArray), .string (⟨#[98, 105, 103]⟩ : ByteArray), .string (⟨#[104, 97, 108, 108]⟩ : ByteArray), .string (⟨#[108, 111, 110, 103, 110, 97, 109, 101]⟩ : ByteArray), .string (⟨#[97, 98, 99, 100, 101, 102, 103, 104, 105, 106]⟩ : ByteArray)]) (ok := fun _ => True) (okp := fun _ => True) ?hr ?hp (fun _ hk => hk) trivial (Below.refl _ _) (Nat.le_refl _) (by simp) ?_; (case hd => rfl); (case hg => rfl); (case hr => first | (go_simp; done) | (go_simp; rfl)); (case hp => exact (Reps.one (show Kd.M Kd.string _ _ _ (⟨#[97]⟩ : ByteArray) [.string (⟨#[97]⟩ : ByteArray)] from rfl) (Reps.one (show Kd.M Kd.string _ _ _ (⟨#[115, 117, 109, 112]⟩ : ByteArray) [.string (⟨#[115, 117, 109, 112]⟩ : ByteArray)] from rfl) (Reps.one (show Kd.M Kd.string _ _ _ (⟨#[98, 105, 103]⟩ : ByteArray) [.string (⟨#[98, 105, 103]⟩ : ByteArray)] from rfl) (Reps.one (show Kd.M Kd.string _ _ _ (⟨#[104, 97, 108, 108]⟩ : ByteArray) [.string (⟨#[104, 97, 108, 108]⟩ : ByteArray)] from rfl) (Reps.one (show Kd.M Kd.string _ _ _ (⟨#[108, 111, 110, 103, 110, 97, 109, 101]⟩ : ByteArray) [.string (⟨#[108, 111, 110, 103, 110, 97, 109, 101]⟩ : ByteArray)] from rfl) (Reps.one (show Kd.M Kd.string _ _ _ (⟨#[97, 98, 99, 100, 101, 102, 103, 104, 105, 106]⟩ : ByteArray) [.string (⟨#[97, 98, 99, 100, 101, 102, 103, 104, 105, 106]⟩ : ByteArray)] from rfl) (Reps.none _ _)))))))); intro v612 w36 ho37 hb hg_ hnew_; clear hg_ hnew_; replace ho37 := ry_ Ny611.out ho37; have HO613 := Aside0.mk (Kd.R_lower ho37 (keep_size (w := w) (g := g) (row := none) (kb1_ HK.out GW610.out))); replace BK610 := Aside0.mk (bb_ (bk_ BK610.out) hb); replace HK := Aside0.mk (KeepBut.trans (kb1_ HK.out GW610.out) (KeepBut.of_below hb g none) (.inl rfl)); replace HB := Aside0.mk (below_step (lb2_ HB.out (IsS99.ge HI0.out) GE610.out) hb); replace HI0 := Aside0.mk (IsS99.below (is99_1 HI0.out NB0_610.out) hb); clear hb ho37; obtain ⟨Ao38, co38, eo38⟩ := Kd.R_slice HO613.out; subst eo38) | ((with_reducible refine gate_callee (f := 108) rfl ?_); refine ga_ (some 6) Tryd.func108 #[.pointer (some ⟨g, 0, none⟩), .slice Ao38 y611.length co38] ?_; (with_reducible refine (spec_l1Cur_of.calls g s0_0 s0_1 s0_2 _ _ y611 t614 t615 t616 w0 _ ?side1 ?side2 ?side3 ?side4 ?side5 A2.out).mono ?_); (case side1 => exact is99_1 HI0.out NB0_610.out); (case side2 => exact lb2_ HB.out (IsS99.ge HI0.out) GE610.out); (case side3 => exact kc_ (Kd.R_reads' HO613.out).2.2); (case side4 => exact (Kd.R_reads' HO613.out).2.1); (case side5 => exact far_slice (IsS99.own_ne HI0.out HO613.out (by decide))); rintro e w39 ⟨rfl, hi, hb, hk⟩; refine ⟨_, rfl, ?_⟩; replace BK610 := Aside0.mk (KeepBut.blk hk (g' := gb610) (o := .cells #[.string (⟨#[]⟩ : ByteArray), .int .i64 0, .int .i64 0] 29 (0, 0)) (bk_ BK610.out) NB610_0.out (by simp)); replace HO613 := Aside0.mk (Kd.R_mono (Kd.R_keep (IsS99.apart (show IsS99 w0 _ g s0_0 s0_1 s0_2 from is99_1 HI0.out NB0_610.out) (kr_ HO613.out) (by decide)) hk (fun _ h => h.2)) (fun _ h => h.1)); replace HK := Aside0.mk (KeepBut.trans (kb1_ HK.out GW610.out) hk (.inl rfl)); replace HB := Aside0.mk (hb); replace HI0 := Aside0.mk (hi); (try clear hb); (try clear hb2); (try clear hk); (try clear hi)) | ((with_reducible refine gate_dst (N := 8) rfl ?_); refine Kd.R_lit (Kd.int .i64) _ 3 ?hg (N := 8) ?hd (xs := ([0, 5, 9, 12, 13, 99] : List Int)) (inner := [.int .i64 0, .int .i64 5, .int .i64 9, .int .i64 12, .int .i64 13, .int .i64 99]) (ok := fun _ => True) (okp := fun _ => True) ?hr ?hp (fun _ hk => hk) trivial (Below.refl _ _) (Nat.le_refl _) (by simp) ?_; (case hd => rfl); (case hg => rfl); (case hr => first | (go_simp; done) | (go_simp; rfl)); (case hp => exact (Reps.one (show Kd.M (Kd.int .i64) _ _ _ 0 [.int .i64 0] from rfl) (Reps.one (show Kd.M (Kd.int .i64) _ _ _ 5 [.int .i64 5] from rfl) (Reps.one (show Kd.M (Kd.int .i64) _ _ _ 9 [.int .i64 9] from rfl) (Reps.one (show Kd.M (Kd.int .i64) _ _ _ 12 [.int .i64 12] from rfl) (Reps.one (show Kd.M (Kd.int .i64) _ _ _ 13 [.int .i64 13] from rfl) (Reps.one (show Kd.M (Kd.int .i64) _ _ _ 99 [.int .i64 99] from rfl) (Reps.none _ _)))))))); intro v618 w40 ho41 hb hg_ hnew_; clear hg_ hnew_; replace ho41 := ry_ Ny617.out ho41; replace HO613 := Aside0.mk (Kd.R_below (kr_ HO613.out) hb); have HO619 := Aside0.mk (Kd.R_lower ho41 (keep_size (w := w) (g := g) (row := none) (kb1_ HK.out GW610.out))); replace BK610 := Aside0.mk (bb_ (bk_ BK610.out) hb); replace HK := Aside0.mk (KeepBut.trans (kb1_ HK.out GW610.out) (KeepBut.of_below hb g none) (.inl rfl)); replace HB := Aside0.mk (below_step (lb2_ HB.out (IsS99.ge HI0.out) GE610.out) hb); replace HI0 := Aside0.mk (IsS99.below (is99_1 HI0.out NB0_610.out) hb); clear hb ho41; obtain ⟨Ao42, co42, eo42⟩ := Kd.R_slice HO619.out; subst eo42) | ((with_reducible refine gate_callee (f := 88) rfl ?_); refine ga_ (some 9) Tryd.func88 #[.pointer (some ⟨g, 0, none⟩), .slice Ao42 y617.length co42] ?_; (with_reducible refine (spec_l1Cur_among.calls g s0_0 t615 t616 _ _ y617 t620 t621 t622 w0 _ ?side1 ?side2 ?side3 ?side4 ?side5 A3.out).mono ?_); (case side1 => exact is99_1 HI0.out NB0_610.out); (case side2 => exact lb2_ HB.out (IsS99.ge HI0.out) GE610.out); (case side3 => exact kc_ (Kd.R_reads' HO619.out).2.2); (case side4 => exact (Kd.R_reads' HO619.out).2.1); (case side5 => exact far_slice (IsS99.own_ne HI0.out HO619.out (by decide))); rintro e w43 ⟨rfl, hi, hb, hk⟩; refine ⟨_, rfl, ?_⟩; replace BK610 := Aside0.mk (KeepBut.blk hk (g' := gb610) (o := .cells #[.string (⟨#[]⟩ : ByteArray), .int .i64 0, .int .i64 0] 29 (0, 0)) (bk_ BK610.out) NB610_0.out (by simp)); replace HO613 := Aside0.mk (Kd.R_mono (Kd.R_keep (IsS99.apart (show IsS99 w0 _ g s0_0 t615 t616 from is99_1 HI0.out NB0_610.out) (kr_ HO613.out) (by decide)) hk (fun _ h => h.2)) (fun _ h => h.1)); replace HO619 := Aside0.mk (Kd.R_mono (Kd.R_keep (IsS99.apart (show IsS99 w0 _ g s0_0 t615 t616 from is99_1 HI0.out NB0_610.out) (kr_ HO619.out) (by decide)) hk (fun _ h => h.2)) (fun _ h => h.1)); replace HK := Aside0.mk (KeepBut.trans (kb1_ HK.out GW610.out) hk (.inl rfl)); replace HB := Aside0.mk (hb); replace HI0 := Aside0.mk (hi); (try clear hb); (try clear hb2); (try clear hk); (try clear hi)) | ((with_reducible refine gate_dst (N := 11) rfl ?_); refine Kd.R_lit (Kd.int .i64) _ 3 ?hg (N := 11) ?hd (xs := ([0, 1, 8, 10, 11, 99] : List Int)) (inner := [.int .i64 0, .int .i64 1, .int .i64 8, .int .i64 10, .int .i64 11, .int .i64 99]) (ok := fun _ => True) (okp := fun _ => True) ?hr ?hp (fun _ hk => hk) trivial (Below.refl _ _) (Nat.le_refl _) (by simp) ?_; (case hd => rfl); (case hg => rfl); (case hr => first | (go_simp; done) | (go_simp; rfl)); (case hp => exact (Reps.one (show Kd.M (Kd.int .i64) _ _ _ 0 [.int .i64 0] from rfl) (Reps.one (show Kd.M (Kd.int .i64) _ _ _ 1 [.int .i64 1] from rfl) (Reps.one (show Kd.M (Kd.int .i64) _ _ _ 8 [.int .i64 8] from rfl) (Reps.one (show Kd.M (Kd.int .i64) _ _ _ 10 [.int .i64 10] from rfl) (Reps.one (show Kd.M (Kd.int .i64) _ _ _ 11 [.int .i64 11] from rfl) (Reps.one (show Kd.M (Kd.int .i64) _ _ _ 99 [.int .i64 99] from rfl) (Reps.none _ _)))))))); intro v624 w44 ho45 hb hg_ hnew_; clear hg_ hnew_; replace ho45 := ry_ Ny623.out ho45; replace HO613 := Aside0.mk (Kd.R_below (kr_ HO613.out) hb); have HO625 := Aside0.mk (Kd.R_lower (Kd.R_new' ho45 (Kd.R_lt (kr_ HO619.out))) (keep_size (w := w) (g := g) (row := none) (kb1_ HK.out GW610.out))); replace HO619 := Aside0.mk (Kd.R_elder' (kr_ HO619.out) (Kd.R_base ho45) hb); replace BK610 := Aside0.mk (bb_ (bk_ BK610.out) hb); replace HK := Aside0.mk (KeepBut.trans (kb1_ HK.out GW610.out) (KeepBut.of_below hb g none) (.inl rfl)); replace HB := Aside0.mk (below_step (lb2_ HB.out (IsS99.ge HI0.out) GE610.out) hb); replace HI0 := Aside0.mk (IsS99.below (is99_1 HI0.out NB0_610.out) hb); clear hb ho45; obtain ⟨Ao46, co46, eo46⟩ := Kd.R_slice HO625.out; subst eo46) | ((with_reducible refine gate_callee (f := 88) rfl ?_); refine ga_ (some 12) Tryd.func88 #[.pointer (some ⟨g, 0, none⟩), .slice Ao46 y623.length co46] ?_; (with_reducible refine (spec_l1Cur_among.calls g s0_0 t621 t622 _ _ y623 t626 t627 t628 w0 _ ?side1 ?side2 ?side3 ?side4 ?side5 A4.out).mono ?_); (case side1 => exact is99_1 HI0.out NB0_610.out); (case side2 => exact lb2_ HB.out (IsS99.ge HI0.out) GE610.out); (case side3 => exact kc_ (Kd.R_reads' HO625.out).2.2); (case side4 => exact (Kd.R_reads' HO625.out).2.1); (case side5 => exact far_slice (IsS99.own_ne HI0.out HO625.out (by decide))); rintro e w47 ⟨rfl, hi, hb, hk⟩; refine ⟨_, rfl, ?_⟩; replace BK610 := Aside0.mk (KeepBut.blk hk (g' := gb610) (o := .cells #[.string (⟨#[]⟩ : ByteArray), .int .i64 0, .int .i64 0] 29 (0, 0)) (bk_ BK610.out) NB610_0.out (by simp)); replace HO613 := Aside0.mk (Kd.R_mono (Kd.R_keep (IsS99.apart (show IsS99 w0 _ g s0_0 t621 t622 from is99_1 HI0.out NB0_610.out) (kr_ HO613.out) (by decide)) hk (fun _ h => h.2)) (fun _ h => h.1)); replace HO619 := Aside0.mk (Kd.R_mono (Kd.R_keep (IsS99.apart (show IsS99 w0 _ g s0_0 t621 t622 from is99_1 HI0.out NB0_610.out) (kr_ HO619.out) (by decide)) hk (fun _ h => h.2)) (fun _ h => h.1)); replace HO625 := Aside0.mk (Kd.R_mono (Kd.R_keep (IsS99.apart (show IsS99 w0 _ g s0_0 t621 t622 from is99_1 HI0.out NB0_610.out) (kr_ HO625.out) (by decide)) hk (fun _ h => h.2)) (fun _ h => h.1)); replace HK := Aside0.mk (KeepBut.trans (kb1_ HK.out GW610.out) hk (.inl rfl)); replace HB := Aside0.mk (hb); replace HI0 := Aside0.mk (hi); (try clear hb); (try clear hb2); (try clear hk); (try clear hi)) | ((with_reducible refine gate_dst (N := 3) rfl ?_); refine box_event ?hg (N := 3) ?hd (cs := #[.string (⟨#[]⟩ : ByteArray), .int .i64 0, .int .i64 0]) (t := 29) ?hr ?_; (case hd => rfl); (case hg => rfl); (case hr => first | (go_simp; done) | (go_simp; rfl)); intro gb629 hg w48 hbox hb; replace HO613 := Aside0.mk (Kd.R_below (kr_ HO613.out) hb); replace HO619 := Aside0.mk (Kd.R_below (kr_ HO619.out) hb); replace HO625 := Aside0.mk (Kd.R_below (kr_ HO625.out) hb); replace HB := Aside0.mk (below_step (lb2_ HB.out (IsS99.ge HI0.out) GE610.out) hb); have BK629 := Aside0.mk (hbox); have GW629 := Aside0.mk ((by rw [hg]; exact (keep_size (w := w) (g := g) (row := none) (kb1_ HK.out GW610.out)) : w.heap.size ≤ gb629)); have GE629 := Aside0.mk ((Nat.le_trans HW0.out (by rw [hg]; exact (keep_size (w := w) (g := g) (row := none) (kb1_ HK.out GW610.out)) : w.heap.size ≤ gb629) : w0.heap.size ≤ gb629)); replace HK := Aside0.mk (KeepBut.trans (kb1_ HK.out GW610.out) (KeepBut.of_below hb g none) (.inl rfl)); have NB610_629 := Aside0.mk (nl_ hg BK610.out); have NB629_610 := Aside0.mk (ng_ hg BK610.out); replace BK610 := Aside0.mk (bb_ (bk_ BK610.out) hb); have NB0_629 := Aside0.mk ((by rw [hg]; exact Nat.ne_of_lt (IsS99.lt (show IsS99 w0 _ g s0_0 t627 t628 from is99_1 HI0.out NB0_610.out)) : g ≠ gb629)); have NB629_0 := Aside0.mk ((by rw [hg]; exact Nat.ne_of_gt (IsS99.lt (show IsS99 w0 _ g s0_0 t627 t628 from is99_1 HI0.out NB0_610.out)) : gb629 ≠ g)); replace HI0 := Aside0.mk (IsS99.below (is99_1 HI0.out NB0_610.out) hb); clear hb hbox hg; have hnb49 := NB629_610.out; have hnc49 := NB610_629.out; have hnb50 := NB629_0.out; have hnc50 := NB0_629.out; obtain ⟨hcz51_0, hcz51_1, hcz51_2⟩ := cz3_ BK629.out; obtain ⟨hfz51_0, hfz51_1, hfz51_2⟩ := fz3_ BK629.out) | ((with_reducible refine gate_callee (f := 86) rfl ?_); refine ga_ (some 15) Tryd.func86 #[.pointer (some ⟨g, 0, none⟩), .int .i64 60] ?_; (with_reducible refine (spec_l1Cur_pick.calls g s0_0 t627 t628 60 t630 t631 t632 w0 _ ?side1 ?side2 A5.out).mono ?_); (case side1 => exact is99_2 HI0.out NB0_610.out NB0_629.out); (case side2 => exact lb3_ HB.out (IsS99.ge HI0.out) GE610.out GE629.out); rintro e w52 ⟨rfl, hi, hb, hk⟩; refine ⟨_, rfl, ?_⟩; replace BK610 := Aside0.mk (KeepBut.blk hk (g' := gb610) (o := .cells #[.string (⟨#[]⟩ : ByteArray), .int .i64 0, .int .i64 0] 29 (0, 0)) (by (with_reducible repeat (first | refine blk_drewN ?_ _ | refine blk_drew ?_ | refine blk_alloc ?_ _)); exact (f3_ BK610.out NB610_629.out _ _ _)) NB610_0.out (by simp)); replace HO613 := Aside0.mk (Kd.R_mono (Kd.R_keep (IsS99.apart (show IsS99 w0 _ g s0_0 t627 t628 from is99_2 HI0.out NB0_610.out NB0_629.out) (kg_ HO613.out BK629.out) (by decide)) hk (fun _ h => h.2)) (fun _ h => h.1)); replace HO619 := Aside0.mk (Kd.R_mono (Kd.R_keep (IsS99.apart (show IsS99 w0 _ g s0_0 t627 t628 from is99_2 HI0.out NB0_610.out NB0_629.out) (kg_ HO619.out BK629.out) (by decide)) hk (fun _ h => h.2)) (fun _ h => h.1)); replace HO625 := Aside0.mk (Kd.R_mono (Kd.R_keep (IsS99.apart (show IsS99 w0 _ g s0_0 t627 t628 from is99_2 HI0.out NB0_610.out NB0_629.out) (kg_ HO625.out BK629.out) (by decide)) hk (fun _ h => h.2)) (fun _ h => h.1)); replace BK629 := Aside0.mk (KeepBut.blk hk (g' := gb629) (o := .cells #[.string t614, .int .i64 t620, .int .i64 t626] 29 (0, 0)) (by (with_reducible repeat (first | refine blk_drewN ?_ _ | refine blk_drew ?_ | refine blk_alloc ?_ _)); exact (p3_ BK629.out _ _ _)) NB629_0.out (by simp)); replace HK := Aside0.mk (KeepBut.trans (kb2_ HK.out GW610.out GW629.out) hk (.inl rfl)); replace HB := Aside0.mk (hb); replace HI0 := Aside0.mk (hi); (try clear hb); (try clear hb2); (try clear hk); (try clear hi)) | ((with_reducible refine gate_dst (N := 25) rfl ?_); refine Kd.R_lit (Kd.int .i64) _ 3 ?hg (N := 25) ?hd (xs := ([(-1), 100] : List Int)) (inner := [.int .i64 (-1), .int .i64 100]) (ok := fun _ => True) (okp := fun _ => True) ?hr ?hp (fun _ hk => hk) trivial (Below.refl _ _) (Nat.le_refl _) (by simp) ?_; (case hd => rfl); (case hg => rfl); (case hr => first | (go_simp; done) | (go_simp; rfl)); (case hp => exact (Reps.one (show Kd.M (Kd.int .i64) _ _ _ (-1) [.int .i64 (-1)] from rfl) (Reps.one (show Kd.M (Kd.int .i64) _ _ _ 100 [.int .i64 100] from rfl) (Reps.none _ _)))); intro v640 w53 ho54 hb hg_ hnew_; clear hg_ hnew_; replace ho54 := ry_ Ny639.out ho54; replace HO613 := Aside0.mk (Kd.R_below (kr_ HO613.out) hb); have HO641 := Aside0.mk (Kd.R_lower (Kd.R_new' (Kd.R_new' ho54 (Kd.R_lt (kr_ HO619.out))) (Kd.R_lt (kr_ HO625.out))) (keep_size (w := w) (g := g) (row := none) (kb2_ HK.out GW610.out GW629.out))); replace HO619 := Aside0.mk (Kd.R_elder' (kr_ HO619.out) (Kd.R_base ho54) hb); replace HO625 := Aside0.mk (Kd.R_elder' (kr_ HO625.out) (Kd.R_base ho54) hb); replace BK610 := Aside0.mk (bb_ (bk_ BK610.out) hb); replace BK629 := Aside0.mk (bb_ (bk_ BK629.out) hb); replace HK := Aside0.mk (KeepBut.trans (kb2_ HK.out GW610.out GW629.out) (KeepBut.of_below hb g none) (.inl rfl)); replace HB := Aside0.mk (below_step (lb3_ HB.out (IsS99.ge HI0.out) GE610.out GE629.out) hb); replace HI0 := Aside0.mk (IsS99.below (is99_2 HI0.out NB0_610.out NB0_629.out) hb); clear hb ho54; obtain ⟨Ao55, co55, eo55⟩ := Kd.R_slice HO641.out; subst eo55) | ((with_reducible refine gate_callee (f := 88) rfl ?_); refine ga_ (some 26) Tryd.func88 #[.pointer (some ⟨g, 0, none⟩), .slice Ao55 y639.length co55] ?_; (with_reducible refine (spec_l1Cur_among.calls g s0_0 t631 t632 _ _ y639 t642 t643 t644 w0 _ ?side1 ?side2 ?side3 ?side4 ?side5 A34.out).mono ?_); (case side1 => exact is99_2 HI0.out NB0_610.out NB0_629.out); (case side2 => exact lb3_ HB.out (IsS99.ge HI0.out) GE610.out GE629.out); (case side3 => exact kc_ (Kd.R_reads' HO641.out).2.2); (case side4 => exact (Kd.R_reads' HO641.out).2.1); (case side5 => exact far_slice (IsS99.own_ne HI0.out HO641.out (by decide))); rintro e w56 ⟨rfl, hi, hb, hk⟩; refine ⟨_, rfl, ?_⟩; replace BK610 := Aside0.mk (KeepBut.blk hk (g' := gb610) (o := .cells #[.string (⟨#[]⟩ : ByteArray), .int .i64 0, .int .i64 0] 29 (0, 0)) (bk_ BK610.out) NB610_0.out (by simp)); replace HO613 := Aside0.mk (Kd.R_mono (Kd.R_keep (IsS99.apart (show IsS99 w0 _ g s0_0 t631 t632 from is99_2 HI0.out NB0_610.out NB0_629.out) (kr_ HO613.out) (by decide)) hk (fun _ h => h.2)) (fun _ h => h.1)); replace HO619 := Aside0.mk (Kd.R_mono (Kd.R_keep (IsS99.apart (show IsS99 w0 _ g s0_0 t631 t632 from is99_2 HI0.out NB0_610.out NB0_629.out) (kr_ HO619.out) (by decide)) hk (fun _ h => h.2)) (fun _ h => h.1)); replace HO625 := Aside0.mk (Kd.R_mono (Kd.R_keep (IsS99.apart (show IsS99 w0 _ g s0_0 t631 t632 from is99_2 HI0.out NB0_610.out NB0_629.out) (kr_ HO625.out) (by decide)) hk (fun _ h => h.2)) (fun _ h => h.1)); replace BK629 := Aside0.mk (KeepBut.blk hk (g' := gb629) (o := .cells #[.string t614, .int .i64 t620, .int .i64 t626] 29 (0, 0)) (bk_ BK629.out) NB629_0.out (by simp)); replace HO641 := Aside0.mk (Kd.R_mono (Kd.R_keep (IsS99.apart (show IsS99 w0 _ g s0_0 t631 t632 from is99_2 HI0.out NB0_610.out NB0_629.out) (kr_ HO641.out) (by decide)) hk (fun _ h => h.2)) (fun _ h => h.1)); replace HK := Aside0.mk (KeepBut.trans (kb2_ HK.out GW610.out GW629.out) hk (.inl rfl)); replace HB := Aside0.mk (hb); replace HI0 := Aside0.mk (hi); (try clear hb); (try clear hb2); (try clear hk); (try clear hi); obtain ⟨hcz57_0, hcz57_1, hcz57_2⟩ := cz3_ BK629.out; obtain ⟨hfz57_0, hfz57_1, hfz57_2⟩ := fz3_ BK629.out; have hnb58 := NB610_0.out; have hnc58 := NB0_610.out; obtain ⟨hcz59_0, hcz59_1, hcz59_2⟩ := cz3_ BK610.out; obtain ⟨hfz59_0, hfz59_1, hfz59_2⟩ := fz3_ BK610.out))
   refine bodyPost_ret (results_cell_row rfl _ _ gb610 29 #[.string t614, .int .i64 t642, .int .i64 t626] (0, 0) _ rfl (by (with_reducible repeat (first | refine blk_drewN ?_ _ | refine blk_drew ?_ | refine blk_alloc ?_ _)); refine blk_put (cs := #[.string t614, .int .i64 t642, .int .i64 0]) ?_ 2 _ rfl; (with_reducible repeat (first | refine blk_drewN ?_ _ | refine blk_drew ?_ | refine blk_alloc ?_ _)); refine blk_put (cs := #[.string t614, .int .i64 0, .int .i64 0]) ?_ 1 _ rfl; (with_reducible repeat (first | refine blk_drewN ?_ _ | refine blk_drew ?_ | refine blk_alloc ?_ _)); refine blk_put (cs := #[.string (⟨#[]⟩ : ByteArray), .int .i64 0, .int .i64 0]) ?_ 0 _ rfl; (with_reducible repeat (first | refine blk_drewN ?_ _ | refine blk_drew ?_ | refine blk_alloc ?_ _)); refine blk_far ?_ NB610_629.out _; (with_reducible repeat (first | refine blk_drewN ?_ _ | refine blk_drew ?_ | refine blk_alloc ?_ _)); exact BK610.out) Tryd.underlying29 rfl (by kernel_rfl)) rfl ?_
   exact ⟨rr_, is99_2 HI0.out NB0_610.out NB0_629.out, lb3_ HB.out (IsS99.ge HI0.out) GE610.out GE629.out, kb2_ HK.out GW610.out GW629.out⟩
  ·
   rw [if_neg c33] at H
   have c33b0 : (t630 == 1) = false := beq_eq_false_iff_ne.mpr c33
   have c33b1 : (t630 != 1) = true := bne_iff_ne.mpr c33
   by_cases c60 : t630 = 2
   ·
    rw [if_pos c60] at H
    have c60b0 : (t630 == 2) = true := beq_iff_eq.mpr c60
    have c60b1 : (t630 != 2) = false := bne_eq_false_iff_eq.mpr c60
    clear c60
    obtain ⟨y645, hy645⟩ : ∃ y_ : List Int, y_ = (([(-1), 100] : List Int)) := ⟨_, rfl⟩
    replace H : ((spec_l1Cur_among.f s0_0 t631 t632 y645).bind fun bt648 => (some (t614, t620, bt648.1, bt648.2.1, bt648.2.2))) = some (r1, r2, r3, r4, r5) := by first | (rw [hy645]; with_reducible exact H) | (have H2_ := (Option.bind_some _ _).symm.trans H; rw [hy645]; with_reducible exact H2_) | (have H2_ := (Option.bind_some _ _).symm.trans H; with_reducible exact H2_) | with_reducible exact H | (rw [hy645]; exact H) | exact H
    have Ny645 := Aside0.mk hy645
    clear hy645
    replace H := Option.bind_eq_some_iff.mp H
    obtain ⟨⟨t648, t649, t650⟩, A610, H⟩ := H
    replace H : (some (t614, t620, t648, t649, t650)) = some (r1, r2, r3, r4, r5) := H
    have A61 := Aside0.mk A610
    clear A610
    simp only [Option.some.injEq, Prod.mk.injEq] at H
    obtain ⟨rfl, rfl, rfl, rfl, rfl⟩ := H
    go_enter Tryd.func89, Tryd.ntmps89
    go_wp2_with (first | ((with_reducible refine gate_dst (N := 2) rfl ?_); refine box_event ?hg (N := 2) ?hd (cs := #[.string (⟨#[]⟩ : ByteArray), .int .i64 0, .int .i64 0]) (t := 29) ?hr ?_; (case hd => rfl); (case hg => rfl); (case hr => first | (go_simp; done) | (go_simp; rfl)); intro gb610 hg w62 hbox hb; replace HB := Aside0.mk (below_step (lb1_ HB.out (IsS99.ge HI0.out)) hb); have BK610 := Aside0.mk (hbox); have GW610 := Aside0.mk ((by rw [hg]; exact (keep_size (w := w) (g := g) (row := none) (kb0_ HK.out)) : w.heap.size ≤ gb610)); have GE610 := Aside0.mk ((Nat.le_trans HW0.out (by rw [hg]; exact (keep_size (w := w) (g := g) (row := none) (kb0_ HK.out)) : w.heap.size ≤ gb610) : w0.heap.size ≤ gb610)); replace HK := Aside0.mk (KeepBut.trans (kb0_ HK.out) (KeepBut.of_below hb g none) (.inl rfl)); have NB0_610 := Aside0.mk ((by rw [hg]; exact Nat.ne_of_lt (IsS99.lt (show IsS99 w0 _ g s0_0 s0_1 s0_2 from is99_0 HI0.out)) : g ≠ gb610)); have NB610_0 := Aside0.mk ((by rw [hg]; exact Nat.ne_of_gt (IsS99.lt (show IsS99 w0 _ g s0_0 s0_1 s0_2 from is99_0 HI0.out)) : gb610 ≠ g)); replace HI0 := Aside0.mk (IsS99.below (is99_0 HI0.out) hb); clear hb hbox hg) | ((with_reducible refine gate_dst (N := 5) rfl ?_); refine Kd.R_lit Kd.string _ 9 ?hg (N := 5) ?hd (xs := ([(⟨#[97]⟩ : ByteArray), (⟨#[115, 117, 109, 112]⟩ : ByteArray), (⟨#[98, 105, 103]⟩ : ByteArray), (⟨#[104, 97, 108, 108]⟩ : ByteArray), (⟨#[108, 111, 110, 103, 110, 97, 109, 101]⟩ : ByteArray), (⟨#[97, 98, 99, 100, 101, 102, 103, 104, 105, 106]⟩ : ByteArray)] : List ByteArray)) (inner := [.string (⟨#[97]⟩ : ByteArray), .string (⟨#[115, 117, 109, 112]⟩ : ByteArray), .string (⟨#[98, 105, 103]⟩ : ByteArray), .string (⟨#[104, 97, 108, 108]⟩ : ByteArray), .string (⟨#[108, 111, 110, 103, 110, 97, 109, 101]⟩ : ByteArray), .string (⟨#[97, 98, 99, 100, 101, 102, 103, 104, 105, 106]⟩ : ByteArray)]) (ok := fun _ => True) (okp := fun _ => True) ?hr ?hp (fun _ hk => hk) trivial (Below.refl _ _) (Nat.le_refl _) (by simp) ?_; (case hd => rfl); (case hg => rfl); (case hr => first | (go_simp; done) | (go_simp; rfl)); (case hp => exact (Reps.one (show Kd.M Kd.string _ _ _ (⟨#[97]⟩ : ByteArray) [.string (⟨#[97]⟩ : ByteArray)] from rfl) (Reps.one (show Kd.M Kd.string _ _ _ (⟨#[115, 117, 109, 112]⟩ : ByteArray) [.string (⟨#[115, 117, 109, 112]⟩ : ByteArray)] from rfl) (Reps.one (show Kd.M Kd.string _ _ _ (⟨#[98, 105, 103]⟩ : ByteArray) [.string (⟨#[98, 105, 103]⟩ : ByteArray)] from rfl) (Reps.one (show Kd.M Kd.string _ _ _ (⟨#[104, 97, 108, 108]⟩ : ByteArray) [.string (⟨#[104, 97, 108, 108]⟩ : ByteArray)] from rfl) (Reps.one (show Kd.M Kd.string _ _ _ (⟨#[108, 111, 110, 103, 110, 97, 109, 101]⟩ : ByteArray) [.string (⟨#[108, 111, 110, 103, 110, 97, 109, 101]⟩ : ByteArray)] from rfl) (Reps.one (show Kd.M Kd.string _ _ _ (⟨#[97, 98, 99, 100, 101, 102, 103, 104, 105, 106]⟩ : ByteArray) [.string (⟨#[97, 98, 99, 100, 101, 102, 103, 104, 105, 106]⟩ : ByteArray)] from rfl) (Reps.none _ _)))))))); intro v612 w63 ho64 hb hg_ hnew_; clear hg_ hnew_; replace ho64 := ry_ Ny611.out ho64; have HO613 := Aside0.mk (Kd.R_lower ho64 (keep_size (w := w) (g := g) (row := none) (kb1_ HK.out GW610.out))); replace BK610 := Aside0.mk (bb_ (bk_ BK610.out) hb); replace HK := Aside0.mk (KeepBut.trans (kb1_ HK.out GW610.out) (KeepBut.of_below hb g none) (.inl rfl)); replace HB := Aside0.mk (below_step (lb2_ HB.out (IsS99.ge HI0.out) GE610.out) hb); replace HI0 := Aside0.mk (IsS99.below (is99_1 HI0.out NB0_610.out) hb); clear hb ho64; obtain ⟨Ao65, co65, eo65⟩ := Kd.R_slice HO613.out; subst eo65) | ((with_reducible refine gate_callee (f := 108) rfl ?_); refine ga_ (some 6) Tryd.func108 #[.pointer (some ⟨g, 0, none⟩), .slice Ao65 y611.length co65] ?_; (with_reducible refine (spec_l1Cur_of.calls g s0_0 s0_1 s0_2 _ _ y611 t614 t615 t616 w0 _ ?side1 ?side2 ?side3 ?side4 ?side5 A2.out).mono ?_); (case side1 => exact is99_1 HI0.out NB0_610.out); (case side2 => exact lb2_ HB.out (IsS99.ge HI0.out) GE610.out); (case side3 => exact kc_ (Kd.R_reads' HO613.out).2.2); (case side4 => exact (Kd.R_reads' HO613.out).2.1); (case side5 => exact far_slice (IsS99.own_ne HI0.out HO613.out (by decide))); rintro e w66 ⟨rfl, hi, hb, hk⟩; refine ⟨_, rfl, ?_⟩; replace BK610 := Aside0.mk (KeepBut.blk hk (g' := gb610) (o := .cells #[.string (⟨#[]⟩ : ByteArray), .int .i64 0, .int .i64 0] 29 (0, 0)) (bk_ BK610.out) NB610_0.out (by simp)); replace HO613 := Aside0.mk (Kd.R_mono (Kd.R_keep (IsS99.apart (show IsS99 w0 _ g s0_0 s0_1 s0_2 from is99_1 HI0.out NB0_610.out) (kr_ HO613.out) (by decide)) hk (fun _ h => h.2)) (fun _ h => h.1)); replace HK := Aside0.mk (KeepBut.trans (kb1_ HK.out GW610.out) hk (.inl rfl)); replace HB := Aside0.mk (hb); replace HI0 := Aside0.mk (hi); (try clear hb); (try clear hb2); (try clear hk); (try clear hi)) | ((with_reducible refine gate_dst (N := 8) rfl ?_); refine Kd.R_lit (Kd.int .i64) _ 3 ?hg (N := 8) ?hd (xs := ([0, 5, 9, 12, 13, 99] : List Int)) (inner := [.int .i64 0, .int .i64 5, .int .i64 9, .int .i64 12, .int .i64 13, .int .i64 99]) (ok := fun _ => True) (okp := fun _ => True) ?hr ?hp (fun _ hk => hk) trivial (Below.refl _ _) (Nat.le_refl _) (by simp) ?_; (case hd => rfl); (case hg => rfl); (case hr => first | (go_simp; done) | (go_simp; rfl)); (case hp => exact (Reps.one (show Kd.M (Kd.int .i64) _ _ _ 0 [.int .i64 0] from rfl) (Reps.one (show Kd.M (Kd.int .i64) _ _ _ 5 [.int .i64 5] from rfl) (Reps.one (show Kd.M (Kd.int .i64) _ _ _ 9 [.int .i64 9] from rfl) (Reps.one (show Kd.M (Kd.int .i64) _ _ _ 12 [.int .i64 12] from rfl) (Reps.one (show Kd.M (Kd.int .i64) _ _ _ 13 [.int .i64 13] from rfl) (Reps.one (show Kd.M (Kd.int .i64) _ _ _ 99 [.int .i64 99] from rfl) (Reps.none _ _)))))))); intro v618 w67 ho68 hb hg_ hnew_; clear hg_ hnew_; replace ho68 := ry_ Ny617.out ho68; replace HO613 := Aside0.mk (Kd.R_below (kr_ HO613.out) hb); have HO619 := Aside0.mk (Kd.R_lower ho68 (keep_size (w := w) (g := g) (row := none) (kb1_ HK.out GW610.out))); replace BK610 := Aside0.mk (bb_ (bk_ BK610.out) hb); replace HK := Aside0.mk (KeepBut.trans (kb1_ HK.out GW610.out) (KeepBut.of_below hb g none) (.inl rfl)); replace HB := Aside0.mk (below_step (lb2_ HB.out (IsS99.ge HI0.out) GE610.out) hb); replace HI0 := Aside0.mk (IsS99.below (is99_1 HI0.out NB0_610.out) hb); clear hb ho68; obtain ⟨Ao69, co69, eo69⟩ := Kd.R_slice HO619.out; subst eo69) | ((with_reducible refine gate_callee (f := 88) rfl ?_); refine ga_ (some 9) Tryd.func88 #[.pointer (some ⟨g, 0, none⟩), .slice Ao69 y617.length co69] ?_; (with_reducible refine (spec_l1Cur_among.calls g s0_0 t615 t616 _ _ y617 t620 t621 t622 w0 _ ?side1 ?side2 ?side3 ?side4 ?side5 A3.out).mono ?_); (case side1 => exact is99_1 HI0.out NB0_610.out); (case side2 => exact lb2_ HB.out (IsS99.ge HI0.out) GE610.out); (case side3 => exact kc_ (Kd.R_reads' HO619.out).2.2); (case side4 => exact (Kd.R_reads' HO619.out).2.1); (case side5 => exact far_slice (IsS99.own_ne HI0.out HO619.out (by decide))); rintro e w70 ⟨rfl, hi, hb, hk⟩; refine ⟨_, rfl, ?_⟩; replace BK610 := Aside0.mk (KeepBut.blk hk (g' := gb610) (o := .cells #[.string (⟨#[]⟩ : ByteArray), .int .i64 0, .int .i64 0] 29 (0, 0)) (bk_ BK610.out) NB610_0.out (by simp)); replace HO613 := Aside0.mk (Kd.R_mono (Kd.R_keep (IsS99.apart (show IsS99 w0 _ g s0_0 t615 t616 from is99_1 HI0.out NB0_610.out) (kr_ HO613.out) (by decide)) hk (fun _ h => h.2)) (fun _ h => h.1)); replace HO619 := Aside0.mk (Kd.R_mono (Kd.R_keep (IsS99.apart (show IsS99 w0 _ g s0_0 t615 t616 from is99_1 HI0.out NB0_610.out) (kr_ HO619.out) (by decide)) hk (fun _ h => h.2)) (fun _ h => h.1)); replace HK := Aside0.mk (KeepBut.trans (kb1_ HK.out GW610.out) hk (.inl rfl)); replace HB := Aside0.mk (hb); replace HI0 := Aside0.mk (hi); (try clear hb); (try clear hb2); (try clear hk); (try clear hi)) | ((with_reducible refine gate_dst (N := 11) rfl ?_); refine Kd.R_lit (Kd.int .i64) _ 3 ?hg (N := 11) ?hd (xs := ([0, 1, 8, 10, 11, 99] : List Int)) (inner := [.int .i64 0, .int .i64 1, .int .i64 8, .int .i64 10, .int .i64 11, .int .i64 99]) (ok := fun _ => True) (okp := fun _ => True) ?hr ?hp (fun _ hk => hk) trivial (Below.refl _ _) (Nat.le_refl _) (by simp) ?_; (case hd => rfl); (case hg => rfl); (case hr => first | (go_simp; done) | (go_simp; rfl)); (case hp => exact (Reps.one (show Kd.M (Kd.int .i64) _ _ _ 0 [.int .i64 0] from rfl) (Reps.one (show Kd.M (Kd.int .i64) _ _ _ 1 [.int .i64 1] from rfl) (Reps.one (show Kd.M (Kd.int .i64) _ _ _ 8 [.int .i64 8] from rfl) (Reps.one (show Kd.M (Kd.int .i64) _ _ _ 10 [.int .i64 10] from rfl) (Reps.one (show Kd.M (Kd.int .i64) _ _ _ 11 [.int .i64 11] from rfl) (Reps.one (show Kd.M (Kd.int .i64) _ _ _ 99 [.int .i64 99] from rfl) (Reps.none _ _)))))))); intro v624 w71 ho72 hb hg_ hnew_; clear hg_ hnew_; replace ho72 := ry_ Ny623.out ho72; replace HO613 := Aside0.mk (Kd.R_below (kr_ HO613.out) hb); have HO625 := Aside0.mk (Kd.R_lower (Kd.R_new' ho72 (Kd.R_lt (kr_ HO619.out))) (keep_size (w := w) (g := g) (row := none) (kb1_ HK.out GW610.out))); replace HO619 := Aside0.mk (Kd.R_elder' (kr_ HO619.out) (Kd.R_base ho72) hb); replace BK610 := Aside0.mk (bb_ (bk_ BK610.out) hb); replace HK := Aside0.mk (KeepBut.trans (kb1_ HK.out GW610.out) (KeepBut.of_below hb g none) (.inl rfl)); replace HB := Aside0.mk (below_step (lb2_ HB.out (IsS99.ge HI0.out) GE610.out) hb); replace HI0 := Aside0.mk (IsS99.below (is99_1 HI0.out NB0_610.out) hb); clear hb ho72; obtain ⟨Ao73, co73, eo73⟩ := Kd.R_slice HO625.out; subst eo73) | ((with_reducible refine gate_callee (f := 88) rfl ?_); refine ga_ (some 12) Tryd.func88 #[.pointer (some ⟨g, 0, none⟩), .slice Ao73 y623.length co73] ?_; (with_reducible refine (spec_l1Cur_among.calls g s0_0 t621 t622 _ _ y623 t626 t627 t628 w0 _ ?side1 ?side2 ?side3 ?side4 ?side5 A4.out).mono ?_); (case side1 => exact is99_1 HI0.out NB0_610.out); (case side2 => exact lb2_ HB.out (IsS99.ge HI0.out) GE610.out); (case side3 => exact kc_ (Kd.R_reads' HO625.out).2.2); (case side4 => exact (Kd.R_reads' HO625.out).2.1); (case side5 => exact far_slice (IsS99.own_ne HI0.out HO625.out (by decide))); rintro e w74 ⟨rfl, hi, hb, hk⟩; refine ⟨_, rfl, ?_⟩; replace BK610 := Aside0.mk (KeepBut.blk hk (g' := gb610) (o := .cells #[.string (⟨#[]⟩ : ByteArray), .int .i64 0, .int .i64 0] 29 (0, 0)) (bk_ BK610.out) NB610_0.out (by simp)); replace HO613 := Aside0.mk (Kd.R_mono (Kd.R_keep (IsS99.apart (show IsS99 w0 _ g s0_0 t621 t622 from is99_1 HI0.out NB0_610.out) (kr_ HO613.out) (by decide)) hk (fun _ h => h.2)) (fun _ h => h.1)); replace HO619 := Aside0.mk (Kd.R_mono (Kd.R_keep (IsS99.apart (show IsS99 w0 _ g s0_0 t621 t622 from is99_1 HI0.out NB0_610.out) (kr_ HO619.out) (by decide)) hk (fun _ h => h.2)) (fun _ h => h.1)); replace HO625 := Aside0.mk (Kd.R_mono (Kd.R_keep (IsS99.apart (show IsS99 w0 _ g s0_0 t621 t622 from is99_1 HI0.out NB0_610.out) (kr_ HO625.out) (by decide)) hk (fun _ h => h.2)) (fun _ h => h.1)); replace HK := Aside0.mk (KeepBut.trans (kb1_ HK.out GW610.out) hk (.inl rfl)); replace HB := Aside0.mk (hb); replace HI0 := Aside0.mk (hi); (try clear hb); (try clear hb2); (try clear hk); (try clear hi)) | ((with_reducible refine gate_dst (N := 3) rfl ?_); refine box_event ?hg (N := 3) ?hd (cs := #[.string (⟨#[]⟩ : ByteArray), .int .i64 0, .int .i64 0]) (t := 29) ?hr ?_; (case hd => rfl); (case hg => rfl); (case hr => first | (go_simp; done) | (go_simp; rfl)); intro gb629 hg w75 hbox hb; replace HO613 := Aside0.mk (Kd.R_below (kr_ HO613.out) hb); replace HO619 := Aside0.mk (Kd.R_below (kr_ HO619.out) hb); replace HO625 := Aside0.mk (Kd.R_below (kr_ HO625.out) hb); replace HB := Aside0.mk (below_step (lb2_ HB.out (IsS99.ge HI0.out) GE610.out) hb); have BK629 := Aside0.mk (hbox); have GW629 := Aside0.mk ((by rw [hg]; exact (keep_size (w := w) (g := g) (row := none) (kb1_ HK.out GW610.out)) : w.heap.size ≤ gb629)); have GE629 := Aside0.mk ((Nat.le_trans HW0.out (by rw [hg]; exact (keep_size (w := w) (g := g) (row := none) (kb1_ HK.out GW610.out)) : w.heap.size ≤ gb629) : w0.heap.size ≤ gb629)); replace HK := Aside0.mk (KeepBut.trans (kb1_ HK.out GW610.out) (KeepBut.of_below hb g none) (.inl rfl)); have NB610_629 := Aside0.mk (nl_ hg BK610.out); have NB629_610 := Aside0.mk (ng_ hg BK610.out); replace BK610 := Aside0.mk (bb_ (bk_ BK610.out) hb); have NB0_629 := Aside0.mk ((by rw [hg]; exact Nat.ne_of_lt (IsS99.lt (show IsS99 w0 _ g s0_0 t627 t628 from is99_1 HI0.out NB0_610.out)) : g ≠ gb629)); have NB629_0 := Aside0.mk ((by rw [hg]; exact Nat.ne_of_gt (IsS99.lt (show IsS99 w0 _ g s0_0 t627 t628 from is99_1 HI0.out NB0_610.out)) : gb629 ≠ g)); replace HI0 := Aside0.mk (IsS99.below (is99_1 HI0.out NB0_610.out) hb); clear hb hbox hg; have hnb76 := NB629_610.out; have hnc76 := NB610_629.out; have hnb77 := NB629_0.out; have hnc77 := NB0_629.out; obtain ⟨hcz78_0, hcz78_1, hcz78_2⟩ := cz3_ BK629.out; obtain ⟨hfz78_0, hfz78_1, hfz78_2⟩ := fz3_ BK629.out) | ((with_reducible refine gate_callee (f := 86) rfl ?_); refine ga_ (some 15) Tryd.func86 #[.pointer (some ⟨g, 0, none⟩), .int .i64 60] ?_; (with_reducible refine (spec_l1Cur_pick.calls g s0_0 t627 t628 60 t630 t631 t632 w0 _ ?side1 ?side2 A5.out).mono ?_); (case side1 => exact is99_2 HI0.out NB0_610.out NB0_629.out); (case side2 => exact lb3_ HB.out (IsS99.ge HI0.out) GE610.out GE629.out); rintro e w79 ⟨rfl, hi, hb, hk⟩; refine ⟨_, rfl, ?_⟩; replace BK610 := Aside0.mk (KeepBut.blk hk (g' := gb610) (o := .cells #[.string (⟨#[]⟩ : ByteArray), .int .i64 0, .int .i64 0] 29 (0, 0)) (by (with_reducible repeat (first | refine blk_drewN ?_ _ | refine blk_drew ?_ | refine blk_alloc ?_ _)); exact (f3_ BK610.out NB610_629.out _ _ _)) NB610_0.out (by simp)); replace HO613 := Aside0.mk (Kd.R_mono (Kd.R_keep (IsS99.apart (show IsS99 w0 _ g s0_0 t627 t628 from is99_2 HI0.out NB0_610.out NB0_629.out) (kg_ HO613.out BK629.out) (by decide)) hk (fun _ h => h.2)) (fun _ h => h.1)); replace HO619 := Aside0.mk (Kd.R_mono (Kd.R_keep (IsS99.apart (show IsS99 w0 _ g s0_0 t627 t628 from is99_2 HI0.out NB0_610.out NB0_629.out) (kg_ HO619.out BK629.out) (by decide)) hk (fun _ h => h.2)) (fun _ h => h.1)); replace HO625 := Aside0.mk (Kd.R_mono (Kd.R_keep (IsS99.apart (show IsS99 w0 _ g s0_0 t627 t628 from is99_2 HI0.out NB0_610.out NB0_629.out) (kg_ HO625.out BK629.out) (by decide)) hk (fun _ h => h.2)) (fun _ h => h.1)); replace BK629 := Aside0.mk (KeepBut.blk hk (g' := gb629) (o := .cells #[.string t614, .int .i64 t620, .int .i64 t626] 29 (0, 0)) (by (with_reducible repeat (first | refine blk_drewN ?_ _ | refine blk_drew ?_ | refine blk_alloc ?_ _)); exact (p3_ BK629.out _ _ _)) NB629_0.out (by simp)); replace HK := Aside0.mk (KeepBut.trans (kb2_ HK.out GW610.out GW629.out) hk (.inl rfl)); replace HB := Aside0.mk (hb); replace HI0 := Aside0.mk (hi); (try clear hb); (try clear hb2); (try clear hk); (try clear hi)) | ((with_reducible refine gate_dst (N := 31) rfl ?_); refine Kd.R_lit (Kd.int .i64) _ 3 ?hg (N := 31) ?hd (xs := ([(-1), 100] : List Int)) (inner := [.int .i64 (-1), .int .i64 100]) (ok := fun _ => True) (okp := fun _ => True) ?hr ?hp (fun _ hk => hk) trivial (Below.refl _ _) (Nat.le_refl _) (by simp) ?_; (case hd => rfl); (case hg => rfl); (case hr => first | (go_simp; done) | (go_simp; rfl)); (case hp => exact (Reps.one (show Kd.M (Kd.int .i64) _ _ _ (-1) [.int .i64 (-1)] from rfl) (Reps.one (show Kd.M (Kd.int .i64) _ _ _ 100 [.int .i64 100] from rfl) (Reps.none _ _)))); intro v646 w80 ho81 hb hg_ hnew_; clear hg_ hnew_; replace ho81 := ry_ Ny645.out ho81; replace HO613 := Aside0.mk (Kd.R_below (kr_ HO613.out) hb); have HO647 := Aside0.mk (Kd.R_lower (Kd.R_new' (Kd.R_new' ho81 (Kd.R_lt (kr_ HO619.out))) (Kd.R_lt (kr_ HO625.out))) (keep_size (w := w) (g := g) (row := none) (kb2_ HK.out GW610.out GW629.out))); replace HO619 := Aside0.mk (Kd.R_elder' (kr_ HO619.out) (Kd.R_base ho81) hb); replace HO625 := Aside0.mk (Kd.R_elder' (kr_ HO625.out) (Kd.R_base ho81) hb); replace BK610 := Aside0.mk (bb_ (bk_ BK610.out) hb); replace BK629 := Aside0.mk (bb_ (bk_ BK629.out) hb); replace HK := Aside0.mk (KeepBut.trans (kb2_ HK.out GW610.out GW629.out) (KeepBut.of_below hb g none) (.inl rfl)); replace HB := Aside0.mk (below_step (lb3_ HB.out (IsS99.ge HI0.out) GE610.out GE629.out) hb); replace HI0 := Aside0.mk (IsS99.below (is99_2 HI0.out NB0_610.out NB0_629.out) hb); clear hb ho81; obtain ⟨Ao82, co82, eo82⟩ := Kd.R_slice HO647.out; subst eo82) | ((with_reducible refine gate_callee (f := 88) rfl ?_); refine ga_ (some 32) Tryd.func88 #[.pointer (some ⟨g, 0, none⟩), .slice Ao82 y645.length co82] ?_; (with_reducible refine (spec_l1Cur_among.calls g s0_0 t631 t632 _ _ y645 t648 t649 t650 w0 _ ?side1 ?side2 ?side3 ?side4 ?side5 A61.out).mono ?_); (case side1 => exact is99_2 HI0.out NB0_610.out NB0_629.out); (case side2 => exact lb3_ HB.out (IsS99.ge HI0.out) GE610.out GE629.out); (case side3 => exact kc_ (Kd.R_reads' HO647.out).2.2); (case side4 => exact (Kd.R_reads' HO647.out).2.1); (case side5 => exact far_slice (IsS99.own_ne HI0.out HO647.out (by decide))); rintro e w83 ⟨rfl, hi, hb, hk⟩; refine ⟨_, rfl, ?_⟩; replace BK610 := Aside0.mk (KeepBut.blk hk (g' := gb610) (o := .cells #[.string (⟨#[]⟩ : ByteArray), .int .i64 0, .int .i64 0] 29 (0, 0)) (bk_ BK610.out) NB610_0.out (by simp)); replace HO613 := Aside0.mk (Kd.R_mono (Kd.R_keep (IsS99.apart (show IsS99 w0 _ g s0_0 t631 t632 from is99_2 HI0.out NB0_610.out NB0_629.out) (kr_ HO613.out) (by decide)) hk (fun _ h => h.2)) (fun _ h => h.1)); replace HO619 := Aside0.mk (Kd.R_mono (Kd.R_keep (IsS99.apart (show IsS99 w0 _ g s0_0 t631 t632 from is99_2 HI0.out NB0_610.out NB0_629.out) (kr_ HO619.out) (by decide)) hk (fun _ h => h.2)) (fun _ h => h.1)); replace HO625 := Aside0.mk (Kd.R_mono (Kd.R_keep (IsS99.apart (show IsS99 w0 _ g s0_0 t631 t632 from is99_2 HI0.out NB0_610.out NB0_629.out) (kr_ HO625.out) (by decide)) hk (fun _ h => h.2)) (fun _ h => h.1)); replace BK629 := Aside0.mk (KeepBut.blk hk (g' := gb629) (o := .cells #[.string t614, .int .i64 t620, .int .i64 t626] 29 (0, 0)) (bk_ BK629.out) NB629_0.out (by simp)); replace HO647 := Aside0.mk (Kd.R_mono (Kd.R_keep (IsS99.apart (show IsS99 w0 _ g s0_0 t631 t632 from is99_2 HI0.out NB0_610.out NB0_629.out) (kr_ HO647.out) (by decide)) hk (fun _ h => h.2)) (fun _ h => h.1)); replace HK := Aside0.mk (KeepBut.trans (kb2_ HK.out GW610.out GW629.out) hk (.inl rfl)); replace HB := Aside0.mk (hb); replace HI0 := Aside0.mk (hi); (try clear hb); (try clear hb2); (try clear hk); (try clear hi); obtain ⟨hcz84_0, hcz84_1, hcz84_2⟩ := cz3_ BK629.out; obtain ⟨hfz84_0, hfz84_1, hfz84_2⟩ := fz3_ BK629.out; have hnb85 := NB610_0.out; have hnc85 := NB0_610.out; obtain ⟨hcz86_0, hcz86_1, hcz86_2⟩ := cz3_ BK610.out; obtain ⟨hfz86_0, hfz86_1, hfz86_2⟩ := fz3_ BK610.out))
    refine bodyPost_ret (results_cell_row rfl _ _ gb610 29 #[.string t614, .int .i64 t620, .int .i64 t648] (0, 0) _ rfl (by (with_reducible repeat (first | refine blk_drewN ?_ _ | refine blk_drew ?_ | refine blk_alloc ?_ _)); refine blk_put (cs := #[.string t614, .int .i64 t620, .int .i64 0]) ?_ 2 _ rfl; (with_reducible repeat (first | refine blk_drewN ?_ _ | refine blk_drew ?_ | refine blk_alloc ?_ _)); refine blk_put (cs := #[.string t614, .int .i64 0, .int .i64 0]) ?_ 1 _ rfl; (with_reducible repeat (first | refine blk_drewN ?_ _ | refine blk_drew ?_ | refine blk_alloc ?_ _)); refine blk_put (cs := #[.string (⟨#[]⟩ : ByteArray), .int .i64 0, .int .i64 0]) ?_ 0 _ rfl; (with_reducible repeat (first | refine blk_drewN ?_ _ | refine blk_drew ?_ | refine blk_alloc ?_ _)); refine blk_far ?_ NB610_629.out _; (with_reducible repeat (first | refine blk_drewN ?_ _ | refine blk_drew ?_ | refine blk_alloc ?_ _)); exact BK610.out) Tryd.underlying29 rfl (by kernel_rfl)) rfl ?_
    exact ⟨rr_, is99_2 HI0.out NB0_610.out NB0_629.out, lb3_ HB.out (IsS99.ge HI0.out) GE610.out GE629.out, kb2_ HK.out GW610.out GW629.out⟩
   ·
    rw [if_neg c60] at H
    have c60b0 : (t630 == 2) = false := beq_eq_false_iff_ne.mpr c60
    have c60b1 : (t630 != 2) = true := bne_iff_ne.mpr c60
    simp only [Option.some.injEq, Prod.mk.injEq] at H
    obtain ⟨rfl, rfl, rfl, rfl, rfl⟩ := H
    go_enter Tryd.func89, Tryd.ntmps89
    go_wp2_with (first | ((with_reducible refine gate_dst (N := 2) rfl ?_); refine box_event ?hg (N := 2) ?hd (cs := #[.string (⟨#[]⟩ : ByteArray), .int .i64 0, .int .i64 0]) (t := 29) ?hr ?_; (case hd => rfl); (case hg => rfl); (case hr => first | (go_simp; done) | (go_simp; rfl)); intro gb610 hg w87 hbox hb; replace HB := Aside0.mk (below_step (lb1_ HB.out (IsS99.ge HI0.out)) hb); have BK610 := Aside0.mk (hbox); have GW610 := Aside0.mk ((by rw [hg]; exact (keep_size (w := w) (g := g) (row := none) (kb0_ HK.out)) : w.heap.size ≤ gb610)); have GE610 := Aside0.mk ((Nat.le_trans HW0.out (by rw [hg]; exact (keep_size (w := w) (g := g) (row := none) (kb0_ HK.out)) : w.heap.size ≤ gb610) : w0.heap.size ≤ gb610)); replace HK := Aside0.mk (KeepBut.trans (kb0_ HK.out) (KeepBut.of_below hb g none) (.inl rfl)); have NB0_610 := Aside0.mk ((by rw [hg]; exact Nat.ne_of_lt (IsS99.lt (show IsS99 w0 _ g s0_0 s0_1 s0_2 from is99_0 HI0.out)) : g ≠ gb610)); have NB610_0 := Aside0.mk ((by rw [hg]; exact Nat.ne_of_gt (IsS99.lt (show IsS99 w0 _ g s0_0 s0_1 s0_2 from is99_0 HI0.out)) : gb610 ≠ g)); replace HI0 := Aside0.mk (IsS99.below (is99_0 HI0.out) hb); clear hb hbox hg) | ((with_reducible refine gate_dst (N := 5) rfl ?_); refine Kd.R_lit Kd.string _ 9 ?hg (N := 5) ?hd (xs := ([(⟨#[97]⟩ : ByteArray), (⟨#[115, 117, 109, 112]⟩ : ByteArray), (⟨#[98, 105, 103]⟩ : ByteArray), (⟨#[104, 97, 108, 108]⟩ : ByteArray), (⟨#[108, 111, 110, 103, 110, 97, 109, 101]⟩ : ByteArray), (⟨#[97, 98, 99, 100, 101, 102, 103, 104, 105, 106]⟩ : ByteArray)] : List ByteArray)) (inner := [.string (⟨#[97]⟩ : ByteArray), .string (⟨#[115, 117, 109, 112]⟩ : ByteArray), .string (⟨#[98, 105, 103]⟩ : ByteArray), .string (⟨#[104, 97, 108, 108]⟩ : ByteArray), .string (⟨#[108, 111, 110, 103, 110, 97, 109, 101]⟩ : ByteArray), .string (⟨#[97, 98, 99, 100, 101, 102, 103, 104, 105, 106]⟩ : ByteArray)]) (ok := fun _ => True) (okp := fun _ => True) ?hr ?hp (fun _ hk => hk) trivial (Below.refl _ _) (Nat.le_refl _) (by simp) ?_; (case hd => rfl); (case hg => rfl); (case hr => first | (go_simp; done) | (go_simp; rfl)); (case hp => exact (Reps.one (show Kd.M Kd.string _ _ _ (⟨#[97]⟩ : ByteArray) [.string (⟨#[97]⟩ : ByteArray)] from rfl) (Reps.one (show Kd.M Kd.string _ _ _ (⟨#[115, 117, 109, 112]⟩ : ByteArray) [.string (⟨#[115, 117, 109, 112]⟩ : ByteArray)] from rfl) (Reps.one (show Kd.M Kd.string _ _ _ (⟨#[98, 105, 103]⟩ : ByteArray) [.string (⟨#[98, 105, 103]⟩ : ByteArray)] from rfl) (Reps.one (show Kd.M Kd.string _ _ _ (⟨#[104, 97, 108, 108]⟩ : ByteArray) [.string (⟨#[104, 97, 108, 108]⟩ : ByteArray)] from rfl) (Reps.one (show Kd.M Kd.string _ _ _ (⟨#[108, 111, 110, 103, 110, 97, 109, 101]⟩ : ByteArray) [.string (⟨#[108, 111, 110, 103, 110, 97, 109, 101]⟩ : ByteArray)] from rfl) (Reps.one (show Kd.M Kd.string _ _ _ (⟨#[97, 98, 99, 100, 101, 102, 103, 104, 105, 106]⟩ : ByteArray) [.string (⟨#[97, 98, 99, 100, 101, 102, 103, 104, 105, 106]⟩ : ByteArray)] from rfl) (Reps.none _ _)))))))); intro v612 w88 ho89 hb hg_ hnew_; clear hg_ hnew_; replace ho89 := ry_ Ny611.out ho89; have HO613 := Aside0.mk (Kd.R_lower ho89 (keep_size (w := w) (g := g) (row := none) (kb1_ HK.out GW610.out))); replace BK610 := Aside0.mk (bb_ (bk_ BK610.out) hb); replace HK := Aside0.mk (KeepBut.trans (kb1_ HK.out GW610.out) (KeepBut.of_below hb g none) (.inl rfl)); replace HB := Aside0.mk (below_step (lb2_ HB.out (IsS99.ge HI0.out) GE610.out) hb); replace HI0 := Aside0.mk (IsS99.below (is99_1 HI0.out NB0_610.out) hb); clear hb ho89; obtain ⟨Ao90, co90, eo90⟩ := Kd.R_slice HO613.out; subst eo90) | ((with_reducible refine gate_callee (f := 108) rfl ?_); refine ga_ (some 6) Tryd.func108 #[.pointer (some ⟨g, 0, none⟩), .slice Ao90 y611.length co90] ?_; (with_reducible refine (spec_l1Cur_of.calls g s0_0 s0_1 s0_2 _ _ y611 t614 t615 t616 w0 _ ?side1 ?side2 ?side3 ?side4 ?side5 A2.out).mono ?_); (case side1 => exact is99_1 HI0.out NB0_610.out); (case side2 => exact lb2_ HB.out (IsS99.ge HI0.out) GE610.out); (case side3 => exact kc_ (Kd.R_reads' HO613.out).2.2); (case side4 => exact (Kd.R_reads' HO613.out).2.1); (case side5 => exact far_slice (IsS99.own_ne HI0.out HO613.out (by decide))); rintro e w91 ⟨rfl, hi, hb, hk⟩; refine ⟨_, rfl, ?_⟩; replace BK610 := Aside0.mk (KeepBut.blk hk (g' := gb610) (o := .cells #[.string (⟨#[]⟩ : ByteArray), .int .i64 0, .int .i64 0] 29 (0, 0)) (bk_ BK610.out) NB610_0.out (by simp)); replace HO613 := Aside0.mk (Kd.R_mono (Kd.R_keep (IsS99.apart (show IsS99 w0 _ g s0_0 s0_1 s0_2 from is99_1 HI0.out NB0_610.out) (kr_ HO613.out) (by decide)) hk (fun _ h => h.2)) (fun _ h => h.1)); replace HK := Aside0.mk (KeepBut.trans (kb1_ HK.out GW610.out) hk (.inl rfl)); replace HB := Aside0.mk (hb); replace HI0 := Aside0.mk (hi); (try clear hb); (try clear hb2); (try clear hk); (try clear hi)) | ((with_reducible refine gate_dst (N := 8) rfl ?_); refine Kd.R_lit (Kd.int .i64) _ 3 ?hg (N := 8) ?hd (xs := ([0, 5, 9, 12, 13, 99] : List Int)) (inner := [.int .i64 0, .int .i64 5, .int .i64 9, .int .i64 12, .int .i64 13, .int .i64 99]) (ok := fun _ => True) (okp := fun _ => True) ?hr ?hp (fun _ hk => hk) trivial (Below.refl _ _) (Nat.le_refl _) (by simp) ?_; (case hd => rfl); (case hg => rfl); (case hr => first | (go_simp; done) | (go_simp; rfl)); (case hp => exact (Reps.one (show Kd.M (Kd.int .i64) _ _ _ 0 [.int .i64 0] from rfl) (Reps.one (show Kd.M (Kd.int .i64) _ _ _ 5 [.int .i64 5] from rfl) (Reps.one (show Kd.M (Kd.int .i64) _ _ _ 9 [.int .i64 9] from rfl) (Reps.one (show Kd.M (Kd.int .i64) _ _ _ 12 [.int .i64 12] from rfl) (Reps.one (show Kd.M (Kd.int .i64) _ _ _ 13 [.int .i64 13] from rfl) (Reps.one (show Kd.M (Kd.int .i64) _ _ _ 99 [.int .i64 99] from rfl) (Reps.none _ _)))))))); intro v618 w92 ho93 hb hg_ hnew_; clear hg_ hnew_; replace ho93 := ry_ Ny617.out ho93; replace HO613 := Aside0.mk (Kd.R_below (kr_ HO613.out) hb); have HO619 := Aside0.mk (Kd.R_lower ho93 (keep_size (w := w) (g := g) (row := none) (kb1_ HK.out GW610.out))); replace BK610 := Aside0.mk (bb_ (bk_ BK610.out) hb); replace HK := Aside0.mk (KeepBut.trans (kb1_ HK.out GW610.out) (KeepBut.of_below hb g none) (.inl rfl)); replace HB := Aside0.mk (below_step (lb2_ HB.out (IsS99.ge HI0.out) GE610.out) hb); replace HI0 := Aside0.mk (IsS99.below (is99_1 HI0.out NB0_610.out) hb); clear hb ho93; obtain ⟨Ao94, co94, eo94⟩ := Kd.R_slice HO619.out; subst eo94) | ((with_reducible refine gate_callee (f := 88) rfl ?_); refine ga_ (some 9) Tryd.func88 #[.pointer (some ⟨g, 0, none⟩), .slice Ao94 y617.length co94] ?_; (with_reducible refine (spec_l1Cur_among.calls g s0_0 t615 t616 _ _ y617 t620 t621 t622 w0 _ ?side1 ?side2 ?side3 ?side4 ?side5 A3.out).mono ?_); (case side1 => exact is99_1 HI0.out NB0_610.out); (case side2 => exact lb2_ HB.out (IsS99.ge HI0.out) GE610.out); (case side3 => exact kc_ (Kd.R_reads' HO619.out).2.2); (case side4 => exact (Kd.R_reads' HO619.out).2.1); (case side5 => exact far_slice (IsS99.own_ne HI0.out HO619.out (by decide))); rintro e w95 ⟨rfl, hi, hb, hk⟩; refine ⟨_, rfl, ?_⟩; replace BK610 := Aside0.mk (KeepBut.blk hk (g' := gb610) (o := .cells #[.string (⟨#[]⟩ : ByteArray), .int .i64 0, .int .i64 0] 29 (0, 0)) (bk_ BK610.out) NB610_0.out (by simp)); replace HO613 := Aside0.mk (Kd.R_mono (Kd.R_keep (IsS99.apart (show IsS99 w0 _ g s0_0 t615 t616 from is99_1 HI0.out NB0_610.out) (kr_ HO613.out) (by decide)) hk (fun _ h => h.2)) (fun _ h => h.1)); replace HO619 := Aside0.mk (Kd.R_mono (Kd.R_keep (IsS99.apart (show IsS99 w0 _ g s0_0 t615 t616 from is99_1 HI0.out NB0_610.out) (kr_ HO619.out) (by decide)) hk (fun _ h => h.2)) (fun _ h => h.1)); replace HK := Aside0.mk (KeepBut.trans (kb1_ HK.out GW610.out) hk (.inl rfl)); replace HB := Aside0.mk (hb); replace HI0 := Aside0.mk (hi); (try clear hb); (try clear hb2); (try clear hk); (try clear hi)) | ((with_reducible refine gate_dst (N := 11) rfl ?_); refine Kd.R_lit (Kd.int .i64) _ 3 ?hg (N := 11) ?hd (xs := ([0, 1, 8, 10, 11, 99] : List Int)) (inner := [.int .i64 0, .int .i64 1, .int .i64 8, .int .i64 10, .int .i64 11, .int .i64 99]) (ok := fun _ => True) (okp := fun _ => True) ?hr ?hp (fun _ hk => hk) trivial (Below.refl _ _) (Nat.le_refl _) (by simp) ?_; (case hd => rfl); (case hg => rfl); (case hr => first | (go_simp; done) | (go_simp; rfl)); (case hp => exact (Reps.one (show Kd.M (Kd.int .i64) _ _ _ 0 [.int .i64 0] from rfl) (Reps.one (show Kd.M (Kd.int .i64) _ _ _ 1 [.int .i64 1] from rfl) (Reps.one (show Kd.M (Kd.int .i64) _ _ _ 8 [.int .i64 8] from rfl) (Reps.one (show Kd.M (Kd.int .i64) _ _ _ 10 [.int .i64 10] from rfl) (Reps.one (show Kd.M (Kd.int .i64) _ _ _ 11 [.int .i64 11] from rfl) (Reps.one (show Kd.M (Kd.int .i64) _ _ _ 99 [.int .i64 99] from rfl) (Reps.none _ _)))))))); intro v624 w96 ho97 hb hg_ hnew_; clear hg_ hnew_; replace ho97 := ry_ Ny623.out ho97; replace HO613 := Aside0.mk (Kd.R_below (kr_ HO613.out) hb); have HO625 := Aside0.mk (Kd.R_lower (Kd.R_new' ho97 (Kd.R_lt (kr_ HO619.out))) (keep_size (w := w) (g := g) (row := none) (kb1_ HK.out GW610.out))); replace HO619 := Aside0.mk (Kd.R_elder' (kr_ HO619.out) (Kd.R_base ho97) hb); replace BK610 := Aside0.mk (bb_ (bk_ BK610.out) hb); replace HK := Aside0.mk (KeepBut.trans (kb1_ HK.out GW610.out) (KeepBut.of_below hb g none) (.inl rfl)); replace HB := Aside0.mk (below_step (lb2_ HB.out (IsS99.ge HI0.out) GE610.out) hb); replace HI0 := Aside0.mk (IsS99.below (is99_1 HI0.out NB0_610.out) hb); clear hb ho97; obtain ⟨Ao98, co98, eo98⟩ := Kd.R_slice HO625.out; subst eo98) | ((with_reducible refine gate_callee (f := 88) rfl ?_); refine ga_ (some 12) Tryd.func88 #[.pointer (some ⟨g, 0, none⟩), .slice Ao98 y623.length co98] ?_; (with_reducible refine (spec_l1Cur_among.calls g s0_0 t621 t622 _ _ y623 t626 t627 t628 w0 _ ?side1 ?side2 ?side3 ?side4 ?side5 A4.out).mono ?_); (case side1 => exact is99_1 HI0.out NB0_610.out); (case side2 => exact lb2_ HB.out (IsS99.ge HI0.out) GE610.out); (case side3 => exact kc_ (Kd.R_reads' HO625.out).2.2); (case side4 => exact (Kd.R_reads' HO625.out).2.1); (case side5 => exact far_slice (IsS99.own_ne HI0.out HO625.out (by decide))); rintro e w99 ⟨rfl, hi, hb, hk⟩; refine ⟨_, rfl, ?_⟩; replace BK610 := Aside0.mk (KeepBut.blk hk (g' := gb610) (o := .cells #[.string (⟨#[]⟩ : ByteArray), .int .i64 0, .int .i64 0] 29 (0, 0)) (bk_ BK610.out) NB610_0.out (by simp)); replace HO613 := Aside0.mk (Kd.R_mono (Kd.R_keep (IsS99.apart (show IsS99 w0 _ g s0_0 t621 t622 from is99_1 HI0.out NB0_610.out) (kr_ HO613.out) (by decide)) hk (fun _ h => h.2)) (fun _ h => h.1)); replace HO619 := Aside0.mk (Kd.R_mono (Kd.R_keep (IsS99.apart (show IsS99 w0 _ g s0_0 t621 t622 from is99_1 HI0.out NB0_610.out) (kr_ HO619.out) (by decide)) hk (fun _ h => h.2)) (fun _ h => h.1)); replace HO625 := Aside0.mk (Kd.R_mono (Kd.R_keep (IsS99.apart (show IsS99 w0 _ g s0_0 t621 t622 from is99_1 HI0.out NB0_610.out) (kr_ HO625.out) (by decide)) hk (fun _ h => h.2)) (fun _ h => h.1)); replace HK := Aside0.mk (KeepBut.trans (kb1_ HK.out GW610.out) hk (.inl rfl)); replace HB := Aside0.mk (hb); replace HI0 := Aside0.mk (hi); (try clear hb); (try clear hb2); (try clear hk); (try clear hi)) | ((with_reducible refine gate_dst (N := 3) rfl ?_); refine box_event ?hg (N := 3) ?hd (cs := #[.string (⟨#[]⟩ : ByteArray), .int .i64 0, .int .i64 0]) (t := 29) ?hr ?_; (case hd => rfl); (case hg => rfl); (case hr => first | (go_simp; done) | (go_simp; rfl)); intro gb629 hg w100 hbox hb; replace HO613 := Aside0.mk (Kd.R_below (kr_ HO613.out) hb); replace HO619 := Aside0.mk (Kd.R_below (kr_ HO619.out) hb); replace HO625 := Aside0.mk (Kd.R_below (kr_ HO625.out) hb); replace HB := Aside0.mk (below_step (lb2_ HB.out (IsS99.ge HI0.out) GE610.out) hb); have BK629 := Aside0.mk (hbox); have GW629 := Aside0.mk ((by rw [hg]; exact (keep_size (w := w) (g := g) (row := none) (kb1_ HK.out GW610.out)) : w.heap.size ≤ gb629)); have GE629 := Aside0.mk ((Nat.le_trans HW0.out (by rw [hg]; exact (keep_size (w := w) (g := g) (row := none) (kb1_ HK.out GW610.out)) : w.heap.size ≤ gb629) : w0.heap.size ≤ gb629)); replace HK := Aside0.mk (KeepBut.trans (kb1_ HK.out GW610.out) (KeepBut.of_below hb g none) (.inl rfl)); have NB610_629 := Aside0.mk (nl_ hg BK610.out); have NB629_610 := Aside0.mk (ng_ hg BK610.out); replace BK610 := Aside0.mk (bb_ (bk_ BK610.out) hb); have NB0_629 := Aside0.mk ((by rw [hg]; exact Nat.ne_of_lt (IsS99.lt (show IsS99 w0 _ g s0_0 t627 t628 from is99_1 HI0.out NB0_610.out)) : g ≠ gb629)); have NB629_0 := Aside0.mk ((by rw [hg]; exact Nat.ne_of_gt (IsS99.lt (show IsS99 w0 _ g s0_0 t627 t628 from is99_1 HI0.out NB0_610.out)) : gb629 ≠ g)); replace HI0 := Aside0.mk (IsS99.below (is99_1 HI0.out NB0_610.out) hb); clear hb hbox hg; have hnb101 := NB629_610.out; have hnc101 := NB610_629.out; have hnb102 := NB629_0.out; have hnc102 := NB0_629.out; obtain ⟨hcz103_0, hcz103_1, hcz103_2⟩ := cz3_ BK629.out; obtain ⟨hfz103_0, hfz103_1, hfz103_2⟩ := fz3_ BK629.out) | ((with_reducible refine gate_callee (f := 86) rfl ?_); refine ga_ (some 15) Tryd.func86 #[.pointer (some ⟨g, 0, none⟩), .int .i64 60] ?_; (with_reducible refine (spec_l1Cur_pick.calls g s0_0 t627 t628 60 t630 t631 t632 w0 _ ?side1 ?side2 A5.out).mono ?_); (case side1 => exact is99_2 HI0.out NB0_610.out NB0_629.out); (case side2 => exact lb3_ HB.out (IsS99.ge HI0.out) GE610.out GE629.out); rintro e w104 ⟨rfl, hi, hb, hk⟩; refine ⟨_, rfl, ?_⟩; replace BK610 := Aside0.mk (KeepBut.blk hk (g' := gb610) (o := .cells #[.string (⟨#[]⟩ : ByteArray), .int .i64 0, .int .i64 0] 29 (0, 0)) (by (with_reducible repeat (first | refine blk_drewN ?_ _ | refine blk_drew ?_ | refine blk_alloc ?_ _)); exact (f3_ BK610.out NB610_629.out _ _ _)) NB610_0.out (by simp)); replace HO613 := Aside0.mk (Kd.R_mono (Kd.R_keep (IsS99.apart (show IsS99 w0 _ g s0_0 t627 t628 from is99_2 HI0.out NB0_610.out NB0_629.out) (kg_ HO613.out BK629.out) (by decide)) hk (fun _ h => h.2)) (fun _ h => h.1)); replace HO619 := Aside0.mk (Kd.R_mono (Kd.R_keep (IsS99.apart (show IsS99 w0 _ g s0_0 t627 t628 from is99_2 HI0.out NB0_610.out NB0_629.out) (kg_ HO619.out BK629.out) (by decide)) hk (fun _ h => h.2)) (fun _ h => h.1)); replace HO625 := Aside0.mk (Kd.R_mono (Kd.R_keep (IsS99.apart (show IsS99 w0 _ g s0_0 t627 t628 from is99_2 HI0.out NB0_610.out NB0_629.out) (kg_ HO625.out BK629.out) (by decide)) hk (fun _ h => h.2)) (fun _ h => h.1)); replace BK629 := Aside0.mk (KeepBut.blk hk (g' := gb629) (o := .cells #[.string t614, .int .i64 t620, .int .i64 t626] 29 (0, 0)) (by (with_reducible repeat (first | refine blk_drewN ?_ _ | refine blk_drew ?_ | refine blk_alloc ?_ _)); exact (p3_ BK629.out _ _ _)) NB629_0.out (by simp)); replace HK := Aside0.mk (KeepBut.trans (kb2_ HK.out GW610.out GW629.out) hk (.inl rfl)); replace HB := Aside0.mk (hb); replace HI0 := Aside0.mk (hi); (try clear hb); (try clear hb2); (try clear hk); (try clear hi); obtain ⟨hcz105_0, hcz105_1, hcz105_2⟩ := cz3_ BK629.out; obtain ⟨hfz105_0, hfz105_1, hfz105_2⟩ := fz3_ BK629.out; have hnb106 := NB610_0.out; have hnc106 := NB0_610.out; obtain ⟨hcz107_0, hcz107_1, hcz107_2⟩ := cz3_ BK610.out; obtain ⟨hfz107_0, hfz107_1, hfz107_2⟩ := fz3_ BK610.out))
    refine bodyPost_ret (results_cell_row rfl _ _ gb610 29 #[.string t614, .int .i64 t620, .int .i64 t626] (0, 0) _ rfl (by (with_reducible repeat (first | refine blk_drewN ?_ _ | refine blk_drew ?_ | refine blk_alloc ?_ _)); refine blk_put (cs := #[.string t614, .int .i64 t620, .int .i64 0]) ?_ 2 _ rfl; (with_reducible repeat (first | refine blk_drewN ?_ _ | refine blk_drew ?_ | refine blk_alloc ?_ _)); refine blk_put (cs := #[.string t614, .int .i64 0, .int .i64 0]) ?_ 1 _ rfl; (with_reducible repeat (first | refine blk_drewN ?_ _ | refine blk_drew ?_ | refine blk_alloc ?_ _)); refine blk_put (cs := #[.string (⟨#[]⟩ : ByteArray), .int .i64 0, .int .i64 0]) ?_ 0 _ rfl; (with_reducible repeat (first | refine blk_drewN ?_ _ | refine blk_drew ?_ | refine blk_alloc ?_ _)); exact BK610.out) Tryd.underlying29 rfl (by kernel_rfl)) rfl ?_
    exact ⟨rr_, is99_2 HI0.out NB0_610.out NB0_629.out, lb3_ HB.out (IsS99.ge HI0.out) GE610.out GE629.out, kb2_ HK.out GW610.out GW629.out⟩
def drawBoxL_ : List Int := [0, 1, 2, 3, (-1), 4]
def spec_DrawBoxFor.f (l0 : List Int) : Option (ByteArray × Int × Int × Int) :=
 (spec_newCur.f l0).bind fun b0 => (spec_l1Cur_label.f b0.1 b0.2.1 b0.2.2).bind fun b1 => (spec_l1Cur_pick.f b0.1 b1.2.2.2.1 b1.2.2.2.2 24).bind fun b2 =>
  if 0 ≤ b2.1 ∧ b2.1 < 24 then (spec_l1Cur_among.f b0.1 b2.2.1 b2.2.2 (drawBoxL_.take (4 + b2.1 / 11).toNat)).bind fun b3 => some (b1.1, b1.2.1, b1.2.2.1, b3.1) else none
set_option maxHeartbeats 8000000 in
set_option maxRecDepth 100000 in
theorem spec_DrawBoxFor.calls (A0 : Option Addr) (c0 : Nat) (l0 : List Int) (r1 : ByteArray) (r2 : Int) (r3 : Int) (r4 : Int) (w : World) (hr0 : Kd.C (Kd.int .u8) w A0 l0.length l0) (hc0 : l0.length ≤ c0) (h : spec_DrawBoxFor.f l0 = some (r1, r2, r3, r4)) :
  Calls Tryd.prog 48 #[.slice A0 l0.length c0] w fun e w' => e = .returned (.tuple #[.agg #[.string r1, .int .i64 r2, .int .i64 r3], .int .i64 r4]) ∧ Below w.heap.size w w' := by
 have hu := Tryd.underlying99
 have hu29 := Tryd.underlying29
 have HR0 := Aside0.mk hr0
 have HC0 := Aside0.mk hc0
 clear hr0 hc0
 have HB := Aside0.mk (Below.refl w.heap.size w)
 unfold spec_DrawBoxFor.f at h
 replace h := Option.bind_eq_some_iff.mp h
 obtain ⟨⟨x, p0, s0⟩, e0, h⟩ := h
 replace h := Option.bind_eq_some_iff.mp h
 obtain ⟨⟨n, lx, ly, p1, s1⟩, e1, h⟩ := h
 replace h := Option.bind_eq_some_iff.mp h
 obtain ⟨⟨t, p2, s2⟩, e2, h⟩ := h
 by_cases hb : 0 ≤ t ∧ t < 24
 ·
  rw [if_pos hb] at h
  replace h := Option.bind_eq_some_iff.mp h
  obtain ⟨⟨y, p3, s3⟩, e3, h⟩ := h
  simp only [Option.some.injEq, Prod.mk.injEq] at h
  obtain ⟨rfl, rfl, rfl, rfl⟩ := h
  simp only at e1 e2 e3
  have A0_ := Aside0.mk e0
  have A1_ := Aside0.mk e1
  have A2_ := Aside0.mk e2
  obtain ⟨q, hq⟩ : ∃ q, q = drawBoxL_.take (4 + t / 11).toNat := ⟨_, rfl⟩
  have hql : (4 + t / 11).toNat = q.length := by rw [hq, List.length_take]; show _ = min _ 6; omega
  have hqt : (q.length : Int) = 4 + t / 11 := by omega
  have hq7 : q.length ≤ 6 := by omega
  rw [← hq] at e3
  have A3_ := Aside0.mk e3
  have HQ := Aside0.mk hq
  have HQL := Aside0.mk hql
  have d1 : wrap64 (Int.tdiv t 11) = t / 11 := by rw [Int.tdiv_eq_ediv_of_nonneg hb.1]; unfold wrap64; omega
  have d2 : wrap64 (4 + t / 11) = 4 + t / 11 := by unfold wrap64; omega
  have d3 : decide (0 ≤ 4 + t / 11) = true := decide_eq_true (by omega)
  clear e0 e1 e2 e3 hq hql
  go_enter Tryd.func48, Tryd.ntmps48
  go_wp2_with (first
   | ((with_reducible refine gate_dst (N := 2) rfl ?_); refine box_event ?hg (N := 2) ?hd (cs := #[.string ByteArray.empty, .int .i64 0, .int .i64 0]) (t := 29) ?hr ?_; (case hd => rfl); (case hg => rfl); (case hr => first | (go_simp; done) | (go_simp; rfl)); intro gb hg w4 hbox hb2; have BK := Aside0.mk hbox; have GE := Aside0.mk (bz_ hg HB.out); replace HB := Aside0.mk (below_step HB.out hb2); clear hg hbox hb2)
   | ((with_reducible refine gate_dst (N := 7) rfl ?_); refine box_event ?hg (N := 7) ?hd (cs := #[.slice A0 l0.length c0, .int .i64 0, .int .u64 0]) (t := 99) ?hr ?_; (case hd => rfl); (case hg => rfl); (case hr => first | (go_simp; done) | (go_simp; rfl)); intro g hg w5 hbx hb2; have hb3 := below_step HB.out hb2; have hi : IsS99 w w5 g x p0 s0 := (by have hz_ := A0_.out; simp only [spec_newCur.f, Option.some.injEq, Prod.mk.injEq] at hz_; rw [← hz_.1, ← hz_.2.1, ← hz_.2.2]; exact ⟨_, _, hbx, (by rw [hg]; exact HB.out.size : w.heap.size ≤ g), HR0.out⟩); replace BK := Aside0.mk (bb_ BK.out hb2); have NE := Aside0.mk (Ne.symm (IsS99.ne_blk hi BK.out (by decide))); clear hg hbx hb2 HB; have HB := Aside0.mk hb3; have HI := Aside0.mk hi; clear hb3 hi)
   | (go_at_call 89; (with_reducible refine (spec_l1Cur_label.calls g x p0 s0 n lx ly p1 s1 w _ HI.out HB.out A1_.out).mono ?_); rintro e w6 ⟨rfl, hi, hb3, hk⟩; replace BK := Aside0.mk (KeepBut.blk hk BK.out NE.out (by simp)); clear HI HB; have HB := Aside0.mk hb3; have HI := Aside0.mk hi; clear hb3 hi hk)
   | ((with_reducible refine gate_dst (N := 11) rfl ?_); refine Kd.R_lit (Kd.int .i64) _ 3 ?hg (N := 11) ?hd (xs := drawBoxL_) (inner := [.int .i64 0, .int .i64 1, .int .i64 2, .int .i64 3, .int .i64 (-1), .int .i64 4]) (ok := fun _ => True) (okp := fun _ => True) ?hr ?hp (fun _ hk => hk) trivial (Below.refl _ _) (Nat.le_refl _) (by decide) ?_; (case hd => rfl); (case hg => rfl); (case hr => first | (go_simp; done) | (go_simp; rfl)); (case hp => exact (Reps.one (show Kd.M (Kd.int .i64) _ _ _ 0 [.int .i64 0] from rfl) (Reps.one (show Kd.M (Kd.int .i64) _ _ _ 1 [.int .i64 1] from rfl) (Reps.one (show Kd.M (Kd.int .i64) _ _ _ 2 [.int .i64 2] from rfl) (Reps.one (show Kd.M (Kd.int .i64) _ _ _ 3 [.int .i64 3] from rfl) (Reps.one (show Kd.M (Kd.int .i64) _ _ _ (-1) [.int .i64 (-1)] from rfl) (Reps.one (show Kd.M (Kd.int .i64) _ _ _ 4 [.int .i64 4] from rfl) (Reps.none _ _)))))))); intro v7 w7 ho hb3 hg_ hnew_; clear hg_ hnew_; have HO7 := Aside0.mk (Kd.R_lower ho HB.out.size); replace BK := Aside0.mk (bb_ BK.out hb3); have n1 := Aside0.mk (IsS99.below HI.out hb3); have n2 := Aside0.mk (below_step HB.out hb3); clear HI HB hb3 ho; have HI := n1; have HB := n2; clear n1 n2; obtain ⟨A7, c7, e7⟩ := Kd.R_slice HO7.out; subst e7; have hc7 : drawBoxL_.length ≤ c7 := (Kd.R_reads' HO7.out).2.1; have hc7n : 0 ≤ 4 + t / 11 ∧ 4 + t / 11 ≤ (c7 : Int) := (by have : drawBoxL_.length = 6 := rfl; omega))
   | (go_at_call 86; (with_reducible refine (spec_l1Cur_pick.calls g x p1 s1 24 t p2 s2 w _ HI.out HB.out A2_.out).mono ?_); rintro e w8 ⟨rfl, hi, hb3, hk⟩; replace BK := Aside0.mk (KeepBut.blk hk BK.out NE.out (by simp)); have n1 := Aside0.mk (Kd.R_mono (Kd.R_keep (IsS99.apart HI.out HO7.out (by decide)) hk (fun _ h => h.2)) (fun _ h => h.1)); clear HO7 HI HB; have HO7 := n1; have HI := Aside0.mk hi; have HB := Aside0.mk hb3; clear n1 hi hb3 hk)
   | (rw [HQL.out]; go_at_call 88; (with_reducible refine (spec_l1Cur_among.calls g x p2 s2 _ _ q y p3 s3 w _ HI.out HB.out ?q1 ?q2 ?q3 A3_.out).mono ?_); (case q1 => rw [HQ.out]; exact Kd.C_take (Kd.R_reads' HO7.out).2.2 (by show _ ≤ 6; omega)); (case q2 => have := (Kd.R_reads' HO7.out).2.1; have h7 : drawBoxL_.length = 6 := rfl; omega); (case q3 => exact fun ad e1 e2 => far_slice (IsS99.own_ne HI.out HO7.out (by decide)) ad e1 (by show 0 < 6; decide)); rintro e w9 ⟨rfl, hi, hb3, hk⟩; replace BK := Aside0.mk (KeepBut.blk hk BK.out NE.out (by simp)); clear HO7 HI HB; have HB := Aside0.mk hb3; clear hi hb3 hk; obtain ⟨hcz0, hcz1, hcz2⟩ := cz3_ BK.out; obtain ⟨hfz0, hfz1, hfz2⟩ := fz3_ BK.out))
  refine bodyPost_ret (results_list (rs := [.cell 2 29, .tmp 3]) rfl (by simp) (.cell gb 29 #[.string n, .int .i64 lx, .int .i64 ly] (0, 0) _ rfl (p3_ BK.out _ _ _) Tryd.underlying29 rfl (by kernel_rfl) (.tmp .nil))) rfl ?_
  exact ⟨rr_, lb1_ HB.out GE.out⟩
 ·
  rw [if_neg hb] at h
  cases h
def dmM1_ : List Int := [(-100), 0, 5, 200]
def dmM2_ : List Int := [(-100), 0, 3, 200]
def dmM3_ : List Int := [0, 1, 4, 100]
def dmM4_ : List Int := [0, 2, 100]
def dmL1_ : List Int := [0, 3, 4, (-1)]
def dmL2_ : List Int := [0, 1, 2, (-2)]
def dmL3_ : List Int := [0, 1, 2, 101]
def dmL4_ : List Int := [1, 2, 0, (-1)]
structure DmJ (w : World) (g gb2 gb3 gb5 : Nat) (x : List Int) (ax ay aw ah : Int) (W : World) (st : Int × Int) (c1 c2 c3 c4 : Bool) (v1 v2 v3 v4 : Value) : Prop where
 hB : Below w.heap.size w W
 hI : IsS99 w W g x st.1 st.2
 h2 : W.heap[gb2]? = some (.cells #[.int .i64 0, .int .i64 0, .int .i64 0, .int .i64 0] 26 (0, 0))
 h3 : W.heap[gb3]? = some (.cells #[.int .i64 0, .int .i64 0, .int .i64 0, .int .i64 0] 26 (0, 0))
 h5 : W.heap[gb5]? = some (.cells #[.int .i64 ax, .int .i64 ay, .int .i64 aw, .int .i64 ah] 26 (0, 0))
 l1 : c1 = true → (Kd.int .i64).R 3 W w.heap.size (fun _ => True) v1 dmL1_
 l2 : c2 = true → (Kd.int .i64).R 3 W w.heap.size (fun _ => True) v2 dmL2_
 l3 : c3 = true → (Kd.int .i64).R 3 W w.heap.size (fun _ => True) v3 dmL3_
 l4 : c4 = true → (Kd.int .i64).R 3 W w.heap.size (fun _ => True) v4 dmL4_
theorem DmJ.call {w : World} {g gb2 gb3 gb5 : Nat} {x : List Int} {ax ay aw ah : Int} {W W' : World} {st st' : Int × Int} {c1 c2 c3 c4 : Bool} {v1 v2 v3 v4 : Value} {p s : Int} (h : DmJ w g gb2 gb3 gb5 x ax ay aw ah W st c1 c2 c3 c4 v1 v2 v3 v4) (hb : Below w.heap.size w W') (hi : IsS99 w W' g x p s) (hk : KeepBut W W' g none) (hs : st' = (p, s)) : DmJ w g gb2 gb3 gb5 x ax ay aw ah W' st' c1 c2 c3 c4 v1 v2 v3 v4 := by
 subst hs
 exact ⟨hb, hi, KeepBut.blk hk h.h2 (Ne.symm (IsS99.ne_blk h.hI h.h2 (by decide))) (by simp), KeepBut.blk hk h.h3 (Ne.symm (IsS99.ne_blk h.hI h.h3 (by decide))) (by simp), KeepBut.blk hk h.h5 (Ne.symm (IsS99.ne_blk h.hI h.h5 (by decide))) (by simp), fun e_ => Kd.R_mono (Kd.R_keep (IsS99.apart h.hI (h.l1 e_) (by decide)) hk (fun _ h_ => h_.2)) (fun _ h_ => h_.1), fun e_ => Kd.R_mono (Kd.R_keep (IsS99.apart h.hI (h.l2 e_) (by decide)) hk (fun _ h_ => h_.2)) (fun _ h_ => h_.1), fun e_ => Kd.R_mono (Kd.R_keep (IsS99.apart h.hI (h.l3 e_) (by decide)) hk (fun _ h_ => h_.2)) (fun _ h_ => h_.1), fun e_ => Kd.R_mono (Kd.R_keep (IsS99.apart h.hI (h.l4 e_) (by decide)) hk (fun _ h_ => h_.2)) (fun _ h_ => h_.1)⟩
theorem DmJ.below {w : World} {g gb2 gb3 gb5 : Nat} {x : List Int} {ax ay aw ah : Int} {W W' : World} {st : Int × Int} {c1 c2 c3 c4 : Bool} {v1 v2 v3 v4 : Value} (h : DmJ w g gb2 gb3 gb5 x ax ay aw ah W st c1 c2 c3 c4 v1 v2 v3 v4) (hb : Below W.heap.size W W') : DmJ w g gb2 gb3 gb5 x ax ay aw ah W' st c1 c2 c3 c4 v1 v2 v3 v4 :=
 ⟨below_step h.hB hb, IsS99.below h.hI hb, bb_ h.h2 hb, bb_ h.h3 hb, bb_ h.h5 hb, fun e_ => Kd.R_below (h.l1 e_) hb, fun e_ => Kd.R_below (h.l2 e_) hb, fun e_ => Kd.R_below (h.l3 e_) hb, fun e_ => Kd.R_below (h.l4 e_) hb⟩
theorem DmJ.lit1 {w : World} {g gb2 gb3 gb5 : Nat} {x : List Int} {ax ay aw ah : Int} {W W' : World} {st : Int × Int} {c1 c2 c3 c4 c : Bool} {v1 v2 v3 v4 v : Value} (h : DmJ w g gb2 gb3 gb5 x ax ay aw ah W st c1 c2 c3 c4 v1 v2 v3 v4) (hb : Below W.heap.size W W') (hr : (Kd.int .i64).R 3 W' w.heap.size (fun _ => True) v dmL1_) : DmJ w g gb2 gb3 gb5 x ax ay aw ah W' st c c2 c3 c4 v v2 v3 v4 :=
 ⟨below_step h.hB hb, IsS99.below h.hI hb, bb_ h.h2 hb, bb_ h.h3 hb, bb_ h.h5 hb, fun _ => hr, fun e_ => Kd.R_below (h.l2 e_) hb, fun e_ => Kd.R_below (h.l3 e_) hb, fun e_ => Kd.R_below (h.l4 e_) hb⟩
theorem DmJ.lit2 {w : World} {g gb2 gb3 gb5 : Nat} {x : List Int} {ax ay aw ah : Int} {W W' : World} {st : Int × Int} {c1 c2 c3 c4 c : Bool} {v1 v2 v3 v4 v : Value} (h : DmJ w g gb2 gb3 gb5 x ax ay aw ah W st c1 c2 c3 c4 v1 v2 v3 v4) (hb : Below W.heap.size W W') (hr : (Kd.int .i64).R 3 W' w.heap.size (fun _ => True) v dmL2_) : DmJ w g gb2 gb3 gb5 x ax ay aw ah W' st c1 c c3 c4 v1 v v3 v4 :=
 ⟨below_step h.hB hb, IsS99.below h.hI hb, bb_ h.h2 hb, bb_ h.h3 hb, bb_ h.h5 hb, fun e_ => Kd.R_below (h.l1 e_) hb, fun _ => hr, fun e_ => Kd.R_below (h.l3 e_) hb, fun e_ => Kd.R_below (h.l4 e_) hb⟩
theorem DmJ.lit3 {w : World} {g gb2 gb3 gb5 : Nat} {x : List Int} {ax ay aw ah : Int} {W W' : World} {st : Int × Int} {c1 c2 c3 c4 c : Bool} {v1 v2 v3 v4 v : Value} (h : DmJ w g gb2 gb3 gb5 x ax ay aw ah W st c1 c2 c3 c4 v1 v2 v3 v4) (hb : Below W.heap.size W W') (hr : (Kd.int .i64).R 3 W' w.heap.size (fun _ => True) v dmL3_) : DmJ w g gb2 gb3 gb5 x ax ay aw ah W' st c1 c2 c c4 v1 v2 v v4 :=
 ⟨below_step h.hB hb, IsS99.below h.hI hb, bb_ h.h2 hb, bb_ h.h3 hb, bb_ h.h5 hb, fun e_ => Kd.R_below (h.l1 e_) hb, fun e_ => Kd.R_below (h.l2 e_) hb, fun _ => hr, fun e_ => Kd.R_below (h.l4 e_) hb⟩
theorem DmJ.lit4 {w : World} {g gb2 gb3 gb5 : Nat} {x : List Int} {ax ay aw ah : Int} {W W' : World} {st : Int × Int} {c1 c2 c3 c4 c : Bool} {v1 v2 v3 v4 v : Value} (h : DmJ w g gb2 gb3 gb5 x ax ay aw ah W st c1 c2 c3 c4 v1 v2 v3 v4) (hb : Below W.heap.size W W') (hr : (Kd.int .i64).R 3 W' w.heap.size (fun _ => True) v dmL4_) : DmJ w g gb2 gb3 gb5 x ax ay aw ah W' st c1 c2 c3 c v1 v2 v3 v :=
 ⟨below_step h.hB hb, IsS99.below h.hI hb, bb_ h.h2 hb, bb_ h.h3 hb, bb_ h.h5 hb, fun e_ => Kd.R_below (h.l1 e_) hb, fun e_ => Kd.R_below (h.l2 e_) hb, fun e_ => Kd.R_below (h.l3 e_) hb, fun _ => hr⟩
theorem DmJ.store {w : World} {g gb2 gb3 gb5 : Nat} {x : List Int} {ax ay aw ah : Int} {W : World} {st : Int × Int} {c1 c2 c3 c4 : Bool} {v1 v2 v3 v4 : Value} {gb6 : Nat} (h : DmJ w g gb2 gb3 gb5 x ax ay aw ah W st c1 c2 c3 c4 v1 v2 v3 v4) (h6 : W.heap[gb6]? = some (.cells #[.int .i64 0, .int .i64 0, .int .i64 0, .int .i64 0] 26 (0, 0))) (hge : w.heap.size ≤ gb6) (n2 : gb2 ≠ gb6) (n3 : gb3 ≠ gb6) (n5 : gb5 ≠ gb6) (b0 b1 b2 b3 : Int) : DmJ w g gb2 gb3 gb5 x ax ay aw ah ((((W.setCell ⟨gb6, 0, none⟩ (.int .i64 b0)).setCell ⟨gb6, 1, none⟩ (.int .i64 b1)).setCell ⟨gb6, 2, none⟩ (.int .i64 b2)).setCell ⟨gb6, 3, none⟩ (.int .i64 b3)) st c1 c2 c3 c4 v1 v2 v3 v4 := by
 have ng := IsS99.ne_blk h.hI h6 (by decide)
 exact ⟨below_set (j := 3) (below_set (j := 2) (below_set (j := 1) (below_set (j := 0) h.hB hge) hge) hge) hge, IsS99.far (p := ⟨gb6, 3, none⟩) (IsS99.far (p := ⟨gb6, 2, none⟩) (IsS99.far (p := ⟨gb6, 1, none⟩) (IsS99.far (p := ⟨gb6, 0, none⟩) h.hI ng _) ng _) ng _) ng _, f4_ h.h2 n2 _ _ _ _, f4_ h.h3 n3 _ _ _ _, f4_ h.h5 n5 _ _ _ _, fun e_ => Kd.R_mono (r4_ (h.l1 e_) h6 (by decide) _ _ _ _) (fun _ _ => trivial), fun e_ => Kd.R_mono (r4_ (h.l2 e_) h6 (by decide) _ _ _ _) (fun _ _ => trivial), fun e_ => Kd.R_mono (r4_ (h.l3 e_) h6 (by decide) _ _ _ _) (fun _ _ => trivial), fun e_ => Kd.R_mono (r4_ (h.l4 e_) h6 (by decide) _ _ _ _) (fun _ _ => trivial)⟩
def DmK (w W : World) (gb2 gb3 gb5 gb6 : Nat) (c d : Bool) (fin : Array Value) : Prop := c = true → W.heap[gb6]? = some (.cells (bif d then fin else #[.int .i64 0, .int .i64 0, .int .i64 0, .int .i64 0]) 26 (0, 0)) ∧ w.heap.size ≤ gb6 ∧ gb2 ≠ gb6 ∧ gb3 ≠ gb6 ∧ gb5 ≠ gb6
theorem DmK.call {w W W' : World} {g gb2 gb3 gb5 gb6 : Nat} {c d : Bool} {fin : Array Value} {x : List Int} {p s : Int} (h : DmK w W gb2 gb3 gb5 gb6 c d fin) (hi : IsS99 w W g x p s) (hk : KeepBut W W' g none) : DmK w W' gb2 gb3 gb5 gb6 c d fin := fun e_ =>
 ⟨KeepBut.blk hk (h e_).1 (Ne.symm (IsS99.ne_blk hi (h e_).1 (by decide))) (by simp), (h e_).2⟩
theorem DmK.below {w W W' : World} {gb2 gb3 gb5 gb6 : Nat} {c d : Bool} {fin : Array Value} (h : DmK w W gb2 gb3 gb5 gb6 c d fin) (hb : Below W.heap.size W W') : DmK w W' gb2 gb3 gb5 gb6 c d fin := fun e_ => ⟨bb_ (h e_).1 hb, (h e_).2⟩
def dmS_ (q4 q5 q6 q7 q8 q9 q10 : Int × Int) (c4 c10 c15 c19 c23 c27 : Bool) : Int × Int := bif c27 then q10 else bif c23 then q9 else bif c19 then q8 else bif c15 then q7 else bif c10 then q6 else bif c4 then q5 else q4
def spec_DrawDoMeet.f (l0 : List Int) : Option (Int × Int × Int × Int × Int × Int × Int × Int) :=
 (spec_newCur.f l0).bind fun b0 => (spec_l1Cur_among.f b0.1 b0.2.1 b0.2.2 dmM1_).bind fun b1 => (spec_l1Cur_among.f b0.1 b1.2.1 b1.2.2 dmM2_).bind fun b2 => (spec_l1Cur_among.f b0.1 b2.2.1 b2.2.2 dmM3_).bind fun b3 => (spec_l1Cur_among.f b0.1 b3.2.1 b3.2.2 dmM4_).bind fun b4 =>
 (spec_l1Cur_among.f b0.1 b4.2.1 b4.2.2 dmL1_).bind fun b5 => (spec_l1Cur_among.f b0.1 b5.2.1 b5.2.2 dmL2_).bind fun b6 => (spec_l1Cur_pick.f b0.1 b6.2.1 b6.2.2 24).bind fun b7 =>
  if 0 ≤ b7.1 ∧ b7.1 < 24 then (spec_l1Cur_among.f b0.1 b7.2.1 b7.2.2 (dmL3_.take (3 + b7.1 / 23).toNat)).bind fun b8 => (spec_l1Cur_pick.f b0.1 b8.2.1 b8.2.2 24).bind fun b9 =>
   if 0 ≤ b9.1 ∧ b9.1 < 24 then (spec_l1Cur_among.f b0.1 b9.2.1 b9.2.2 (dmL4_.take (3 + b9.1 / 23).toNat)).bind fun b10 => some (b1.1, b2.1, b3.1, b4.1, wrap64 (b1.1 + b5.1), wrap64 (b2.1 + b6.1), b8.1, b10.1) else none
  else none
def dm3.T : Bool × List (List Nat × List Nat) := (true, [([], []), ([0], [0]), ([], []), ([], []), ([2, 3], [2, 3]), ([1, 4], [1, 4]), ([], []), ([6], [6]), ([], []), ([], []), ([8, 9, 4], [8, 9]), ([7, 10], [7, 10]), ([], []), ([], []), ([], []), ([14, 10], [14]), ([15], [15]), ([16], [16]), ([13, 17], [13, 17]), ([12, 18, 15], [12, 18]), ([], []), ([], []), ([], []), ([22, 19], [22]), ([23], [23]), ([24], [24]), ([21, 25], [21, 25]), ([20, 26, 23], [20, 26]), ([5, 11, 19, 27], [5, 11, 19, 27]), ([], []), ([29, 28, 27, 0, 1, 2, 3, 4, 5, 6, 7, 8, 9, 10, 11, 12, 13, 14, 15, 16, 17, 18, 19, 20, 21, 22, 23, 24, 25, 26, 27, 28, 29], [28, 29])])
def dm3.B : List Nat := [0, 1, 0, 0, 12, 31, 0, 64, 0, 0, 796, 2012, 0, 0, 0, 18204, 50972, 116508, 255772, 522012, 0, 0, 0, 5240604, 13629212, 30406428, 66058012, 134215452, 268435455, 0, 1073741823]
theorem dm3.tab : rtab .any (opsOf Tryd.f49 3) = dm3.T := by kernel_rfl
theorem dm3.bits : waitsOk dm3.T.2 dm3.B = true := by kernel_rfl
abbrev dm3.mkE : Array Bool := #[fF,fF,fF,fF,fF,fF,fF,fF,fF,fF,fF,fF,fF,fF,fF,fF,fF,fF,fF,fF,fF,fF,fF,fF,fF,fF,fF,fF,fF,fF,fF]
abbrev dm3.mk0 : Array Bool := #[tT,fF,fF,fF,fF,fF,fF,fF,fF,fF,fF,fF,fF,fF,fF,fF,fF,fF,fF,fF,fF,fF,fF,fF,fF,fF,fF,fF,fF,fF,fF]
abbrev dm3.mk0_2 : Array Bool := #[tT,fF,tT,fF,fF,fF,fF,fF,fF,fF,fF,fF,fF,fF,fF,fF,fF,fF,fF,fF,fF,fF,fF,fF,fF,fF,fF,fF,fF,fF,fF]
abbrev dm3.mk0_2_6 : Array Bool := #[tT,fF,tT,fF,fF,fF,tT,fF,fF,fF,fF,fF,fF,fF,fF,fF,fF,fF,fF,fF,fF,fF,fF,fF,fF,fF,fF,fF,fF,fF,fF]
abbrev dm3.mk0_2_6_8 : Array Bool := #[tT,fF,tT,fF,fF,fF,tT,fF,tT,fF,fF,fF,fF,fF,fF,fF,fF,fF,fF,fF,fF,fF,fF,fF,fF,fF,fF,fF,fF,fF,fF]
abbrev dm3.mk0_2_6_8_12 : Array Bool := #[tT,fF,tT,fF,fF,fF,tT,fF,tT,fF,fF,fF,tT,fF,fF,fF,fF,fF,fF,fF,fF,fF,fF,fF,fF,fF,fF,fF,fF,fF,fF]
abbrev dm3.mk0_2_6_8_12_14 : Array Bool := #[tT,fF,tT,fF,fF,fF,tT,fF,tT,fF,fF,fF,tT,fF,tT,fF,fF,fF,fF,fF,fF,fF,fF,fF,fF,fF,fF,fF,fF,fF,fF]
abbrev dm3.mk0_2_6_8_12_14_20 : Array Bool := #[tT,fF,tT,fF,fF,fF,tT,fF,tT,fF,fF,fF,tT,fF,tT,fF,fF,fF,fF,fF,tT,fF,fF,fF,fF,fF,fF,fF,fF,fF,fF]
abbrev dm3.mk0_2_6_8_12_14_20_22 : Array Bool := #[tT,fF,tT,fF,fF,fF,tT,fF,tT,fF,fF,fF,tT,fF,tT,fF,fF,fF,fF,fF,tT,fF,tT,fF,fF,fF,fF,fF,fF,fF,fF]
def dm4.T : Bool × List (List Nat × List Nat) := (true, [([], []), ([], []), ([0, 0], [0]), ([1, 2, 0, 1, 2], [1])])
def dm4.B : List Nat := [0, 0, 1, 7]
theorem dm4.tab : rtab .any (opsOf Tryd.f49 4) = dm4.T := by kernel_rfl
theorem dm4.bits : waitsOk dm4.T.2 dm4.B = true := by kernel_rfl
abbrev dm4.mkE : Array Bool := #[false, false, false, false]
abbrev dm4.mk0 : Array Bool := #[true, false, false, false]
abbrev dm4.mk0_1 : Array Bool := #[true, true, false, false]
abbrev dm4.mk0_1_2 : Array Bool := #[true, true, true, false]
abbrev dm4.mk0_1_2_3 : Array Bool := #[true, true, true, true]
set_option maxHeartbeats 64000000 in
set_option maxRecDepth 100000 in
theorem spec_DrawDoMeet.calls (A0 : Option Addr) (c0 : Nat) (l0 : List Int) (r1 : Int) (r2 : Int) (r3 : Int) (r4 : Int) (r5 : Int) (r6 : Int) (r7 : Int) (r8 : Int) (w : World) (hr0 : Kd.C (Kd.int .u8) w A0 l0.length l0) (hc0 : l0.length ≤ c0) (h : spec_DrawDoMeet.f l0 = some (r1, r2, r3, r4, r5, r6, r7, r8)) :
  Calls Tryd.prog 49 #[.slice A0 l0.length c0] w fun e w' => e = .returned (.tuple #[.agg #[.int .i64 r1, .int .i64 r2, .int .i64 r3, .int .i64 r4], .agg #[.int .i64 r5, .int .i64 r6, .int .i64 r7, .int .i64 r8]]) ∧ Below w.heap.size w w' := by
 have hu := Tryd.underlying99
 have hu26 := Tryd.underlying26
 have HR0 := Aside0.mk hr0
 have HC0 := Aside0.mk hc0
 clear hr0 hc0
 have HB := Aside0.mk (Below.refl w.heap.size w)
 unfold spec_DrawDoMeet.f at h
 replace h := Option.bind_eq_some_iff.mp h
 obtain ⟨⟨x, p0, s0⟩, e0, h⟩ := h
 replace h := Option.bind_eq_some_iff.mp h
 obtain ⟨⟨ax, p1, s1⟩, e1, h⟩ := h
 replace h := Option.bind_eq_some_iff.mp h
 obtain ⟨⟨ay, p2, s2⟩, e2, h⟩ := h
 replace h := Option.bind_eq_some_iff.mp h
 obtain ⟨⟨aw, p3, s3⟩, e3, h⟩ := h
 replace h := Option.bind_eq_some_iff.mp h
 obtain ⟨⟨ah, p4, s4⟩, e4, h⟩ := h
 replace h := Option.bind_eq_some_iff.mp h
 obtain ⟨⟨y1, p5, s5⟩, e5, h⟩ := h
 replace h := Option.bind_eq_some_iff.mp h
 obtain ⟨⟨y2, p6, s6⟩, e6, h⟩ := h
 replace h := Option.bind_eq_some_iff.mp h
 obtain ⟨⟨t1, p7, s7⟩, e7, h⟩ := h
 (try simp only at e1 e2 e3 e4 e5 e6 e7 h)
 by_cases hb1 : 0 ≤ t1 ∧ t1 < 24
 rotate_left
 ·
  rw [if_neg hb1] at h
  cases h
 rw [if_pos hb1] at h
 replace h := Option.bind_eq_some_iff.mp h
 obtain ⟨⟨y3, p8, s8⟩, e8, h⟩ := h
 replace h := Option.bind_eq_some_iff.mp h
 obtain ⟨⟨t2, p9, s9⟩, e9, h⟩ := h
 (try simp only at e8 e9 h)
 by_cases hb2 : 0 ≤ t2 ∧ t2 < 24
 rotate_left
 ·
  rw [if_neg hb2] at h
  cases h
 rw [if_pos hb2] at h
 replace h := Option.bind_eq_some_iff.mp h
 obtain ⟨⟨y4, p10, s10⟩, e10, h⟩ := h
 simp only [Option.some.injEq, Prod.mk.injEq] at h
 obtain ⟨rfl, rfl, rfl, rfl, rfl, rfl, rfl, rfl⟩ := h
 (try simp only at e10)
 obtain ⟨q1, hq1⟩ : ∃ q, q = dmL3_.take (3 + t1 / 23).toNat := ⟨_, rfl⟩
 have hql1 : (3 + t1 / 23).toNat = q1.length := by rw [hq1, List.length_take]; show _ = min _ 4; omega
 have hq14 : q1.length ≤ 4 := by omega
 rw [← hq1] at e8
 have HQ1 := Aside0.mk hq1
 have HQL1 := Aside0.mk hql1
 have D11 := Aside0.mk (show wrap64 (Int.tdiv t1 23) = t1 / 23 from by rw [Int.tdiv_eq_ediv_of_nonneg hb1.1]; unfold wrap64; omega)
 have D12 := Aside0.mk (show wrap64 (3 + t1 / 23) = 3 + t1 / 23 from by unfold wrap64; omega)
 have D13 := Aside0.mk (show 0 ≤ 3 + t1 / 23 ∧ 3 + t1 / 23 ≤ 4 from by omega)
 obtain ⟨q2, hq2⟩ : ∃ q, q = dmL4_.take (3 + t2 / 23).toNat := ⟨_, rfl⟩
 have hql2 : (3 + t2 / 23).toNat = q2.length := by rw [hq2, List.length_take]; show _ = min _ 4; omega
 have hq24 : q2.length ≤ 4 := by omega
 rw [← hq2] at e10
 have HQ2 := Aside0.mk hq2
 have HQL2 := Aside0.mk hql2
 have D21 := Aside0.mk (show wrap64 (Int.tdiv t2 23) = t2 / 23 from by rw [Int.tdiv_eq_ediv_of_nonneg hb2.1]; unfold wrap64; omega)
 have D22 := Aside0.mk (show wrap64 (3 + t2 / 23) = 3 + t2 / 23 from by unfold wrap64; omega)
 have D23 := Aside0.mk (show 0 ≤ 3 + t2 / 23 ∧ 3 + t2 / 23 ≤ 4 from by omega)
 have E0 := Aside0.mk e0
 have E1 := Aside0.mk e1
 have E2 := Aside0.mk e2
 have E3 := Aside0.mk e3
 have E4 := Aside0.mk e4
 have E5 := Aside0.mk e5
 have E6 := Aside0.mk e6
 have E7 := Aside0.mk e7
 have E8 := Aside0.mk e8
 have E9 := Aside0.mk e9
 have E10 := Aside0.mk e10
 clear e0 e1 e2 e3 e4 e5 e6 e7 e8 e9 e10 hq1 hq2 hql1 hql2 hb1 hb2 hq14 hq24
 go_enter Tryd.func49, Tryd.ntmps49
 try go_wp2_with (first | ((with_reducible refine gate_dst (N := 2) rfl ?_); refine box_event ?hg (N := 2) ?hd (cs := #[.int .i64 0, .int .i64 0, .int .i64 0, .int .i64 0]) (t := 26) ?hr ?_; (case hd => rfl); (case hg => rfl); (case hr => first | (go_simp; done) | (go_simp; rfl)); intro gb2 hg w1 hbox hb; have BK2 := Aside0.mk hbox; have G2 := Aside0.mk (bz_ hg HB.out); replace HB := Aside0.mk (below_step HB.out hb); clear hg hbox hb) | ((with_reducible refine gate_dst (N := 3) rfl ?_); refine box_event ?hg (N := 3) ?hd (cs := #[.int .i64 0, .int .i64 0, .int .i64 0, .int .i64 0]) (t := 26) ?hr ?_; (case hd => rfl); (case hg => rfl); (case hr => first | (go_simp; done) | (go_simp; rfl)); intro gb3 hg w2 hbox hb; have G3 := Aside0.mk (bz_ hg HB.out); have N23 := Aside0.mk (nl_ hg BK2.out); replace BK2 := Aside0.mk (bb_ BK2.out hb); have BK3 := Aside0.mk hbox; replace HB := Aside0.mk (below_step HB.out hb); clear hg hbox hb) | ((with_reducible refine gate_dst (N := 9) rfl ?_); refine box_event ?hg (N := 9) ?hd (cs := #[.slice A0 l0.length c0, .int .i64 0, .int .u64 0]) (t := 99) ?hr ?_; (case hd => rfl); (case hg => rfl); (case hr => first | (go_simp; done) | (go_simp; rfl)); intro g hg w3 hbx hb; have hb3 := below_step HB.out hb; have hi : IsS99 w w3 g x p0 s0 := (by have hz_ := E0.out; simp only [spec_newCur.f, Option.some.injEq, Prod.mk.injEq] at hz_; rw [← hz_.1, ← hz_.2.1, ← hz_.2.2]; exact ⟨_, _, hbx, (by rw [hg]; exact HB.out.size : w.heap.size ≤ g), HR0.out⟩); replace BK2 := Aside0.mk (bb_ BK2.out hb); replace BK3 := Aside0.mk (bb_ BK3.out hb); have NE2 := Aside0.mk (Ne.symm (IsS99.ne_blk hi BK2.out (by decide))); have NE3 := Aside0.mk (Ne.symm (IsS99.ne_blk hi BK3.out (by decide))); clear hg hbx hb HB; have HB := Aside0.mk hb3; have HI := Aside0.mk hi; clear hb3 hi) | ((with_reducible refine gate_dst (N := 11) rfl ?_); refine Kd.R_lit (Kd.int .i64) _ 3 ?hg (N := 11) ?hd (xs := dmM1_) (inner := [.int .i64 (-100), .int .i64 0, .int .i64 5, .int .i64 200]) (ok := fun _ => True) (okp := fun _ => True) ?hr ?hp (fun _ hk => hk) trivial (Below.refl _ _) (Nat.le_refl _) (by decide) ?_; (case hd => rfl); (case hg => rfl); (case hr => first | (go_simp; done) | (go_simp; rfl)); (case hp => exact (Reps.one (show Kd.M (Kd.int .i64) _ _ _ (-100) [.int .i64 (-100)] from rfl) (Reps.one (show Kd.M (Kd.int .i64) _ _ _ 0 [.int .i64 0] from rfl) (Reps.one (show Kd.M (Kd.int .i64) _ _ _ 5 [.int .i64 5] from rfl) (Reps.one (show Kd.M (Kd.int .i64) _ _ _ 200 [.int .i64 200] from rfl) (Reps.none _ _)))))); intro v7 wl1 ho hb3 hg_ hnew_; clear hg_ hnew_; have HO := Aside0.mk (Kd.R_lower ho HB.out.size); replace BK2 := Aside0.mk (bb_ BK2.out hb3); replace BK3 := Aside0.mk (bb_ BK3.out hb3); have n1 := Aside0.mk (IsS99.below HI.out hb3); have n2 := Aside0.mk (below_step HB.out hb3); clear HI HB hb3 ho; have HI := n1; have HB := n2; clear n1 n2; obtain ⟨A7, c7, e7⟩ := Kd.R_slice HO.out; subst e7) | ((with_reducible refine gate_callee (f := 88) rfl ?_); refine ga_ (some 12) Tryd.func88 #[.pointer (some ⟨g, 0, none⟩), .slice A7 dmM1_.length c7] ?_; refine (spec_l1Cur_among.calls g x p0 s0 _ _ dmM1_ ax p1 s1 w _ HI.out HB.out (Kd.R_reads' HO.out).2.2 (Kd.R_reads' HO.out).2.1 (fun ad e1 e2 => far_slice (IsS99.own_ne HI.out HO.out (by decide)) ad e1 e2) E1.out).mono ?_; rintro e wa1 ⟨rfl, hi, hb3, hk⟩; refine ⟨_, rfl, ?_⟩; replace BK2 := Aside0.mk (KeepBut.blk hk BK2.out NE2.out (by simp)); replace BK3 := Aside0.mk (KeepBut.blk hk BK3.out NE3.out (by simp)); clear HO HI HB; have HI := Aside0.mk hi; have HB := Aside0.mk hb3; clear hi hb3 hk) | ((with_reducible refine gate_dst (N := 14) rfl ?_); refine Kd.R_lit (Kd.int .i64) _ 3 ?hg (N := 14) ?hd (xs := dmM2_) (inner := [.int .i64 (-100), .int .i64 0, .int .i64 3, .int .i64 200]) (ok := fun _ => True) (okp := fun _ => True) ?hr ?hp (fun _ hk => hk) trivial (Below.refl _ _) (Nat.le_refl _) (by decide) ?_; (case hd => rfl); (case hg => rfl); (case hr => first | (go_simp; done) | (go_simp; rfl)); (case hp => exact (Reps.one (show Kd.M (Kd.int .i64) _ _ _ (-100) [.int .i64 (-100)] from rfl) (Reps.one (show Kd.M (Kd.int .i64) _ _ _ 0 [.int .i64 0] from rfl) (Reps.one (show Kd.M (Kd.int .i64) _ _ _ 3 [.int .i64 3] from rfl) (Reps.one (show Kd.M (Kd.int .i64) _ _ _ 200 [.int .i64 200] from rfl) (Reps.none _ _)))))); intro v7 wl2 ho hb3 hg_ hnew_; clear hg_ hnew_; have HO := Aside0.mk (Kd.R_lower ho HB.out.size); replace BK2 := Aside0.mk (bb_ BK2.out hb3); replace BK3 := Aside0.mk (bb_ BK3.out hb3); have n1 := Aside0.mk (IsS99.below HI.out hb3); have n2 := Aside0.mk (below_step HB.out hb3); clear HI HB hb3 ho; have HI := n1; have HB := n2; clear n1 n2; obtain ⟨A7, c7, e7⟩ := Kd.R_slice HO.out; subst e7) | ((with_reducible refine gate_callee (f := 88) rfl ?_); refine ga_ (some 15) Tryd.func88 #[.pointer (some ⟨g, 0, none⟩), .slice A7 dmM2_.length c7] ?_; refine (spec_l1Cur_among.calls g x p1 s1 _ _ dmM2_ ay p2 s2 w _ HI.out HB.out (Kd.R_reads' HO.out).2.2 (Kd.R_reads' HO.out).2.1 (fun ad e1 e2 => far_slice (IsS99.own_ne HI.out HO.out (by decide)) ad e1 e2) E2.out).mono ?_; rintro e wa2 ⟨rfl, hi, hb3, hk⟩; refine ⟨_, rfl, ?_⟩; replace BK2 := Aside0.mk (KeepBut.blk hk BK2.out NE2.out (by simp)); replace BK3 := Aside0.mk (KeepBut.blk hk BK3.out NE3.out (by simp)); clear HO HI HB; have HI := Aside0.mk hi; have HB := Aside0.mk hb3; clear hi hb3 hk) | ((with_reducible refine gate_dst (N := 17) rfl ?_); refine Kd.R_lit (Kd.int .i64) _ 3 ?hg (N := 17) ?hd (xs := dmM3_) (inner := [.int .i64 0, .int .i64 1, .int .i64 4, .int .i64 100]) (ok := fun _ => True) (okp := fun _ => True) ?hr ?hp (fun _ hk => hk) trivial (Below.refl _ _) (Nat.le_refl _) (by decide) ?_; (case hd => rfl); (case hg => rfl); (case hr => first | (go_simp; done) | (go_simp; rfl)); (case hp => exact (Reps.one (show Kd.M (Kd.int .i64) _ _ _ 0 [.int .i64 0] from rfl) (Reps.one (show Kd.M (Kd.int .i64) _ _ _ 1 [.int .i64 1] from rfl) (Reps.one (show Kd.M (Kd.int .i64) _ _ _ 4 [.int .i64 4] from rfl) (Reps.one (show Kd.M (Kd.int .i64) _ _ _ 100 [.int .i64 100] from rfl) (Reps.none _ _)))))); intro v7 wl3 ho hb3 hg_ hnew_; clear hg_ hnew_; have HO := Aside0.mk (Kd.R_lower ho HB.out.size); replace BK2 := Aside0.mk (bb_ BK2.out hb3); replace BK3 := Aside0.mk (bb_ BK3.out hb3); have n1 := Aside0.mk (IsS99.below HI.out hb3); have n2 := Aside0.mk (below_step HB.out hb3); clear HI HB hb3 ho; have HI := n1; have HB := n2; clear n1 n2; obtain ⟨A7, c7, e7⟩ := Kd.R_slice HO.out; subst e7) | ((with_reducible refine gate_callee (f := 88) rfl ?_); refine ga_ (some 18) Tryd.func88 #[.pointer (some ⟨g, 0, none⟩), .slice A7 dmM3_.length c7] ?_; refine (spec_l1Cur_among.calls g x p2 s2 _ _ dmM3_ aw p3 s3 w _ HI.out HB.out (Kd.R_reads' HO.out).2.2 (Kd.R_reads' HO.out).2.1 (fun ad e1 e2 => far_slice (IsS99.own_ne HI.out HO.out (by decide)) ad e1 e2) E3.out).mono ?_; rintro e wa3 ⟨rfl, hi, hb3, hk⟩; refine ⟨_, rfl, ?_⟩; replace BK2 := Aside0.mk (KeepBut.blk hk BK2.out NE2.out (by simp)); replace BK3 := Aside0.mk (KeepBut.blk hk BK3.out NE3.out (by simp)); clear HO HI HB; have HI := Aside0.mk hi; have HB := Aside0.mk hb3; clear hi hb3 hk) | ((with_reducible refine gate_dst (N := 20) rfl ?_); refine Kd.R_lit (Kd.int .i64) _ 3 ?hg (N := 20) ?hd (xs := dmM4_) (inner := [.int .i64 0, .int .i64 2, .int .i64 100]) (ok := fun _ => True) (okp := fun _ => True) ?hr ?hp (fun _ hk => hk) trivial (Below.refl _ _) (Nat.le_refl _) (by decide) ?_; (case hd => rfl); (case hg => rfl); (case hr => first | (go_simp; done) | (go_simp; rfl)); (case hp => exact (Reps.one (show Kd.M (Kd.int .i64) _ _ _ 0 [.int .i64 0] from rfl) (Reps.one (show Kd.M (Kd.int .i64) _ _ _ 2 [.int .i64 2] from rfl) (Reps.one (show Kd.M (Kd.int .i64) _ _ _ 100 [.int .i64 100] from rfl) (Reps.none _ _))))); intro v7 wl4 ho hb3 hg_ hnew_; clear hg_ hnew_; have HO := Aside0.mk (Kd.R_lower ho HB.out.size); replace BK2 := Aside0.mk (bb_ BK2.out hb3); replace BK3 := Aside0.mk (bb_ BK3.out hb3); have n1 := Aside0.mk (IsS99.below HI.out hb3); have n2 := Aside0.mk (below_step HB.out hb3); clear HI HB hb3 ho; have HI := n1; have HB := n2; clear n1 n2; obtain ⟨A7, c7, e7⟩ := Kd.R_slice HO.out; subst e7) | ((with_reducible refine gate_callee (f := 88) rfl ?_); refine ga_ (some 21) Tryd.func88 #[.pointer (some ⟨g, 0, none⟩), .slice A7 dmM4_.length c7] ?_; refine (spec_l1Cur_among.calls g x p3 s3 _ _ dmM4_ ah p4 s4 w _ HI.out HB.out (Kd.R_reads' HO.out).2.2 (Kd.R_reads' HO.out).2.1 (fun ad e1 e2 => far_slice (IsS99.own_ne HI.out HO.out (by decide)) ad e1 e2) E4.out).mono ?_; rintro e wa4 ⟨rfl, hi, hb3, hk⟩; refine ⟨_, rfl, ?_⟩; replace BK2 := Aside0.mk (KeepBut.blk hk BK2.out NE2.out (by simp)); replace BK3 := Aside0.mk (KeepBut.blk hk BK3.out NE3.out (by simp)); clear HO HI HB; have HI := Aside0.mk hi; have HB := Aside0.mk hb3; clear hi hb3 hk) | ((with_reducible refine gate_dst (N := 5) rfl ?_); refine box_event ?hg (N := 5) ?hd (cs := #[.int .i64 0, .int .i64 0, .int .i64 0, .int .i64 0]) (t := 26) ?hr ?_; (case hd => rfl); (case hg => rfl); (case hr => first | (go_simp; done) | (go_simp; rfl)); intro gb5 hg wb hbox hb; have G5 := Aside0.mk (bz_ hg HB.out); have N25 := Aside0.mk (nl_ hg BK2.out); have N35 := Aside0.mk (nl_ hg BK3.out); replace BK2 := Aside0.mk (bb_ BK2.out hb); replace BK3 := Aside0.mk (bb_ BK3.out hb); have BK5 := Aside0.mk hbox; replace HI := Aside0.mk (IsS99.below HI.out hb); have NE5 := Aside0.mk (IsS99.ne_blk HI.out BK5.out (by decide)); obtain ⟨hcz0, hcz1, hcz2, hcz3⟩ := cz4_ BK5.out; obtain ⟨hfz0, hfz1, hfz2, hfz3⟩ := fz4_ BK5.out; replace HB := Aside0.mk (below_step HB.out hb); clear hg hbox hb))
 clear hcz0 hcz1 hcz2 hcz3 hfz0 hfz1 hfz2 hfz3
 have n2_ := Aside0.mk (f4_ (j0 := 0) (j1 := 1) (j2 := 2) (j3 := 3) BK2.out N25.out (.int .i64 ax) (.int .i64 ay) (.int .i64 aw) (.int .i64 ah))
 have n3_ := Aside0.mk (f4_ (j0 := 0) (j1 := 1) (j2 := 2) (j3 := 3) BK3.out N35.out (.int .i64 ax) (.int .i64 ay) (.int .i64 aw) (.int .i64 ah))
 have n5_ := Aside0.mk (p4_ BK5.out (.int .i64 ax) (.int .i64 ay) (.int .i64 aw) (.int .i64 ah))
 have ni_ : Aside0 (IsS99 w ((((wb.setCell ⟨gb5, 0, none⟩ (.int .i64 ax)).setCell ⟨gb5, 1, none⟩ (.int .i64 ay)).setCell ⟨gb5, 2, none⟩ (.int .i64 aw)).setCell ⟨gb5, 3, none⟩ (.int .i64 ah)) g x p4 s4) := ⟨IsS99.far (p := ⟨gb5, 3, none⟩) (IsS99.far (p := ⟨gb5, 2, none⟩) (IsS99.far (p := ⟨gb5, 1, none⟩) (IsS99.far (p := ⟨gb5, 0, none⟩) HI.out NE5.out _) NE5.out _) NE5.out _) NE5.out _⟩
 have nb_ : Aside0 (Below w.heap.size w ((((wb.setCell ⟨gb5, 0, none⟩ (.int .i64 ax)).setCell ⟨gb5, 1, none⟩ (.int .i64 ay)).setCell ⟨gb5, 2, none⟩ (.int .i64 aw)).setCell ⟨gb5, 3, none⟩ (.int .i64 ah))) := ⟨below_set (j := 3) (below_set (j := 2) (below_set (j := 1) (below_set (j := 0) HB.out G5.out) G5.out) G5.out) G5.out⟩
 clear BK2 BK3 BK5 HI HB
 generalize ((((wb.setCell ⟨gb5, 0, none⟩ (.int .i64 ax)).setCell ⟨gb5, 1, none⟩ (.int .i64 ay)).setCell ⟨gb5, 2, none⟩ (.int .i64 aw)).setCell ⟨gb5, 3, none⟩ (.int .i64 ah)) = wm at n2_ n3_ n5_ ni_ nb_ ⊢
 have HJ := Aside0.mk (show DmJ w g gb2 gb3 gb5 x ax ay aw ah wm.drew (p4, s4) false false false false (.bool false) (.bool false) (.bool false) (.bool false) from ⟨below_drew nb_.out, IsS99.drew ni_.out, blk_drew n2_.out, blk_drew n3_.out, blk_drew n5_.out, fun h_ => absurd h_ (by decide), fun h_ => absurd h_ (by decide), fun h_ => absurd h_ (by decide), fun h_ => absurd h_ (by decide)⟩)
 clear n2_ n3_ n5_ ni_ nb_ NE2 NE3 NE5
 refine start_ (n := 31) (S := fun w' => True) (ds := []) dm3.mkE (by kernel_rfl) rfl rfl trivial (fun hHeld => ?_); refine with_tabW dm3.tab dm3.bits (fun HT_ HW_ => ?_)
 clear hHeld
 generalize wm.drew = wd at HJ ⊢
 refine pz_ HT_ 0 (some 23) dm3.mk0 ?_
 refine pz_ HT_ 2 (some 25) dm3.mk0_2 ?_
 refine pz_ HT_ 6 (some 29) dm3.mk0_2_6 ?_
 refine pz_ HT_ 8 (some 31) dm3.mk0_2_6_8 ?_
 refine pz_ HT_ 12 (some 35) dm3.mk0_2_6_8_12 ?_
 refine pz_ HT_ 14 (some 37) dm3.mk0_2_6_8_12_14 ?_
 refine pz_ HT_ 20 (some 43) dm3.mk0_2_6_8_12_14_20 ?_
 refine pz_ HT_ 22 (some 45) dm3.mk0_2_6_8_12_14_20_22 ?_
 refine inv_at [1, 3, 4, 5, 7, 9, 10, 11, 13, 15, 16, 17, 18, 19, 21, 23, 24, 25, 26, 27, 28, 29, 30] (fun a0_ b a w' => ∃ (v1 v2 v3 v4 u3 u4 : Value) (gb6 : Nat), a = putSel a0_ b [(1, 24, .int .i64 ax), (3, 26, v1), (4, 27, .int .i64 y1), (5, 28, .int .i64 (wrap64 (ax + y1))), (7, 30, .int .i64 ay), (9, 32, v2), (10, 33, .int .i64 y2), (11, 34, .int .i64 (wrap64 (ay + y2))), (13, 36, v3), (15, 38, .int .i64 t1), (16, 39, .int .i64 (t1 / 23)), (17, 40, .int .i64 (3 + t1 / 23)), (18, 41, u3), (19, 42, .int .i64 y3), (21, 44, v4), (23, 46, .int .i64 t2), (24, 47, .int .i64 (t2 / 23)), (25, 48, .int .i64 (3 + t2 / 23)), (26, 49, u4), (27, 50, .int .i64 y4), (28, 51, .agg #[.int .i64 (wrap64 (ax + y1)), .int .i64 (wrap64 (ay + y2)), .int .i64 y3, .int .i64 y4]), (29, 6, .pointer (some ⟨gb6, 0, none⟩))] ∧ DmJ w g gb2 gb3 gb5 x ax ay aw ah w' (dmS_ (p4, s4) (p5, s5) (p6, s6) (p7, s7) (p8, s8) (p9, s9) (p10, s10) (b 4) (b 10) (b 15) (b 19) (b 23) (b 27)) (b 3) (b 9) (b 13) (b 21) v1 v2 v3 v4 ∧ (b 18 = true → ∃ A c, v3 = .slice A dmL3_.length c ∧ u3 = .slice A q1.length c) ∧ (b 26 = true → ∃ A c, v4 = .slice A dmL4_.length c ∧ u4 = .slice A q2.length c) ∧ DmK w w' gb2 gb3 gb5 gb6 (b 29) (b 30) #[.int .i64 (wrap64 (ax + y1)), .int .i64 (wrap64 (ay + y2)), .int .i64 y3, .int .i64 y4]) HT_.out HW_.out (by kernel_rfl) (by kernel_rfl) ?_ ?_ ?_
 ·
  exact ⟨.bool false, .bool false, .bool false, .bool false, .bool false, .bool false, 0, by simp only [putSel, Bool.false_eq_true, if_false], HJ.out, fun h_ => absurd h_ (by decide), fun h_ => absurd h_ (by decide), fun h_ => absurd h_ (by decide)⟩
 ·
  clear HJ
  refine steps_cons ?_ ?_
  ·
   rintro b a w' ⟨v1, v2, v3, v4, u3, u4, gb6, ha, J, E3_, E4_, K_⟩ hb_ hon hoff
   refine ⟨_, rfl, fun K hK => ?_⟩
   have e23 : a.tmps[23]? = some (.pointer (some ⟨gb5, 0, none⟩)) := by rw [ha]; exact (putSel_off rfl).trans rfl
   replace ha := Aside0.mk ha
   have hs_ : w'.cell? ⟨gb5, 0, none⟩ = some (.int .i64 ax) := (blk_cell J.h5 0).trans rfl
   refine value_ (w1 := w') (v := .int .i64 ax) (by rfl) rfl ?_ ?_
   ·
    go_simp
    (try simp only [i64_w])
    all_goals first | rfl | assumption
   refine hK.out _ _ ⟨v1, v2, v3, v4, u3, u4, gb6, (by rw [ha.out]; exact putSel_upk 0 hb_ rfl rfl rfl), J, E3_, E4_, K_⟩
  refine steps_cons ?_ ?_
  ·
   rintro b a w' ⟨v1, v2, v3, v4, u3, u4, gb6, ha, J, E3_, E4_, K_⟩ hb_ hon hoff
   refine ⟨_, rfl, fun K hK => ?_⟩
   replace ha := Aside0.mk ha
   refine Kd.R_lit_step (Kd.int .i64) _ 3 ?hg (N := 26) ?hd (xs := dmL1_) (inner := [.int .i64 0, .int .i64 3, .int .i64 4, .int .i64 (-1)]) (ok := fun _ => True) (okp := fun _ => True) ?hr ?hp (fun _ hk => hk) trivial (Below.refl _ _) (Nat.le_refl _) (by decide) ?_; (case hd => rfl); (case hg => rfl); (case hr => first | (go_simp; done) | (go_simp; rfl)); (case hp => exact (Reps.one (show Kd.M (Kd.int .i64) _ _ _ 0 [.int .i64 0] from rfl) (Reps.one (show Kd.M (Kd.int .i64) _ _ _ 3 [.int .i64 3] from rfl) (Reps.one (show Kd.M (Kd.int .i64) _ _ _ 4 [.int .i64 4] from rfl) (Reps.one (show Kd.M (Kd.int .i64) _ _ _ (-1) [.int .i64 (-1)] from rfl) (Reps.none _ _))))))
   intro v7 w7 ho hb hg_ hnew_
   clear hg_ hnew_
   refine hK.out _ _ ⟨v7, v2, v3, v4, u3, u4, gb6, (by rw [ha.out]; exact putSel_upk 1 hb_ rfl rfl rfl), J.lit1 hb (Kd.R_lower ho (below_size J.hB)), E3_, E4_, K_.below hb⟩
  refine steps_cons ?_ ?_
  ·
   rintro b a w' ⟨v1, v2, v3, v4, u3, u4, gb6, ha, J, E3_, E4_, K_⟩ hb_ hon hoff
   refine ⟨_, rfl, fun K hK => ?_⟩
   have hI : IsS99 w w' g x p4 s4 := by
    have h_ := J.hI
    rw [hb_, hoff 10 (by kernel_rfl), hoff 15 (by kernel_rfl), hoff 19 (by kernel_rfl), hoff 23 (by kernel_rfl), hoff 27 (by kernel_rfl)] at h_
    exact h_
   have hr_ := J.l1 (hon 3 (by kernel_rfl))
   obtain ⟨A7, c7, e7⟩ := Kd.R_slice hr_
   subst e7
   have e25 : a.tmps[25]? = some (.pointer (some ⟨g, 0, none⟩)) := by rw [ha]; exact (putSel_off rfl).trans rfl
   have e26 : a.tmps[26]? = some (.slice A7 dmL1_.length c7) := by rw [ha]; exact putSel_on (e := (3, 26, .slice A7 dmL1_.length c7)) 1 rfl rfl (hon 3 (by kernel_rfl)) rfl
   replace ha := Aside0.mk ha
   refine goes_ Tryd.func88 (by kernel_rfl) rfl #[.pointer (some ⟨g, 0, none⟩), .slice A7 dmL1_.length c7] (by rfl) rfl rfl (by first | (simp only [List.map_toArray, List.map_cons, List.map_nil, Act.eval, Array.getD_eq_getD_getElem?, Option.getD_some, e25, e26]; done) | (simp only [List.map_toArray, List.map_cons, List.map_nil, Act.eval, Array.getD_eq_getD_getElem?, Option.getD_some, e25, e26]; rfl)) ?_
   refine (spec_l1Cur_among.calls g x p4 s4 _ _ dmL1_ y1 p5 s5 w _ hI J.hB (Kd.R_reads' hr_).2.2 (Kd.R_reads' hr_).2.1 (fun ad e1 e2 => far_slice (IsS99.own_ne hI hr_ (by decide)) ad e1 e2) E5.out).mono ?_
   rintro e w7 ⟨rfl, hi, hb, hk⟩
   refine ⟨_, rfl, ?_⟩
   refine hK.out _ _ ⟨.slice A7 dmL1_.length c7, v2, v3, v4, u3, u4, gb6, (by rw [ha.out]; exact putSel_upk 2 hb_ rfl rfl rfl), J.call hb hi hk (by show dmS_ _ _ _ _ _ _ _ true (b 10) (b 15) (b 19) (b 23) (b 27) = _; rw [hoff 10 (by kernel_rfl), hoff 15 (by kernel_rfl), hoff 19 (by kernel_rfl), hoff 23 (by kernel_rfl), hoff 27 (by kernel_rfl)]; rfl), E3_, E4_, K_.call hI hk⟩
  refine steps_cons ?_ ?_
  ·
   rintro b a w' ⟨v1, v2, v3, v4, u3, u4, gb6, ha, J, E3_, E4_, K_⟩ hb_ hon hoff
   refine ⟨_, rfl, fun K hK => ?_⟩
   have e24 : a.tmps[24]? = some (.int .i64 ax) := by rw [ha]; exact putSel_on (e := (1, 24, .int .i64 ax)) 0 rfl rfl (hon 1 (by kernel_rfl)) rfl
   have e27 : a.tmps[27]? = some (.int .i64 y1) := by rw [ha]; exact putSel_on (e := (4, 27, .int .i64 y1)) 2 rfl rfl (hon 4 (by kernel_rfl)) rfl
   replace ha := Aside0.mk ha
   refine value_ (w1 := w') (v := .int .i64 (wrap64 (ax + y1))) (by rfl) rfl ?_ ?_
   ·
    go_simp
    (try simp only [i64_w])
    all_goals first | rfl | assumption
   refine hK.out _ _ ⟨v1, v2, v3, v4, u3, u4, gb6, (by rw [ha.out]; exact putSel_upk 3 hb_ rfl rfl rfl), J, E3_, E4_, K_⟩
  refine steps_cons ?_ ?_
  ·
   rintro b a w' ⟨v1, v2, v3, v4, u3, u4, gb6, ha, J, E3_, E4_, K_⟩ hb_ hon hoff
   refine ⟨_, rfl, fun K hK => ?_⟩
   have e29 : a.tmps[29]? = some (.pointer (some ⟨gb5, 1, none⟩)) := by rw [ha]; exact (putSel_off rfl).trans rfl
   replace ha := Aside0.mk ha
   have hs_ : w'.cell? ⟨gb5, 1, none⟩ = some (.int .i64 ay) := (blk_cell J.h5 1).trans rfl
   refine value_ (w1 := w') (v := .int .i64 ay) (by rfl) rfl ?_ ?_
   ·
    go_simp
    (try simp only [i64_w])
    all_goals first | rfl | assumption
   refine hK.out _ _ ⟨v1, v2, v3, v4, u3, u4, gb6, (by rw [ha.out]; exact putSel_upk 4 hb_ rfl rfl rfl), J, E3_, E4_, K_⟩
  refine steps_cons ?_ ?_
  ·
   rintro b a w' ⟨v1, v2, v3, v4, u3, u4, gb6, ha, J, E3_, E4_, K_⟩ hb_ hon hoff
   refine ⟨_, rfl, fun K hK => ?_⟩
   replace ha := Aside0.mk ha
   refine Kd.R_lit_step (Kd.int .i64) _ 3 ?hg (N := 32) ?hd (xs := dmL2_) (inner := [.int .i64 0, .int .i64 1, .int .i64 2, .int .i64 (-2)]) (ok := fun _ => True) (okp := fun _ => True) ?hr ?hp (fun _ hk => hk) trivial (Below.refl _ _) (Nat.le_refl _) (by decide) ?_; (case hd => rfl); (case hg => rfl); (case hr => first | (go_simp; done) | (go_simp; rfl)); (case hp => exact (Reps.one (show Kd.M (Kd.int .i64) _ _ _ 0 [.int .i64 0] from rfl) (Reps.one (show Kd.M (Kd.int .i64) _ _ _ 1 [.int .i64 1] from rfl) (Reps.one (show Kd.M (Kd.int .i64) _ _ _ 2 [.int .i64 2] from rfl) (Reps.one (show Kd.M (Kd.int .i64) _ _ _ (-2) [.int .i64 (-2)] from rfl) (Reps.none _ _))))))
   intro v7 w7 ho hb hg_ hnew_
   clear hg_ hnew_
   refine hK.out _ _ ⟨v1, v7, v3, v4, u3, u4, gb6, (by rw [ha.out]; exact putSel_upk 5 hb_ rfl rfl rfl), J.lit2 hb (Kd.R_lower ho (below_size J.hB)), E3_, E4_, K_.below hb⟩
  refine steps_cons ?_ ?_
  ·
   rintro b a w' ⟨v1, v2, v3, v4, u3, u4, gb6, ha, J, E3_, E4_, K_⟩ hb_ hon hoff
   refine ⟨_, rfl, fun K hK => ?_⟩
   have hI : IsS99 w w' g x p5 s5 := by
    have h_ := J.hI
    rw [hon 4 (by kernel_rfl), hb_, hoff 15 (by kernel_rfl), hoff 19 (by kernel_rfl), hoff 23 (by kernel_rfl), hoff 27 (by kernel_rfl)] at h_
    exact h_
   have hr_ := J.l2 (hon 9 (by kernel_rfl))
   obtain ⟨A7, c7, e7⟩ := Kd.R_slice hr_
   subst e7
   have e31 : a.tmps[31]? = some (.pointer (some ⟨g, 0, none⟩)) := by rw [ha]; exact (putSel_off rfl).trans rfl
   have e32 : a.tmps[32]? = some (.slice A7 dmL2_.length c7) := by rw [ha]; exact putSel_on (e := (9, 32, .slice A7 dmL2_.length c7)) 5 rfl rfl (hon 9 (by kernel_rfl)) rfl
   replace ha := Aside0.mk ha
   refine goes_ Tryd.func88 (by kernel_rfl) rfl #[.pointer (some ⟨g, 0, none⟩), .slice A7 dmL2_.length c7] (by rfl) rfl rfl (by first | (simp only [List.map_toArray, List.map_cons, List.map_nil, Act.eval, Array.getD_eq_getD_getElem?, Option.getD_some, e31, e32]; done) | (simp only [List.map_toArray, List.map_cons, List.map_nil, Act.eval, Array.getD_eq_getD_getElem?, Option.getD_some, e31, e32]; rfl)) ?_
   refine (spec_l1Cur_among.calls g x p5 s5 _ _ dmL2_ y2 p6 s6 w _ hI J.hB (Kd.R_reads' hr_).2.2 (Kd.R_reads' hr_).2.1 (fun ad e1 e2 => far_slice (IsS99.own_ne hI hr_ (by decide)) ad e1 e2) E6.out).mono ?_
   rintro e w7 ⟨rfl, hi, hb, hk⟩
   refine ⟨_, rfl, ?_⟩
   refine hK.out _ _ ⟨v1, .slice A7 dmL2_.length c7, v3, v4, u3, u4, gb6, (by rw [ha.out]; exact putSel_upk 6 hb_ rfl rfl rfl), J.call hb hi hk (by show dmS_ _ _ _ _ _ _ _ (b 4) true (b 15) (b 19) (b 23) (b 27) = _; rw [hon 4 (by kernel_rfl), hoff 15 (by kernel_rfl), hoff 19 (by kernel_rfl), hoff 23 (by kernel_rfl), hoff 27 (by kernel_rfl)]; rfl), E3_, E4_, K_.call hI hk⟩
  refine steps_cons ?_ ?_
  ·
   rintro b a w' ⟨v1, v2, v3, v4, u3, u4, gb6, ha, J, E3_, E4_, K_⟩ hb_ hon hoff
   refine ⟨_, rfl, fun K hK => ?_⟩
   have e30 : a.tmps[30]? = some (.int .i64 ay) := by rw [ha]; exact putSel_on (e := (7, 30, .int .i64 ay)) 4 rfl rfl (hon 7 (by kernel_rfl)) rfl
   have e33 : a.tmps[33]? = some (.int .i64 y2) := by rw [ha]; exact putSel_on (e := (10, 33, .int .i64 y2)) 6 rfl rfl (hon 10 (by kernel_rfl)) rfl
   replace ha := Aside0.mk ha
   refine value_ (w1 := w') (v := .int .i64 (wrap64 (ay + y2))) (by rfl) rfl ?_ ?_
   ·
    go_simp
    (try simp only [i64_w])
    all_goals first | rfl | assumption
   refine hK.out _ _ ⟨v1, v2, v3, v4, u3, u4, gb6, (by rw [ha.out]; exact putSel_upk 7 hb_ rfl rfl rfl), J, E3_, E4_, K_⟩
  refine steps_cons ?_ ?_
  ·
   rintro b a w' ⟨v1, v2, v3, v4, u3, u4, gb6, ha, J, E3_, E4_, K_⟩ hb_ hon hoff
   refine ⟨_, rfl, fun K hK => ?_⟩
   replace ha := Aside0.mk ha
   refine Kd.R_lit_step (Kd.int .i64) _ 3 ?hg (N := 36) ?hd (xs := dmL3_) (inner := [.int .i64 0, .int .i64 1, .int .i64 2, .int .i64 101]) (ok := fun _ => True) (okp := fun _ => True) ?hr ?hp (fun _ hk => hk) trivial (Below.refl _ _) (Nat.le_refl _) (by decide) ?_; (case hd => rfl); (case hg => rfl); (case hr => first | (go_simp; done) | (go_simp; rfl)); (case hp => exact (Reps.one (show Kd.M (Kd.int .i64) _ _ _ 0 [.int .i64 0] from rfl) (Reps.one (show Kd.M (Kd.int .i64) _ _ _ 1 [.int .i64 1] from rfl) (Reps.one (show Kd.M (Kd.int .i64) _ _ _ 2 [.int .i64 2] from rfl) (Reps.one (show Kd.M (Kd.int .i64) _ _ _ 101 [.int .i64 101] from rfl) (Reps.none _ _))))))
   intro v7 w7 ho hb hg_ hnew_
   clear hg_ hnew_
   refine hK.out _ _ ⟨v1, v2, v7, v4, u3, u4, gb6, (by rw [ha.out]; exact putSel_upk 8 hb_ rfl rfl rfl), J.lit3 hb (Kd.R_lower ho (below_size J.hB)), (fun h_ => absurd ((hoff 18 (by kernel_rfl)).symm.trans h_) (by decide)), E4_, K_.below hb⟩
  refine steps_cons ?_ ?_
  ·
   rintro b a w' ⟨v1, v2, v3, v4, u3, u4, gb6, ha, J, E3_, E4_, K_⟩ hb_ hon hoff
   refine ⟨_, rfl, fun K hK => ?_⟩
   have hI : IsS99 w w' g x p6 s6 := by
    have h_ := J.hI
    rw [hon 4 (by kernel_rfl), hon 10 (by kernel_rfl), hb_, hoff 19 (by kernel_rfl), hoff 23 (by kernel_rfl), hoff 27 (by kernel_rfl)] at h_
    exact h_
   have e37 : a.tmps[37]? = some (.pointer (some ⟨g, 0, none⟩)) := by rw [ha]; exact (putSel_off rfl).trans rfl
   replace ha := Aside0.mk ha
   refine goes_ Tryd.func86 (by kernel_rfl) rfl #[.pointer (some ⟨g, 0, none⟩), .int .i64 24] (by rfl) rfl rfl (by first | (simp only [List.map_toArray, List.map_cons, List.map_nil, Act.eval, Array.getD_eq_getD_getElem?, Option.getD_some, e37]; done) | (simp only [List.map_toArray, List.map_cons, List.map_nil, Act.eval, Array.getD_eq_getD_getElem?, Option.getD_some, e37]; rfl)) ?_
   refine (spec_l1Cur_pick.calls g x p6 s6 24 t1 p7 s7 w _ hI J.hB E7.out).mono ?_
   rintro e w7 ⟨rfl, hi, hb, hk⟩
   refine ⟨_, rfl, ?_⟩
   refine hK.out _ _ ⟨v1, v2, v3, v4, u3, u4, gb6, (by rw [ha.out]; exact putSel_upk 9 hb_ rfl rfl rfl), J.call hb hi hk (by show dmS_ _ _ _ _ _ _ _ (b 4) (b 10) true (b 19) (b 23) (b 27) = _; rw [hon 4 (by kernel_rfl), hon 10 (by kernel_rfl), hoff 19 (by kernel_rfl), hoff 23 (by kernel_rfl), hoff 27 (by kernel_rfl)]; rfl), E3_, E4_, K_.call hI hk⟩
  refine steps_cons ?_ ?_
  ·
   rintro b a w' ⟨v1, v2, v3, v4, u3, u4, gb6, ha, J, E3_, E4_, K_⟩ hb_ hon hoff
   refine ⟨_, rfl, fun K hK => ?_⟩
   have e38 : a.tmps[38]? = some (.int .i64 t1) := by rw [ha]; exact putSel_on (e := (15, 38, .int .i64 t1)) 9 rfl rfl (hon 15 (by kernel_rfl)) rfl
   replace ha := Aside0.mk ha
   have d1 := D11.out
   have d2 := D12.out
   refine value_ (w1 := w') (v := .int .i64 (t1 / 23)) (by rfl) rfl ?_ ?_
   ·
    go_simp
    (try simp only [i64_w])
    all_goals first | rfl | assumption
   refine hK.out _ _ ⟨v1, v2, v3, v4, u3, u4, gb6, (by rw [ha.out]; exact putSel_upk 10 hb_ rfl rfl rfl), J, E3_, E4_, K_⟩
  refine steps_cons ?_ ?_
  ·
   rintro b a w' ⟨v1, v2, v3, v4, u3, u4, gb6, ha, J, E3_, E4_, K_⟩ hb_ hon hoff
   refine ⟨_, rfl, fun K hK => ?_⟩
   have e39 : a.tmps[39]? = some (.int .i64 (t1 / 23)) := by rw [ha]; exact putSel_on (e := (16, 39, .int .i64 (t1 / 23))) 10 rfl rfl (hon 16 (by kernel_rfl)) rfl
   replace ha := Aside0.mk ha
   have d1 := D11.out
   have d2 := D12.out
   refine value_ (w1 := w') (v := .int .i64 (3 + t1 / 23)) (by rfl) rfl ?_ ?_
   ·
    go_simp
    (try simp only [i64_w])
    all_goals first | rfl | assumption
   refine hK.out _ _ ⟨v1, v2, v3, v4, u3, u4, gb6, (by rw [ha.out]; exact putSel_upk 11 hb_ rfl rfl rfl), J, E3_, E4_, K_⟩
  refine steps_cons ?_ ?_
  ·
   rintro b a w' ⟨v1, v2, v3, v4, u3, u4, gb6, ha, J, E3_, E4_, K_⟩ hb_ hon hoff
   refine ⟨_, rfl, fun K hK => ?_⟩
   have hr_ := J.l3 (hon 13 (by kernel_rfl))
   obtain ⟨A7, c7, e7⟩ := Kd.R_slice hr_
   subst e7
   have hc7 : dmL3_.length ≤ c7 := (Kd.R_reads' hr_).2.1
   have e36 : a.tmps[36]? = some (.slice A7 dmL3_.length c7) := by rw [ha]; exact putSel_on (e := (13, 36, .slice A7 dmL3_.length c7)) 8 rfl rfl (hon 13 (by kernel_rfl)) rfl
   have e40 : a.tmps[40]? = some (.int .i64 (3 + t1 / 23)) := by rw [ha]; exact putSel_on (e := (17, 40, .int .i64 (3 + t1 / 23))) 11 rfl rfl (hon 17 (by kernel_rfl)) rfl
   replace ha := Aside0.mk ha
   have d3 := D13.out
   have hq_ : 0 ≤ 3 + t1 / 23 ∧ 3 + t1 / 23 ≤ (c7 : Int) := ⟨d3.1, by have h4 : dmL3_.length = 4 := rfl; omega⟩
   have hql_ := HQL1.out
   have hd_ : decide (0 ≤ 3 + t1 / 23) = true := decide_eq_true d3.1
   refine value_ (w1 := w') (v := .slice A7 q1.length c7) (by rfl) rfl ?_ ?_
   ·
    go_simp
    (try simp only [i64_w])
    all_goals first | rfl | assumption
   refine hK.out _ _ ⟨v1, v2, .slice A7 dmL3_.length c7, v4, .slice A7 q1.length c7, u4, gb6, (by rw [ha.out]; exact putSel_upk 12 hb_ rfl rfl rfl), J, (fun _ => ⟨A7, c7, rfl, rfl⟩), E4_, K_⟩
  refine steps_cons ?_ ?_
  ·
   rintro b a w' ⟨v1, v2, v3, v4, u3, u4, gb6, ha, J, E3_, E4_, K_⟩ hb_ hon hoff
   refine ⟨_, rfl, fun K hK => ?_⟩
   have hI : IsS99 w w' g x p7 s7 := by
    have h_ := J.hI
    rw [hon 4 (by kernel_rfl), hon 10 (by kernel_rfl), hon 15 (by kernel_rfl), hb_, hoff 23 (by kernel_rfl), hoff 27 (by kernel_rfl)] at h_
    exact h_
   have hr_ := J.l3 (hon 13 (by kernel_rfl))
   obtain ⟨A7, c7, e7, e8⟩ := E3_ (hon 18 (by kernel_rfl))
   subst e7
   subst e8
   have e35 : a.tmps[35]? = some (.pointer (some ⟨g, 0, none⟩)) := by rw [ha]; exact (putSel_off rfl).trans rfl
   have e41 : a.tmps[41]? = some (.slice A7 q1.length c7) := by rw [ha]; exact putSel_on (e := (18, 41, .slice A7 q1.length c7)) 12 rfl rfl (hon 18 (by kernel_rfl)) rfl
   replace ha := Aside0.mk ha
   have hq4 : q1.length ≤ 4 := by have := HQL1.out; have := D13.out; omega
   refine goes_ Tryd.func88 (by kernel_rfl) rfl #[.pointer (some ⟨g, 0, none⟩), .slice A7 q1.length c7] (by rfl) rfl rfl (by first | (simp only [List.map_toArray, List.map_cons, List.map_nil, Act.eval, Array.getD_eq_getD_getElem?, Option.getD_some, e35, e41]; done) | (simp only [List.map_toArray, List.map_cons, List.map_nil, Act.eval, Array.getD_eq_getD_getElem?, Option.getD_some, e35, e41]; rfl)) ?_
   refine (spec_l1Cur_among.calls g x p7 s7 _ _ q1 y3 p8 s8 w _ hI J.hB (by rw [HQ1.out]; exact Kd.C_take (Kd.R_reads' hr_).2.2 (by have := HQL1.out; have := D13.out; show _ ≤ 4; omega)) (by have := (Kd.R_reads' hr_).2.1; have h4 : dmL3_.length = 4 := rfl; omega) (fun ad e1 e2 => far_slice (IsS99.own_ne hI hr_ (by decide)) ad e1 (by show 0 < 4; decide)) E8.out).mono ?_
   rintro e w7 ⟨rfl, hi, hb, hk⟩
   refine ⟨_, rfl, ?_⟩
   refine hK.out _ _ ⟨v1, v2, .slice A7 dmL3_.length c7, v4, .slice A7 q1.length c7, u4, gb6, (by rw [ha.out]; exact putSel_upk 13 hb_ rfl rfl rfl), J.call hb hi hk (by show dmS_ _ _ _ _ _ _ _ (b 4) (b 10) (b 15) true (b 23) (b 27) = _; rw [hon 4 (by kernel_rfl), hon 10 (by kernel_rfl), hon 15 (by kernel_rfl), hoff 23 (by kernel_rfl), hoff 27 (by kernel_rfl)]; rfl), (fun _ => ⟨A7, c7, rfl, rfl⟩), E4_, K_.call hI hk⟩
  refine steps_cons ?_ ?_
  ·
   rintro b a w' ⟨v1, v2, v3, v4, u3, u4, gb6, ha, J, E3_, E4_, K_⟩ hb_ hon hoff
   refine ⟨_, rfl, fun K hK => ?_⟩
   replace ha := Aside0.mk ha
   refine Kd.R_lit_step (Kd.int .i64) _ 3 ?hg (N := 44) ?hd (xs := dmL4_) (inner := [.int .i64 1, .int .i64 2, .int .i64 0, .int .i64 (-1)]) (ok := fun _ => True) (okp := fun _ => True) ?hr ?hp (fun _ hk => hk) trivial (Below.refl _ _) (Nat.le_refl _) (by decide) ?_; (case hd => rfl); (case hg => rfl); (case hr => first | (go_simp; done) | (go_simp; rfl)); (case hp => exact (Reps.one (show Kd.M (Kd.int .i64) _ _ _ 1 [.int .i64 1] from rfl) (Reps.one (show Kd.M (Kd.int .i64) _ _ _ 2 [.int .i64 2] from rfl) (Reps.one (show Kd.M (Kd.int .i64) _ _ _ 0 [.int .i64 0] from rfl) (Reps.one (show Kd.M (Kd.int .i64) _ _ _ (-1) [.int .i64 (-1)] from rfl) (Reps.none _ _))))))
   intro v7 w7 ho hb hg_ hnew_
   clear hg_ hnew_
   refine hK.out _ _ ⟨v1, v2, v3, v7, u3, u4, gb6, (by rw [ha.out]; exact putSel_upk 14 hb_ rfl rfl rfl), J.lit4 hb (Kd.R_lower ho (below_size J.hB)), E3_, (fun h_ => absurd ((hoff 26 (by kernel_rfl)).symm.trans h_) (by decide)), K_.below hb⟩
  refine steps_cons ?_ ?_
  ·
   rintro b a w' ⟨v1, v2, v3, v4, u3, u4, gb6, ha, J, E3_, E4_, K_⟩ hb_ hon hoff
   refine ⟨_, rfl, fun K hK => ?_⟩
   have hI : IsS99 w w' g x p8 s8 := by
    have h_ := J.hI
    rw [hon 4 (by kernel_rfl), hon 10 (by kernel_rfl), hon 15 (by kernel_rfl), hon 19 (by kernel_rfl), hb_, hoff 27 (by kernel_rfl)] at h_
    exact h_
   have e45 : a.tmps[45]? = some (.pointer (some ⟨g, 0, none⟩)) := by rw [ha]; exact (putSel_off rfl).trans rfl
   replace ha := Aside0.mk ha
   refine goes_ Tryd.func86 (by kernel_rfl) rfl #[.pointer (some ⟨g, 0, none⟩), .int .i64 24] (by rfl) rfl rfl (by first | (simp only [List.map_toArray, List.map_cons, List.map_nil, Act.eval, Array.getD_eq_getD_getElem?, Option.getD_some, e45]; done) | (simp only [List.map_toArray, List.map_cons, List.map_nil, Act.eval, Array.getD_eq_getD_getElem?, Option.getD_some, e45]; rfl)) ?_
   refine (spec_l1Cur_pick.calls g x p8 s8 24 t2 p9 s9 w _ hI J.hB E9.out).mono ?_
   rintro e w7 ⟨rfl, hi, hb, hk⟩
   refine ⟨_, rfl, ?_⟩
   refine hK.out _ _ ⟨v1, v2, v3, v4, u3, u4, gb6, (by rw [ha.out]; exact putSel_upk 15 hb_ rfl rfl rfl), J.call hb hi hk (by show dmS_ _ _ _ _ _ _ _ (b 4) (b 10) (b 15) (b 19) true (b 27) = _; rw [hon 4 (by kernel_rfl), hon 10 (by kernel_rfl), hon 15 (by kernel_rfl), hon 19 (by kernel_rfl), hoff 27 (by kernel_rfl)]; rfl), E3_, E4_, K_.call hI hk⟩
  refine steps_cons ?_ ?_
  ·
   rintro b a w' ⟨v1, v2, v3, v4, u3, u4, gb6, ha, J, E3_, E4_, K_⟩ hb_ hon hoff
   refine ⟨_, rfl, fun K hK => ?_⟩
   have e46 : a.tmps[46]? = some (.int .i64 t2) := by rw [ha]; exact putSel_on (e := (23, 46, .int .i64 t2)) 15 rfl rfl (hon 23 (by kernel_rfl)) rfl
   replace ha := Aside0.mk ha
   have d1 := D21.out
   have d2 := D22.out
   refine value_ (w1 := w') (v := .int .i64 (t2 / 23)) (by rfl) rfl ?_ ?_
   ·
    go_simp
    (try simp only [i64_w])
    all_goals first | rfl | assumption
   refine hK.out _ _ ⟨v1, v2, v3, v4, u3, u4, gb6, (by rw [ha.out]; exact putSel_upk 16 hb_ rfl rfl rfl), J, E3_, E4_, K_⟩
  refine steps_cons ?_ ?_
  ·
   rintro b a w' ⟨v1, v2, v3, v4, u3, u4, gb6, ha, J, E3_, E4_, K_⟩ hb_ hon hoff
   refine ⟨_, rfl, fun K hK => ?_⟩
   have e47 : a.tmps[47]? = some (.int .i64 (t2 / 23)) := by rw [ha]; exact putSel_on (e := (24, 47, .int .i64 (t2 / 23))) 16 rfl rfl (hon 24 (by kernel_rfl)) rfl
   replace ha := Aside0.mk ha
   have d1 := D21.out
   have d2 := D22.out
   refine value_ (w1 := w') (v := .int .i64 (3 + t2 / 23)) (by rfl) rfl ?_ ?_
   ·
    go_simp
    (try simp only [i64_w])
    all_goals first | rfl | assumption
   refine hK.out _ _ ⟨v1, v2, v3, v4, u3, u4, gb6, (by rw [ha.out]; exact putSel_upk 17 hb_ rfl rfl rfl), J, E3_, E4_, K_⟩
  refine steps_cons ?_ ?_
  ·
   rintro b a w' ⟨v1, v2, v3, v4, u3, u4, gb6, ha, J, E3_, E4_, K_⟩ hb_ hon hoff
   refine ⟨_, rfl, fun K hK => ?_⟩
   have hr_ := J.l4 (hon 21 (by kernel_rfl))
   obtain ⟨A7, c7, e7⟩ := Kd.R_slice hr_
   subst e7
   have hc7 : dmL4_.length ≤ c7 := (Kd.R_reads' hr_).2.1
   have e44 : a.tmps[44]? = some (.slice A7 dmL4_.length c7) := by rw [ha]; exact putSel_on (e := (21, 44, .slice A7 dmL4_.length c7)) 14 rfl rfl (hon 21 (by kernel_rfl)) rfl
   have e48 : a.tmps[48]? = some (.int .i64 (3 + t2 / 23)) := by rw [ha]; exact putSel_on (e := (25, 48, .int .i64 (3 + t2 / 23))) 17 rfl rfl (hon 25 (by kernel_rfl)) rfl
   replace ha := Aside0.mk ha
   have d3 := D23.out
   have hq_ : 0 ≤ 3 + t2 / 23 ∧ 3 + t2 / 23 ≤ (c7 : Int) := ⟨d3.1, by have h4 : dmL4_.length = 4 := rfl; omega⟩
   have hql_ := HQL2.out
   have hd_ : decide (0 ≤ 3 + t2 / 23) = true := decide_eq_true d3.1
   refine value_ (w1 := w') (v := .slice A7 q2.length c7) (by rfl) rfl ?_ ?_
   ·
    go_simp
    (try simp only [i64_w])
    all_goals first | rfl | assumption
   refine hK.out _ _ ⟨v1, v2, v3, .slice A7 dmL4_.length c7, u3, .slice A7 q2.length c7, gb6, (by rw [ha.out]; exact putSel_upk 18 hb_ rfl rfl rfl), J, E3_, (fun _ => ⟨A7, c7, rfl, rfl⟩), K_⟩
  refine steps_cons ?_ ?_
  ·
   rintro b a w' ⟨v1, v2, v3, v4, u3, u4, gb6, ha, J, E3_, E4_, K_⟩ hb_ hon hoff
   refine ⟨_, rfl, fun K hK => ?_⟩
   have hI : IsS99 w w' g x p9 s9 := by
    have h_ := J.hI
    rw [hon 4 (by kernel_rfl), hon 10 (by kernel_rfl), hon 15 (by kernel_rfl), hon 19 (by kernel_rfl), hon 23 (by kernel_rfl), hb_] at h_
    exact h_
   have hr_ := J.l4 (hon 21 (by kernel_rfl))
   obtain ⟨A7, c7, e7, e8⟩ := E4_ (hon 26 (by kernel_rfl))
   subst e7
   subst e8
   have e43 : a.tmps[43]? = some (.pointer (some ⟨g, 0, none⟩)) := by rw [ha]; exact (putSel_off rfl).trans rfl
   have e49 : a.tmps[49]? = some (.slice A7 q2.length c7) := by rw [ha]; exact putSel_on (e := (26, 49, .slice A7 q2.length c7)) 18 rfl rfl (hon 26 (by kernel_rfl)) rfl
   replace ha := Aside0.mk ha
   have hq4 : q2.length ≤ 4 := by have := HQL2.out; have := D23.out; omega
   refine goes_ Tryd.func88 (by kernel_rfl) rfl #[.pointer (some ⟨g, 0, none⟩), .slice A7 q2.length c7] (by rfl) rfl rfl (by first | (simp only [List.map_toArray, List.map_cons, List.map_nil, Act.eval, Array.getD_eq_getD_getElem?, Option.getD_some, e43, e49]; done) | (simp only [List.map_toArray, List.map_cons, List.map_nil, Act.eval, Array.getD_eq_getD_getElem?, Option.getD_some, e43, e49]; rfl)) ?_
   refine (spec_l1Cur_among.calls g x p9 s9 _ _ q2 y4 p10 s10 w _ hI J.hB (by rw [HQ2.out]; exact Kd.C_take (Kd.R_reads' hr_).2.2 (by have := HQL2.out; have := D23.out; show _ ≤ 4; omega)) (by have := (Kd.R_reads' hr_).2.1; have h4 : dmL4_.length = 4 := rfl; omega) (fun ad e1 e2 => far_slice (IsS99.own_ne hI hr_ (by decide)) ad e1 (by show 0 < 4; decide)) E10.out).mono ?_
   rintro e w7 ⟨rfl, hi, hb, hk⟩
   refine ⟨_, rfl, ?_⟩
   refine hK.out _ _ ⟨v1, v2, v3, .slice A7 dmL4_.length c7, u3, .slice A7 q2.length c7, gb6, (by rw [ha.out]; exact putSel_upk 19 hb_ rfl rfl rfl), J.call hb hi hk (by show dmS_ _ _ _ _ _ _ _ (b 4) (b 10) (b 15) (b 19) (b 23) true = _; rw [hon 4 (by kernel_rfl), hon 10 (by kernel_rfl), hon 15 (by kernel_rfl), hon 19 (by kernel_rfl), hon 23 (by kernel_rfl)]; rfl), E3_, (fun _ => ⟨A7, c7, rfl, rfl⟩), K_.call hI hk⟩
  refine steps_cons ?_ ?_
  ·
   rintro b a w' ⟨v1, v2, v3, v4, u3, u4, gb6, ha, J, E3_, E4_, K_⟩ hb_ hon hoff
   refine ⟨_, rfl, fun K hK => ?_⟩
   have e28 : a.tmps[28]? = some (.int .i64 (wrap64 (ax + y1))) := by rw [ha]; exact putSel_on (e := (5, 28, .int .i64 (wrap64 (ax + y1)))) 3 rfl rfl (hon 5 (by kernel_rfl)) rfl
   have e34 : a.tmps[34]? = some (.int .i64 (wrap64 (ay + y2))) := by rw [ha]; exact putSel_on (e := (11, 34, .int .i64 (wrap64 (ay + y2)))) 7 rfl rfl (hon 11 (by kernel_rfl)) rfl
   have e42 : a.tmps[42]? = some (.int .i64 y3) := by rw [ha]; exact putSel_on (e := (19, 42, .int .i64 y3)) 13 rfl rfl (hon 19 (by kernel_rfl)) rfl
   have e50 : a.tmps[50]? = some (.int .i64 y4) := by rw [ha]; exact putSel_on (e := (27, 50, .int .i64 y4)) 19 rfl rfl (hon 27 (by kernel_rfl)) rfl
   replace ha := Aside0.mk ha
   refine value_ (w1 := w') (v := .agg #[.int .i64 (wrap64 (ax + y1)), .int .i64 (wrap64 (ay + y2)), .int .i64 y3, .int .i64 y4]) (by rfl) rfl ?_ ?_
   ·
    go_simp
    (try simp only [i64_w])
    all_goals first | rfl | assumption
   refine hK.out _ _ ⟨v1, v2, v3, v4, u3, u4, gb6, (by rw [ha.out]; exact putSel_upk 20 hb_ rfl rfl rfl), J, E3_, E4_, K_⟩
  refine steps_cons ?_ ?_
  ·
   rintro b a w' ⟨v1, v2, v3, v4, u3, u4, gb6, ha, J, E3_, E4_, K_⟩ hb_ hon hoff
   refine ⟨_, rfl, fun K hK => ?_⟩
   replace ha := Aside0.mk ha
   refine box_step ?hg (N := 6) ?hd (cs := #[.int .i64 0, .int .i64 0, .int .i64 0, .int .i64 0]) (t := 26) ?hr ?_; (case hd => rfl); (case hg => rfl); (case hr => first | (go_simp; done) | (go_simp; rfl))
   intro s_ hg w7 hbox hb
   refine hK.out _ _ ⟨v1, v2, v3, v4, u3, u4, s_, (by rw [ha.out]; exact putSel_upk 21 hb_ rfl rfl rfl), J.below hb, E3_, E4_, (fun _ => ⟨by rw [show up b 29 30 = false from hoff 30 (by kernel_rfl)]; exact hbox, by rw [hg]; exact below_size J.hB, nl_ hg J.h2, nl_ hg J.h3, nl_ hg J.h5⟩)⟩
  refine steps_cons ?_ ?_
  ·
   rintro b a w' ⟨v1, v2, v3, v4, u3, u4, gb6, ha, J, E3_, E4_, K_⟩ hb_ hon hoff
   refine ⟨_, rfl, fun K hK => ?_⟩
   obtain ⟨h6, k1, k2, k3, k4⟩ := K_ (hon 29 (by kernel_rfl))
   rw [show b 30 = false from hb_] at h6
   replace h6 : w'.heap[gb6]? = some (.cells #[.int .i64 0, .int .i64 0, .int .i64 0, .int .i64 0] 26 (0, 0)) := h6
   have e6 : a.tmps[6]? = some (.pointer (some ⟨gb6, 0, none⟩)) := by rw [ha]; exact putSel_on (e := (29, 6, .pointer (some ⟨gb6, 0, none⟩))) 21 rfl rfl (hon 29 (by kernel_rfl)) rfl
   have e51 : a.tmps[51]? = some (.agg #[.int .i64 (wrap64 (ax + y1)), .int .i64 (wrap64 (ay + y2)), .int .i64 y3, .int .i64 y4]) := by rw [ha]; exact putSel_on (e := (28, 51, .agg #[.int .i64 (wrap64 (ax + y1)), .int .i64 (wrap64 (ay + y2)), .int .i64 y3, .int .i64 y4])) 20 rfl rfl (hon 28 (by kernel_rfl)) rfl
   replace ha := Aside0.mk ha
   obtain ⟨hcz0, hcz1, hcz2, hcz3⟩ := cz4_ h6
   obtain ⟨hfz0, hfz1, hfz2, hfz3⟩ := fz4_ h6
   refine skip_ (w1 := ?_) (by rfl) rfl ?_ ?_
   rotate_left
   ·
    go_simp
    rfl
   refine hK.out _ _ ⟨v1, v2, v3, v4, u3, u4, gb6, (by rw [ha.out]; exact (putSel_same rfl).symm), J.store h6 k1 k2 k3 k4 _ _ _ _, E3_, E4_, (fun _ => ⟨by rw [show up b 30 30 = true from rfl]; exact p4_ h6 _ _ _ _, k1, k2, k3, k4⟩)⟩
  exact steps_nil
 ·
  skip
  rintro b a wz hall ⟨v1, v2, v3, v4, u3, u4, gb6, ha, J, E3_, E4_, K_⟩
  clear HJ
  have hb1_ := hall 1 (by kernel_rfl)
  have hb3_ := hall 3 (by kernel_rfl)
  have hb4_ := hall 4 (by kernel_rfl)
  have hb5_ := hall 5 (by kernel_rfl)
  have hb7_ := hall 7 (by kernel_rfl)
  have hb9_ := hall 9 (by kernel_rfl)
  have hb10_ := hall 10 (by kernel_rfl)
  have hb11_ := hall 11 (by kernel_rfl)
  have hb13_ := hall 13 (by kernel_rfl)
  have hb15_ := hall 15 (by kernel_rfl)
  have hb16_ := hall 16 (by kernel_rfl)
  have hb17_ := hall 17 (by kernel_rfl)
  have hb18_ := hall 18 (by kernel_rfl)
  have hb19_ := hall 19 (by kernel_rfl)
  have hb21_ := hall 21 (by kernel_rfl)
  have hb23_ := hall 23 (by kernel_rfl)
  have hb24_ := hall 24 (by kernel_rfl)
  have hb25_ := hall 25 (by kernel_rfl)
  have hb26_ := hall 26 (by kernel_rfl)
  have hb27_ := hall 27 (by kernel_rfl)
  have hb28_ := hall 28 (by kernel_rfl)
  have hb29_ := hall 29 (by kernel_rfl)
  have hb30_ := hall 30 (by kernel_rfl)
  obtain ⟨h6, k1, k2, k3, k4⟩ := K_ hb29_
  rw [hb30_] at h6
  replace h6 : wz.heap[gb6]? = some (.cells #[.int .i64 (wrap64 (ax + y1)), .int .i64 (wrap64 (ay + y2)), .int .i64 y3, .int .i64 y4] 26 (0, 0)) := h6
  subst ha
  simp only [putSel, hb1_, hb3_, hb4_, hb5_, hb7_, hb9_, hb10_, hb11_, hb13_, hb15_, hb16_, hb17_, hb18_, hb19_, hb21_, hb23_, hb24_, hb25_, hb26_, hb27_, hb28_, hb29_, hb30_, if_true, Act.put, List.setIfInBounds_toArray, List.set_cons_zero, List.set_cons_succ]
  have HB := Aside0.mk J.hB
  have BK2 := Aside0.mk J.h2
  have BK3 := Aside0.mk J.h3
  have BK5 := Aside0.mk J.h5
  have BK6 := Aside0.mk h6
  have N26 := Aside0.mk k2
  have N36 := Aside0.mk k3
  clear J E3_ E4_ K_ h6 k1 k2 k3 k4 hall hb1_ hb3_ hb4_ hb5_ hb7_ hb9_ hb10_ hb11_ hb13_ hb15_ hb16_ hb17_ hb18_ hb19_ hb21_ hb23_ hb24_ hb25_ hb26_ hb27_ hb28_ hb29_ hb30_
  try go_wp2
  replace BK2 := Aside0.mk (blk_drew BK2.out)
  replace BK3 := Aside0.mk (blk_drew BK3.out)
  replace BK5 := Aside0.mk (blk_drew BK5.out)
  replace BK6 := Aside0.mk (blk_drew BK6.out)
  replace HB := Aside0.mk (below_drew HB.out)
  refine start_ (n := 4) (S := fun w' => w'.cell? ⟨gb5, 0, none⟩ = some (.int .i64 ax) ∧ w'.cell? ⟨gb5, 1, none⟩ = some (.int .i64 ay) ∧ w'.cell? ⟨gb5, 2, none⟩ = some (.int .i64 aw) ∧ w'.cell? ⟨gb5, 3, none⟩ = some (.int .i64 ah) ∧ w'.cell? ⟨gb6, 0, none⟩ = some (.int .i64 (wrap64 (ax + y1))) ∧ w'.cell? ⟨gb6, 1, none⟩ = some (.int .i64 (wrap64 (ay + y2))) ∧ w'.cell? ⟨gb6, 2, none⟩ = some (.int .i64 y3) ∧ w'.cell? ⟨gb6, 3, none⟩ = some (.int .i64 y4)) (ds := []) dm4.mkE (by kernel_rfl) rfl rfl ⟨(blk_cell BK5.out 0).trans rfl, (blk_cell BK5.out 1).trans rfl, (blk_cell BK5.out 2).trans rfl, (blk_cell BK5.out 3).trans rfl, (blk_cell BK6.out 0).trans rfl, (blk_cell BK6.out 1).trans rfl, (blk_cell BK6.out 2).trans rfl, (blk_cell BK6.out 3).trans rfl⟩ (fun hHeld => ?_); refine with_tabW dm4.tab dm4.bits (fun HT_ HW_ => ?_)
  generalize wz.drew = wy at BK2 BK3 BK5 BK6 HB hHeld ⊢
  refine tk_ HT_ HW_ hHeld 0 (some 52) dm4.mk0 ?_
  refine tk_ HT_ HW_ hHeld 1 (some 53) dm4.mk0_1 ?_
  refine one_ (i := 2) (N := none) dm4.mk0_1_2 rfl rfl (one_of HT_.out (by kernel_rfl)) (by decide) (fun K hK => ?_)
  obtain ⟨hcz0, hcz1, hcz2, hcz3⟩ := cz4_ BK2.out
  obtain ⟨hfz0, hfz1, hfz2, hfz3⟩ := fz4_ BK2.out
  refine skip_ (w1 := ?_) (by rfl) rfl ?_ ?_
  rotate_left
  ·
   go_simp
   rfl
  clear hcz0 hcz1 hcz2 hcz3 hfz0 hfz1 hfz2 hfz3
  have m2_ := Aside0.mk (p4_ BK2.out (.int .i64 ax) (.int .i64 ay) (.int .i64 aw) (.int .i64 ah))
  have m3_ := Aside0.mk (f4_ (j0 := 0) (j1 := 1) (j2 := 2) (j3 := 3) BK3.out (Ne.symm N23.out) (.int .i64 ax) (.int .i64 ay) (.int .i64 aw) (.int .i64 ah))
  have m5_ := Aside0.mk (f4_ (j0 := 0) (j1 := 1) (j2 := 2) (j3 := 3) BK5.out (Ne.symm N25.out) (.int .i64 ax) (.int .i64 ay) (.int .i64 aw) (.int .i64 ah))
  have m6_ := Aside0.mk (f4_ (j0 := 0) (j1 := 1) (j2 := 2) (j3 := 3) BK6.out (Ne.symm N26.out) (.int .i64 ax) (.int .i64 ay) (.int .i64 aw) (.int .i64 ah))
  have mb_ : Aside0 (Below w.heap.size w ((((wy.setCell ⟨gb2, 0, none⟩ (.int .i64 ax)).setCell ⟨gb2, 1, none⟩ (.int .i64 ay)).setCell ⟨gb2, 2, none⟩ (.int .i64 aw)).setCell ⟨gb2, 3, none⟩ (.int .i64 ah))) := ⟨below_set (j := 3) (below_set (j := 2) (below_set (j := 1) (below_set (j := 0) HB.out G2.out) G2.out) G2.out) G2.out⟩
  clear BK2 BK3 BK5 BK6 HB hHeld
  generalize ((((wy.setCell ⟨gb2, 0, none⟩ (.int .i64 ax)).setCell ⟨gb2, 1, none⟩ (.int .i64 ay)).setCell ⟨gb2, 2, none⟩ (.int .i64 aw)).setCell ⟨gb2, 3, none⟩ (.int .i64 ah)) = wx at m2_ m3_ m5_ m6_ mb_ ⊢
  have BK2 := m2_
  have BK3 := m3_
  have BK5 := m5_
  have BK6 := m6_
  have HB := mb_
  clear m2_ m3_ m5_ m6_ mb_
  refine hK.out _ _ ⟨(blk_cell BK5.out 0).trans rfl, (blk_cell BK5.out 1).trans rfl, (blk_cell BK5.out 2).trans rfl, (blk_cell BK5.out 3).trans rfl, (blk_cell BK6.out 0).trans rfl, (blk_cell BK6.out 1).trans rfl, (blk_cell BK6.out 2).trans rfl, (blk_cell BK6.out 3).trans rfl⟩ (fun hHeld => ?_)
  clear hK K
  refine one_ (i := 3) (N := none) dm4.mk0_1_2_3 rfl rfl (one_of HT_.out (by kernel_rfl)) (by decide) (fun K hK => ?_)
  obtain ⟨hcz0, hcz1, hcz2, hcz3⟩ := cz4_ BK3.out
  obtain ⟨hfz0, hfz1, hfz2, hfz3⟩ := fz4_ BK3.out
  refine skip_ (w1 := ?_) (by rfl) rfl ?_ ?_
  rotate_left
  ·
   go_simp
   rfl
  clear hcz0 hcz1 hcz2 hcz3 hfz0 hfz1 hfz2 hfz3
  have m2_ := Aside0.mk (f4_ (j0 := 0) (j1 := 1) (j2 := 2) (j3 := 3) BK2.out N23.out (.int .i64 (wrap64 (ax + y1))) (.int .i64 (wrap64 (ay + y2))) (.int .i64 y3) (.int .i64 y4))
  have m3_ := Aside0.mk (p4_ BK3.out (.int .i64 (wrap64 (ax + y1))) (.int .i64 (wrap64 (ay + y2))) (.int .i64 y3) (.int .i64 y4))
  have m5_ := Aside0.mk (f4_ (j0 := 0) (j1 := 1) (j2 := 2) (j3 := 3) BK5.out (Ne.symm N35.out) (.int .i64 (wrap64 (ax + y1))) (.int .i64 (wrap64 (ay + y2))) (.int .i64 y3) (.int .i64 y4))
  have m6_ := Aside0.mk (f4_ (j0 := 0) (j1 := 1) (j2 := 2) (j3 := 3) BK6.out (Ne.symm N36.out) (.int .i64 (wrap64 (ax + y1))) (.int .i64 (wrap64 (ay + y2))) (.int .i64 y3) (.int .i64 y4))
  have mb_ : Aside0 (Below w.heap.size w ((((wx.setCell ⟨gb3, 0, none⟩ (.int .i64 (wrap64 (ax + y1)))).setCell ⟨gb3, 1, none⟩ (.int .i64 (wrap64 (ay + y2)))).setCell ⟨gb3, 2, none⟩ (.int .i64 y3)).setCell ⟨gb3, 3, none⟩ (.int .i64 y4))) := ⟨below_set (j := 3) (below_set (j := 2) (below_set (j := 1) (below_set (j := 0) HB.out G3.out) G3.out) G3.out) G3.out⟩
  clear BK2 BK3 BK5 BK6 HB hHeld
  generalize ((((wx.setCell ⟨gb3, 0, none⟩ (.int .i64 (wrap64 (ax + y1)))).setCell ⟨gb3, 1, none⟩ (.int .i64 (wrap64 (ay + y2)))).setCell ⟨gb3, 2, none⟩ (.int .i64 y3)).setCell ⟨gb3, 3, none⟩ (.int .i64 y4)) = wv at m2_ m3_ m5_ m6_ mb_ ⊢
  have BK2 := m2_
  have BK3 := m3_
  have BK5 := m5_
  have BK6 := m6_
  have HB := mb_
  clear m2_ m3_ m5_ m6_ mb_
  refine hK.out _ _ ⟨(blk_cell BK5.out 0).trans rfl, (blk_cell BK5.out 1).trans rfl, (blk_cell BK5.out 2).trans rfl, (blk_cell BK5.out 3).trans rfl, (blk_cell BK6.out 0).trans rfl, (blk_cell BK6.out 1).trans rfl, (blk_cell BK6.out 2).trans rfl, (blk_cell BK6.out 3).trans rfl⟩ (fun hHeld => ?_)
  clear hK K
  refine done_ (done_of HT_.out (by kernel_rfl)) ?_
  try go_wp2
  refine bodyPost_ret (results_list (rs := [.cell 2 26, .cell 3 26]) rfl (by simp) (.cell gb2 26 #[.int .i64 ax, .int .i64 ay, .int .i64 aw, .int .i64 ah] (0, 0) _ rfl BK2.out Tryd.underlying26 rfl (by kernel_rfl) (.cell gb3 26 #[.int .i64 (wrap64 (ax + y1)), .int .i64 (wrap64 (ay + y2)), .int .i64 y3, .int .i64 y4] (0, 0) _ rfl BK3.out Tryd.underlying26 rfl (by kernel_rfl) .nil))) rfl ?_
  exact ⟨rr_, HB.out⟩
def impl_isBox.f (a0_0 : Int) (a0_1 : Int) (a0_2 : Int) (a0_3 : Int) : Option (Bool) := (impl_within.f a0_0 (-100) 200).bind fun t762 => (if t762 = true then ((impl_within.f a0_1 (-100) 200).bind fun t763 => (if t763 = true then ((impl_within.f a0_2 0 100).bind fun t764 => (if t764 = true then ((impl_within.f a0_3 0 100).bind fun t765 => (some t765)) else (some false))) else (some false))) else (some false))
set_option maxHeartbeats 8000000 in
set_option maxRecDepth 100000 in
theorem impl_isBox.calls (a0_0 : Int) (a0_1 : Int) (a0_2 : Int) (a0_3 : Int) (r : Bool) (w : World) (h : impl_isBox.f a0_0 a0_1 a0_2 a0_3 = some r) :
  Calls Tryd.prog 90 #[.agg #[.int .i64 a0_0, .int .i64 a0_1, .int .i64 a0_2, .int .i64 a0_3]] w fun e w' => e = .returned (.bool r) ∧ Below w.heap.size w w' := by
 have hu26 := Tryd.underlying26
 have HB := Aside0.mk (Below.refl w.heap.size w)
 have H : ((impl_within.f a0_0 (-100) 200).bind fun t762 => (if t762 = true then ((impl_within.f a0_1 (-100) 200).bind fun t763 => (if t763 = true then ((impl_within.f a0_2 0 100).bind fun t764 => (if t764 = true then ((impl_within.f a0_3 0 100).bind fun t765 => (some t765)) else (some false))) else (some false))) else (some false))) = some r := h
 clear h
 replace H := Option.bind_eq_some_iff.mp H
 obtain ⟨t762, A20, H⟩ := H
 replace H : (if t762 = true then ((impl_within.f a0_1 (-100) 200).bind fun t763 => (if t763 = true then ((impl_within.f a0_2 0 100).bind fun t764 => (if t764 = true then ((impl_within.f a0_3 0 100).bind fun t765 => (some t765)) else (some false))) else (some false))) else (some false)) = some r := H
 have A2 := Aside0.mk A20
 clear A20
 by_cases c3 : t762 = true
 ·
  subst c3
  have H1 : ((impl_within.f a0_1 (-100) 200).bind fun t763 => (if t763 = true then ((impl_within.f a0_2 0 100).bind fun t764 => (if t764 = true then ((impl_within.f a0_3 0 100).bind fun t765 => (some t765)) else (some false))) else (some false))) = some r := by rw [if_pos rfl] at H; exact H
  clear H
  have H := H1
  clear H1
  replace H := Option.bind_eq_some_iff.mp H
  obtain ⟨t763, A40, H⟩ := H
  replace H : (if t763 = true then ((impl_within.f a0_2 0 100).bind fun t764 => (if t764 = true then ((impl_within.f a0_3 0 100).bind fun t765 => (some t765)) else (some false))) else (some false)) = some r := H
  have A4 := Aside0.mk A40
  clear A40
  by_cases c5 : t763 = true
  ·
   subst c5
   have H1 : ((impl_within.f a0_2 0 100).bind fun t764 => (if t764 = true then ((impl_within.f a0_3 0 100).bind fun t765 => (some t765)) else (some false))) = some r := by rw [if_pos rfl] at H; exact H
   clear H
   have H := H1
   clear H1
   replace H := Option.bind_eq_some_iff.mp H
   obtain ⟨t764, A60, H⟩ := H
   replace H : (if t764 = true then ((impl_within.f a0_3 0 100).bind fun t765 => (some t765)) else (some false)) = some r := H
   have A6 := Aside0.mk A60
   clear A60
   by_cases c7 : t764 = true
   ·
    subst c7
    have H1 : ((impl_within.f a0_3 0 100).bind fun t765 => (some t765)) = some r := by rw [if_pos rfl] at H; exact H
    clear H
    have H := H1
    clear H1
    replace H := Option.bind_eq_some_iff.mp H
    obtain ⟨t765, A80, H⟩ := H
    replace H : (some t765) = some r := H
    have A8 := Aside0.mk A80
    clear A80
    obtain rfl := Option.some.inj H
    go_enter Tryd.func90, Tryd.ntmps90
    go_wp2_with (first | ((with_reducible refine gate_dst (N := 1) rfl ?_); refine box_event ?hg (N := 1) ?hd (cs := #[.int .i64 a0_0, .int .i64 a0_1, .int .i64 a0_2, .int .i64 a0_3]) (t := 26) ?hr ?_; (case hd => rfl); (case hg => rfl); (case hr => first | (go_simp; done) | (go_simp; rfl)); intro gb761 hg w9 hbox hb; have BK761 := Aside0.mk (hbox); have GW761 := Aside0.mk ((bz_ hg (lb0_ HB.out))); have GE761 := Aside0.mk ((bz_ hg (lb0_ HB.out))); replace HB := Aside0.mk (below_step (lb0_ HB.out) hb); clear hb hbox hg; obtain ⟨hcz10_0, hcz10_1, hcz10_2, hcz10_3⟩ := cz4_ BK761.out; obtain ⟨hfz10_0, hfz10_1, hfz10_2, hfz10_3⟩ := fz4_ BK761.out) | ((with_reducible refine gate_callee (f := 73) rfl ?_); refine ga_ (some 5) Tryd.func73 #[.int .i64 a0_0, .int .i64 (-100), .int .i64 200] ?_; (with_reducible refine (impl_within.calls a0_0 (-100) 200 true _ A2.out).mono ?_); rintro e w' ⟨rfl, ⟨nd, rfl⟩⟩; refine ⟨_, rfl, ?_⟩) | (go_at_call 73; (with_reducible refine (impl_within.calls a0_1 (-100) 200 true _ A4.out).mono ?_); rintro e w' ⟨rfl, ⟨nd, rfl⟩⟩) | (go_at_call 73; (with_reducible refine (impl_within.calls a0_2 0 100 true _ A6.out).mono ?_); rintro e w' ⟨rfl, ⟨nd, rfl⟩⟩) | (go_at_call 73; (with_reducible refine (impl_within.calls a0_3 0 100 t765 _ A8.out).mono ?_); rintro e w' ⟨rfl, ⟨nd, rfl⟩⟩))
    go_ret
    exact ⟨rr_, lb1_ HB.out GE761.out⟩
   ·
    replace c7 := Bool.eq_false_iff.mpr c7
    subst c7
    have H1 : (some false) = some r := by rw [if_neg (show ¬ (false = true) by decide)] at H; exact H
    clear H
    have H := H1
    clear H1
    obtain rfl := Option.some.inj H
    go_enter Tryd.func90, Tryd.ntmps90
    go_wp2_with (first | ((with_reducible refine gate_dst (N := 1) rfl ?_); refine box_event ?hg (N := 1) ?hd (cs := #[.int .i64 a0_0, .int .i64 a0_1, .int .i64 a0_2, .int .i64 a0_3]) (t := 26) ?hr ?_; (case hd => rfl); (case hg => rfl); (case hr => first | (go_simp; done) | (go_simp; rfl)); intro gb761 hg w11 hbox hb; have BK761 := Aside0.mk (hbox); have GW761 := Aside0.mk ((bz_ hg (lb0_ HB.out))); have GE761 := Aside0.mk ((bz_ hg (lb0_ HB.out))); replace HB := Aside0.mk (below_step (lb0_ HB.out) hb); clear hb hbox hg; obtain ⟨hcz12_0, hcz12_1, hcz12_2, hcz12_3⟩ := cz4_ BK761.out; obtain ⟨hfz12_0, hfz12_1, hfz12_2, hfz12_3⟩ := fz4_ BK761.out) | ((with_reducible refine gate_callee (f := 73) rfl ?_); refine ga_ (some 5) Tryd.func73 #[.int .i64 a0_0, .int .i64 (-100), .int .i64 200] ?_; (with_reducible refine (impl_within.calls a0_0 (-100) 200 true _ A2.out).mono ?_); rintro e w' ⟨rfl, ⟨nd, rfl⟩⟩; refine ⟨_, rfl, ?_⟩) | (go_at_call 73; (with_reducible refine (impl_within.calls a0_1 (-100) 200 true _ A4.out).mono ?_); rintro e w' ⟨rfl, ⟨nd, rfl⟩⟩) | (go_at_call 73; (with_reducible refine (impl_within.calls a0_2 0 100 false _ A6.out).mono ?_); rintro e w' ⟨rfl, ⟨nd, rfl⟩⟩))
    go_ret
    exact ⟨rr_, lb1_ HB.out GE761.out⟩
  ·
   replace c5 := Bool.eq_false_iff.mpr c5
   subst c5
   have H1 : (some false) = some r := by rw [if_neg (show ¬ (false = true) by decide)] at H; exact H
   clear H
   have H := H1
   clear H1
   obtain rfl := Option.some.inj H
   go_enter Tryd.func90, Tryd.ntmps90
   go_wp2_with (first | ((with_reducible refine gate_dst (N := 1) rfl ?_); refine box_event ?hg (N := 1) ?hd (cs := #[.int .i64 a0_0, .int .i64 a0_1, .int .i64 a0_2, .int .i64 a0_3]) (t := 26) ?hr ?_; (case hd => rfl); (case hg => rfl); (case hr => first | (go_simp; done) | (go_simp; rfl)); intro gb761 hg w13 hbox hb; have BK761 := Aside0.mk (hbox); have GW761 := Aside0.mk ((bz_ hg (lb0_ HB.out))); have GE761 := Aside0.mk ((bz_ hg (lb0_ HB.out))); replace HB := Aside0.mk (below_step (lb0_ HB.out) hb); clear hb hbox hg; obtain ⟨hcz14_0, hcz14_1, hcz14_2, hcz14_3⟩ := cz4_ BK761.out; obtain ⟨hfz14_0, hfz14_1, hfz14_2, hfz14_3⟩ := fz4_ BK761.out) | ((with_reducible refine gate_callee (f := 73) rfl ?_); refine ga_ (some 5) Tryd.func73 #[.int .i64 a0_0, .int .i64 (-100), .int .i64 200] ?_; (with_reducible refine (impl_within.calls a0_0 (-100) 200 true _ A2.out).mono ?_); rintro e w' ⟨rfl, ⟨nd, rfl⟩⟩; refine ⟨_, rfl, ?_⟩) | (go_at_call 73; (with_reducible refine (impl_within.calls a0_1 (-100) 200 false _ A4.out).mono ?_); rintro e w' ⟨rfl, ⟨nd, rfl⟩⟩))
   go_ret
   exact ⟨rr_, lb1_ HB.out GE761.out⟩
 ·
  replace c3 := Bool.eq_false_iff.mpr c3
  subst c3
  have H1 : (some false) = some r := by rw [if_neg (show ¬ (false = true) by decide)] at H; exact H
  clear H
  have H := H1
  clear H1
  obtain rfl := Option.some.inj H
  go_enter Tryd.func90, Tryd.ntmps90
  go_wp2_with (first | ((with_reducible refine gate_dst (N := 1) rfl ?_); refine box_event ?hg (N := 1) ?hd (cs := #[.int .i64 a0_0, .int .i64 a0_1, .int .i64 a0_2, .int .i64 a0_3]) (t := 26) ?hr ?_; (case hd => rfl); (case hg => rfl); (case hr => first | (go_simp; done) | (go_simp; rfl)); intro gb761 hg w15 hbox hb; have BK761 := Aside0.mk (hbox); have GW761 := Aside0.mk ((bz_ hg (lb0_ HB.out))); have GE761 := Aside0.mk ((bz_ hg (lb0_ HB.out))); replace HB := Aside0.mk (below_step (lb0_ HB.out) hb); clear hb hbox hg; obtain ⟨hcz16_0, hcz16_1, hcz16_2, hcz16_3⟩ := cz4_ BK761.out; obtain ⟨hfz16_0, hfz16_1, hfz16_2, hfz16_3⟩ := fz4_ BK761.out) | ((with_reducible refine gate_callee (f := 73) rfl ?_); refine ga_ (some 5) Tryd.func73 #[.int .i64 a0_0, .int .i64 (-100), .int .i64 200] ?_; (with_reducible refine (impl_within.calls a0_0 (-100) 200 false _ A2.out).mono ?_); rintro e w' ⟨rfl, ⟨nd, rfl⟩⟩; refine ⟨_, rfl, ?_⟩))
  go_ret
  exact ⟨rr_, lb1_ HB.out GE761.out⟩
def impl_DoMeet.f (a0_0 : Int) (a0_1 : Int) (a0_2 : Int) (a0_3 : Int) (a1_0 : Int) (a1_1 : Int) (a1_2 : Int) (a1_3 : Int) : Option (Bool × Bool) := (impl_isBox.f a0_0 a0_1 a0_2 a0_3).bind fun t768 => (if t768 = true then ((impl_isBox.f a1_0 a1_1 a1_2 a1_3).bind fun t769 => (if t769 = true then ((impl_meet.f a0_0 a0_1 a0_2 a0_3 a1_0 a1_1 a1_2 a1_3).bind fun t770 => (some (t770, true))) else (some (false, false)))) else (some (false, false)))
set_option maxHeartbeats 8000000 in
set_option maxRecDepth 100000 in
theorem impl_DoMeet.calls (a0_0 : Int) (a0_1 : Int) (a0_2 : Int) (a0_3 : Int) (a1_0 : Int) (a1_1 : Int) (a1_2 : Int) (a1_3 : Int) (r1 : Bool) (r2 : Bool) (w : World) (h : impl_DoMeet.f a0_0 a0_1 a0_2 a0_3 a1_0 a1_1 a1_2 a1_3 = some (r1, r2)) :
  Calls Tryd.prog 50 #[.agg #[.int .i64 a0_0, .int .i64 a0_1, .int .i64 a0_2, .int .i64 a0_3], .agg #[.int .i64 a1_0, .int .i64 a1_1, .int .i64 a1_2, .int .i64 a1_3]] w fun e w' => e = .returned (.tuple #[.bool r1, .bool r2]) ∧ Below w.heap.size w w' := by
 have hu26 := Tryd.underlying26
 have HB := Aside0.mk (Below.refl w.heap.size w)
 have H : ((impl_isBox.f a0_0 a0_1 a0_2 a0_3).bind fun t768 => (if t768 = true then ((impl_isBox.f a1_0 a1_1 a1_2 a1_3).bind fun t769 => (if t769 = true then ((impl_meet.f a0_0 a0_1 a0_2 a0_3 a1_0 a1_1 a1_2 a1_3).bind fun t770 => (some (t770, true))) else (some (false, false)))) else (some (false, false)))) = some (r1, r2) := h
 clear h
 replace H := Option.bind_eq_some_iff.mp H
 obtain ⟨t768, A30, H⟩ := H
 replace H : (if t768 = true then ((impl_isBox.f a1_0 a1_1 a1_2 a1_3).bind fun t769 => (if t769 = true then ((impl_meet.f a0_0 a0_1 a0_2 a0_3 a1_0 a1_1 a1_2 a1_3).bind fun t770 => (some (t770, true))) else (some (false, false)))) else (some (false, false))) = some (r1, r2) := H
 have A3 := Aside0.mk A30
 clear A30
 by_cases c4 : t768 = true
 ·
  subst c4
  have H1 : ((impl_isBox.f a1_0 a1_1 a1_2 a1_3).bind fun t769 => (if t769 = true then ((impl_meet.f a0_0 a0_1 a0_2 a0_3 a1_0 a1_1 a1_2 a1_3).bind fun t770 => (some (t770, true))) else (some (false, false)))) = some (r1, r2) := by rw [if_pos rfl] at H; exact H
  clear H
  have H := H1
  clear H1
  replace H := Option.bind_eq_some_iff.mp H
  obtain ⟨t769, A50, H⟩ := H
  replace H : (if t769 = true then ((impl_meet.f a0_0 a0_1 a0_2 a0_3 a1_0 a1_1 a1_2 a1_3).bind fun t770 => (some (t770, true))) else (some (false, false))) = some (r1, r2) := H
  have A5 := Aside0.mk A50
  clear A50
  by_cases c6 : t769 = true
  ·
   subst c6
   have H1 : ((impl_meet.f a0_0 a0_1 a0_2 a0_3 a1_0 a1_1 a1_2 a1_3).bind fun t770 => (some (t770, true))) = some (r1, r2) := by rw [if_pos rfl] at H; exact H
   clear H
   have H := H1
   clear H1
   replace H := Option.bind_eq_some_iff.mp H
   obtain ⟨t770, A70, H⟩ := H
   replace H : (some (t770, true)) = some (r1, r2) := H
   have A7 := Aside0.mk A70
   clear A70
   simp only [Option.some.injEq, Prod.mk.injEq] at H
   obtain ⟨rfl, rfl⟩ := H
   go_enter Tryd.func50, Tryd.ntmps50
   go_wp2_with (first | ((with_reducible refine gate_dst (N := 2) rfl ?_); refine box_event ?hg (N := 2) ?hd (cs := #[.int .i64 a0_0, .int .i64 a0_1, .int .i64 a0_2, .int .i64 a0_3]) (t := 26) ?hr ?_; (case hd => rfl); (case hg => rfl); (case hr => first | (go_simp; done) | (go_simp; rfl)); intro gb766 hg w8 hbox hb; have BK766 := Aside0.mk (hbox); have GW766 := Aside0.mk ((bz_ hg (lb0_ HB.out))); have GE766 := Aside0.mk ((bz_ hg (lb0_ HB.out))); replace HB := Aside0.mk (below_step (lb0_ HB.out) hb); clear hb hbox hg) | ((with_reducible refine gate_dst (N := 3) rfl ?_); refine box_event ?hg (N := 3) ?hd (cs := #[.int .i64 a1_0, .int .i64 a1_1, .int .i64 a1_2, .int .i64 a1_3]) (t := 26) ?hr ?_; (case hd => rfl); (case hg => rfl); (case hr => first | (go_simp; done) | (go_simp; rfl)); intro gb767 hg w9 hbox hb; have BK767 := Aside0.mk (hbox); have GW767 := Aside0.mk ((bz_ hg (lb1_ HB.out GE766.out))); have GE767 := Aside0.mk ((bz_ hg (lb1_ HB.out GE766.out))); replace HB := Aside0.mk (below_step (lb1_ HB.out GE766.out) hb); have NB766_767 := Aside0.mk (nl_ hg BK766.out); have NB767_766 := Aside0.mk (ng_ hg BK766.out); replace BK766 := Aside0.mk (bb_ (bk_ BK766.out) hb); clear hb hbox hg; have hnb10 := NB766_767.out; have hnc10 := NB767_766.out; obtain ⟨hcz11_0, hcz11_1, hcz11_2, hcz11_3⟩ := cz4_ BK766.out; obtain ⟨hfz11_0, hfz11_1, hfz11_2, hfz11_3⟩ := fz4_ BK766.out) | ((with_reducible refine gate_callee (f := 90) rfl ?_); refine ga_ (some 7) Tryd.func90 #[.agg #[.int .i64 a0_0, .int .i64 a0_1, .int .i64 a0_2, .int .i64 a0_3]] ?_; (with_reducible refine (impl_isBox.calls a0_0 a0_1 a0_2 a0_3 true _ A3.out).mono ?_); rintro e w12 ⟨rfl, hb⟩; refine ⟨_, rfl, ?_⟩; replace BK766 := Aside0.mk (bb_ (bk_ BK766.out) hb); replace BK767 := Aside0.mk (bb_ (bk_ BK767.out) hb); replace HB := Aside0.mk (below_step (lb2_ HB.out GE766.out GE767.out) hb); (try clear hb); (try clear hb2); (try clear hk); (try clear hi); obtain ⟨hcz13_0, hcz13_1, hcz13_2, hcz13_3⟩ := cz4_ BK767.out; obtain ⟨hfz13_0, hfz13_1, hfz13_2, hfz13_3⟩ := fz4_ BK767.out) | (go_at_call 90; (with_reducible refine (impl_isBox.calls a1_0 a1_1 a1_2 a1_3 true _ A5.out).mono ?_); rintro e w14 ⟨rfl, hb⟩; replace BK766 := Aside0.mk (bb_ (bk_ BK766.out) hb); replace BK767 := Aside0.mk (bb_ (bk_ BK767.out) hb); replace HB := Aside0.mk (below_step (lb2_ HB.out GE766.out GE767.out) hb); (try clear hb); (try clear hb2); (try clear hk); (try clear hi); obtain ⟨hcz15_0, hcz15_1, hcz15_2, hcz15_3⟩ := cz4_ BK766.out; obtain ⟨hfz15_0, hfz15_1, hfz15_2, hfz15_3⟩ := fz4_ BK766.out; obtain ⟨hcz16_0, hcz16_1, hcz16_2, hcz16_3⟩ := cz4_ BK767.out; obtain ⟨hfz16_0, hfz16_1, hfz16_2, hfz16_3⟩ := fz4_ BK767.out) | ((with_reducible refine gate_callee (f := 70) rfl ?_); refine ga_ (some 16) Tryd.func70 #[.agg #[.int .i64 a0_0, .int .i64 a0_1, .int .i64 a0_2, .int .i64 a0_3], .agg #[.int .i64 a1_0, .int .i64 a1_1, .int .i64 a1_2, .int .i64 a1_3]] ?_; (with_reducible refine (impl_meet.calls a0_0 a0_1 a0_2 a0_3 a1_0 a1_1 a1_2 a1_3 t770 _ A7.out).mono ?_); rintro e w17 ⟨rfl, hb⟩; refine ⟨_, rfl, ?_⟩; replace BK766 := Aside0.mk (bb_ (bk_ BK766.out) hb); replace BK767 := Aside0.mk (bb_ (bk_ BK767.out) hb); replace HB := Aside0.mk (below_step (lb2_ HB.out GE766.out GE767.out) hb); (try clear hb); (try clear hb2); (try clear hk); (try clear hi)))
   go_ret2
   exact ⟨rr_, lb2_ HB.out GE766.out GE767.out⟩
  ·
   replace c6 := Bool.eq_false_iff.mpr c6
   subst c6
   have H1 : (some (false, false)) = some (r1, r2) := by rw [if_neg (show ¬ (false = true) by decide)] at H; exact H
   clear H
   have H := H1
   clear H1
   simp only [Option.some.injEq, Prod.mk.injEq] at H
   obtain ⟨rfl, rfl⟩ := H
   go_enter Tryd.func50, Tryd.ntmps50
   go_wp2_with (first | ((with_reducible refine gate_dst (N := 2) rfl ?_); refine box_event ?hg (N := 2) ?hd (cs := #[.int .i64 a0_0, .int .i64 a0_1, .int .i64 a0_2, .int .i64 a0_3]) (t := 26) ?hr ?_; (case hd => rfl); (case hg => rfl); (case hr => first | (go_simp; done) | (go_simp; rfl)); intro gb766 hg w18 hbox hb; have BK766 := Aside0.mk (hbox); have GW766 := Aside0.mk ((bz_ hg (lb0_ HB.out))); have GE766 := Aside0.mk ((bz_ hg (lb0_ HB.out))); replace HB := Aside0.mk (below_step (lb0_ HB.out) hb); clear hb hbox hg) | ((with_reducible refine gate_dst (N := 3) rfl ?_); refine box_event ?hg (N := 3) ?hd (cs := #[.int .i64 a1_0, .int .i64 a1_1, .int .i64 a1_2, .int .i64 a1_3]) (t := 26) ?hr ?_; (case hd => rfl); (case hg => rfl); (case hr => first | (go_simp; done) | (go_simp; rfl)); intro gb767 hg w19 hbox hb; have BK767 := Aside0.mk (hbox); have GW767 := Aside0.mk ((bz_ hg (lb1_ HB.out GE766.out))); have GE767 := Aside0.mk ((bz_ hg (lb1_ HB.out GE766.out))); replace HB := Aside0.mk (below_step (lb1_ HB.out GE766.out) hb); have NB766_767 := Aside0.mk (nl_ hg BK766.out); have NB767_766 := Aside0.mk (ng_ hg BK766.out); replace BK766 := Aside0.mk (bb_ (bk_ BK766.out) hb); clear hb hbox hg; have hnb20 := NB766_767.out; have hnc20 := NB767_766.out; obtain ⟨hcz21_0, hcz21_1, hcz21_2, hcz21_3⟩ := cz4_ BK766.out; obtain ⟨hfz21_0, hfz21_1, hfz21_2, hfz21_3⟩ := fz4_ BK766.out) | ((with_reducible refine gate_callee (f := 90) rfl ?_); refine ga_ (some 7) Tryd.func90 #[.agg #[.int .i64 a0_0, .int .i64 a0_1, .int .i64 a0_2, .int .i64 a0_3]] ?_; (with_reducible refine (impl_isBox.calls a0_0 a0_1 a0_2 a0_3 true _ A3.out).mono ?_); rintro e w22 ⟨rfl, hb⟩; refine ⟨_, rfl, ?_⟩; replace BK766 := Aside0.mk (bb_ (bk_ BK766.out) hb); replace BK767 := Aside0.mk (bb_ (bk_ BK767.out) hb); replace HB := Aside0.mk (below_step (lb2_ HB.out GE766.out GE767.out) hb); (try clear hb); (try clear hb2); (try clear hk); (try clear hi); obtain ⟨hcz23_0, hcz23_1, hcz23_2, hcz23_3⟩ := cz4_ BK767.out; obtain ⟨hfz23_0, hfz23_1, hfz23_2, hfz23_3⟩ := fz4_ BK767.out) | (go_at_call 90; (with_reducible refine (impl_isBox.calls a1_0 a1_1 a1_2 a1_3 false _ A5.out).mono ?_); rintro e w24 ⟨rfl, hb⟩; replace BK766 := Aside0.mk (bb_ (bk_ BK766.out) hb); replace BK767 := Aside0.mk (bb_ (bk_ BK767.out) hb); replace HB := Aside0.mk (below_step (lb2_ HB.out GE766.out GE767.out) hb); (try clear hb); (try clear hb2); (try clear hk); (try clear hi)))
   go_ret2
   exact ⟨rr_, lb2_ HB.out GE766.out GE767.out⟩
 ·
  replace c4 := Bool.eq_false_iff.mpr c4
  subst c4
  have H1 : (some (false, false)) = some (r1, r2) := by rw [if_neg (show ¬ (false = true) by decide)] at H; exact H
  clear H
  have H := H1
  clear H1
  simp only [Option.some.injEq, Prod.mk.injEq] at H
  obtain ⟨rfl, rfl⟩ := H
  go_enter Tryd.func50, Tryd.ntmps50
  go_wp2_with (first | ((with_reducible refine gate_dst (N := 2) rfl ?_); refine box_event ?hg (N := 2) ?hd (cs := #[.int .i64 a0_0, .int .i64 a0_1, .int .i64 a0_2, .int .i64 a0_3]) (t := 26) ?hr ?_; (case hd => rfl); (case hg => rfl); (case hr => first | (go_simp; done) | (go_simp; rfl)); intro gb766 hg w25 hbox hb; have BK766 := Aside0.mk (hbox); have GW766 := Aside0.mk ((bz_ hg (lb0_ HB.out))); have GE766 := Aside0.mk ((bz_ hg (lb0_ HB.out))); replace HB := Aside0.mk (below_step (lb0_ HB.out) hb); clear hb hbox hg) | ((with_reducible refine gate_dst (N := 3) rfl ?_); refine box_event ?hg (N := 3) ?hd (cs := #[.int .i64 a1_0, .int .i64 a1_1, .int .i64 a1_2, .int .i64 a1_3]) (t := 26) ?hr ?_; (case hd => rfl); (case hg => rfl); (case hr => first | (go_simp; done) | (go_simp; rfl)); intro gb767 hg w26 hbox hb; have BK767 := Aside0.mk (hbox); have GW767 := Aside0.mk ((bz_ hg (lb1_ HB.out GE766.out))); have GE767 := Aside0.mk ((bz_ hg (lb1_ HB.out GE766.out))); replace HB := Aside0.mk (below_step (lb1_ HB.out GE766.out) hb); have NB766_767 := Aside0.mk (nl_ hg BK766.out); have NB767_766 := Aside0.mk (ng_ hg BK766.out); replace BK766 := Aside0.mk (bb_ (bk_ BK766.out) hb); clear hb hbox hg; have hnb27 := NB766_767.out; have hnc27 := NB767_766.out; obtain ⟨hcz28_0, hcz28_1, hcz28_2, hcz28_3⟩ := cz4_ BK766.out; obtain ⟨hfz28_0, hfz28_1, hfz28_2, hfz28_3⟩ := fz4_ BK766.out) | ((with_reducible refine gate_callee (f := 90) rfl ?_); refine ga_ (some 7) Tryd.func90 #[.agg #[.int .i64 a0_0, .int .i64 a0_1, .int .i64 a0_2, .int .i64 a0_3]] ?_; (with_reducible refine (impl_isBox.calls a0_0 a0_1 a0_2 a0_3 false _ A3.out).mono ?_); rintro e w29 ⟨rfl, hb⟩; refine ⟨_, rfl, ?_⟩; replace BK766 := Aside0.mk (bb_ (bk_ BK766.out) hb); replace BK767 := Aside0.mk (bb_ (bk_ BK767.out) hb); replace HB := Aside0.mk (below_step (lb2_ HB.out GE766.out GE767.out) hb); (try clear hb); (try clear hb2); (try clear hk); (try clear hi)))
  go_ret2
  exact ⟨rr_, lb2_ HB.out GE766.out GE767.out⟩
def spec_l24Near.f (a0_0 : Int) (a0_1 : Int) (a0_2 : Int) (a0_3 : Int) : Option (Bool) := (spec_l1In.f a0_0 (-100) 200).bind fun t772 => (if t772 = true then ((spec_l1In.f a0_1 (-100) 200).bind fun t773 => (if t773 = true then ((spec_l1In.f a0_2 0 100).bind fun t774 => (if t774 = true then ((spec_l1In.f a0_3 0 100).bind fun t775 => (some t775)) else (some false))) else (some false))) else (some false))
set_option maxHeartbeats 8000000 in
set_option maxRecDepth 100000 in
theorem spec_l24Near.calls (a0_0 : Int) (a0_1 : Int) (a0_2 : Int) (a0_3 : Int) (r : Bool) (w : World) (h : spec_l24Near.f a0_0 a0_1 a0_2 a0_3 = some r) :
  Calls Tryd.prog 91 #[.agg #[.int .i64 a0_0, .int .i64 a0_1, .int .i64 a0_2, .int .i64 a0_3]] w fun e w' => e = .returned (.bool r) ∧ Below w.heap.size w w' := by
 have hu26 := Tryd.underlying26
 have HB := Aside0.mk (Below.refl w.heap.size w)
 have H : ((spec_l1In.f a0_0 (-100) 200).bind fun t772 => (if t772 = true then ((spec_l1In.f a0_1 (-100) 200).bind fun t773 => (if t773 = true then ((spec_l1In.f a0_2 0 100).bind fun t774 => (if t774 = true then ((spec_l1In.f a0_3 0 100).bind fun t775 => (some t775)) else (some false))) else (some false))) else (some false))) = some r := h
 clear h
 replace H := Option.bind_eq_some_iff.mp H
 obtain ⟨t772, A20, H⟩ := H
 replace H : (if t772 = true then ((spec_l1In.f a0_1 (-100) 200).bind fun t773 => (if t773 = true then ((spec_l1In.f a0_2 0 100).bind fun t774 => (if t774 = true then ((spec_l1In.f a0_3 0 100).bind fun t775 => (some t775)) else (some false))) else (some false))) else (some false)) = some r := H
 have A2 := Aside0.mk A20
 clear A20
 by_cases c3 : t772 = true
 ·
  subst c3
  have H1 : ((spec_l1In.f a0_1 (-100) 200).bind fun t773 => (if t773 = true then ((spec_l1In.f a0_2 0 100).bind fun t774 => (if t774 = true then ((spec_l1In.f a0_3 0 100).bind fun t775 => (some t775)) else (some false))) else (some false))) = some r := by rw [if_pos rfl] at H; exact H
  clear H
  have H := H1
  clear H1
  replace H := Option.bind_eq_some_iff.mp H
  obtain ⟨t773, A40, H⟩ := H
  replace H : (if t773 = true then ((spec_l1In.f a0_2 0 100).bind fun t774 => (if t774 = true then ((spec_l1In.f a0_3 0 100).bind fun t775 => (some t775)) else (some false))) else (some false)) = some r := H
  have A4 := Aside0.mk A40
  clear A40
  by_cases c5 : t773 = true
  ·
   subst c5
   have H1 : ((spec_l1In.f a0_2 0 100).bind fun t774 => (if t774 = true then ((spec_l1In.f a0_3 0 100).bind fun t775 => (some t775)) else (some false))) = some r := by rw [if_pos rfl] at H; exact H
   clear H
   have H := H1
   clear H1
   replace H := Option.bind_eq_some_iff.mp H
   obtain ⟨t774, A60, H⟩ := H
   replace H : (if t774 = true then ((spec_l1In.f a0_3 0 100).bind fun t775 => (some t775)) else (some false)) = some r := H
   have A6 := Aside0.mk A60
   clear A60
   by_cases c7 : t774 = true
   ·
    subst c7
    have H1 : ((spec_l1In.f a0_3 0 100).bind fun t775 => (some t775)) = some r := by rw [if_pos rfl] at H; exact H
    clear H
    have H := H1
    clear H1
    replace H := Option.bind_eq_some_iff.mp H
    obtain ⟨t775, A80, H⟩ := H
    replace H : (some t775) = some r := H
    have A8 := Aside0.mk A80
    clear A80
    obtain rfl := Option.some.inj H
    go_enter Tryd.func91, Tryd.ntmps91
    go_wp2_with (first | ((with_reducible refine gate_dst (N := 1) rfl ?_); refine box_event ?hg (N := 1) ?hd (cs := #[.int .i64 a0_0, .int .i64 a0_1, .int .i64 a0_2, .int .i64 a0_3]) (t := 26) ?hr ?_; (case hd => rfl); (case hg => rfl); (case hr => first | (go_simp; done) | (go_simp; rfl)); intro gb771 hg w9 hbox hb; have BK771 := Aside0.mk (hbox); have GW771 := Aside0.mk ((bz_ hg (lb0_ HB.out))); have GE771 := Aside0.mk ((bz_ hg (lb0_ HB.out))); replace HB := Aside0.mk (below_step (lb0_ HB.out) hb); clear hb hbox hg; obtain ⟨hcz10_0, hcz10_1, hcz10_2, hcz10_3⟩ := cz4_ BK771.out; obtain ⟨hfz10_0, hfz10_1, hfz10_2, hfz10_3⟩ := fz4_ BK771.out) | ((with_reducible refine gate_callee (f := 71) rfl ?_); refine ga_ (some 5) Tryd.func71 #[.int .i64 a0_0, .int .i64 (-100), .int .i64 200] ?_; (with_reducible refine (spec_l1In.calls a0_0 (-100) 200 true _ A2.out).mono ?_); rintro e w' ⟨rfl, ⟨nd, rfl⟩⟩; refine ⟨_, rfl, ?_⟩) | (go_at_call 71; (with_reducible refine (spec_l1In.calls a0_1 (-100) 200 true _ A4.out).mono ?_); rintro e w' ⟨rfl, ⟨nd, rfl⟩⟩) | (go_at_call 71; (with_reducible refine (spec_l1In.calls a0_2 0 100 true _ A6.out).mono ?_); rintro e w' ⟨rfl, ⟨nd, rfl⟩⟩) | (go_at_call 71; (with_reducible refine (spec_l1In.calls a0_3 0 100 t775 _ A8.out).mono ?_); rintro e w' ⟨rfl, ⟨nd, rfl⟩⟩))
    go_ret
    exact ⟨rr_, lb1_ HB.out GE771.out⟩
   ·
    replace c7 := Bool.eq_false_iff.mpr c7
    subst c7
    have H1 : (some false) = some r := by rw [if_neg (show ¬ (false = true) by decide)] at H; exact H
    clear H
    have H := H1
    clear H1
    obtain rfl := Option.some.inj H
    go_enter Tryd.func91, Tryd.ntmps91
    go_wp2_with (first | ((with_reducible refine gate_dst (N := 1) rfl ?_); refine box_event ?hg (N := 1) ?hd (cs := #[.int .i64 a0_0, .int .i64 a0_1, .int .i64 a0_2, .int .i64 a0_3]) (t := 26) ?hr ?_; (case hd => rfl); (case hg => rfl); (case hr => first | (go_simp; done) | (go_simp; rfl)); intro gb771 hg w11 hbox hb; have BK771 := Aside0.mk (hbox); have GW771 := Aside0.mk ((bz_ hg (lb0_ HB.out))); have GE771 := Aside0.mk ((bz_ hg (lb0_ HB.out))); replace HB := Aside0.mk (below_step (lb0_ HB.out) hb); clear hb hbox hg; obtain ⟨hcz12_0, hcz12_1, hcz12_2, hcz12_3⟩ := cz4_ BK771.out; obtain ⟨hfz12_0, hfz12_1, hfz12_2, hfz12_3⟩ := fz4_ BK771.out) | ((with_reducible refine gate_callee (f := 71) rfl ?_); refine ga_ (some 5) Tryd.func71 #[.int .i64 a0_0, .int .i64 (-100), .int .i64 200] ?_; (with_reducible refine (spec_l1In.calls a0_0 (-100) 200 true _ A2.out).mono ?_); rintro e w' ⟨rfl, ⟨nd, rfl⟩⟩; refine ⟨_, rfl, ?_⟩) | (go_at_call 71; (with_reducible refine (spec_l1In.calls a0_1 (-100) 200 true _ A4.out).mono ?_); rintro e w' ⟨rfl, ⟨nd, rfl⟩⟩) | (go_at_call 71; (with_reducible refine (spec_l1In.calls a0_2 0 100 false _ A6.out).mono ?_); rintro e w' ⟨rfl, ⟨nd, rfl⟩⟩))
    go_ret
    exact ⟨rr_, lb1_ HB.out GE771.out⟩
  ·
   replace c5 := Bool.eq_false_iff.mpr c5
   subst c5
   have H1 : (some false) = some r := by rw [if_neg (show ¬ (false = true) by decide)] at H; exact H
   clear H
   have H := H1
   clear H1
   obtain rfl := Option.some.inj H
   go_enter Tryd.func91, Tryd.ntmps91
   go_wp2_with (first | ((with_reducible refine gate_dst (N := 1) rfl ?_); refine box_event ?hg (N := 1) ?hd (cs := #[.int .i64 a0_0, .int .i64 a0_1, .int .i64 a0_2, .int .i64 a0_3]) (t := 26) ?hr ?_; (case hd => rfl); (case hg => rfl); (case hr => first | (go_simp; done) | (go_simp; rfl)); intro gb771 hg w13 hbox hb; have BK771 := Aside0.mk (hbox); have GW771 := Aside0.mk ((bz_ hg (lb0_ HB.out))); have GE771 := Aside0.mk ((bz_ hg (lb0_ HB.out))); replace HB := Aside0.mk (below_step (lb0_ HB.out) hb); clear hb hbox hg; obtain ⟨hcz14_0, hcz14_1, hcz14_2, hcz14_3⟩ := cz4_ BK771.out; obtain ⟨hfz14_0, hfz14_1, hfz14_2, hfz14_3⟩ := fz4_ BK771.out) | ((with_reducible refine gate_callee (f := 71) rfl ?_); refine ga_ (some 5) Tryd.func71 #[.int .i64 a0_0, .int .i64 (-100), .int .i64 200] ?_; (with_reducible refine (spec_l1In.calls a0_0 (-100) 200 true _ A2.out).mono ?_); rintro e w' ⟨rfl, ⟨nd, rfl⟩⟩; refine ⟨_, rfl, ?_⟩) | (go_at_call 71; (with_reducible refine (spec_l1In.calls a0_1 (-100) 200 false _ A4.out).mono ?_); rintro e w' ⟨rfl, ⟨nd, rfl⟩⟩))
   go_ret
   exact ⟨rr_, lb1_ HB.out GE771.out⟩
 ·
  replace c3 := Bool.eq_false_iff.mpr c3
  subst c3
  have H1 : (some false) = some r := by rw [if_neg (show ¬ (false = true) by decide)] at H; exact H
  clear H
  have H := H1
  clear H1
  obtain rfl := Option.some.inj H
  go_enter Tryd.func91, Tryd.ntmps91
  go_wp2_with (first | ((with_reducible refine gate_dst (N := 1) rfl ?_); refine box_event ?hg (N := 1) ?hd (cs := #[.int .i64 a0_0, .int .i64 a0_1, .int .i64 a0_2, .int .i64 a0_3]) (t := 26) ?hr ?_; (case hd => rfl); (case hg => rfl); (case hr => first | (go_simp; done) | (go_simp; rfl)); intro gb771 hg w15 hbox hb; have BK771 := Aside0.mk (hbox); have GW771 := Aside0.mk ((bz_ hg (lb0_ HB.out))); have GE771 := Aside0.mk ((bz_ hg (lb0_ HB.out))); replace HB := Aside0.mk (below_step (lb0_ HB.out) hb); clear hb hbox hg; obtain ⟨hcz16_0, hcz16_1, hcz16_2, hcz16_3⟩ := cz4_ BK771.out; obtain ⟨hfz16_0, hfz16_1, hfz16_2, hfz16_3⟩ := fz4_ BK771.out) | ((with_reducible refine gate_callee (f := 71) rfl ?_); refine ga_ (some 5) Tryd.func71 #[.int .i64 a0_0, .int .i64 (-100), .int .i64 200] ?_; (with_reducible refine (spec_l1In.calls a0_0 (-100) 200 false _ A2.out).mono ?_); rintro e w' ⟨rfl, ⟨nd, rfl⟩⟩; refine ⟨_, rfl, ?_⟩))
  go_ret
  exact ⟨rr_, lb1_ HB.out GE771.out⟩
def spec_DoMeet.f (a0_0 : Int) (a0_1 : Int) (a0_2 : Int) (a0_3 : Int) (a1_0 : Int) (a1_1 : Int) (a1_2 : Int) (a1_3 : Int) : Option (Bool × Bool) := (spec_l24Near.f a0_0 a0_1 a0_2 a0_3).bind fun t778 => (if t778 = true then ((spec_l24Near.f a1_0 a1_1 a1_2 a1_3).bind fun t779 => (if t779 = true then ((spec_l24Meet.f a0_0 a0_1 a0_2 a0_3 a1_0 a1_1 a1_2 a1_3).bind fun t780 => (some (t780, true))) else (some (false, false)))) else (some (false, false)))
set_option maxHeartbeats 8000000 in
set_option maxRecDepth 100000 in
theorem spec_DoMeet.calls (a0_0 : Int) (a0_1 : Int) (a0_2 : Int) (a0_3 : Int) (a1_0 : Int) (a1_1 : Int) (a1_2 : Int) (a1_3 : Int) (r1 : Bool) (r2 : Bool) (w : World) (h : spec_DoMeet.f a0_0 a0_1 a0_2 a0_3 a1_0 a1_1 a1_2 a1_3 = some (r1, r2)) :
  Calls Tryd.prog 51 #[.agg #[.int .i64 a0_0, .int .i64 a0_1, .int .i64 a0_2, .int .i64 a0_3], .agg #[.int .i64 a1_0, .int .i64 a1_1, .int .i64 a1_2, .int .i64 a1_3]] w fun e w' => e = .returned (.tuple #[.bool r1, .bool r2]) ∧ Below w.heap.size w w' := by
 have hu26 := Tryd.underlying26
 have HB := Aside0.mk (Below.refl w.heap.size w)
 have H : ((spec_l24Near.f a0_0 a0_1 a0_2 a0_3).bind fun t778 => (if t778 = true then ((spec_l24Near.f a1_0 a1_1 a1_2 a1_3).bind fun t779 => (if t779 = true then ((spec_l24Meet.f a0_0 a0_1 a0_2 a0_3 a1_0 a1_1 a1_2 a1_3).bind fun t780 => (some (t780, true))) else (some (false, false)))) else (some (false, false)))) = some (r1, r2) := h
 clear h
 replace H := Option.bind_eq_some_iff.mp H
 obtain ⟨t778, A30, H⟩ := H
 replace H : (if t778 = true then ((spec_l24Near.f a1_0 a1_1 a1_2 a1_3).bind fun t779 => (if t779 = true then ((spec_l24Meet.f a0_0 a0_1 a0_2 a0_3 a1_0 a1_1 a1_2 a1_3).bind fun t780 => (some (t780, true))) else (some (false, false)))) else (some (false, false))) = some (r1, r2) := H
 have A3 := Aside0.mk A30
 clear A30
 by_cases c4 : t778 = true
 ·
  subst c4
  have H1 : ((spec_l24Near.f a1_0 a1_1 a1_2 a1_3).bind fun t779 => (if t779 = true then ((spec_l24Meet.f a0_0 a0_1 a0_2 a0_3 a1_0 a1_1 a1_2 a1_3).bind fun t780 => (some (t780, true))) else (some (false, false)))) = some (r1, r2) := by rw [if_pos rfl] at H; exact H
  clear H
  have H := H1
  clear H1
  replace H := Option.bind_eq_some_iff.mp H
  obtain ⟨t779, A50, H⟩ := H
  replace H : (if t779 = true then ((spec_l24Meet.f a0_0 a0_1 a0_2 a0_3 a1_0 a1_1 a1_2 a1_3).bind fun t780 => (some (t780, true))) else (some (false, false))) = some (r1, r2) := H
  have A5 := Aside0.mk A50
  clear A50
  by_cases c6 : t779 = true
  ·
   subst c6
   have H1 : ((spec_l24Meet.f a0_0 a0_1 a0_2 a0_3 a1_0 a1_1 a1_2 a1_3).bind fun t780 => (some (t780, true))) = some (r1, r2) := by rw [if_pos rfl] at H; exact H
   clear H
   have H := H1
   clear H1
   replace H := Option.bind_eq_some_iff.mp H
   obtain ⟨t780, A70, H⟩ := H
   replace H : (some (t780, true)) = some (r1, r2) := H
   have A7 := Aside0.mk A70
   clear A70
   simp only [Option.some.injEq, Prod.mk.injEq] at H
   obtain ⟨rfl, rfl⟩ := H
   go_enter Tryd.func51, Tryd.ntmps51
   go_wp2_with (first | ((with_reducible refine gate_dst (N := 2) rfl ?_); refine box_event ?hg (N := 2) ?hd (cs := #[.int .i64 a0_0, .int .i64 a0_1, .int .i64 a0_2, .int .i64 a0_3]) (t := 26) ?hr ?_; (case hd => rfl); (case hg => rfl); (case hr => first | (go_simp; done) | (go_simp; rfl)); intro gb776 hg w8 hbox hb; have BK776 := Aside0.mk (hbox); have GW776 := Aside0.mk ((bz_ hg (lb0_ HB.out))); have GE776 := Aside0.mk ((bz_ hg (lb0_ HB.out))); replace HB := Aside0.mk (below_step (lb0_ HB.out) hb); clear hb hbox hg) | ((with_reducible refine gate_dst (N := 3) rfl ?_); refine box_event ?hg (N := 3) ?hd (cs := #[.int .i64 a1_0, .int .i64 a1_1, .int .i64 a1_2, .int .i64 a1_3]) (t := 26) ?hr ?_; (case hd => rfl); (case hg => rfl); (case hr => first | (go_simp; done) | (go_simp; rfl)); intro gb777 hg w9 hbox hb; have BK777 := Aside0.mk (hbox); have GW777 := Aside0.mk ((bz_ hg (lb1_ HB.out GE776.out))); have GE777 := Aside0.mk ((bz_ hg (lb1_ HB.out GE776.out))); replace HB := Aside0.mk (below_step (lb1_ HB.out GE776.out) hb); have NB776_777 := Aside0.mk (nl_ hg BK776.out); have NB777_776 := Aside0.mk (ng_ hg BK776.out); replace BK776 := Aside0.mk (bb_ (bk_ BK776.out) hb); clear hb hbox hg; have hnb10 := NB776_777.out; have hnc10 := NB777_776.out; obtain ⟨hcz11_0, hcz11_1, hcz11_2, hcz11_3⟩ := cz4_ BK776.out; obtain ⟨hfz11_0, hfz11_1, hfz11_2, hfz11_3⟩ := fz4_ BK776.out) | ((with_reducible refine gate_callee (f := 91) rfl ?_); refine ga_ (some 7) Tryd.func91 #[.agg #[.int .i64 a0_0, .int .i64 a0_1, .int .i64 a0_2, .int .i64 a0_3]] ?_; (with_reducible refine (spec_l24Near.calls a0_0 a0_1 a0_2 a0_3 true _ A3.out).mono ?_); rintro e w12 ⟨rfl, hb⟩; refine ⟨_, rfl, ?_⟩; replace BK776 := Aside0.mk (bb_ (bk_ BK776.out) hb); replace BK777 := Aside0.mk (bb_ (bk_ BK777.out) hb); replace HB := Aside0.mk (below_step (lb2_ HB.out GE776.out GE777.out) hb); (try clear hb); (try clear hb2); (try clear hk); (try clear hi); obtain ⟨hcz13_0, hcz13_1, hcz13_2, hcz13_3⟩ := cz4_ BK777.out; obtain ⟨hfz13_0, hfz13_1, hfz13_2, hfz13_3⟩ := fz4_ BK777.out) | (go_at_call 91; (with_reducible refine (spec_l24Near.calls a1_0 a1_1 a1_2 a1_3 true _ A5.out).mono ?_); rintro e w14 ⟨rfl, hb⟩; replace BK776 := Aside0.mk (bb_ (bk_ BK776.out) hb); replace BK777 := Aside0.mk (bb_ (bk_ BK777.out) hb); replace HB := Aside0.mk (below_step (lb2_ HB.out GE776.out GE777.out) hb); (try clear hb); (try clear hb2); (try clear hk); (try clear hi); obtain ⟨hcz15_0, hcz15_1, hcz15_2, hcz15_3⟩ := cz4_ BK776.out; obtain ⟨hfz15_0, hfz15_1, hfz15_2, hfz15_3⟩ := fz4_ BK776.out; obtain ⟨hcz16_0, hcz16_1, hcz16_2, hcz16_3⟩ := cz4_ BK777.out; obtain ⟨hfz16_0, hfz16_1, hfz16_2, hfz16_3⟩ := fz4_ BK777.out) | ((with_reducible refine gate_callee (f := 92) rfl ?_); refine ga_ (some 16) Tryd.func92 #[.agg #[.int .i64 a0_0, .int .i64 a0_1, .int .i64 a0_2, .int .i64 a0_3], .agg #[.int .i64 a1_0, .int .i64 a1_1, .int .i64 a1_2, .int .i64 a1_3]] ?_; (with_reducible refine (spec_l24Meet.calls a0_0 a0_1 a0_2 a0_3 a1_0 a1_1 a1_2 a1_3 t780 _ A7.out).mono ?_); rintro e w17 ⟨rfl, hb⟩; refine ⟨_, rfl, ?_⟩; replace BK776 := Aside0.mk (bb_ (bk_ BK776.out) hb); replace BK777 := Aside0.mk (bb_ (bk_ BK777.out) hb); replace HB := Aside0.mk (below_step (lb2_ HB.out GE776.out GE777.out) hb); (try clear hb); (try clear hb2); (try clear hk); (try clear hi)))
   go_ret2
   exact ⟨rr_, lb2_ HB.out GE776.out GE777.out⟩
  ·
   replace c6 := Bool.eq_false_iff.mpr c6
   subst c6
   have H1 : (some (false, false)) = some (r1, r2) := by rw [if_neg (show ¬ (false = true) by decide)] at H; exact H
   clear H
   have H := H1
   clear H1
   simp only [Option.some.injEq, Prod.mk.injEq] at H
   obtain ⟨rfl, rfl⟩ := H
   go_enter Tryd.func51, Tryd.ntmps51
   go_wp2_with (first | ((with_reducible refine gate_dst (N := 2) rfl ?_); refine box_event ?hg (N := 2) ?hd (cs := #[.int .i64 a0_0, .int .i64 a0_1, .int .i64 a0_2, .int .i64 a0_3]) (t := 26) ?hr ?_; (case hd => rfl); (case hg => rfl); (case hr => first | (go_simp; done) | (go_simp; rfl)); intro gb776 hg w18 hbox hb; have BK776 := Aside0.mk (hbox); have GW776 := Aside0.mk ((bz_ hg (lb0_ HB.out))); have GE776 := Aside0.mk ((bz_ hg (lb0_ HB.out))); replace HB := Aside0.mk (below_step (lb0_ HB.out) hb); clear hb hbox hg) | ((with_reducible refine gate_dst (N := 3) rfl ?_); refine box_event ?hg (N := 3) ?hd (cs := #[.int .i64 a1_0, .int .i64 a1_1, .int .i64 a1_2, .int .i64 a1_3]) (t := 26) ?hr ?_; (case hd => rfl); (case hg => rfl); (case hr => first | (go_simp; done) | (go_simp; rfl)); intro gb777 hg w19 hbox hb; have BK777 := Aside0.mk (hbox); have GW777 := Aside0.mk ((bz_ hg (lb1_ HB.out GE776.out))); have GE777 := Aside0.mk ((bz_ hg (lb1_ HB.out GE776.out))); replace HB := Aside0.mk (below_step (lb1_ HB.out GE776.out) hb); have NB776_777 := Aside0.mk (nl_ hg BK776.out); have NB777_776 := Aside0.mk (ng_ hg BK776.out); replace BK776 := Aside0.mk (bb_ (bk_ BK776.out) hb); clear hb hbox hg; have hnb20 := NB776_777.out; have hnc20 := NB777_776.out; obtain ⟨hcz21_0, hcz21_1, hcz21_2, hcz21_3⟩ := cz4_ BK776.out; obtain ⟨hfz21_0, hfz21_1, hfz21_2, hfz21_3⟩ := fz4_ BK776.out) | ((with_reducible refine gate_callee (f := 91) rfl ?_); refine ga_ (some 7) Tryd.func91 #[.agg #[.int .i64 a0_0, .int .i64 a0_1, .int .i64 a0_2, .int .i64 a0_3]] ?_; (with_reducible refine (spec_l24Near.calls a0_0 a0_1 a0_2 a0_3 true _ A3.out).mono ?_); rintro e w22 ⟨rfl, hb⟩; refine ⟨_, rfl, ?_⟩; replace BK776 := Aside0.mk (bb_ (bk_ BK776.out) hb); replace BK777 := Aside0.mk (bb_ (bk_ BK777.out) hb); replace HB := Aside0.mk (below_step (lb2_ HB.out GE776.out GE777.out) hb); (try clear hb); (try clear hb2); (try clear hk); (try clear hi); obtain ⟨hcz23_0, hcz23_1, hcz23_2, hcz23_3⟩ := cz4_ BK777.out; obtain ⟨hfz23_0, hfz23_1, hfz23_2, hfz23_3⟩ := fz4_ BK777.out) | (go_at_call 91; (with_reducible refine (spec_l24Near.calls a1_0 a1_1 a1_2 a1_3 false _ A5.out).mono ?_); rintro e w24 ⟨rfl, hb⟩; replace BK776 := Aside0.mk (bb_ (bk_ BK776.out) hb); replace BK777 := Aside0.mk (bb_ (bk_ BK777.out) hb); replace HB := Aside0.mk (below_step (lb2_ HB.out GE776.out GE777.out) hb); (try clear hb); (try clear hb2); (try clear hk); (try clear hi)))
   go_ret2
   exact ⟨rr_, lb2_ HB.out GE776.out GE777.out⟩
 ·
  replace c4 := Bool.eq_false_iff.mpr c4
  subst c4
  have H1 : (some (false, false)) = some (r1, r2) := by rw [if_neg (show ¬ (false = true) by decide)] at H; exact H
  clear H
  have H := H1
  clear H1
  simp only [Option.some.injEq, Prod.mk.injEq] at H
  obtain ⟨rfl, rfl⟩ := H
  go_enter Tryd.func51, Tryd.ntmps51
  go_wp2_with (first | ((with_reducible refine gate_dst (N := 2) rfl ?_); refine box_event ?hg (N := 2) ?hd (cs := #[.int .i64 a0_0, .int .i64 a0_1, .int .i64 a0_2, .int .i64 a0_3]) (t := 26) ?hr ?_; (case hd => rfl); (case hg => rfl); (case hr => first | (go_simp; done) | (go_simp; rfl)); intro gb776 hg w25 hbox hb; have BK776 := Aside0.mk (hbox); have GW776 := Aside0.mk ((bz_ hg (lb0_ HB.out))); have GE776 := Aside0.mk ((bz_ hg (lb0_ HB.out))); replace HB := Aside0.mk (below_step (lb0_ HB.out) hb); clear hb hbox hg) | ((with_reducible refine gate_dst (N := 3) rfl ?_); refine box_event ?hg (N := 3) ?hd (cs := #[.int .i64 a1_0, .int .i64 a1_1, .int .i64 a1_2, .int .i64 a1_3]) (t := 26) ?hr ?_; (case hd => rfl); (case hg => rfl); (case hr => first | (go_simp; done) | (go_simp; rfl)); intro gb777 hg w26 hbox hb; have BK777 := Aside0.mk (hbox); have GW777 := Aside0.mk ((bz_ hg (lb1_ HB.out GE776.out))); have GE777 := Aside0.mk ((bz_ hg (lb1_ HB.out GE776.out))); replace HB := Aside0.mk (below_step (lb1_ HB.out GE776.out) hb); have NB776_777 := Aside0.mk (nl_ hg BK776.out); have NB777_776 := Aside0.mk (ng_ hg BK776.out); replace BK776 := Aside0.mk (bb_ (bk_ BK776.out) hb); clear hb hbox hg; have hnb27 := NB776_777.out; have hnc27 := NB777_776.out; obtain ⟨hcz28_0, hcz28_1, hcz28_2, hcz28_3⟩ := cz4_ BK776.out; obtain ⟨hfz28_0, hfz28_1, hfz28_2, hfz28_3⟩ := fz4_ BK776.out) | ((with_reducible refine gate_callee (f := 91) rfl ?_); refine ga_ (some 7) Tryd.func91 #[.agg #[.int .i64 a0_0, .int .i64 a0_1, .int .i64 a0_2, .int .i64 a0_3]] ?_; (with_reducible refine (spec_l24Near.calls a0_0 a0_1 a0_2 a0_3 false _ A3.out).mono ?_); rintro e w29 ⟨rfl, hb⟩; refine ⟨_, rfl, ?_⟩; replace BK776 := Aside0.mk (bb_ (bk_ BK776.out) hb); replace BK777 := Aside0.mk (bb_ (bk_ BK777.out) hb); replace HB := Aside0.mk (below_step (lb2_ HB.out GE776.out GE777.out) hb); (try clear hb); (try clear hb2); (try clear hk); (try clear hi)))
  go_ret2
  exact ⟨rr_, lb2_ HB.out GE776.out GE777.out⟩
def spec_l1Cur_one.f (s0_0 : List Int) (s0_1 : Int) (s0_2 : Int) (a1 : Int) : Option (Bool × Int × Int) := (spec_l1Cur_pick.f s0_0 s0_1 s0_2 a1).bind fun bt599 => (some ((bt599.1 == 0), bt599.2.1, bt599.2.2))
set_option maxHeartbeats 8000000 in
set_option maxRecDepth 100000 in
theorem spec_l1Cur_one.calls (g : Nat) (s0_0 : List Int) (s0_1 : Int) (s0_2 : Int) (a1 : Int) (r1 : Bool) (r2 : Int) (r3 : Int) (w0 w : World) (hI : IsS99 w0 w g s0_0 s0_1 s0_2) (hB : Below w0.heap.size w0 w) (h : spec_l1Cur_one.f s0_0 s0_1 s0_2 a1 = some (r1, r2, r3)) :
  Calls Tryd.prog 87 #[.pointer (some ⟨g, 0, none⟩), .int .i64 a1] w fun e w' => e = .returned (.bool r1) ∧ IsS99 w0 w' g s0_0 r2 r3 ∧ Below w0.heap.size w0 w' ∧ KeepBut w w' g none := by
 have HI0 := Aside0.mk hI
 have HK := Aside0.mk (KeepBut.refl w g none)
 have HL := Aside0.mk hB.size
 clear hI
 have HW0 := Aside0.mk hB.size
 have HB := Aside0.mk hB
 clear hB
 have H : ((spec_l1Cur_pick.f s0_0 s0_1 s0_2 a1).bind fun bt599 => (some ((bt599.1 == 0), bt599.2.1, bt599.2.2))) = some (r1, r2, r3) := h
 clear h
 replace H := Option.bind_eq_some_iff.mp H
 obtain ⟨⟨t599, t600, t601⟩, A30, H⟩ := H
 replace H : (some ((t599 == 0), t600, t601)) = some (r1, r2, r3) := H
 have A3 := Aside0.mk A30
 clear A30
 simp only [Option.some.injEq, Prod.mk.injEq] at H
 obtain ⟨rfl, rfl, rfl⟩ := H
 go_enter Tryd.func87, Tryd.ntmps87
 go_wp2_with (first | ((with_reducible refine gate_callee (f := 86) rfl ?_); refine ga_ (some 7) Tryd.func86 #[.pointer (some ⟨g, 0, none⟩), .int .i64 a1] ?_; (with_reducible refine (spec_l1Cur_pick.calls g s0_0 s0_1 s0_2 a1 t599 t600 t601 w0 _ ?side1 ?side2 A3.out).mono ?_); (case side1 => exact is99_0 HI0.out); (case side2 => exact lb1_ HB.out (IsS99.ge HI0.out)); rintro e w4 ⟨rfl, hi, hb, hk⟩; refine ⟨_, rfl, ?_⟩; replace HK := Aside0.mk (KeepBut.trans (kb0_ HK.out) hk (.inl rfl)); replace HB := Aside0.mk (hb); replace HI0 := Aside0.mk (hi); (try clear hb); (try clear hb2); (try clear hk); (try clear hi)))
 go_ret
 exact ⟨rr_, is99_0 HI0.out, lb1_ HB.out (IsS99.ge HI0.out), kb0_ HK.out⟩
end Go.Proofs.YtjkcfpmonpkhhaaDoor.Pr

