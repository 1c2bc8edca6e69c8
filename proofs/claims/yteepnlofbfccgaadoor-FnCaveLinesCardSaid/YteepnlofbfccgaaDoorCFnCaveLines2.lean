/-
What is proved: parts of the law FnCaveLines: what the functions that it reaches compute, and the plain law.
Conditions: those of each theorem.
-/
import Derived.Test.YteepnlofbfccgaaDoorCFnCaveLines1
namespace Go.Proofs.YteepnlofbfccgaaDoor.Pr
open Go.RowKit Go.Proofs.YteepnlofbfccgaaDoorW.PrintWords Go.Proofs.YteepnlofbfccgaaDoorW.PrintLast Go.Proofs.YteepnlofbfccgaaDoorW.PrintMore
attribute [local go_sem] max2_int min2_int max_two min_two max_three min_three max_four min_four   -- for this text's walks alone
set_option linter.unusedVariables false
set_option linter.unusedSimpArgs false
mutual
def impl_CavesLongerThan.j0 : Nat → List (S26) → Int → Bool → Option (List ByteArray × Bool)
 | 0, _, _, _ => none
 | k + 1, x0, x1, x16 => if x16 = true then (some (([] : List ByteArray), false)) else (impl_CavesLongerThan.l0 k x1 ([] : List ByteArray) x0 (x0.length : Int) 0)
def impl_CavesLongerThan.l0 : Nat → Int → List ByteArray → List (S26) → Int → Int → Option (List ByteArray × Bool)
 | 0, _, _, _, _, _ => none
 | k + 1, x1, x6, x17, x18, x19 => if x19 < x18 then (if 0 ≤ x19 then (if x19 < (x17.length : Int) then (if ((rd_T26 x17 x19).f1) > x1 then (if x6.length < 8796093022208 then (impl_CavesLongerThan.l0 k x1 (x6 ++ [(rd_T26 x17 x19).f0]) x17 x18 (wrap64 (x19 + 1))) else (none)) else (impl_CavesLongerThan.l0 k x1 x6 x17 x18 (wrap64 (x19 + 1)))) else (none)) else (none)) else (some (x6, true))
end
def impl_CavesLongerThan.f (k : Nat) (l0 : List (S26)) (a1 : Int) : Option (List ByteArray × Bool) := (impl_AreCaves.f k l0).bind fun t212 => (if t212 = true then ((impl_within.f a1 0 1000000).bind fun t213 => (impl_CavesLongerThan.j0 k l0 a1 (!t213))) else (impl_CavesLongerThan.j0 k l0 a1 true))
set_option maxHeartbeats 8000000 in
set_option maxRecDepth 100000 in
theorem impl_CavesLongerThan.calls (k : Nat) (A0 : Option Addr) (c0 : Nat) (l0 : List (S26)) (a1 : Int) (r1 : List ByteArray) (r2 : Bool) (w : World) (hr0 : Kd.C k26 w A0 l0.length l0) (hc0 : l0.length ≤ c0) (h : impl_CavesLongerThan.f k l0 a1 = some (r1, r2)) :
  Calls Tryd.prog 27 #[.slice A0 l0.length c0, .int .i64 a1] w fun e w' => ∃ v0_ : Value, e = .returned (.tuple #[v0_, .bool r2]) ∧ Kd.R Kd.string 9 w' w.heap.size (fun _ => True) v0_ r1 ∧ Below w.heap.size w w' := by
 have hu26 := Tryd.underlying26
 have HR0 := Aside0.mk hr0
 have HC0 := Aside0.mk hc0
 clear hr0 hc0
 have HB := Aside0.mk (Below.refl w.heap.size w)
 have H : ((impl_AreCaves.f k l0).bind fun t212 => (if t212 = true then ((impl_within.f a1 0 1000000).bind fun t213 => (impl_CavesLongerThan.j0 k l0 a1 (!t213))) else (impl_CavesLongerThan.j0 k l0 a1 true))) = some (r1, r2) := h
 clear h
 have HC3 := Aside0.mk H
 clear H
 go_enter Tryd.func27, Tryd.ntmps27
 go_upto_region 1 with (fail)
 go_cut [16] (fun v16 wc => ∃ (kq : Nat) (x16_2 : Bool), v16 = .bool x16_2 ∧ Aside0 (impl_CavesLongerThan.j0 kq l0 a1 x16_2 = some (r1, r2)) ∧ Aside0 (kq ≤ k) ∧ Aside0 (Below w.heap.size w wc))
 case first =>
  have H := HC3.out
  clear HC3
  replace H := Option.bind_eq_some_iff.mp H
  obtain ⟨t212, A40, H⟩ := H
  replace H : (if t212 = true then ((impl_within.f a1 0 1000000).bind fun t213 => (impl_CavesLongerThan.j0 k l0 a1 (!t213))) else (impl_CavesLongerThan.j0 k l0 a1 true)) = some (r1, r2) := H
  have A4 := Aside0.mk A40
  clear A40
  by_cases c5 : t212 = true
  ·
   subst c5
   have H1 : ((impl_within.f a1 0 1000000).bind fun t213 => (impl_CavesLongerThan.j0 k l0 a1 (!t213))) = some (r1, r2) := by rw [if_pos rfl] at H; exact H
   clear H
   have H := H1
   clear H1
   replace H := Option.bind_eq_some_iff.mp H
   obtain ⟨t213, A60, H⟩ := H
   replace H : (impl_CavesLongerThan.j0 k l0 a1 (!t213)) = some (r1, r2) := H
   have A6 := Aside0.mk A60
   clear A60
   have H' := Aside0.mk H
   clear H
   go_wp2_with (first | ((with_reducible refine gate_callee (f := 22) rfl ?_); refine ga_ (some 10) Tryd.func22 #[.slice A0 l0.length c0] ?_; (with_reducible refine (impl_AreCaves.calls k _ _ l0 true _ ?side1 ?side2 A4.out).mono ?_); (case side1 => exact kc_ (Kd.C_below HR0.out HB.out)); (case side2 => exact HC0.out); rintro e w7 ⟨rfl, hb⟩; refine ⟨_, rfl, ?_⟩; have n0_ := Aside0.mk (below_step (lb0_ HB.out) hb); clear HB; have HB := n0_; clear n0_; (try clear hb); (try clear hb2); (try clear hk); (try clear hi)) | (go_at_call 57; (with_reducible refine (impl_within.calls a1 0 1000000 t213 _ A6.out).mono ?_); rintro e w' ⟨rfl, ⟨nd, rfl⟩⟩))
   go_meet
   case rel => exact ⟨_, (!t213), (by first | rfl | (simp; done) | (simp [*]; done)), H', ⟨by first | omega | exact Nat.le_refl _⟩, ⟨lb0_ HB.out⟩⟩
  ·
   replace c5 := Bool.eq_false_iff.mpr c5
   subst c5
   have H1 : (impl_CavesLongerThan.j0 k l0 a1 true) = some (r1, r2) := by rw [if_neg (show ¬ (false = true) by decide)] at H; exact H
   clear H
   have H := H1
   clear H1
   have H' := Aside0.mk H
   clear H
   go_wp2_with (first | ((with_reducible refine gate_callee (f := 22) rfl ?_); refine ga_ (some 10) Tryd.func22 #[.slice A0 l0.length c0] ?_; (with_reducible refine (impl_AreCaves.calls k _ _ l0 false _ ?side1 ?side2 A4.out).mono ?_); (case side1 => exact kc_ (Kd.C_below HR0.out HB.out)); (case side2 => exact HC0.out); rintro e w8 ⟨rfl, hb⟩; refine ⟨_, rfl, ?_⟩; have n0_ := Aside0.mk (below_step (lb0_ HB.out) hb); clear HB; have HB := n0_; clear n0_; (try clear hb); (try clear hb2); (try clear hk); (try clear hi)))
   go_meet
   case rel => exact ⟨_, (true), (by first | rfl | (simp; done) | (simp [*]; done)), H', ⟨by first | omega | exact Nat.le_refl _⟩, ⟨lb0_ HB.out⟩⟩
 case rest =>
  clear HC3
  try clear c2
  try clear p2
  try clear c5
  obtain ⟨kq, x16_2, rfl, HA, HJ2, HB⟩ := hcut
  cases kq with
  | zero => exact absurd HA.out (by simp [impl_CavesLongerThan.j0])
  | succ kj2 =>
   have H := HA.out
   clear HA
   simp only [impl_CavesLongerThan.j0] at H
   by_cases c9 : x16_2 = true
   ·
    subst c9
    have H1 : (some (([] : List ByteArray), false)) = some (r1, r2) := by rw [if_pos rfl] at H; exact H
    clear H
    have H := H1
    clear H1
    simp only [Option.some.injEq, Prod.mk.injEq] at H
    obtain ⟨rfl, rfl⟩ := H
    go_wp2
    go_ret2
    exact ⟨_, rr_, by first | exact Kd.R_nil _ _ _ _ _ | exact Kd.N_nil _ _ _ _ _ | exact Kd.V_nil _ _ _ _ _ | exact Kd.Q_nil _ _ _ _ _ | exact Kd.S_nil _ _ _ _ _, lb0_ HB.out⟩
   ·
    replace c9 := Bool.eq_false_iff.mpr c9
    subst c9
    have H1 : (impl_CavesLongerThan.l0 kj2 a1 ([] : List ByteArray) l0 (l0.length : Int) 0) = some (r1, r2) := by rw [if_neg (show ¬ (false = true) by decide)] at H; exact H
    clear H
    have H := H1
    clear H1
    have H' := Aside0.mk H
    clear H
    go_wp2
    go_loopg [6, 19] kj2 (fun kq v6 v19 w' => ∃ (x6_2 : List ByteArray) (x19_2 : Int), v19 = .int .i64 x19_2 ∧ Aside0 (impl_CavesLongerThan.l0 kq a1 x6_2 l0 (l0.length : Int) x19_2 = some (r1, r2)) ∧ Aside0 (kq ≤ kj2) ∧ Aside0 (Kd.R Kd.string 9 w' w.heap.size (fun _ => True) v6 x6_2) ∧ Aside0 (Below w.heap.size w w'))
    case atStart => exact ⟨(([] : List ByteArray)), (0), (by first | rfl | (simp; done) | (simp [*]; done)), H', ⟨Nat.le_refl _⟩, ⟨by first | exact Kd.R_nil _ _ _ _ _ | exact Kd.N_nil _ _ _ _ _ | exact Kd.V_nil _ _ _ _ _ | exact Kd.Q_nil _ _ _ _ _ | exact Kd.S_nil _ _ _ _ _⟩, ⟨lb0_ HB.out⟩⟩
    case round =>
     clear H'
     try clear c2
     try clear p2
     try clear c5
     try clear c9
     try clear p2
     obtain ⟨x6_2, x19_2, rfl, HA, HK2, HO_6, HB⟩ := hrel
     cases gk with
     | zero => exact absurd HA.out (by simp [impl_CavesLongerThan.l0])
     | succ k2 =>
      have H := HA.out
      clear HA
      simp only [impl_CavesLongerThan.l0] at H
      by_cases c10 : x19_2 < (l0.length : Int)
      ·
       rw [if_pos c10] at H
       have c10b0 : decide (x19_2 < (l0.length : Int)) = true := decide_eq_true c10
       clear c10
       by_cases c11 : 0 ≤ x19_2
       ·
        rw [if_pos c11] at H
        have c11b0 : decide (0 ≤ x19_2) = true := decide_eq_true c11
        clear c11
        by_cases c12 : x19_2 < (l0.length : Int)
        ·
         rw [if_pos c12] at H
         have c12b0 : decide (x19_2 < (l0.length : Int)) = true := decide_eq_true c12
         clear c12
         by_cases c13 : ((rd_T26 l0 x19_2).f1) > a1
         ·
          rw [if_pos c13] at H
          have c13b0 : decide (a1 < ((rd_T26 l0 x19_2).f1)) = true := decide_eq_true c13
          clear c13
          by_cases c14 : x6_2.length < 8796093022208
          ·
           rw [if_pos c14] at H
           have LMc14 := Aside0.mk c14
           clear c14
           obtain ⟨y216, hy216⟩ : ∃ y_ : List ByteArray, y_ = (x6_2 ++ [(rd_T26 l0 x19_2).f0]) := ⟨_, rfl⟩
           replace H : (impl_CavesLongerThan.l0 k2 a1 y216 l0 (l0.length : Int) (wrap64 (x19_2 + 1))) = some (r1, r2) := by first | (rw [hy216]; with_reducible exact H) | (have H2_ := (Option.bind_some _ _).symm.trans H; rw [hy216]; with_reducible exact H2_) | (have H2_ := (Option.bind_some _ _).symm.trans H; with_reducible exact H2_) | with_reducible exact H | (rw [hy216]; exact H) | exact H
           have Ny216 := Aside0.mk hy216
           clear hy216
           have H' := Aside0.mk H
           clear H
           have p214 : 0 ≤ (x19_2 : Int) := dt_
           have q214 : x19_2 < (l0.length : Int) := dt_
           obtain ⟨ad214, e214, hx214_0, hx214_1, hx214_2, hx214_3⟩ := at_T26 HR0.out x19_2 p214 q214
           cases e214
           replace hx214_0 := bc_ HB.out hx214_0
           replace hx214_1 := bc_ HB.out hx214_1
           replace hx214_2 := bc_ HB.out hx214_2
           replace hx214_3 := bc_ HB.out hx214_3
           replace p214 := eq_true p214
           replace q214 := eq_true q214
           go_wp2_with (first | ((with_reducible refine gate_dst (N := 8) rfl ?_); refine box_event ?hg (N := 8) ?hd (cs := #[.string (⟨#[]⟩ : ByteArray), .int .i64 0, .int .i64 0, .int .i64 0]) (t := 26) ?hr ?_; (case hd => rfl); (case hg => rfl); (case hr => first | (go_simp; done) | (go_simp; rfl)); intro gb215 hg w15 hbox hb; have n0_ := Aside0.mk (Kd.R_below (kr_ HO_6.out) hb); have n1_ := Aside0.mk (below_step (lb0_ HB.out) hb); have n2_ := Aside0.mk (hbox); have n3_ := Aside0.mk ((by rw [hg]; exact (below_size (lb0_ HB.out)) : w.heap.size ≤ gb215)); have n4_ := Aside0.mk ((by rw [hg]; exact (below_size (lb0_ HB.out)) : w.heap.size ≤ gb215)); clear HO_6; clear HB; have HO_6 := n0_; have HB := n1_; have BK215 := n2_; have GW215 := n3_; have GE215 := n4_; clear n0_ n1_ n2_ n3_ n4_; clear hb hbox hg; have hcz16_0 : w15.cell? ⟨gb215, 0, none⟩ = some (.string (⟨#[]⟩ : ByteArray)) := (blk_cell BK215.out 0).trans rfl; have hcz16_1 : w15.cell? ⟨gb215, 1, none⟩ = some (.int .i64 0) := (blk_cell BK215.out 1).trans rfl; have hcz16_2 : w15.cell? ⟨gb215, 2, none⟩ = some (.int .i64 0) := (blk_cell BK215.out 2).trans rfl; have hcz16_3 : w15.cell? ⟨gb215, 3, none⟩ = some (.int .i64 0) := (blk_cell BK215.out 3).trans rfl; have hfz16_0 := blk_frozen BK215.out 0; have hfz16_1 := blk_frozen BK215.out 1; have hfz16_2 := blk_frozen BK215.out 2; have hfz16_3 := blk_frozen BK215.out 3) | ((with_reducible refine gate_builtin (b := .append) (xs := #[.tmp 27, .tmp 30]) rfl ?_); at_builtin; refine Kd.R_append Kd.string (w0 := w) w.heap.size rfl (.tmp 27) (.tmp 30) 38 9 (.string ⟨#[]⟩) 16 rfl Tryd.underlying38 info9 rfl (by decide) (by omega) u6 x6_2 ((rd_T26 l0 x19_2).f0) [.string ((rd_T26 l0 x19_2).f0)] (fun _ => True) (fun _ => False) rfl (by first | (go_simp; done) | (go_simp; rfl)) ?aP (fun _ hk => hk.elim) ?aF ?aO ?aB ?aS ?aL ?_; (case aP => exact rfl); (case aB => exact (lb1_ HB.out GE215.out)); (case aF => exact (fun _ _ => trivial)); (case aO => exact (by (with_reducible repeat (first | apply Kd.R_alloc | apply Kd.R_drewN | apply Kd.R_drew)); exact Kd.R_mono (Kd.R_far (p := ⟨gb215, 3, none⟩) (Kd.R_far (p := ⟨gb215, 2, none⟩) (Kd.R_far (p := ⟨gb215, 1, none⟩) (Kd.R_far (p := ⟨gb215, 0, none⟩) (Kd.R_types HO_6.out BK215.out (by decide)) (fun _ hk => hk.2) (.string ((rd_T26 l0 x19_2).f0))) (fun _ hk => hk.2) (.int .i64 ((rd_T26 l0 x19_2).f1))) (fun _ hk => hk.2) (.int .i64 ((rd_T26 l0 x19_2).f2))) (fun _ hk => hk.2) (.int .i64 ((rd_T26 l0 x19_2).f3))) (fun _ hk => trivial))); (case aS => exact (below_size (lb1_ HB.out GE215.out))); (case aL => have := LMc14.out; omega); intro v217 w17 ho hb hg hat; rw [← Ny216.out] at ho; have n0_ := Aside0.mk (blk_grown (g := gb215) (o := .cells #[.string ((rd_T26 l0 x19_2).f0), .int .i64 ((rd_T26 l0 x19_2).f1), .int .i64 ((rd_T26 l0 x19_2).f2), .int .i64 ((rd_T26 l0 x19_2).f3)] 26 (0, 0)) (by (with_reducible repeat (first | refine blk_drewN ?_ _ | refine blk_drew ?_ | refine blk_alloc ?_ _)); refine blk_put (cs := #[.string ((rd_T26 l0 x19_2).f0), .int .i64 ((rd_T26 l0 x19_2).f1), .int .i64 ((rd_T26 l0 x19_2).f2), .int .i64 0]) ?_ 3 _ rfl; (with_reducible repeat (first | refine blk_drewN ?_ _ | refine blk_drew ?_ | refine blk_alloc ?_ _)); refine blk_put (cs := #[.string ((rd_T26 l0 x19_2).f0), .int .i64 ((rd_T26 l0 x19_2).f1), .int .i64 0, .int .i64 0]) ?_ 2 _ rfl; (with_reducible repeat (first | refine blk_drewN ?_ _ | refine blk_drew ?_ | refine blk_alloc ?_ _)); refine blk_put (cs := #[.string ((rd_T26 l0 x19_2).f0), .int .i64 0, .int .i64 0, .int .i64 0]) ?_ 1 _ rfl; (with_reducible repeat (first | refine blk_drewN ?_ _ | refine blk_drew ?_ | refine blk_alloc ?_ _)); refine blk_put (cs := #[.string (⟨#[]⟩ : ByteArray), .int .i64 0, .int .i64 0, .int .i64 0]) ?_ 0 _ rfl; (with_reducible repeat (first | refine blk_drewN ?_ _ | refine blk_drew ?_ | refine blk_alloc ?_ _)); exact BK215.out) hg (Kd.R_ne HO_6.out BK215.out (by decide))); have n1_ := Aside0.mk (hb); have n2_ := Aside0.mk (ho); clear BK215; clear HB; clear HO_6; have BK215 := n0_; have HB := n1_; have HO218 := n2_; clear n0_ n1_ n2_; clear ho hb hg hat))
           go_roundg k2
           case measure => have := HJ2.out; have := HK2.out; omega
           case rel => exact ⟨(y216), (wrap64 (x19_2 + 1)), (by first | rfl | (simp; done) | (simp [*]; done)), H', ⟨by have := HJ2.out; have := HK2.out; omega⟩, ⟨kr_ HO218.out⟩, ⟨lb1_ HB.out GE215.out⟩⟩
          ·
           rw [if_neg c14] at H
           exact absurd H (by simp)
         ·
          rw [if_neg c13] at H
          have c13b0 : decide (a1 < ((rd_T26 l0 x19_2).f1)) = false := decide_eq_false c13
          clear c13
          have H' := Aside0.mk H
          clear H
          have p214 : 0 ≤ (x19_2 : Int) := dt_
          have q214 : x19_2 < (l0.length : Int) := dt_
          obtain ⟨ad214, e214, hx214_0, hx214_1, hx214_2, hx214_3⟩ := at_T26 HR0.out x19_2 p214 q214
          cases e214
          replace hx214_0 := bc_ HB.out hx214_0
          replace hx214_1 := bc_ HB.out hx214_1
          replace hx214_2 := bc_ HB.out hx214_2
          replace hx214_3 := bc_ HB.out hx214_3
          replace p214 := eq_true p214
          replace q214 := eq_true q214
          go_wp2_with (first | ((with_reducible refine gate_dst (N := 8) rfl ?_); refine box_event ?hg (N := 8) ?hd (cs := #[.string (⟨#[]⟩ : ByteArray), .int .i64 0, .int .i64 0, .int .i64 0]) (t := 26) ?hr ?_; (case hd => rfl); (case hg => rfl); (case hr => first | (go_simp; done) | (go_simp; rfl)); intro gb215 hg w18 hbox hb; have n0_ := Aside0.mk (Kd.R_below (kr_ HO_6.out) hb); have n1_ := Aside0.mk (below_step (lb0_ HB.out) hb); have n2_ := Aside0.mk (hbox); have n3_ := Aside0.mk ((by rw [hg]; exact (below_size (lb0_ HB.out)) : w.heap.size ≤ gb215)); have n4_ := Aside0.mk ((by rw [hg]; exact (below_size (lb0_ HB.out)) : w.heap.size ≤ gb215)); clear HO_6; clear HB; have HO_6 := n0_; have HB := n1_; have BK215 := n2_; have GW215 := n3_; have GE215 := n4_; clear n0_ n1_ n2_ n3_ n4_; clear hb hbox hg; have hcz19_0 : w18.cell? ⟨gb215, 0, none⟩ = some (.string (⟨#[]⟩ : ByteArray)) := (blk_cell BK215.out 0).trans rfl; have hcz19_1 : w18.cell? ⟨gb215, 1, none⟩ = some (.int .i64 0) := (blk_cell BK215.out 1).trans rfl; have hcz19_2 : w18.cell? ⟨gb215, 2, none⟩ = some (.int .i64 0) := (blk_cell BK215.out 2).trans rfl; have hcz19_3 : w18.cell? ⟨gb215, 3, none⟩ = some (.int .i64 0) := (blk_cell BK215.out 3).trans rfl; have hfz19_0 := blk_frozen BK215.out 0; have hfz19_1 := blk_frozen BK215.out 1; have hfz19_2 := blk_frozen BK215.out 2; have hfz19_3 := blk_frozen BK215.out 3))
          go_roundg k2
          case measure => have := HJ2.out; have := HK2.out; omega
          case rel => exact ⟨(x6_2), (wrap64 (x19_2 + 1)), (by first | rfl | (simp; done) | (simp [*]; done)), H', ⟨by have := HJ2.out; have := HK2.out; omega⟩, ⟨by (with_reducible repeat (first | apply Kd.R_alloc | apply Kd.R_drewN | apply Kd.R_drew)); exact Kd.R_mono (Kd.R_far (p := ⟨gb215, 3, none⟩) (Kd.R_far (p := ⟨gb215, 2, none⟩) (Kd.R_far (p := ⟨gb215, 1, none⟩) (Kd.R_far (p := ⟨gb215, 0, none⟩) (Kd.R_types HO_6.out BK215.out (by decide)) (fun _ hk => hk.2) (.string ((rd_T26 l0 x19_2).f0))) (fun _ hk => hk.2) (.int .i64 ((rd_T26 l0 x19_2).f1))) (fun _ hk => hk.2) (.int .i64 ((rd_T26 l0 x19_2).f2))) (fun _ hk => hk.2) (.int .i64 ((rd_T26 l0 x19_2).f3))) (fun _ hk => trivial)⟩, ⟨lb1_ HB.out GE215.out⟩⟩
        ·
         rw [if_neg c12] at H
         exact absurd H (by simp)
       ·
        rw [if_neg c11] at H
        exact absurd H (by simp)
      ·
       rw [if_neg c10] at H
       have c10b0 : decide (x19_2 < (l0.length : Int)) = false := decide_eq_false c10
       clear c10
       simp only [Option.some.injEq, Prod.mk.injEq] at H
       obtain ⟨rfl, rfl⟩ := H
       go_wp2
       go_ret2
       exact ⟨_, rr_, kr_ HO_6.out, lb0_ HB.out⟩
def sc (a b : ByteArray) : ByteArray := a ++ b
theorem sc_in (a b : ByteArray) : a ++ b = sc a b := rfl
def sx (a : ByteArray) (i j : Nat) : ByteArray := a.extract i j
theorem sx_in (a : ByteArray) (i j : Nat) : a.extract i j = sx a i j := rfl
end Go.Proofs.YteepnlofbfccgaaDoor.Pr

namespace Go.Proofs.YteepnlofbfccgaaDoor.Pr
open Go.RowKit Go.Proofs.YteepnlofbfccgaaDoorW.PrintWords Go.Proofs.YteepnlofbfccgaaDoorW.PrintLast Go.Proofs.YteepnlofbfccgaaDoorW.PrintMore
attribute [local go_sem] max2_int min2_int max_two min_two max_three min_three max_four min_four sc_in sx_in   -- for this text's walks alone
set_option linter.unusedVariables false
set_option linter.unusedSimpArgs false
def spec_l1Num.f : Nat → Int → Option (ByteArray)
 | 0, _ => none
 | k + 1, a0 => if a0 < 0 then ((spec_l1Num.f k (wrap64 (-a0))).bind fun t417 => (if 1 + t417.size ≤ 9223372036854775807 then (some (sc (⟨#[45]⟩ : ByteArray) t417)) else (none))) else (if a0 < 10 then (if 0 ≤ a0 then (if a0 ≤ (wrap64 (a0 + 1)) then (if (wrap64 (a0 + 1)) ≤ 10 then (some (sx (⟨#[48, 49, 50, 51, 52, 53, 54, 55, 56, 57]⟩ : ByteArray) ((a0 : Int).toNat) (((wrap64 (a0 + 1)) : Int).toNat))) else (none)) else (none)) else (none)) else ((spec_l1Num.f k (wrap64 (Int.tdiv a0 10))).bind fun t418 => (if 0 ≤ (Int.tmod a0 10) then (if (Int.tmod a0 10) ≤ (wrap64 ((Int.tmod a0 10) + 1)) then (if (wrap64 ((Int.tmod a0 10) + 1)) ≤ 10 then (if t418.size + (sx (⟨#[48, 49, 50, 51, 52, 53, 54, 55, 56, 57]⟩ : ByteArray) (((Int.tmod a0 10) : Int).toNat) (((wrap64 ((Int.tmod a0 10) + 1)) : Int).toNat)).size ≤ 9223372036854775807 then (some (sc t418 (sx (⟨#[48, 49, 50, 51, 52, 53, 54, 55, 56, 57]⟩ : ByteArray) (((Int.tmod a0 10) : Int).toNat) (((wrap64 ((Int.tmod a0 10) + 1)) : Int).toNat)))) else (none)) else (none)) else (none)) else (none))))
def spec_l1Num.T5 : Bool × List (List Nat × List Nat) := (true, [([], []), ([0], [0]), ([1], [1]), ([], []), ([3], [3]), ([], []), ([5], [5]), ([6], [6]), ([4, 7], [4, 7]), ([2, 8], [2, 8]), ([9, 2, 0, 1, 2, 3, 4, 5, 6, 7, 8, 9], [9])])
def spec_l1Num.B5 : List Nat := [0, 1, 3, 0, 8, 0, 32, 96, 248, 511, 1023]
theorem spec_l1Num.tab5 : rtab .any (opsOf Tryd.f93 5) = spec_l1Num.T5 := by kernel_rfl
theorem spec_l1Num.bits5 : waitsOk spec_l1Num.T5.2 spec_l1Num.B5 = true := by kernel_rfl
abbrev spec_l1Num.mk0 : Array Bool := #[false, false, false, false, false, false, false, false, false, false, false]
abbrev spec_l1Num.mk1 : Array Bool := #[true, false, false, false, false, false, false, false, false, false, false]
abbrev spec_l1Num.mk2 : Array Bool := #[true, true, false, false, false, false, false, false, false, false, false]
abbrev spec_l1Num.mk3 : Array Bool := #[true, true, false, true, false, false, false, false, false, false, false]
abbrev spec_l1Num.mk4 : Array Bool := #[true, true, false, true, true, false, false, false, false, false, false]
abbrev spec_l1Num.mk5 : Array Bool := #[true, true, false, true, true, true, false, false, false, false, false]
abbrev spec_l1Num.mk6 : Array Bool := #[true, true, false, true, true, true, true, false, false, false, false]
abbrev spec_l1Num.mk7 : Array Bool := #[true, true, false, true, true, true, true, true, false, false, false]
abbrev spec_l1Num.mk8 : Array Bool := #[true, true, false, true, true, true, true, true, true, false, false]
abbrev spec_l1Num.mk9 : Array Bool := #[true, true, true, true, true, true, true, true, true, false, false]
abbrev spec_l1Num.mk10 : Array Bool := #[true, true, true, true, true, true, true, true, true, true, false]
abbrev spec_l1Num.mk11 : Array Bool := #[true, true, true, true, true, true, true, true, true, true, true]
set_option maxHeartbeats 8000000 in
set_option maxRecDepth 100000 in
theorem spec_l1Num.calls (k : Nat) : ∀ (a0 : Int) (r : ByteArray) (w : World) (h : spec_l1Num.f k a0 = some r),
  Calls Tryd.prog 93 #[.int .i64 a0] w fun e w' => e = .returned (.string r) ∧ Below w.heap.size w w' := by
 induction k using Nat.strongRecOn with
 | _ k ih =>
 intro a0 r w h
 cases k with
 | zero => exact absurd h (by simp [spec_l1Num.f])
 | succ k =>
 simp only [spec_l1Num.f] at h
 have HB := Aside0.mk (Below.refl w.heap.size w)
 have H : (if a0 < 0 then ((spec_l1Num.f k (wrap64 (-a0))).bind fun t417 => (if 1 + t417.size ≤ 9223372036854775807 then (some (sc (⟨#[45]⟩ : ByteArray) t417)) else (none))) else (if a0 < 10 then (if 0 ≤ a0 then (if a0 ≤ (wrap64 (a0 + 1)) then (if (wrap64 (a0 + 1)) ≤ 10 then (some (sx (⟨#[48, 49, 50, 51, 52, 53, 54, 55, 56, 57]⟩ : ByteArray) ((a0 : Int).toNat) (((wrap64 (a0 + 1)) : Int).toNat))) else (none)) else (none)) else (none)) else ((spec_l1Num.f k (wrap64 (Int.tdiv a0 10))).bind fun t418 => (if 0 ≤ (Int.tmod a0 10) then (if (Int.tmod a0 10) ≤ (wrap64 ((Int.tmod a0 10) + 1)) then (if (wrap64 ((Int.tmod a0 10) + 1)) ≤ 10 then (if t418.size + (sx (⟨#[48, 49, 50, 51, 52, 53, 54, 55, 56, 57]⟩ : ByteArray) (((Int.tmod a0 10) : Int).toNat) (((wrap64 ((Int.tmod a0 10) + 1)) : Int).toNat)).size ≤ 9223372036854775807 then (some (sc t418 (sx (⟨#[48, 49, 50, 51, 52, 53, 54, 55, 56, 57]⟩ : ByteArray) (((Int.tmod a0 10) : Int).toNat) (((wrap64 ((Int.tmod a0 10) + 1)) : Int).toNat)))) else (none)) else (none)) else (none)) else (none))))) = some r := h
 clear h
 by_cases c2 : a0 < 0
 ·
  rw [if_pos c2] at H
  have c2b0 : decide (a0 < 0) = true := decide_eq_true c2
  clear c2
  replace H := Option.bind_eq_some_iff.mp H
  obtain ⟨t417, A30, H⟩ := H
  replace H : (if 1 + t417.size ≤ 9223372036854775807 then (some (sc (⟨#[45]⟩ : ByteArray) t417)) else (none)) = some r := H
  have A3 := Aside0.mk A30
  clear A30
  by_cases c4 : 1 + t417.size ≤ 9223372036854775807
  ·
   rw [if_pos c4] at H
   have c4b0 := eq_true c4
   have c4b1 : decide (1 + t417.size ≤ 9223372036854775807) = true := decide_eq_true c4
   try have c4b2 : (9223372036854775807 < 1 + t417.size) = False := eq_false (Nat.not_lt.2 c4)
   obtain rfl := Option.some.inj H
   go_enter Tryd.func93, Tryd.ntmps93
   go_wp2_with (first | ((with_reducible refine gate_callee (f := 93) rfl ?_); refine ga_ (some 7) Tryd.func93 #[.int .i64 (wrap64 (-a0))] ?_; (with_reducible refine (ih k (by omega) (wrap64 (-a0)) t417 _ A3.out).mono ?_); rintro e w5 ⟨rfl, hb⟩; refine ⟨_, rfl, ?_⟩; have n0_ := Aside0.mk (below_step (lb0_ HB.out) hb); clear HB; have HB := n0_; clear n0_; (try clear hb); (try clear hb2); (try clear hk); (try clear hi)))
   go_ret
   exact ⟨rr_, lb0_ HB.out⟩
  ·
   rw [if_neg c4] at H
   exact absurd H (by simp)
 ·
  rw [if_neg c2] at H
  have c2b0 : decide (a0 < 0) = false := decide_eq_false c2
  clear c2
  by_cases c6 : a0 < 10
  ·
   rw [if_pos c6] at H
   have c6b0 : decide (a0 < 10) = true := decide_eq_true c6
   clear c6
   by_cases c7 : 0 ≤ a0
   ·
    rw [if_pos c7] at H
    have c7b0 := eq_true c7
    have c7b1 : decide (0 ≤ a0) = true := decide_eq_true c7
    clear c7
    by_cases c8 : a0 ≤ (wrap64 (a0 + 1))
    ·
     rw [if_pos c8] at H
     have c8b0 := eq_true c8
     have c8b1 : decide (a0 ≤ (wrap64 (a0 + 1))) = true := decide_eq_true c8
     by_cases c9 : (wrap64 (a0 + 1)) ≤ 10
     ·
      rw [if_pos c9] at H
      have c9b0 := eq_true c9
      have c9b1 : decide ((wrap64 (a0 + 1)) ≤ 10) = true := decide_eq_true c9
      obtain rfl := Option.some.inj H
      go_enter Tryd.func93, Tryd.ntmps93
      go_wp2
      go_ret
      exact ⟨rr_, lb0_ HB.out⟩
     ·
      rw [if_neg c9] at H
      exact absurd H (by simp)
    ·
     rw [if_neg c8] at H
     exact absurd H (by simp)
   ·
    rw [if_neg c7] at H
    exact absurd H (by simp)
  ·
   rw [if_neg c6] at H
   have c6b0 : decide (a0 < 10) = false := decide_eq_false c6
   clear c6
   replace H := Option.bind_eq_some_iff.mp H
   obtain ⟨t418, A100, H⟩ := H
   replace H : (if 0 ≤ (Int.tmod a0 10) then (if (Int.tmod a0 10) ≤ (wrap64 ((Int.tmod a0 10) + 1)) then (if (wrap64 ((Int.tmod a0 10) + 1)) ≤ 10 then (if t418.size + (sx (⟨#[48, 49, 50, 51, 52, 53, 54, 55, 56, 57]⟩ : ByteArray) (((Int.tmod a0 10) : Int).toNat) (((wrap64 ((Int.tmod a0 10) + 1)) : Int).toNat)).size ≤ 9223372036854775807 then (some (sc t418 (sx (⟨#[48, 49, 50, 51, 52, 53, 54, 55, 56, 57]⟩ : ByteArray) (((Int.tmod a0 10) : Int).toNat) (((wrap64 ((Int.tmod a0 10) + 1)) : Int).toNat)))) else (none)) else (none)) else (none)) else (none)) = some r := H
   have A10 := Aside0.mk A100
   clear A100
   obtain ⟨ji11, hji11⟩ : ∃ j_ : Int, (Int.tmod a0 10) = j_ := ⟨_, rfl⟩
   replace H : (if 0 ≤ (ji11) then (if (ji11) ≤ (wrap64 ((ji11) + 1)) then (if (wrap64 ((ji11) + 1)) ≤ 10 then (if t418.size + (sx (⟨#[48, 49, 50, 51, 52, 53, 54, 55, 56, 57]⟩ : ByteArray) (((ji11) : Int).toNat) (((wrap64 ((ji11) + 1)) : Int).toNat)).size ≤ 9223372036854775807 then (some (sc t418 (sx (⟨#[48, 49, 50, 51, 52, 53, 54, 55, 56, 57]⟩ : ByteArray) (((ji11) : Int).toNat) (((wrap64 ((ji11) + 1)) : Int).toNat)))) else (none)) else (none)) else (none)) else (none)) = some r := by first | (rw [hji11] at H; exact H) | (simp only [hji11] at H ⊢; exact H)
   (try rw [hji11] at A10)
   by_cases c12 : 0 ≤ (ji11)
   ·
    rw [if_pos c12] at H
    have c12b0 := eq_true c12
    have c12b1 : decide (0 ≤ (ji11)) = true := decide_eq_true c12
    clear c12
    by_cases c13 : (ji11) ≤ (wrap64 ((ji11) + 1))
    ·
     rw [if_pos c13] at H
     have c13b0 := eq_true c13
     have c13b1 : decide ((ji11) ≤ (wrap64 ((ji11) + 1))) = true := decide_eq_true c13
     by_cases c14 : (wrap64 ((ji11) + 1)) ≤ 10
     ·
      rw [if_pos c14] at H
      have c14b0 := eq_true c14
      have c14b1 : decide ((wrap64 ((ji11) + 1)) ≤ 10) = true := decide_eq_true c14
      by_cases c15 : t418.size + (sx (⟨#[48, 49, 50, 51, 52, 53, 54, 55, 56, 57]⟩ : ByteArray) (((ji11) : Int).toNat) (((wrap64 ((ji11) + 1)) : Int).toNat)).size ≤ 9223372036854775807
      ·
       rw [if_pos c15] at H
       have c15b0 := eq_true c15
       have c15b1 : decide (t418.size + (sx (⟨#[48, 49, 50, 51, 52, 53, 54, 55, 56, 57]⟩ : ByteArray) (((ji11) : Int).toNat) (((wrap64 ((ji11) + 1)) : Int).toNat)).size ≤ 9223372036854775807) = true := decide_eq_true c15
       try have c15b2 : (9223372036854775807 < t418.size + (sx (⟨#[48, 49, 50, 51, 52, 53, 54, 55, 56, 57]⟩ : ByteArray) (((ji11) : Int).toNat) (((wrap64 ((ji11) + 1)) : Int).toNat)).size) = False := eq_false (Nat.not_lt.2 c15)
       obtain rfl := Option.some.inj H
       go_enter Tryd.func93, Tryd.ntmps93
       try go_wp2
       have n0_ := Aside0.mk (below_drew1 HB.out)
       clear HB
       have HB := n0_
       clear n0_
       refine start_ (n := 11) (S := fun w' => True) (ds := []) spec_l1Num.mk0 (by kernel_rfl) rfl rfl trivial (fun hHeld => ?_); refine with_tabW spec_l1Num.tab5 spec_l1Num.bits5 (fun HT_ HW_ => ?_)
       generalize w.drew = w16 at HB hHeld ⊢
       refine pz_ HT_ 0 (some 15) spec_l1Num.mk1 ?_
       refine pz_ HT_ 1 (some 16) spec_l1Num.mk2 ?_
       refine pz_ HT_ 3 (some 18) spec_l1Num.mk3 ?_
       refine pz_ HT_ 4 (some 19) spec_l1Num.mk4 ?_
       refine pz_ HT_ 5 (some 20) spec_l1Num.mk5 ?_
       refine pz_ HT_ 6 (some 21) spec_l1Num.mk6 ?_
       refine pz_ HT_ 7 (some 22) spec_l1Num.mk7 ?_
       refine pz_ HT_ 8 (some 23) spec_l1Num.mk8 ?_
       refine one_ (i := 2) (N := some 17) spec_l1Num.mk9 rfl rfl (one_of HT_.out (by kernel_rfl)) (by decide) (fun K hK => ?_)
       refine goes_ Tryd.func93 (by kernel_rfl) rfl #[.int .i64 (wrap64 (Int.tdiv a0 10))] (by rfl) rfl rfl (by (try simp only [List.map_toArray, List.map_cons, List.map_nil]); first | done | rfl | (simp only [List.length_drop, List.length_take]; rfl)) ?_
       with_reducible refine (ih k (by omega) (wrap64 (Int.tdiv a0 10)) t418 _ A10.out).mono ?_
       rintro e w17 ⟨rfl, hb⟩
       refine ⟨_, rfl, ?_⟩
       have n0_ := Aside0.mk (below_step (lb0_ HB.out) hb)
       clear HB
       have HB := n0_
       clear n0_
       (try clear hb)
       (try clear hb2)
       (try clear hk)
       (try clear hi)
       refine hK.out _ _ trivial (fun hHeld => ?_)
       clear hK K
       refine norm_ (a' := ?_) ?_ ?_
       rotate_left
       ·
        show Act.put _ (some 17) _ = _
        simp only [Act.put, List.setIfInBounds_toArray, List.set_cons_zero, List.set_cons_succ, i64_w, i32_w]
        rfl
       refine pz_ HT_ 9 (some 24) spec_l1Num.mk10 ?_
       refine pz_ HT_ 10 (some 2) spec_l1Num.mk11 ?_
       refine done_ (done_of HT_.out (by kernel_rfl)) ?_
       try go_wp2
       go_ret
       exact ⟨by first | rfl | (simp [errW_none, errW_some] <;> rfl) | (simp only [← hji11]; first | rfl | (simp [errW_none, errW_some] <;> rfl)) | (simp [*, errW_none, errW_some] <;> rfl), lb0_ HB.out⟩
      ·
       rw [if_neg c15] at H
       exact absurd H (by simp)
     ·
      rw [if_neg c14] at H
      exact absurd H (by simp)
    ·
     rw [if_neg c13] at H
     exact absurd H (by simp)
   ·
    rw [if_neg c12] at H
    exact absurd H (by simp)
def spec_l26Line.f (k : Nat) (a0_0 : ByteArray) (a0_1 : Int) (a0_2 : Int) (a0_3 : Int) : Option (ByteArray) := if a0_1 = 0 then (if a0_0.size + 14 ≤ 9223372036854775807 then (some (sc a0_0 (⟨#[58, 32, 110, 111, 116, 32, 115, 117, 114, 118, 101, 121, 101, 100]⟩ : ByteArray))) else (none)) else (if a0_0.size + 2 ≤ 9223372036854775807 then ((spec_l1Num.f k (wrap64 (Int.tdiv a0_1 10))).bind fun t420 => (if (sc a0_0 (⟨#[58, 32]⟩ : ByteArray)).size + t420.size ≤ 9223372036854775807 then (if (sc (sc a0_0 (⟨#[58, 32]⟩ : ByteArray)) t420).size + 9 ≤ 9223372036854775807 then ((spec_l1Num.f k (wrap64 (Int.tdiv a0_2 10))).bind fun t421 => (if (sc (sc (sc a0_0 (⟨#[58, 32]⟩ : ByteArray)) t420) (⟨#[32, 109, 32, 108, 111, 110, 103, 44, 32]⟩ : ByteArray)).size + t421.size ≤ 9223372036854775807 then (if (sc (sc (sc (sc a0_0 (⟨#[58, 32]⟩ : ByteArray)) t420) (⟨#[32, 109, 32, 108, 111, 110, 103, 44, 32]⟩ : ByteArray)) t421).size + 9 ≤ 9223372036854775807 then ((spec_l1Num.f k a0_3).bind fun t422 => (if (sc (sc (sc (sc (sc a0_0 (⟨#[58, 32]⟩ : ByteArray)) t420) (⟨#[32, 109, 32, 108, 111, 110, 103, 44, 32]⟩ : ByteArray)) t421) (⟨#[32, 109, 32, 100, 101, 101, 112, 44, 32]⟩ : ByteArray)).size + t422.size ≤ 9223372036854775807 then (if (sc (sc (sc (sc (sc (sc a0_0 (⟨#[58, 32]⟩ : ByteArray)) t420) (⟨#[32, 109, 32, 108, 111, 110, 103, 44, 32]⟩ : ByteArray)) t421) (⟨#[32, 109, 32, 100, 101, 101, 112, 44, 32]⟩ : ByteArray)) t422).size + 4 ≤ 9223372036854775807 then (if a0_3 = 1 then (some (sc (sc (sc (sc (sc (sc (sc a0_0 (⟨#[58, 32]⟩ : ByteArray)) t420) (⟨#[32, 109, 32, 108, 111, 110, 103, 44, 32]⟩ : ByteArray)) t421) (⟨#[32, 109, 32, 100, 101, 101, 112, 44, 32]⟩ : ByteArray)) t422) (⟨#[32, 108, 101, 103]⟩ : ByteArray))) else (if (sc (sc (sc (sc (sc (sc (sc a0_0 (⟨#[58, 32]⟩ : ByteArray)) t420) (⟨#[32, 109, 32, 108, 111, 110, 103, 44, 32]⟩ : ByteArray)) t421) (⟨#[32, 109, 32, 100, 101, 101, 112, 44, 32]⟩ : ByteArray)) t422) (⟨#[32, 108, 101, 103]⟩ : ByteArray)).size + 1 ≤ 9223372036854775807 then (some (sc (sc (sc (sc (sc (sc (sc (sc a0_0 (⟨#[58, 32]⟩ : ByteArray)) t420) (⟨#[32, 109, 32, 108, 111, 110, 103, 44, 32]⟩ : ByteArray)) t421) (⟨#[32, 109, 32, 100, 101, 101, 112, 44, 32]⟩ : ByteArray)) t422) (⟨#[32, 108, 101, 103]⟩ : ByteArray)) (⟨#[115]⟩ : ByteArray))) else (none))) else (none)) else (none))) else (none)) else (none))) else (none)) else (none))) else (none))
def spec_l26Line.T3 : Bool × List (List Nat × List Nat) := (true, [([], []), ([0], [0]), ([1], [1]), ([], []), ([3], [3]), ([4], [4]), ([5], [5]), ([2, 6], [2, 6]), ([7], [7]), ([], []), ([9], [9]), ([10], [10]), ([11, 6], [11]), ([8, 12], [8, 12]), ([13], [13]), ([], []), ([15], [15]), ([16, 12], [16]), ([14, 17], [14, 17]), ([18], [18]), ([19, 17, 0, 1, 2, 3, 4, 5, 6, 7, 8, 9, 10, 11, 12, 13, 14, 15, 16, 17, 18, 19], [19])])
def spec_l26Line.B3 : List Nat := [0, 1, 3, 0, 8, 24, 56, 127, 255, 0, 512, 1536, 3704, 8191, 16383, 0, 32768, 106104, 262143, 524287, 1048575]
theorem spec_l26Line.tab3 : rtab .any (opsOf Tryd.f70 3) = spec_l26Line.T3 := by kernel_rfl
theorem spec_l26Line.bits3 : waitsOk spec_l26Line.T3.2 spec_l26Line.B3 = true := by kernel_rfl
abbrev spec_l26Line.mk0 : Array Bool := #[false, false, false, false, false, false, false, false, false, false, false, false, false, false, false, false, false, false, false, false, false]
abbrev spec_l26Line.mk1 : Array Bool := #[true, false, false, false, false, false, false, false, false, false, false, false, false, false, false, false, false, false, false, false, false]
abbrev spec_l26Line.mk2 : Array Bool := #[true, false, false, true, false, false, false, false, false, false, false, false, false, false, false, false, false, false, false, false, false]
abbrev spec_l26Line.mk3 : Array Bool := #[true, false, false, true, false, false, false, false, false, true, false, false, false, false, false, false, false, false, false, false, false]
abbrev spec_l26Line.mk4 : Array Bool := #[true, false, false, true, false, false, false, false, false, true, false, false, false, false, false, true, false, false, false, false, false]
abbrev spec_l26Line.mk5 : Array Bool := #[true, true, false, true, false, false, false, false, false, true, false, false, false, false, false, true, false, false, false, false, false]
abbrev spec_l26Line.mk6 : Array Bool := #[true, true, true, true, false, false, false, false, false, true, false, false, false, false, false, true, false, false, false, false, false]
abbrev spec_l26Line.mk7 : Array Bool := #[true, true, true, true, true, false, false, false, false, true, false, false, false, false, false, true, false, false, false, false, false]
abbrev spec_l26Line.mk8 : Array Bool := #[true, true, true, true, true, true, false, false, false, true, false, false, false, false, false, true, false, false, false, false, false]
abbrev spec_l26Line.mk9 : Array Bool := #[true, true, true, true, true, true, false, false, false, true, true, false, false, false, false, true, false, false, false, false, false]
abbrev spec_l26Line.mk10 : Array Bool := #[true, true, true, true, true, true, false, false, false, true, true, true, false, false, false, true, false, false, false, false, false]
abbrev spec_l26Line.mk11 : Array Bool := #[true, true, true, true, true, true, false, false, false, true, true, true, false, false, false, true, true, false, false, false, false]
abbrev spec_l26Line.mk12 : Array Bool := #[true, true, true, true, true, true, true, false, false, true, true, true, false, false, false, true, true, false, false, false, false]
abbrev spec_l26Line.mk13 : Array Bool := #[true, true, true, true, true, true, true, true, false, true, true, true, false, false, false, true, true, false, false, false, false]
abbrev spec_l26Line.mk14 : Array Bool := #[true, true, true, true, true, true, true, true, true, true, true, true, false, false, false, true, true, false, false, false, false]
abbrev spec_l26Line.mk15 : Array Bool := #[true, true, true, true, true, true, true, true, true, true, true, true, true, false, false, true, true, false, false, false, false]
abbrev spec_l26Line.mk16 : Array Bool := #[true, true, true, true, true, true, true, true, true, true, true, true, true, true, false, true, true, false, false, false, false]
abbrev spec_l26Line.mk17 : Array Bool := #[true, true, true, true, true, true, true, true, true, true, true, true, true, true, true, true, true, false, false, false, false]
abbrev spec_l26Line.mk18 : Array Bool := #[true, true, true, true, true, true, true, true, true, true, true, true, true, true, true, true, true, true, false, false, false]
abbrev spec_l26Line.mk19 : Array Bool := #[true, true, true, true, true, true, true, true, true, true, true, true, true, true, true, true, true, true, true, false, false]
abbrev spec_l26Line.mk20 : Array Bool := #[true, true, true, true, true, true, true, true, true, true, true, true, true, true, true, true, true, true, true, true, false]
abbrev spec_l26Line.mk21 : Array Bool := #[true, true, true, true, true, true, true, true, true, true, true, true, true, true, true, true, true, true, true, true, true]
set_option maxHeartbeats 8000000 in
set_option maxRecDepth 100000 in
theorem spec_l26Line.calls (k : Nat) (a0_0 : ByteArray) (a0_1 : Int) (a0_2 : Int) (a0_3 : Int) (r : ByteArray) (w : World) (h : spec_l26Line.f k a0_0 a0_1 a0_2 a0_3 = some r) :
  Calls Tryd.prog 70 #[.agg #[.string a0_0, .int .i64 a0_1, .int .i64 a0_2, .int .i64 a0_3]] w fun e w' => e = .returned (.string r) ∧ Below w.heap.size w w' := by
 have hu26 := Tryd.underlying26
 have HB := Aside0.mk (Below.refl w.heap.size w)
 have H : (if a0_1 = 0 then (if a0_0.size + 14 ≤ 9223372036854775807 then (some (sc a0_0 (⟨#[58, 32, 110, 111, 116, 32, 115, 117, 114, 118, 101, 121, 101, 100]⟩ : ByteArray))) else (none)) else (if a0_0.size + 2 ≤ 9223372036854775807 then ((spec_l1Num.f k (wrap64 (Int.tdiv a0_1 10))).bind fun t420 => (if (sc a0_0 (⟨#[58, 32]⟩ : ByteArray)).size + t420.size ≤ 9223372036854775807 then (if (sc (sc a0_0 (⟨#[58, 32]⟩ : ByteArray)) t420).size + 9 ≤ 9223372036854775807 then ((spec_l1Num.f k (wrap64 (Int.tdiv a0_2 10))).bind fun t421 => (if (sc (sc (sc a0_0 (⟨#[58, 32]⟩ : ByteArray)) t420) (⟨#[32, 109, 32, 108, 111, 110, 103, 44, 32]⟩ : ByteArray)).size + t421.size ≤ 9223372036854775807 then (if (sc (sc (sc (sc a0_0 (⟨#[58, 32]⟩ : ByteArray)) t420) (⟨#[32, 109, 32, 108, 111, 110, 103, 44, 32]⟩ : ByteArray)) t421).size + 9 ≤ 9223372036854775807 then ((spec_l1Num.f k a0_3).bind fun t422 => (if (sc (sc (sc (sc (sc a0_0 (⟨#[58, 32]⟩ : ByteArray)) t420) (⟨#[32, 109, 32, 108, 111, 110, 103, 44, 32]⟩ : ByteArray)) t421) (⟨#[32, 109, 32, 100, 101, 101, 112, 44, 32]⟩ : ByteArray)).size + t422.size ≤ 9223372036854775807 then (if (sc (sc (sc (sc (sc (sc a0_0 (⟨#[58, 32]⟩ : ByteArray)) t420) (⟨#[32, 109, 32, 108, 111, 110, 103, 44, 32]⟩ : ByteArray)) t421) (⟨#[32, 109, 32, 100, 101, 101, 112, 44, 32]⟩ : ByteArray)) t422).size + 4 ≤ 9223372036854775807 then (if a0_3 = 1 then (some (sc (sc (sc (sc (sc (sc (sc a0_0 (⟨#[58, 32]⟩ : ByteArray)) t420) (⟨#[32, 109, 32, 108, 111, 110, 103, 44, 32]⟩ : ByteArray)) t421) (⟨#[32, 109, 32, 100, 101, 101, 112, 44, 32]⟩ : ByteArray)) t422) (⟨#[32, 108, 101, 103]⟩ : ByteArray))) else (if (sc (sc (sc (sc (sc (sc (sc a0_0 (⟨#[58, 32]⟩ : ByteArray)) t420) (⟨#[32, 109, 32, 108, 111, 110, 103, 44, 32]⟩ : ByteArray)) t421) (⟨#[32, 109, 32, 100, 101, 101, 112, 44, 32]⟩ : ByteArray)) t422) (⟨#[32, 108, 101, 103]⟩ : ByteArray)).size + 1 ≤ 9223372036854775807 then (some (sc (sc (sc (sc (sc (sc (sc (sc a0_0 (⟨#[58, 32]⟩ : ByteArray)) t420) (⟨#[32, 109, 32, 108, 111, 110, 103, 44, 32]⟩ : ByteArray)) t421) (⟨#[32, 109, 32, 100, 101, 101, 112, 44, 32]⟩ : ByteArray)) t422) (⟨#[32, 108, 101, 103]⟩ : ByteArray)) (⟨#[115]⟩ : ByteArray))) else (none))) else (none)) else (none))) else (none)) else (none))) else (none)) else (none))) else (none))) = some r := h
 clear h
 by_cases c2 : a0_1 = 0
 ·
  rw [if_pos c2] at H
  have c2b0 : (a0_1 == 0) = true := beq_iff_eq.mpr c2
  have c2b1 : (a0_1 != 0) = false := bne_eq_false_iff_eq.mpr c2
  clear c2
  by_cases c3 : a0_0.size + 14 ≤ 9223372036854775807
  ·
   rw [if_pos c3] at H
   have c3b0 := eq_true c3
   have c3b1 : decide (a0_0.size + 14 ≤ 9223372036854775807) = true := decide_eq_true c3
   try have c3b2 : (9223372036854775807 < a0_0.size + 14) = False := eq_false (Nat.not_lt.2 c3)
   obtain rfl := Option.some.inj H
   go_enter Tryd.func70, Tryd.ntmps70
   go_wp2_with (first | ((with_reducible refine gate_dst (N := 1) rfl ?_); refine box_event ?hg (N := 1) ?hd (cs := #[.string a0_0, .int .i64 a0_1, .int .i64 a0_2, .int .i64 a0_3]) (t := 26) ?hr ?_; (case hd => rfl); (case hg => rfl); (case hr => first | (go_simp; done) | (go_simp; rfl)); intro gb419 hg w4 hbox hb; have n0_ := Aside0.mk (below_step (lb0_ HB.out) hb); have n1_ := Aside0.mk (hbox); have n2_ := Aside0.mk ((by rw [hg]; exact (below_size (lb0_ HB.out)) : w.heap.size ≤ gb419)); have n3_ := Aside0.mk ((by rw [hg]; exact (below_size (lb0_ HB.out)) : w.heap.size ≤ gb419)); clear HB; have HB := n0_; have BK419 := n1_; have GW419 := n2_; have GE419 := n3_; clear n0_ n1_ n2_ n3_; clear hb hbox hg; have hcz5_0 : w4.cell? ⟨gb419, 0, none⟩ = some (.string a0_0) := (blk_cell BK419.out 0).trans rfl; have hcz5_1 : w4.cell? ⟨gb419, 1, none⟩ = some (.int .i64 a0_1) := (blk_cell BK419.out 1).trans rfl; have hcz5_2 : w4.cell? ⟨gb419, 2, none⟩ = some (.int .i64 a0_2) := (blk_cell BK419.out 2).trans rfl; have hcz5_3 : w4.cell? ⟨gb419, 3, none⟩ = some (.int .i64 a0_3) := (blk_cell BK419.out 3).trans rfl; have hfz5_0 := blk_frozen BK419.out 0; have hfz5_1 := blk_frozen BK419.out 1; have hfz5_2 := blk_frozen BK419.out 2; have hfz5_3 := blk_frozen BK419.out 3))
   go_ret
   exact ⟨rr_, lb1_ HB.out GE419.out⟩
  ·
   rw [if_neg c3] at H
   exact absurd H (by simp)
 ·
  rw [if_neg c2] at H
  have c2b0 : (a0_1 == 0) = false := beq_eq_false_iff_ne.mpr c2
  have c2b1 : (a0_1 != 0) = true := bne_iff_ne.mpr c2
  by_cases c6 : a0_0.size + 2 ≤ 9223372036854775807
  ·
   rw [if_pos c6] at H
   have c6b0 := eq_true c6
   have c6b1 : decide (a0_0.size + 2 ≤ 9223372036854775807) = true := decide_eq_true c6
   try have c6b2 : (9223372036854775807 < a0_0.size + 2) = False := eq_false (Nat.not_lt.2 c6)
   replace H := Option.bind_eq_some_iff.mp H
   obtain ⟨t420, A70, H⟩ := H
   replace H : (if (sc a0_0 (⟨#[58, 32]⟩ : ByteArray)).size + t420.size ≤ 9223372036854775807 then (if (sc (sc a0_0 (⟨#[58, 32]⟩ : ByteArray)) t420).size + 9 ≤ 9223372036854775807 then ((spec_l1Num.f k (wrap64 (Int.tdiv a0_2 10))).bind fun t421 => (if (sc (sc (sc a0_0 (⟨#[58, 32]⟩ : ByteArray)) t420) (⟨#[32, 109, 32, 108, 111, 110, 103, 44, 32]⟩ : ByteArray)).size + t421.size ≤ 9223372036854775807 then (if (sc (sc (sc (sc a0_0 (⟨#[58, 32]⟩ : ByteArray)) t420) (⟨#[32, 109, 32, 108, 111, 110, 103, 44, 32]⟩ : ByteArray)) t421).size + 9 ≤ 9223372036854775807 then ((spec_l1Num.f k a0_3).bind fun t422 => (if (sc (sc (sc (sc (sc a0_0 (⟨#[58, 32]⟩ : ByteArray)) t420) (⟨#[32, 109, 32, 108, 111, 110, 103, 44, 32]⟩ : ByteArray)) t421) (⟨#[32, 109, 32, 100, 101, 101, 112, 44, 32]⟩ : ByteArray)).size + t422.size ≤ 9223372036854775807 then (if (sc (sc (sc (sc (sc (sc a0_0 (⟨#[58, 32]⟩ : ByteArray)) t420) (⟨#[32, 109, 32, 108, 111, 110, 103, 44, 32]⟩ : ByteArray)) t421) (⟨#[32, 109, 32, 100, 101, 101, 112, 44, 32]⟩ : ByteArray)) t422).size + 4 ≤ 9223372036854775807 then (if a0_3 = 1 then (some (sc (sc (sc (sc (sc (sc (sc a0_0 (⟨#[58, 32]⟩ : ByteArray)) t420) (⟨#[32, 109, 32, 108, 111, 110, 103, 44, 32]⟩ : ByteArray)) t421) (⟨#[32, 109, 32, 100, 101, 101, 112, 44, 32]⟩ : ByteArray)) t422) (⟨#[32, 108, 101, 103]⟩ : ByteArray))) else (if (sc (sc (sc (sc (sc (sc (sc a0_0 (⟨#[58, 32]⟩ : ByteArray)) t420) (⟨#[32, 109, 32, 108, 111, 110, 103, 44, 32]⟩ : ByteArray)) t421) (⟨#[32, 109, 32, 100, 101, 101, 112, 44, 32]⟩ : ByteArray)) t422) (⟨#[32, 108, 101, 103]⟩ : ByteArray)).size + 1 ≤ 9223372036854775807 then (some (sc (sc (sc (sc (sc (sc (sc (sc a0_0 (⟨#[58, 32]⟩ : ByteArray)) t420) (⟨#[32, 109, 32, 108, 111, 110, 103, 44, 32]⟩ : ByteArray)) t421) (⟨#[32, 109, 32, 100, 101, 101, 112, 44, 32]⟩ : ByteArray)) t422) (⟨#[32, 108, 101, 103]⟩ : ByteArray)) (⟨#[115]⟩ : ByteArray))) else (none))) else (none)) else (none))) else (none)) else (none))) else (none)) else (none)) = some r := H
   have A7 := Aside0.mk A70
   clear A70
   by_cases c8 : (sc a0_0 (⟨#[58, 32]⟩ : ByteArray)).size + t420.size ≤ 9223372036854775807
   ·
    rw [if_pos c8] at H
    have c8b0 := eq_true c8
    have c8b1 : decide ((sc a0_0 (⟨#[58, 32]⟩ : ByteArray)).size + t420.size ≤ 9223372036854775807) = true := decide_eq_true c8
    try have c8b2 : (9223372036854775807 < (sc a0_0 (⟨#[58, 32]⟩ : ByteArray)).size + t420.size) = False := eq_false (Nat.not_lt.2 c8)
    by_cases c9 : (sc (sc a0_0 (⟨#[58, 32]⟩ : ByteArray)) t420).size + 9 ≤ 9223372036854775807
    ·
     rw [if_pos c9] at H
     have c9b0 := eq_true c9
     have c9b1 : decide ((sc (sc a0_0 (⟨#[58, 32]⟩ : ByteArray)) t420).size + 9 ≤ 9223372036854775807) = true := decide_eq_true c9
     try have c9b2 : (9223372036854775807 < (sc (sc a0_0 (⟨#[58, 32]⟩ : ByteArray)) t420).size + 9) = False := eq_false (Nat.not_lt.2 c9)
     replace H := Option.bind_eq_some_iff.mp H
     obtain ⟨t421, A100, H⟩ := H
     replace H : (if (sc (sc (sc a0_0 (⟨#[58, 32]⟩ : ByteArray)) t420) (⟨#[32, 109, 32, 108, 111, 110, 103, 44, 32]⟩ : ByteArray)).size + t421.size ≤ 9223372036854775807 then (if (sc (sc (sc (sc a0_0 (⟨#[58, 32]⟩ : ByteArray)) t420) (⟨#[32, 109, 32, 108, 111, 110, 103, 44, 32]⟩ : ByteArray)) t421).size + 9 ≤ 9223372036854775807 then ((spec_l1Num.f k a0_3).bind fun t422 => (if (sc (sc (sc (sc (sc a0_0 (⟨#[58, 32]⟩ : ByteArray)) t420) (⟨#[32, 109, 32, 108, 111, 110, 103, 44, 32]⟩ : ByteArray)) t421) (⟨#[32, 109, 32, 100, 101, 101, 112, 44, 32]⟩ : ByteArray)).size + t422.size ≤ 9223372036854775807 then (if (sc (sc (sc (sc (sc (sc a0_0 (⟨#[58, 32]⟩ : ByteArray)) t420) (⟨#[32, 109, 32, 108, 111, 110, 103, 44, 32]⟩ : ByteArray)) t421) (⟨#[32, 109, 32, 100, 101, 101, 112, 44, 32]⟩ : ByteArray)) t422).size + 4 ≤ 9223372036854775807 then (if a0_3 = 1 then (some (sc (sc (sc (sc (sc (sc (sc a0_0 (⟨#[58, 32]⟩ : ByteArray)) t420) (⟨#[32, 109, 32, 108, 111, 110, 103, 44, 32]⟩ : ByteArray)) t421) (⟨#[32, 109, 32, 100, 101, 101, 112, 44, 32]⟩ : ByteArray)) t422) (⟨#[32, 108, 101, 103]⟩ : ByteArray))) else (if (sc (sc (sc (sc (sc (sc (sc a0_0 (⟨#[58, 32]⟩ : ByteArray)) t420) (⟨#[32, 109, 32, 108, 111, 110, 103, 44, 32]⟩ : ByteArray)) t421) (⟨#[32, 109, 32, 100, 101, 101, 112, 44, 32]⟩ : ByteArray)) t422) (⟨#[32, 108, 101, 103]⟩ : ByteArray)).size + 1 ≤ 9223372036854775807 then (some (sc (sc (sc (sc (sc (sc (sc (sc a0_0 (⟨#[58, 32]⟩ : ByteArray)) t420) (⟨#[32, 109, 32, 108, 111, 110, 103, 44, 32]⟩ : ByteArray)) t421) (⟨#[32, 109, 32, 100, 101, 101, 112, 44, 32]⟩ : ByteArray)) t422) (⟨#[32, 108, 101, 103]⟩ : ByteArray)) (⟨#[115]⟩ : ByteArray))) else (none))) else (none)) else (none))) else (none)) else (none)) = some r := H
     have A10 := Aside0.mk A100
     clear A100
     by_cases c11 : (sc (sc (sc a0_0 (⟨#[58, 32]⟩ : ByteArray)) t420) (⟨#[32, 109, 32, 108, 111, 110, 103, 44, 32]⟩ : ByteArray)).size + t421.size ≤ 9223372036854775807
     ·
      rw [if_pos c11] at H
      have c11b0 := eq_true c11
      have c11b1 : decide ((sc (sc (sc a0_0 (⟨#[58, 32]⟩ : ByteArray)) t420) (⟨#[32, 109, 32, 108, 111, 110, 103, 44, 32]⟩ : ByteArray)).size + t421.size ≤ 9223372036854775807) = true := decide_eq_true c11
      try have c11b2 : (9223372036854775807 < (sc (sc (sc a0_0 (⟨#[58, 32]⟩ : ByteArray)) t420) (⟨#[32, 109, 32, 108, 111, 110, 103, 44, 32]⟩ : ByteArray)).size + t421.size) = False := eq_false (Nat.not_lt.2 c11)
      by_cases c12 : (sc (sc (sc (sc a0_0 (⟨#[58, 32]⟩ : ByteArray)) t420) (⟨#[32, 109, 32, 108, 111, 110, 103, 44, 32]⟩ : ByteArray)) t421).size + 9 ≤ 9223372036854775807
      ·
       rw [if_pos c12] at H
       have c12b0 := eq_true c12
       have c12b1 : decide ((sc (sc (sc (sc a0_0 (⟨#[58, 32]⟩ : ByteArray)) t420) (⟨#[32, 109, 32, 108, 111, 110, 103, 44, 32]⟩ : ByteArray)) t421).size + 9 ≤ 9223372036854775807) = true := decide_eq_true c12
       try have c12b2 : (9223372036854775807 < (sc (sc (sc (sc a0_0 (⟨#[58, 32]⟩ : ByteArray)) t420) (⟨#[32, 109, 32, 108, 111, 110, 103, 44, 32]⟩ : ByteArray)) t421).size + 9) = False := eq_false (Nat.not_lt.2 c12)
       replace H := Option.bind_eq_some_iff.mp H
       obtain ⟨t422, A130, H⟩ := H
       replace H : (if (sc (sc (sc (sc (sc a0_0 (⟨#[58, 32]⟩ : ByteArray)) t420) (⟨#[32, 109, 32, 108, 111, 110, 103, 44, 32]⟩ : ByteArray)) t421) (⟨#[32, 109, 32, 100, 101, 101, 112, 44, 32]⟩ : ByteArray)).size + t422.size ≤ 9223372036854775807 then (if (sc (sc (sc (sc (sc (sc a0_0 (⟨#[58, 32]⟩ : ByteArray)) t420) (⟨#[32, 109, 32, 108, 111, 110, 103, 44, 32]⟩ : ByteArray)) t421) (⟨#[32, 109, 32, 100, 101, 101, 112, 44, 32]⟩ : ByteArray)) t422).size + 4 ≤ 9223372036854775807 then (if a0_3 = 1 then (some (sc (sc (sc (sc (sc (sc (sc a0_0 (⟨#[58, 32]⟩ : ByteArray)) t420) (⟨#[32, 109, 32, 108, 111, 110, 103, 44, 32]⟩ : ByteArray)) t421) (⟨#[32, 109, 32, 100, 101, 101, 112, 44, 32]⟩ : ByteArray)) t422) (⟨#[32, 108, 101, 103]⟩ : ByteArray))) else (if (sc (sc (sc (sc (sc (sc (sc a0_0 (⟨#[58, 32]⟩ : ByteArray)) t420) (⟨#[32, 109, 32, 108, 111, 110, 103, 44, 32]⟩ : ByteArray)) t421) (⟨#[32, 109, 32, 100, 101, 101, 112, 44, 32]⟩ : ByteArray)) t422) (⟨#[32, 108, 101, 103]⟩ : ByteArray)).size + 1 ≤ 9223372036854775807 then (some (sc (sc (sc (sc (sc (sc (sc (sc a0_0 (⟨#[58, 32]⟩ : ByteArray)) t420) (⟨#[32, 109, 32, 108, 111, 110, 103, 44, 32]⟩ : ByteArray)) t421) (⟨#[32, 109, 32, 100, 101, 101, 112, 44, 32]⟩ : ByteArray)) t422) (⟨#[32, 108, 101, 103]⟩ : ByteArray)) (⟨#[115]⟩ : ByteArray))) else (none))) else (none)) else (none)) = some r := H
       have A13 := Aside0.mk A130
       clear A130
       by_cases c14 : (sc (sc (sc (sc (sc a0_0 (⟨#[58, 32]⟩ : ByteArray)) t420) (⟨#[32, 109, 32, 108, 111, 110, 103, 44, 32]⟩ : ByteArray)) t421) (⟨#[32, 109, 32, 100, 101, 101, 112, 44, 32]⟩ : ByteArray)).size + t422.size ≤ 9223372036854775807
       ·
        rw [if_pos c14] at H
        have c14b0 := eq_true c14
        have c14b1 : decide ((sc (sc (sc (sc (sc a0_0 (⟨#[58, 32]⟩ : ByteArray)) t420) (⟨#[32, 109, 32, 108, 111, 110, 103, 44, 32]⟩ : ByteArray)) t421) (⟨#[32, 109, 32, 100, 101, 101, 112, 44, 32]⟩ : ByteArray)).size + t422.size ≤ 9223372036854775807) = true := decide_eq_true c14
        try have c14b2 : (9223372036854775807 < (sc (sc (sc (sc (sc a0_0 (⟨#[58, 32]⟩ : ByteArray)) t420) (⟨#[32, 109, 32, 108, 111, 110, 103, 44, 32]⟩ : ByteArray)) t421) (⟨#[32, 109, 32, 100, 101, 101, 112, 44, 32]⟩ : ByteArray)).size + t422.size) = False := eq_false (Nat.not_lt.2 c14)
        by_cases c15 : (sc (sc (sc (sc (sc (sc a0_0 (⟨#[58, 32]⟩ : ByteArray)) t420) (⟨#[32, 109, 32, 108, 111, 110, 103, 44, 32]⟩ : ByteArray)) t421) (⟨#[32, 109, 32, 100, 101, 101, 112, 44, 32]⟩ : ByteArray)) t422).size + 4 ≤ 9223372036854775807
        ·
         rw [if_pos c15] at H
         have c15b0 := eq_true c15
         have c15b1 : decide ((sc (sc (sc (sc (sc (sc a0_0 (⟨#[58, 32]⟩ : ByteArray)) t420) (⟨#[32, 109, 32, 108, 111, 110, 103, 44, 32]⟩ : ByteArray)) t421) (⟨#[32, 109, 32, 100, 101, 101, 112, 44, 32]⟩ : ByteArray)) t422).size + 4 ≤ 9223372036854775807) = true := decide_eq_true c15
         try have c15b2 : (9223372036854775807 < (sc (sc (sc (sc (sc (sc a0_0 (⟨#[58, 32]⟩ : ByteArray)) t420) (⟨#[32, 109, 32, 108, 111, 110, 103, 44, 32]⟩ : ByteArray)) t421) (⟨#[32, 109, 32, 100, 101, 101, 112, 44, 32]⟩ : ByteArray)) t422).size + 4) = False := eq_false (Nat.not_lt.2 c15)
         by_cases c16 : a0_3 = 1
         ·
          rw [if_pos c16] at H
          have c16b0 : (a0_3 == 1) = true := beq_iff_eq.mpr c16
          have c16b1 : (a0_3 != 1) = false := bne_eq_false_iff_eq.mpr c16
          clear c16
          obtain rfl := Option.some.inj H
          go_enter Tryd.func70, Tryd.ntmps70
          try go_wp2_with (first | ((with_reducible refine gate_dst (N := 1) rfl ?_); refine box_event ?hg (N := 1) ?hd (cs := #[.string a0_0, .int .i64 a0_1, .int .i64 a0_2, .int .i64 a0_3]) (t := 26) ?hr ?_; (case hd => rfl); (case hg => rfl); (case hr => first | (go_simp; done) | (go_simp; rfl)); intro gb419 hg w17 hbox hb; have n0_ := Aside0.mk (below_step (lb0_ HB.out) hb); have n1_ := Aside0.mk (hbox); have n2_ := Aside0.mk ((by rw [hg]; exact (below_size (lb0_ HB.out)) : w.heap.size ≤ gb419)); have n3_ := Aside0.mk ((by rw [hg]; exact (below_size (lb0_ HB.out)) : w.heap.size ≤ gb419)); clear HB; have HB := n0_; have BK419 := n1_; have GW419 := n2_; have GE419 := n3_; clear n0_ n1_ n2_ n3_; clear hb hbox hg; have hcz18_0 : w17.cell? ⟨gb419, 0, none⟩ = some (.string a0_0) := (blk_cell BK419.out 0).trans rfl; have hcz18_1 : w17.cell? ⟨gb419, 1, none⟩ = some (.int .i64 a0_1) := (blk_cell BK419.out 1).trans rfl; have hcz18_2 : w17.cell? ⟨gb419, 2, none⟩ = some (.int .i64 a0_2) := (blk_cell BK419.out 2).trans rfl; have hcz18_3 : w17.cell? ⟨gb419, 3, none⟩ = some (.int .i64 a0_3) := (blk_cell BK419.out 3).trans rfl; have hfz18_0 := blk_frozen BK419.out 0; have hfz18_1 := blk_frozen BK419.out 1; have hfz18_2 := blk_frozen BK419.out 2; have hfz18_3 := blk_frozen BK419.out 3))
          have n0_ := Aside0.mk (blk_drew BK419.out)
          have n1_ := Aside0.mk (below_drew1 HB.out)
          clear BK419
          clear HB
          have BK419 := n0_
          have HB := n1_
          clear n0_ n1_
          refine start_ (n := 21) (S := fun w' => w'.cell? ⟨gb419, 0, none⟩ = some (.string a0_0) ∧ w'.cell? ⟨gb419, 1, none⟩ = some (.int .i64 a0_1) ∧ w'.cell? ⟨gb419, 2, none⟩ = some (.int .i64 a0_2) ∧ w'.cell? ⟨gb419, 3, none⟩ = some (.int .i64 a0_3)) (ds := []) spec_l26Line.mk0 (by kernel_rfl) rfl rfl ⟨(blk_cell BK419.out 0).trans rfl, (blk_cell BK419.out 1).trans rfl, (blk_cell BK419.out 2).trans rfl, (blk_cell BK419.out 3).trans rfl⟩ (fun hHeld => ?_); refine with_tabW spec_l26Line.tab3 spec_l26Line.bits3 (fun HT_ HW_ => ?_)
          generalize w17.drew = w19 at BK419 HB hHeld ⊢
          refine pz_ HT_ 0 (some 10) spec_l26Line.mk1 ?_
          refine pz_ HT_ 3 (some 13) spec_l26Line.mk2 ?_
          refine pz_ HT_ 9 (some 19) spec_l26Line.mk3 ?_
          refine pz_ HT_ 15 (some 25) spec_l26Line.mk4 ?_
          refine take_ (i := 1) (N := some 11) (v := ?_) (a' := ?_) spec_l26Line.mk5 rfl rfl (take_ofW HT_.out HW_.out (by kernel_rfl)) (fun _ _ _ h => h) (Or.inl ⟨by rfl, ?_⟩) hHeld ?_ ?_
          rotate_left
          ·
           rintro w' ⟨s0, s1, s2, s3⟩
           go_simp
           with_reducible rfl
          rotate_left
          ·
           simp only [Act.put, List.setIfInBounds_toArray, List.set_cons_zero, List.set_cons_succ, i64_w, i32_w]
           rfl
          refine pz_ HT_ 2 (some 12) spec_l26Line.mk6 ?_
          refine take_ (i := 4) (N := some 14) (v := ?_) (a' := ?_) spec_l26Line.mk7 rfl rfl (take_ofW HT_.out HW_.out (by kernel_rfl)) (fun _ _ _ h => h) (Or.inl ⟨by rfl, ?_⟩) hHeld ?_ ?_
          rotate_left
          ·
           rintro w' ⟨s0, s1, s2, s3⟩
           go_simp
           with_reducible rfl
          rotate_left
          ·
           simp only [Act.put, List.setIfInBounds_toArray, List.set_cons_zero, List.set_cons_succ, i64_w, i32_w]
           rfl
          refine pz_ HT_ 5 (some 15) spec_l26Line.mk8 ?_
          refine take_ (i := 10) (N := some 20) (v := ?_) (a' := ?_) spec_l26Line.mk9 rfl rfl (take_ofW HT_.out HW_.out (by kernel_rfl)) (fun _ _ _ h => h) (Or.inl ⟨by rfl, ?_⟩) hHeld ?_ ?_
          rotate_left
          ·
           rintro w' ⟨s0, s1, s2, s3⟩
           go_simp
           with_reducible rfl
          rotate_left
          ·
           simp only [Act.put, List.setIfInBounds_toArray, List.set_cons_zero, List.set_cons_succ, i64_w, i32_w]
           rfl
          refine pz_ HT_ 11 (some 21) spec_l26Line.mk10 ?_
          refine take_ (i := 16) (N := some 26) (v := ?_) (a' := ?_) spec_l26Line.mk11 rfl rfl (take_ofW HT_.out HW_.out (by kernel_rfl)) (fun _ _ _ h => h) (Or.inl ⟨by rfl, ?_⟩) hHeld ?_ ?_
          rotate_left
          ·
           rintro w' ⟨s0, s1, s2, s3⟩
           go_simp
           with_reducible rfl
          rotate_left
          ·
           simp only [Act.put, List.setIfInBounds_toArray, List.set_cons_zero, List.set_cons_succ, i64_w, i32_w]
           rfl
          refine one_ (i := 6) (N := some 16) spec_l26Line.mk12 rfl rfl (one_of HT_.out (by kernel_rfl)) (by decide) (fun K hK => ?_)
          refine goes_ Tryd.func93 (by kernel_rfl) rfl #[.int .i64 (wrap64 (Int.tdiv a0_1 10))] (by rfl) rfl rfl (by (try simp only [List.map_toArray, List.map_cons, List.map_nil]); first | done | rfl | (simp only [List.length_drop, List.length_take]; rfl)) ?_
          with_reducible refine (spec_l1Num.calls k (wrap64 (Int.tdiv a0_1 10)) t420 _ A7.out).mono ?_
          rintro e w20 ⟨rfl, hb⟩
          refine ⟨_, rfl, ?_⟩
          have n0_ := Aside0.mk (blk_below (g := gb419) (o := .cells #[.string a0_0, .int .i64 a0_1, .int .i64 a0_2, .int .i64 a0_3] 26 (0, 0)) (bk_ BK419.out) hb)
          have n1_ := Aside0.mk (below_step (lb1_ HB.out GE419.out) hb)
          clear BK419
          clear HB
          have BK419 := n0_
          have HB := n1_
          clear n0_ n1_
          (try clear hb)
          (try clear hb2)
          (try clear hk)
          (try clear hi)
          refine hK.out _ _ ⟨(blk_cell BK419.out 0).trans rfl, (blk_cell BK419.out 1).trans rfl, (blk_cell BK419.out 2).trans rfl, (blk_cell BK419.out 3).trans rfl⟩ (fun hHeld => ?_)
          clear hK K
          refine norm_ (a' := ?_) ?_ ?_
          rotate_left
          ·
           show Act.put _ (some 16) _ = _
           simp only [Act.put, List.setIfInBounds_toArray, List.set_cons_zero, List.set_cons_succ, i64_w, i32_w]
           rfl
          refine pz_ HT_ 7 (some 17) spec_l26Line.mk13 ?_
          refine pz_ HT_ 8 (some 18) spec_l26Line.mk14 ?_
          refine one_ (i := 12) (N := some 22) spec_l26Line.mk15 rfl rfl (one_of HT_.out (by kernel_rfl)) (by decide) (fun K hK => ?_)
          refine goes_ Tryd.func93 (by kernel_rfl) rfl #[.int .i64 (wrap64 (Int.tdiv a0_2 10))] (by rfl) rfl rfl (by (try simp only [List.map_toArray, List.map_cons, List.map_nil]); first | done | rfl | (simp only [List.length_drop, List.length_take]; rfl)) ?_
          with_reducible refine (spec_l1Num.calls k (wrap64 (Int.tdiv a0_2 10)) t421 _ A10.out).mono ?_
          rintro e w21 ⟨rfl, hb⟩
          refine ⟨_, rfl, ?_⟩
          have n0_ := Aside0.mk (blk_below (g := gb419) (o := .cells #[.string a0_0, .int .i64 a0_1, .int .i64 a0_2, .int .i64 a0_3] 26 (0, 0)) (bk_ BK419.out) hb)
          have n1_ := Aside0.mk (below_step (lb1_ HB.out GE419.out) hb)
          clear BK419
          clear HB
          have BK419 := n0_
          have HB := n1_
          clear n0_ n1_
          (try clear hb)
          (try clear hb2)
          (try clear hk)
          (try clear hi)
          refine hK.out _ _ ⟨(blk_cell BK419.out 0).trans rfl, (blk_cell BK419.out 1).trans rfl, (blk_cell BK419.out 2).trans rfl, (blk_cell BK419.out 3).trans rfl⟩ (fun hHeld => ?_)
          clear hK K
          refine norm_ (a' := ?_) ?_ ?_
          rotate_left
          ·
           show Act.put _ (some 22) _ = _
           simp only [Act.put, List.setIfInBounds_toArray, List.set_cons_zero, List.set_cons_succ, i64_w, i32_w]
           rfl
          refine pz_ HT_ 13 (some 23) spec_l26Line.mk16 ?_
          refine pz_ HT_ 14 (some 24) spec_l26Line.mk17 ?_
          refine one_ (i := 17) (N := some 27) spec_l26Line.mk18 rfl rfl (one_of HT_.out (by kernel_rfl)) (by decide) (fun K hK => ?_)
          refine goes_ Tryd.func93 (by kernel_rfl) rfl #[.int .i64 a0_3] (by rfl) rfl rfl (by (try simp only [List.map_toArray, List.map_cons, List.map_nil]); first | done | rfl | (simp only [List.length_drop, List.length_take]; rfl)) ?_
          with_reducible refine (spec_l1Num.calls k a0_3 t422 _ A13.out).mono ?_
          rintro e w22 ⟨rfl, hb⟩
          refine ⟨_, rfl, ?_⟩
          have n0_ := Aside0.mk (blk_below (g := gb419) (o := .cells #[.string a0_0, .int .i64 a0_1, .int .i64 a0_2, .int .i64 a0_3] 26 (0, 0)) (bk_ BK419.out) hb)
          have n1_ := Aside0.mk (below_step (lb1_ HB.out GE419.out) hb)
          clear BK419
          clear HB
          have BK419 := n0_
          have HB := n1_
          clear n0_ n1_
          (try clear hb)
          (try clear hb2)
          (try clear hk)
          (try clear hi)
          refine hK.out _ _ ⟨(blk_cell BK419.out 0).trans rfl, (blk_cell BK419.out 1).trans rfl, (blk_cell BK419.out 2).trans rfl, (blk_cell BK419.out 3).trans rfl⟩ (fun hHeld => ?_)
          clear hK K
          refine norm_ (a' := ?_) ?_ ?_
          rotate_left
          ·
           show Act.put _ (some 27) _ = _
           simp only [Act.put, List.setIfInBounds_toArray, List.set_cons_zero, List.set_cons_succ, i64_w, i32_w]
           rfl
          refine pz_ HT_ 18 (some 28) spec_l26Line.mk19 ?_
          refine pz_ HT_ 19 (some 29) spec_l26Line.mk20 ?_
          refine pz_ HT_ 20 (some 3) spec_l26Line.mk21 ?_
          refine done_ (done_of HT_.out (by kernel_rfl)) ?_
          have hcz23_0 : w22.cell? ⟨gb419, 0, none⟩ = some (.string a0_0) := (blk_cell BK419.out 0).trans rfl
          have hcz23_1 : w22.cell? ⟨gb419, 1, none⟩ = some (.int .i64 a0_1) := (blk_cell BK419.out 1).trans rfl
          have hcz23_2 : w22.cell? ⟨gb419, 2, none⟩ = some (.int .i64 a0_2) := (blk_cell BK419.out 2).trans rfl
          have hcz23_3 : w22.cell? ⟨gb419, 3, none⟩ = some (.int .i64 a0_3) := (blk_cell BK419.out 3).trans rfl
          have hfz23_0 := blk_frozen BK419.out 0
          have hfz23_1 := blk_frozen BK419.out 1
          have hfz23_2 := blk_frozen BK419.out 2
          have hfz23_3 := blk_frozen BK419.out 3
          try go_wp2
          go_ret
          exact ⟨rr_, lb1_ HB.out GE419.out⟩
         ·
          rw [if_neg c16] at H
          have c16b0 : (a0_3 == 1) = false := beq_eq_false_iff_ne.mpr c16
          have c16b1 : (a0_3 != 1) = true := bne_iff_ne.mpr c16
          by_cases c24 : (sc (sc (sc (sc (sc (sc (sc a0_0 (⟨#[58, 32]⟩ : ByteArray)) t420) (⟨#[32, 109, 32, 108, 111, 110, 103, 44, 32]⟩ : ByteArray)) t421) (⟨#[32, 109, 32, 100, 101, 101, 112, 44, 32]⟩ : ByteArray)) t422) (⟨#[32, 108, 101, 103]⟩ : ByteArray)).size + 1 ≤ 9223372036854775807
          ·
           rw [if_pos c24] at H
           have c24b0 := eq_true c24
           have c24b1 : decide ((sc (sc (sc (sc (sc (sc (sc a0_0 (⟨#[58, 32]⟩ : ByteArray)) t420) (⟨#[32, 109, 32, 108, 111, 110, 103, 44, 32]⟩ : ByteArray)) t421) (⟨#[32, 109, 32, 100, 101, 101, 112, 44, 32]⟩ : ByteArray)) t422) (⟨#[32, 108, 101, 103]⟩ : ByteArray)).size + 1 ≤ 9223372036854775807) = true := decide_eq_true c24
           try have c24b2 : (9223372036854775807 < (sc (sc (sc (sc (sc (sc (sc a0_0 (⟨#[58, 32]⟩ : ByteArray)) t420) (⟨#[32, 109, 32, 108, 111, 110, 103, 44, 32]⟩ : ByteArray)) t421) (⟨#[32, 109, 32, 100, 101, 101, 112, 44, 32]⟩ : ByteArray)) t422) (⟨#[32, 108, 101, 103]⟩ : ByteArray)).size + 1) = False := eq_false (Nat.not_lt.2 c24)
           obtain rfl := Option.some.inj H
           go_enter Tryd.func70, Tryd.ntmps70
           try go_wp2_with (first | ((with_reducible refine gate_dst (N := 1) rfl ?_); refine box_event ?hg (N := 1) ?hd (cs := #[.string a0_0, .int .i64 a0_1, .int .i64 a0_2, .int .i64 a0_3]) (t := 26) ?hr ?_; (case hd => rfl); (case hg => rfl); (case hr => first | (go_simp; done) | (go_simp; rfl)); intro gb419 hg w25 hbox hb; have n0_ := Aside0.mk (below_step (lb0_ HB.out) hb); have n1_ := Aside0.mk (hbox); have n2_ := Aside0.mk ((by rw [hg]; exact (below_size (lb0_ HB.out)) : w.heap.size ≤ gb419)); have n3_ := Aside0.mk ((by rw [hg]; exact (below_size (lb0_ HB.out)) : w.heap.size ≤ gb419)); clear HB; have HB := n0_; have BK419 := n1_; have GW419 := n2_; have GE419 := n3_; clear n0_ n1_ n2_ n3_; clear hb hbox hg; have hcz26_0 : w25.cell? ⟨gb419, 0, none⟩ = some (.string a0_0) := (blk_cell BK419.out 0).trans rfl; have hcz26_1 : w25.cell? ⟨gb419, 1, none⟩ = some (.int .i64 a0_1) := (blk_cell BK419.out 1).trans rfl; have hcz26_2 : w25.cell? ⟨gb419, 2, none⟩ = some (.int .i64 a0_2) := (blk_cell BK419.out 2).trans rfl; have hcz26_3 : w25.cell? ⟨gb419, 3, none⟩ = some (.int .i64 a0_3) := (blk_cell BK419.out 3).trans rfl; have hfz26_0 := blk_frozen BK419.out 0; have hfz26_1 := blk_frozen BK419.out 1; have hfz26_2 := blk_frozen BK419.out 2; have hfz26_3 := blk_frozen BK419.out 3))
           have n0_ := Aside0.mk (blk_drew BK419.out)
           have n1_ := Aside0.mk (below_drew1 HB.out)
           clear BK419
           clear HB
           have BK419 := n0_
           have HB := n1_
           clear n0_ n1_
           refine start_ (n := 21) (S := fun w' => w'.cell? ⟨gb419, 0, none⟩ = some (.string a0_0) ∧ w'.cell? ⟨gb419, 1, none⟩ = some (.int .i64 a0_1) ∧ w'.cell? ⟨gb419, 2, none⟩ = some (.int .i64 a0_2) ∧ w'.cell? ⟨gb419, 3, none⟩ = some (.int .i64 a0_3)) (ds := []) spec_l26Line.mk0 (by kernel_rfl) rfl rfl ⟨(blk_cell BK419.out 0).trans rfl, (blk_cell BK419.out 1).trans rfl, (blk_cell BK419.out 2).trans rfl, (blk_cell BK419.out 3).trans rfl⟩ (fun hHeld => ?_); refine with_tabW spec_l26Line.tab3 spec_l26Line.bits3 (fun HT_ HW_ => ?_)
           generalize w25.drew = w27 at BK419 HB hHeld ⊢
           refine pz_ HT_ 0 (some 10) spec_l26Line.mk1 ?_
           refine pz_ HT_ 3 (some 13) spec_l26Line.mk2 ?_
           refine pz_ HT_ 9 (some 19) spec_l26Line.mk3 ?_
           refine pz_ HT_ 15 (some 25) spec_l26Line.mk4 ?_
           refine take_ (i := 1) (N := some 11) (v := ?_) (a' := ?_) spec_l26Line.mk5 rfl rfl (take_ofW HT_.out HW_.out (by kernel_rfl)) (fun _ _ _ h => h) (Or.inl ⟨by rfl, ?_⟩) hHeld ?_ ?_
           rotate_left
           ·
            rintro w' ⟨s0, s1, s2, s3⟩
            go_simp
            with_reducible rfl
           rotate_left
           ·
            simp only [Act.put, List.setIfInBounds_toArray, List.set_cons_zero, List.set_cons_succ, i64_w, i32_w]
            rfl
           refine pz_ HT_ 2 (some 12) spec_l26Line.mk6 ?_
           refine take_ (i := 4) (N := some 14) (v := ?_) (a' := ?_) spec_l26Line.mk7 rfl rfl (take_ofW HT_.out HW_.out (by kernel_rfl)) (fun _ _ _ h => h) (Or.inl ⟨by rfl, ?_⟩) hHeld ?_ ?_
           rotate_left
           ·
            rintro w' ⟨s0, s1, s2, s3⟩
            go_simp
            with_reducible rfl
           rotate_left
           ·
            simp only [Act.put, List.setIfInBounds_toArray, List.set_cons_zero, List.set_cons_succ, i64_w, i32_w]
            rfl
           refine pz_ HT_ 5 (some 15) spec_l26Line.mk8 ?_
           refine take_ (i := 10) (N := some 20) (v := ?_) (a' := ?_) spec_l26Line.mk9 rfl rfl (take_ofW HT_.out HW_.out (by kernel_rfl)) (fun _ _ _ h => h) (Or.inl ⟨by rfl, ?_⟩) hHeld ?_ ?_
           rotate_left
           ·
            rintro w' ⟨s0, s1, s2, s3⟩
            go_simp
            with_reducible rfl
           rotate_left
           ·
            simp only [Act.put, List.setIfInBounds_toArray, List.set_cons_zero, List.set_cons_succ, i64_w, i32_w]
            rfl
           refine pz_ HT_ 11 (some 21) spec_l26Line.mk10 ?_
           refine take_ (i := 16) (N := some 26) (v := ?_) (a' := ?_) spec_l26Line.mk11 rfl rfl (take_ofW HT_.out HW_.out (by kernel_rfl)) (fun _ _ _ h => h) (Or.inl ⟨by rfl, ?_⟩) hHeld ?_ ?_
           rotate_left
           ·
            rintro w' ⟨s0, s1, s2, s3⟩
            go_simp
            with_reducible rfl
           rotate_left
           ·
            simp only [Act.put, List.setIfInBounds_toArray, List.set_cons_zero, List.set_cons_succ, i64_w, i32_w]
            rfl
           refine one_ (i := 6) (N := some 16) spec_l26Line.mk12 rfl rfl (one_of HT_.out (by kernel_rfl)) (by decide) (fun K hK => ?_)
           refine goes_ Tryd.func93 (by kernel_rfl) rfl #[.int .i64 (wrap64 (Int.tdiv a0_1 10))] (by rfl) rfl rfl (by (try simp only [List.map_toArray, List.map_cons, List.map_nil]); first | done | rfl | (simp only [List.length_drop, List.length_take]; rfl)) ?_
           with_reducible refine (spec_l1Num.calls k (wrap64 (Int.tdiv a0_1 10)) t420 _ A7.out).mono ?_
           rintro e w28 ⟨rfl, hb⟩
           refine ⟨_, rfl, ?_⟩
           have n0_ := Aside0.mk (blk_below (g := gb419) (o := .cells #[.string a0_0, .int .i64 a0_1, .int .i64 a0_2, .int .i64 a0_3] 26 (0, 0)) (bk_ BK419.out) hb)
           have n1_ := Aside0.mk (below_step (lb1_ HB.out GE419.out) hb)
           clear BK419
           clear HB
           have BK419 := n0_
           have HB := n1_
           clear n0_ n1_
           (try clear hb)
           (try clear hb2)
           (try clear hk)
           (try clear hi)
           refine hK.out _ _ ⟨(blk_cell BK419.out 0).trans rfl, (blk_cell BK419.out 1).trans rfl, (blk_cell BK419.out 2).trans rfl, (blk_cell BK419.out 3).trans rfl⟩ (fun hHeld => ?_)
           clear hK K
           refine norm_ (a' := ?_) ?_ ?_
           rotate_left
           ·
            show Act.put _ (some 16) _ = _
            simp only [Act.put, List.setIfInBounds_toArray, List.set_cons_zero, List.set_cons_succ, i64_w, i32_w]
            rfl
           refine pz_ HT_ 7 (some 17) spec_l26Line.mk13 ?_
           refine pz_ HT_ 8 (some 18) spec_l26Line.mk14 ?_
           refine one_ (i := 12) (N := some 22) spec_l26Line.mk15 rfl rfl (one_of HT_.out (by kernel_rfl)) (by decide) (fun K hK => ?_)
           refine goes_ Tryd.func93 (by kernel_rfl) rfl #[.int .i64 (wrap64 (Int.tdiv a0_2 10))] (by rfl) rfl rfl (by (try simp only [List.map_toArray, List.map_cons, List.map_nil]); first | done | rfl | (simp only [List.length_drop, List.length_take]; rfl)) ?_
           with_reducible refine (spec_l1Num.calls k (wrap64 (Int.tdiv a0_2 10)) t421 _ A10.out).mono ?_
           rintro e w29 ⟨rfl, hb⟩
           refine ⟨_, rfl, ?_⟩
           have n0_ := Aside0.mk (blk_below (g := gb419) (o := .cells #[.string a0_0, .int .i64 a0_1, .int .i64 a0_2, .int .i64 a0_3] 26 (0, 0)) (bk_ BK419.out) hb)
           have n1_ := Aside0.mk (below_step (lb1_ HB.out GE419.out) hb)
           clear BK419
           clear HB
           have BK419 := n0_
           have HB := n1_
           clear n0_ n1_
           (try clear hb)
           (try clear hb2)
           (try clear hk)
           (try clear hi)
           refine hK.out _ _ ⟨(blk_cell BK419.out 0).trans rfl, (blk_cell BK419.out 1).trans rfl, (blk_cell BK419.out 2).trans rfl, (blk_cell BK419.out 3).trans rfl⟩ (fun hHeld => ?_)
           clear hK K
           refine norm_ (a' := ?_) ?_ ?_
           rotate_left
           ·
            show Act.put _ (some 22) _ = _
            simp only [Act.put, List.setIfInBounds_toArray, List.set_cons_zero, List.set_cons_succ, i64_w, i32_w]
            rfl
           refine pz_ HT_ 13 (some 23) spec_l26Line.mk16 ?_
           refine pz_ HT_ 14 (some 24) spec_l26Line.mk17 ?_
           refine one_ (i := 17) (N := some 27) spec_l26Line.mk18 rfl rfl (one_of HT_.out (by kernel_rfl)) (by decide) (fun K hK => ?_)
           refine goes_ Tryd.func93 (by kernel_rfl) rfl #[.int .i64 a0_3] (by rfl) rfl rfl (by (try simp only [List.map_toArray, List.map_cons, List.map_nil]); first | done | rfl | (simp only [List.length_drop, List.length_take]; rfl)) ?_
           with_reducible refine (spec_l1Num.calls k a0_3 t422 _ A13.out).mono ?_
           rintro e w30 ⟨rfl, hb⟩
           refine ⟨_, rfl, ?_⟩
           have n0_ := Aside0.mk (blk_below (g := gb419) (o := .cells #[.string a0_0, .int .i64 a0_1, .int .i64 a0_2, .int .i64 a0_3] 26 (0, 0)) (bk_ BK419.out) hb)
           have n1_ := Aside0.mk (below_step (lb1_ HB.out GE419.out) hb)
           clear BK419
           clear HB
           have BK419 := n0_
           have HB := n1_
           clear n0_ n1_
           (try clear hb)
           (try clear hb2)
           (try clear hk)
           (try clear hi)
           refine hK.out _ _ ⟨(blk_cell BK419.out 0).trans rfl, (blk_cell BK419.out 1).trans rfl, (blk_cell BK419.out 2).trans rfl, (blk_cell BK419.out 3).trans rfl⟩ (fun hHeld => ?_)
           clear hK K
           refine norm_ (a' := ?_) ?_ ?_
           rotate_left
           ·
            show Act.put _ (some 27) _ = _
            simp only [Act.put, List.setIfInBounds_toArray, List.set_cons_zero, List.set_cons_succ, i64_w, i32_w]
            rfl
           refine pz_ HT_ 18 (some 28) spec_l26Line.mk19 ?_
           refine pz_ HT_ 19 (some 29) spec_l26Line.mk20 ?_
           refine pz_ HT_ 20 (some 3) spec_l26Line.mk21 ?_
           refine done_ (done_of HT_.out (by kernel_rfl)) ?_
           have hcz31_0 : w30.cell? ⟨gb419, 0, none⟩ = some (.string a0_0) := (blk_cell BK419.out 0).trans rfl
           have hcz31_1 : w30.cell? ⟨gb419, 1, none⟩ = some (.int .i64 a0_1) := (blk_cell BK419.out 1).trans rfl
           have hcz31_2 : w30.cell? ⟨gb419, 2, none⟩ = some (.int .i64 a0_2) := (blk_cell BK419.out 2).trans rfl
           have hcz31_3 : w30.cell? ⟨gb419, 3, none⟩ = some (.int .i64 a0_3) := (blk_cell BK419.out 3).trans rfl
           have hfz31_0 := blk_frozen BK419.out 0
           have hfz31_1 := blk_frozen BK419.out 1
           have hfz31_2 := blk_frozen BK419.out 2
           have hfz31_3 := blk_frozen BK419.out 3
           try go_wp2
           go_ret
           exact ⟨rr_, lb1_ HB.out GE419.out⟩
          ·
           rw [if_neg c24] at H
           exact absurd H (by simp)
        ·
         rw [if_neg c15] at H
         exact absurd H (by simp)
       ·
        rw [if_neg c14] at H
        exact absurd H (by simp)
      ·
       rw [if_neg c12] at H
       exact absurd H (by simp)
     ·
      rw [if_neg c11] at H
      exact absurd H (by simp)
    ·
     rw [if_neg c9] at H
     exact absurd H (by simp)
   ·
    rw [if_neg c8] at H
    exact absurd H (by simp)
  ·
   rw [if_neg c6] at H
   exact absurd H (by simp)
end Go.Proofs.YteepnlofbfccgaaDoor.Pr

namespace Go.Proofs.YteepnlofbfccgaaDoor.Pr
open Go.RowKit Go.Proofs.YteepnlofbfccgaaDoorW.PrintWords Go.Proofs.YteepnlofbfccgaaDoorW.PrintLast Go.Proofs.YteepnlofbfccgaaDoorW.PrintMore
attribute [local go_sem] max2_int min2_int max_two min_two max_three min_three max_four min_four   -- for this text's walks alone
set_option linter.unusedVariables false
set_option linter.unusedSimpArgs false
def spec_CaveLine.f (k : Nat) (a0_0 : ByteArray) (a0_1 : Int) (a0_2 : Int) (a0_3 : Int) : Option (ByteArray × Bool) := (spec_l26One.f k a0_0 a0_1 a0_2 a0_3).bind fun t424 => (if t424 = true then ((spec_l26Line.f k a0_0 a0_1 a0_2 a0_3).bind fun t425 => (some (t425, true))) else (some ((⟨#[]⟩ : ByteArray), false)))
set_option maxHeartbeats 8000000 in
set_option maxRecDepth 100000 in
theorem spec_CaveLine.calls (k : Nat) (a0_0 : ByteArray) (a0_1 : Int) (a0_2 : Int) (a0_3 : Int) (r1 : ByteArray) (r2 : Bool) (w : World) (h : spec_CaveLine.f k a0_0 a0_1 a0_2 a0_3 = some (r1, r2)) :
  Calls Tryd.prog 37 #[.agg #[.string a0_0, .int .i64 a0_1, .int .i64 a0_2, .int .i64 a0_3]] w fun e w' => e = .returned (.tuple #[.string r1, .bool r2]) ∧ Below w.heap.size w w' := by
 have hu26 := Tryd.underlying26
 have HB := Aside0.mk (Below.refl w.heap.size w)
 have H : ((spec_l26One.f k a0_0 a0_1 a0_2 a0_3).bind fun t424 => (if t424 = true then ((spec_l26Line.f k a0_0 a0_1 a0_2 a0_3).bind fun t425 => (some (t425, true))) else (some ((⟨#[]⟩ : ByteArray), false)))) = some (r1, r2) := h
 clear h
 replace H := Option.bind_eq_some_iff.mp H
 obtain ⟨t424, A20, H⟩ := H
 replace H : (if t424 = true then ((spec_l26Line.f k a0_0 a0_1 a0_2 a0_3).bind fun t425 => (some (t425, true))) else (some ((⟨#[]⟩ : ByteArray), false))) = some (r1, r2) := H
 have A2 := Aside0.mk A20
 clear A20
 by_cases c3 : t424 = true
 ·
  subst c3
  have H1 : ((spec_l26Line.f k a0_0 a0_1 a0_2 a0_3).bind fun t425 => (some (t425, true))) = some (r1, r2) := by rw [if_pos rfl] at H; exact H
  clear H
  have H := H1
  clear H1
  replace H := Option.bind_eq_some_iff.mp H
  obtain ⟨t425, A40, H⟩ := H
  replace H : (some (t425, true)) = some (r1, r2) := H
  have A4 := Aside0.mk A40
  clear A40
  simp only [Option.some.injEq, Prod.mk.injEq] at H
  obtain ⟨rfl, rfl⟩ := H
  go_enter Tryd.func37, Tryd.ntmps37
  go_wp2_with (first | ((with_reducible refine gate_dst (N := 1) rfl ?_); refine box_event ?hg (N := 1) ?hd (cs := #[.string a0_0, .int .i64 a0_1, .int .i64 a0_2, .int .i64 a0_3]) (t := 26) ?hr ?_; (case hd => rfl); (case hg => rfl); (case hr => first | (go_simp; done) | (go_simp; rfl)); intro gb423 hg w5 hbox hb; have n0_ := Aside0.mk (below_step (lb0_ HB.out) hb); have n1_ := Aside0.mk (hbox); have n2_ := Aside0.mk ((by rw [hg]; exact (below_size (lb0_ HB.out)) : w.heap.size ≤ gb423)); have n3_ := Aside0.mk ((by rw [hg]; exact (below_size (lb0_ HB.out)) : w.heap.size ≤ gb423)); clear HB; have HB := n0_; have BK423 := n1_; have GW423 := n2_; have GE423 := n3_; clear n0_ n1_ n2_ n3_; clear hb hbox hg; have hcz6_0 : w5.cell? ⟨gb423, 0, none⟩ = some (.string a0_0) := (blk_cell BK423.out 0).trans rfl; have hcz6_1 : w5.cell? ⟨gb423, 1, none⟩ = some (.int .i64 a0_1) := (blk_cell BK423.out 1).trans rfl; have hcz6_2 : w5.cell? ⟨gb423, 2, none⟩ = some (.int .i64 a0_2) := (blk_cell BK423.out 2).trans rfl; have hcz6_3 : w5.cell? ⟨gb423, 3, none⟩ = some (.int .i64 a0_3) := (blk_cell BK423.out 3).trans rfl; have hfz6_0 := blk_frozen BK423.out 0; have hfz6_1 := blk_frozen BK423.out 1; have hfz6_2 := blk_frozen BK423.out 2; have hfz6_3 := blk_frozen BK423.out 3) | ((with_reducible refine gate_callee (f := 55) rfl ?_); refine ga_ (some 5) Tryd.func55 #[.agg #[.string a0_0, .int .i64 a0_1, .int .i64 a0_2, .int .i64 a0_3]] ?_; (with_reducible refine (spec_l26One.calls k a0_0 a0_1 a0_2 a0_3 true _ A2.out).mono ?_); rintro e w7 ⟨rfl, hb⟩; refine ⟨_, rfl, ?_⟩; have n0_ := Aside0.mk (blk_below (g := gb423) (o := .cells #[.string a0_0, .int .i64 a0_1, .int .i64 a0_2, .int .i64 a0_3] 26 (0, 0)) (bk_ BK423.out) hb); have n1_ := Aside0.mk (below_step (lb1_ HB.out GE423.out) hb); clear BK423; clear HB; have BK423 := n0_; have HB := n1_; clear n0_ n1_; (try clear hb); (try clear hb2); (try clear hk); (try clear hi); have hcz8_0 : w7.cell? ⟨gb423, 0, none⟩ = some (.string a0_0) := (blk_cell BK423.out 0).trans rfl; have hcz8_1 : w7.cell? ⟨gb423, 1, none⟩ = some (.int .i64 a0_1) := (blk_cell BK423.out 1).trans rfl; have hcz8_2 : w7.cell? ⟨gb423, 2, none⟩ = some (.int .i64 a0_2) := (blk_cell BK423.out 2).trans rfl; have hcz8_3 : w7.cell? ⟨gb423, 3, none⟩ = some (.int .i64 a0_3) := (blk_cell BK423.out 3).trans rfl; have hfz8_0 := blk_frozen BK423.out 0; have hfz8_1 := blk_frozen BK423.out 1; have hfz8_2 := blk_frozen BK423.out 2; have hfz8_3 := blk_frozen BK423.out 3) | ((with_reducible refine gate_callee (f := 70) rfl ?_); refine ga_ (some 8) Tryd.func70 #[.agg #[.string a0_0, .int .i64 a0_1, .int .i64 a0_2, .int .i64 a0_3]] ?_; (with_reducible refine (spec_l26Line.calls k a0_0 a0_1 a0_2 a0_3 t425 _ A4.out).mono ?_); rintro e w9 ⟨rfl, hb⟩; refine ⟨_, rfl, ?_⟩; have n0_ := Aside0.mk (blk_below (g := gb423) (o := .cells #[.string a0_0, .int .i64 a0_1, .int .i64 a0_2, .int .i64 a0_3] 26 (0, 0)) (bk_ BK423.out) hb); have n1_ := Aside0.mk (below_step (lb1_ HB.out GE423.out) hb); clear BK423; clear HB; have BK423 := n0_; have HB := n1_; clear n0_ n1_; (try clear hb); (try clear hb2); (try clear hk); (try clear hi)))
  go_ret2
  exact ⟨rr_, lb1_ HB.out GE423.out⟩
 ·
  replace c3 := Bool.eq_false_iff.mpr c3
  subst c3
  have H1 : (some ((⟨#[]⟩ : ByteArray), false)) = some (r1, r2) := by rw [if_neg (show ¬ (false = true) by decide)] at H; exact H
  clear H
  have H := H1
  clear H1
  simp only [Option.some.injEq, Prod.mk.injEq] at H
  obtain ⟨rfl, rfl⟩ := H
  go_enter Tryd.func37, Tryd.ntmps37
  go_wp2_with (first | ((with_reducible refine gate_dst (N := 1) rfl ?_); refine box_event ?hg (N := 1) ?hd (cs := #[.string a0_0, .int .i64 a0_1, .int .i64 a0_2, .int .i64 a0_3]) (t := 26) ?hr ?_; (case hd => rfl); (case hg => rfl); (case hr => first | (go_simp; done) | (go_simp; rfl)); intro gb423 hg w10 hbox hb; have n0_ := Aside0.mk (below_step (lb0_ HB.out) hb); have n1_ := Aside0.mk (hbox); have n2_ := Aside0.mk ((by rw [hg]; exact (below_size (lb0_ HB.out)) : w.heap.size ≤ gb423)); have n3_ := Aside0.mk ((by rw [hg]; exact (below_size (lb0_ HB.out)) : w.heap.size ≤ gb423)); clear HB; have HB := n0_; have BK423 := n1_; have GW423 := n2_; have GE423 := n3_; clear n0_ n1_ n2_ n3_; clear hb hbox hg; have hcz11_0 : w10.cell? ⟨gb423, 0, none⟩ = some (.string a0_0) := (blk_cell BK423.out 0).trans rfl; have hcz11_1 : w10.cell? ⟨gb423, 1, none⟩ = some (.int .i64 a0_1) := (blk_cell BK423.out 1).trans rfl; have hcz11_2 : w10.cell? ⟨gb423, 2, none⟩ = some (.int .i64 a0_2) := (blk_cell BK423.out 2).trans rfl; have hcz11_3 : w10.cell? ⟨gb423, 3, none⟩ = some (.int .i64 a0_3) := (blk_cell BK423.out 3).trans rfl; have hfz11_0 := blk_frozen BK423.out 0; have hfz11_1 := blk_frozen BK423.out 1; have hfz11_2 := blk_frozen BK423.out 2; have hfz11_3 := blk_frozen BK423.out 3) | ((with_reducible refine gate_callee (f := 55) rfl ?_); refine ga_ (some 5) Tryd.func55 #[.agg #[.string a0_0, .int .i64 a0_1, .int .i64 a0_2, .int .i64 a0_3]] ?_; (with_reducible refine (spec_l26One.calls k a0_0 a0_1 a0_2 a0_3 false _ A2.out).mono ?_); rintro e w12 ⟨rfl, hb⟩; refine ⟨_, rfl, ?_⟩; have n0_ := Aside0.mk (blk_below (g := gb423) (o := .cells #[.string a0_0, .int .i64 a0_1, .int .i64 a0_2, .int .i64 a0_3] 26 (0, 0)) (bk_ BK423.out) hb); have n1_ := Aside0.mk (below_step (lb1_ HB.out GE423.out) hb); clear BK423; clear HB; have BK423 := n0_; have HB := n1_; clear n0_ n1_; (try clear hb); (try clear hb2); (try clear hk); (try clear hi)))
  go_ret2
  exact ⟨rr_, lb1_ HB.out GE423.out⟩
def Tb (w : World) : Prop := ∀ w', Below w.heap.size w w' → Lib.TabIs Tryd.prog w' "internal/strconv.uint64pow10" .u64 Lib.pow10Tab
theorem Tb.step {w W : World} (h : Tb w) (hb : Below w.heap.size w W) : Tb W := fun w' hw => h w' (below_then hb hb.size hw)
theorem grow_below_ (w : World) (q : Nat) (os : Array Obj) : Below w.heap.size w (Go.Sort.grow (w.drewN q) os) :=
 ⟨rfl, rfl, rfl, by simp [Go.Sort.grow, World.drewN], fun k hk => by simp [Go.Sort.grow, World.drewN, Array.getElem?_append, hk]⟩
def strconv_Itoa_110.f (a0 : Int) : Option ByteArray := if -9223372036854775808 ≤ a0 then (if a0 ≤ 9223372036854775807 then some ⟨(Lib.itoa a0).toArray⟩ else none) else none
theorem strconv_Itoa_110.calls (a0 : Int) (r : ByteArray) (w : World) (h : strconv_Itoa_110.f a0 = some r) (hT : Tb w) :
  Calls Tryd.prog 110 #[.int .i64 a0] w fun e w' => e = .returned (.string r) ∧ Below w.heap.size w w' := by
 unfold strconv_Itoa_110.f at h
 by_cases h0 : -9223372036854775808 ≤ a0
 ·
  by_cases h1 : a0 ≤ 9223372036854775807
  ·
   rw [if_pos h0, if_pos h1] at h
   obtain rfl := Option.some.inj h
   refine (Tryd.strconv_Itoa a0 h0 h1 w (hT w (Below.refl _ _))).mono ?_
   rintro e w' ⟨rfl, q, os, rfl⟩
   exact ⟨rfl, grow_below_ w q os⟩
  ·
   rw [if_pos h0, if_neg h1] at h
   cases h
 ·
  rw [if_neg h0] at h
  cases h
def impl_decimal.f (a0 : Int) : Option (ByteArray) := (strconv_Itoa_110.f a0).bind fun t445 => (some t445)
set_option maxHeartbeats 8000000 in
set_option maxRecDepth 100000 in
theorem impl_decimal.calls (a0 : Int) (r : ByteArray) (w : World) (h : impl_decimal.f a0 = some r) (hT : Tb w) :
  Calls Tryd.prog 94 #[.int .i64 a0] w fun e w' => e = .returned (.string r) ∧ Below w.heap.size w w' := by
 have HT := Aside0.mk hT
 clear hT
 have HB := Aside0.mk (Below.refl w.heap.size w)
 have H : ((strconv_Itoa_110.f a0).bind fun t445 => (some t445)) = some r := h
 clear h
 replace H := Option.bind_eq_some_iff.mp H
 obtain ⟨t445, A20, H⟩ := H
 replace H : (some t445) = some r := H
 have A2 := Aside0.mk A20
 clear A20
 obtain rfl := Option.some.inj H
 go_enter Tryd.func94, Tryd.ntmps94
 go_wp2_with (first | ((with_reducible refine gate_callee (f := 110) rfl ?_); refine ga_ (some 4) Tryd.func110 #[.int .i64 a0] ?_; (with_reducible refine (strconv_Itoa_110.calls a0 t445 _ A2.out ?sideT).mono ?_); (case sideT => first | exact HT.out | exact Tb.step HT.out HB.out | exact Tb.step HT.out (by repeat (first | (with_reducible first | exact HB.out | apply below_alloc | apply pw_below_drewN | apply below_drew1) | exact HB.out | exact Below.refl _ _))); rintro e w3 ⟨rfl, hb⟩; refine ⟨_, rfl, ?_⟩; have n0_ := Aside0.mk (below_step (lb0_ HB.out) hb); clear HB; have HB := n0_; clear n0_; (try clear hb); (try clear hb2); (try clear hk); (try clear hi)))
 go_ret
 exact ⟨rr_, lb0_ HB.out⟩
end Go.Proofs.YteepnlofbfccgaaDoor.Pr

namespace Go.Proofs.YteepnlofbfccgaaDoor.Pr
open Go.RowKit Go.Proofs.YteepnlofbfccgaaDoorW.PrintWords Go.Proofs.YteepnlofbfccgaaDoorW.PrintLast Go.Proofs.YteepnlofbfccgaaDoorW.PrintMore
attribute [local go_sem] max2_int min2_int max_two min_two max_three min_three max_four min_four sc_in sx_in   -- for this text's walks alone
set_option linter.unusedVariables false
set_option linter.unusedSimpArgs false
def impl_caveLine.f (a0_0 : ByteArray) (a0_1 : Int) (a0_2 : Int) (a0_3 : Int) : Option (ByteArray) := if a0_1 = 0 then (if a0_0.size + 14 ≤ 9223372036854775807 then (some (sc a0_0 (⟨#[58, 32, 110, 111, 116, 32, 115, 117, 114, 118, 101, 121, 101, 100]⟩ : ByteArray))) else (none)) else (if a0_0.size + 2 ≤ 9223372036854775807 then ((impl_decimal.f (wrap64 (Int.tdiv a0_1 10))).bind fun t447 => (if (sc a0_0 (⟨#[58, 32]⟩ : ByteArray)).size + t447.size ≤ 9223372036854775807 then (if (sc (sc a0_0 (⟨#[58, 32]⟩ : ByteArray)) t447).size + 9 ≤ 9223372036854775807 then ((impl_decimal.f (wrap64 (Int.tdiv a0_2 10))).bind fun t448 => (if (sc (sc (sc a0_0 (⟨#[58, 32]⟩ : ByteArray)) t447) (⟨#[32, 109, 32, 108, 111, 110, 103, 44, 32]⟩ : ByteArray)).size + t448.size ≤ 9223372036854775807 then (if (sc (sc (sc (sc a0_0 (⟨#[58, 32]⟩ : ByteArray)) t447) (⟨#[32, 109, 32, 108, 111, 110, 103, 44, 32]⟩ : ByteArray)) t448).size + 9 ≤ 9223372036854775807 then ((impl_decimal.f a0_3).bind fun t449 => (if (sc (sc (sc (sc (sc a0_0 (⟨#[58, 32]⟩ : ByteArray)) t447) (⟨#[32, 109, 32, 108, 111, 110, 103, 44, 32]⟩ : ByteArray)) t448) (⟨#[32, 109, 32, 100, 101, 101, 112, 44, 32]⟩ : ByteArray)).size + t449.size ≤ 9223372036854775807 then (if (sc (sc (sc (sc (sc (sc a0_0 (⟨#[58, 32]⟩ : ByteArray)) t447) (⟨#[32, 109, 32, 108, 111, 110, 103, 44, 32]⟩ : ByteArray)) t448) (⟨#[32, 109, 32, 100, 101, 101, 112, 44, 32]⟩ : ByteArray)) t449).size + 4 ≤ 9223372036854775807 then (if a0_3 = 1 then (some (sc (sc (sc (sc (sc (sc (sc a0_0 (⟨#[58, 32]⟩ : ByteArray)) t447) (⟨#[32, 109, 32, 108, 111, 110, 103, 44, 32]⟩ : ByteArray)) t448) (⟨#[32, 109, 32, 100, 101, 101, 112, 44, 32]⟩ : ByteArray)) t449) (⟨#[32, 108, 101, 103]⟩ : ByteArray))) else (if (sc (sc (sc (sc (sc (sc (sc a0_0 (⟨#[58, 32]⟩ : ByteArray)) t447) (⟨#[32, 109, 32, 108, 111, 110, 103, 44, 32]⟩ : ByteArray)) t448) (⟨#[32, 109, 32, 100, 101, 101, 112, 44, 32]⟩ : ByteArray)) t449) (⟨#[32, 108, 101, 103]⟩ : ByteArray)).size + 1 ≤ 9223372036854775807 then (some (sc (sc (sc (sc (sc (sc (sc (sc a0_0 (⟨#[58, 32]⟩ : ByteArray)) t447) (⟨#[32, 109, 32, 108, 111, 110, 103, 44, 32]⟩ : ByteArray)) t448) (⟨#[32, 109, 32, 100, 101, 101, 112, 44, 32]⟩ : ByteArray)) t449) (⟨#[32, 108, 101, 103]⟩ : ByteArray)) (⟨#[115]⟩ : ByteArray))) else (none))) else (none)) else (none))) else (none)) else (none))) else (none)) else (none))) else (none))
def impl_caveLine.T3 : Bool × List (List Nat × List Nat) := (true, [([], []), ([0], [0]), ([1], [1]), ([], []), ([3], [3]), ([4], [4]), ([5], [5]), ([2, 6], [2, 6]), ([7], [7]), ([], []), ([9], [9]), ([10], [10]), ([11, 6], [11]), ([8, 12], [8, 12]), ([13], [13]), ([], []), ([15], [15]), ([16, 12], [16]), ([14, 17], [14, 17]), ([18], [18]), ([19, 17, 0, 1, 2, 3, 4, 5, 6, 7, 8, 9, 10, 11, 12, 13, 14, 15, 16, 17, 18, 19], [19])])
def impl_caveLine.B3 : List Nat := [0, 1, 3, 0, 8, 24, 56, 127, 255, 0, 512, 1536, 3704, 8191, 16383, 0, 32768, 106104, 262143, 524287, 1048575]
theorem impl_caveLine.tab3 : rtab .any (opsOf Tryd.f71 3) = impl_caveLine.T3 := by kernel_rfl
theorem impl_caveLine.bits3 : waitsOk impl_caveLine.T3.2 impl_caveLine.B3 = true := by kernel_rfl
abbrev impl_caveLine.mk0 : Array Bool := #[false, false, false, false, false, false, false, false, false, false, false, false, false, false, false, false, false, false, false, false, false]
abbrev impl_caveLine.mk1 : Array Bool := #[true, false, false, false, false, false, false, false, false, false, false, false, false, false, false, false, false, false, false, false, false]
abbrev impl_caveLine.mk2 : Array Bool := #[true, false, false, true, false, false, false, false, false, false, false, false, false, false, false, false, false, false, false, false, false]
abbrev impl_caveLine.mk3 : Array Bool := #[true, false, false, true, false, false, false, false, false, true, false, false, false, false, false, false, false, false, false, false, false]
abbrev impl_caveLine.mk4 : Array Bool := #[true, false, false, true, false, false, false, false, false, true, false, false, false, false, false, true, false, false, false, false, false]
abbrev impl_caveLine.mk5 : Array Bool := #[true, true, false, true, false, false, false, false, false, true, false, false, false, false, false, true, false, false, false, false, false]
abbrev impl_caveLine.mk6 : Array Bool := #[true, true, true, true, false, false, false, false, false, true, false, false, false, false, false, true, false, false, false, false, false]
abbrev impl_caveLine.mk7 : Array Bool := #[true, true, true, true, true, false, false, false, false, true, false, false, false, false, false, true, false, false, false, false, false]
abbrev impl_caveLine.mk8 : Array Bool := #[true, true, true, true, true, true, false, false, false, true, false, false, false, false, false, true, false, false, false, false, false]
abbrev impl_caveLine.mk9 : Array Bool := #[true, true, true, true, true, true, false, false, false, true, true, false, false, false, false, true, false, false, false, false, false]
abbrev impl_caveLine.mk10 : Array Bool := #[true, true, true, true, true, true, false, false, false, true, true, true, false, false, false, true, false, false, false, false, false]
abbrev impl_caveLine.mk11 : Array Bool := #[true, true, true, true, true, true, false, false, false, true, true, true, false, false, false, true, true, false, false, false, false]
abbrev impl_caveLine.mk12 : Array Bool := #[true, true, true, true, true, true, true, false, false, true, true, true, false, false, false, true, true, false, false, false, false]
abbrev impl_caveLine.mk13 : Array Bool := #[true, true, true, true, true, true, true, true, false, true, true, true, false, false, false, true, true, false, false, false, false]
abbrev impl_caveLine.mk14 : Array Bool := #[true, true, true, true, true, true, true, true, true, true, true, true, false, false, false, true, true, false, false, false, false]
abbrev impl_caveLine.mk15 : Array Bool := #[true, true, true, true, true, true, true, true, true, true, true, true, true, false, false, true, true, false, false, false, false]
abbrev impl_caveLine.mk16 : Array Bool := #[true, true, true, true, true, true, true, true, true, true, true, true, true, true, false, true, true, false, false, false, false]
abbrev impl_caveLine.mk17 : Array Bool := #[true, true, true, true, true, true, true, true, true, true, true, true, true, true, true, true, true, false, false, false, false]
abbrev impl_caveLine.mk18 : Array Bool := #[true, true, true, true, true, true, true, true, true, true, true, true, true, true, true, true, true, true, false, false, false]
abbrev impl_caveLine.mk19 : Array Bool := #[true, true, true, true, true, true, true, true, true, true, true, true, true, true, true, true, true, true, true, false, false]
abbrev impl_caveLine.mk20 : Array Bool := #[true, true, true, true, true, true, true, true, true, true, true, true, true, true, true, true, true, true, true, true, false]
abbrev impl_caveLine.mk21 : Array Bool := #[true, true, true, true, true, true, true, true, true, true, true, true, true, true, true, true, true, true, true, true, true]
set_option maxHeartbeats 8000000 in
set_option maxRecDepth 100000 in
theorem impl_caveLine.calls (a0_0 : ByteArray) (a0_1 : Int) (a0_2 : Int) (a0_3 : Int) (r : ByteArray) (w : World) (h : impl_caveLine.f a0_0 a0_1 a0_2 a0_3 = some r) (hT : Tb w) :
  Calls Tryd.prog 71 #[.agg #[.string a0_0, .int .i64 a0_1, .int .i64 a0_2, .int .i64 a0_3]] w fun e w' => e = .returned (.string r) ∧ Below w.heap.size w w' := by
 have HT := Aside0.mk hT
 clear hT
 have hu26 := Tryd.underlying26
 have HB := Aside0.mk (Below.refl w.heap.size w)
 have H : (if a0_1 = 0 then (if a0_0.size + 14 ≤ 9223372036854775807 then (some (sc a0_0 (⟨#[58, 32, 110, 111, 116, 32, 115, 117, 114, 118, 101, 121, 101, 100]⟩ : ByteArray))) else (none)) else (if a0_0.size + 2 ≤ 9223372036854775807 then ((impl_decimal.f (wrap64 (Int.tdiv a0_1 10))).bind fun t447 => (if (sc a0_0 (⟨#[58, 32]⟩ : ByteArray)).size + t447.size ≤ 9223372036854775807 then (if (sc (sc a0_0 (⟨#[58, 32]⟩ : ByteArray)) t447).size + 9 ≤ 9223372036854775807 then ((impl_decimal.f (wrap64 (Int.tdiv a0_2 10))).bind fun t448 => (if (sc (sc (sc a0_0 (⟨#[58, 32]⟩ : ByteArray)) t447) (⟨#[32, 109, 32, 108, 111, 110, 103, 44, 32]⟩ : ByteArray)).size + t448.size ≤ 9223372036854775807 then (if (sc (sc (sc (sc a0_0 (⟨#[58, 32]⟩ : ByteArray)) t447) (⟨#[32, 109, 32, 108, 111, 110, 103, 44, 32]⟩ : ByteArray)) t448).size + 9 ≤ 9223372036854775807 then ((impl_decimal.f a0_3).bind fun t449 => (if (sc (sc (sc (sc (sc a0_0 (⟨#[58, 32]⟩ : ByteArray)) t447) (⟨#[32, 109, 32, 108, 111, 110, 103, 44, 32]⟩ : ByteArray)) t448) (⟨#[32, 109, 32, 100, 101, 101, 112, 44, 32]⟩ : ByteArray)).size + t449.size ≤ 9223372036854775807 then (if (sc (sc (sc (sc (sc (sc a0_0 (⟨#[58, 32]⟩ : ByteArray)) t447) (⟨#[32, 109, 32, 108, 111, 110, 103, 44, 32]⟩ : ByteArray)) t448) (⟨#[32, 109, 32, 100, 101, 101, 112, 44, 32]⟩ : ByteArray)) t449).size + 4 ≤ 9223372036854775807 then (if a0_3 = 1 then (some (sc (sc (sc (sc (sc (sc (sc a0_0 (⟨#[58, 32]⟩ : ByteArray)) t447) (⟨#[32, 109, 32, 108, 111, 110, 103, 44, 32]⟩ : ByteArray)) t448) (⟨#[32, 109, 32, 100, 101, 101, 112, 44, 32]⟩ : ByteArray)) t449) (⟨#[32, 108, 101, 103]⟩ : ByteArray))) else (if (sc (sc (sc (sc (sc (sc (sc a0_0 (⟨#[58, 32]⟩ : ByteArray)) t447) (⟨#[32, 109, 32, 108, 111, 110, 103, 44, 32]⟩ : ByteArray)) t448) (⟨#[32, 109, 32, 100, 101, 101, 112, 44, 32]⟩ : ByteArray)) t449) (⟨#[32, 108, 101, 103]⟩ : ByteArray)).size + 1 ≤ 9223372036854775807 then (some (sc (sc (sc (sc (sc (sc (sc (sc a0_0 (⟨#[58, 32]⟩ : ByteArray)) t447) (⟨#[32, 109, 32, 108, 111, 110, 103, 44, 32]⟩ : ByteArray)) t448) (⟨#[32, 109, 32, 100, 101, 101, 112, 44, 32]⟩ : ByteArray)) t449) (⟨#[32, 108, 101, 103]⟩ : ByteArray)) (⟨#[115]⟩ : ByteArray))) else (none))) else (none)) else (none))) else (none)) else (none))) else (none)) else (none))) else (none))) = some r := h
 clear h
 by_cases c2 : a0_1 = 0
 ·
  rw [if_pos c2] at H
  have c2b0 : (a0_1 == 0) = true := beq_iff_eq.mpr c2
  have c2b1 : (a0_1 != 0) = false := bne_eq_false_iff_eq.mpr c2
  clear c2
  by_cases c3 : a0_0.size + 14 ≤ 9223372036854775807
  ·
   rw [if_pos c3] at H
   have c3b0 := eq_true c3
   have c3b1 : decide (a0_0.size + 14 ≤ 9223372036854775807) = true := decide_eq_true c3
   try have c3b2 : (9223372036854775807 < a0_0.size + 14) = False := eq_false (Nat.not_lt.2 c3)
   obtain rfl := Option.some.inj H
   go_enter Tryd.func71, Tryd.ntmps71
   go_wp2_with (first | ((with_reducible refine gate_dst (N := 1) rfl ?_); refine box_event ?hg (N := 1) ?hd (cs := #[.string a0_0, .int .i64 a0_1, .int .i64 a0_2, .int .i64 a0_3]) (t := 26) ?hr ?_; (case hd => rfl); (case hg => rfl); (case hr => first | (go_simp; done) | (go_simp; rfl)); intro gb446 hg w4 hbox hb; have n0_ := Aside0.mk (below_step (lb0_ HB.out) hb); have n1_ := Aside0.mk (hbox); have n2_ := Aside0.mk ((by rw [hg]; exact (below_size (lb0_ HB.out)) : w.heap.size ≤ gb446)); have n3_ := Aside0.mk ((by rw [hg]; exact (below_size (lb0_ HB.out)) : w.heap.size ≤ gb446)); clear HB; have HB := n0_; have BK446 := n1_; have GW446 := n2_; have GE446 := n3_; clear n0_ n1_ n2_ n3_; clear hb hbox hg; have hcz5_0 : w4.cell? ⟨gb446, 0, none⟩ = some (.string a0_0) := (blk_cell BK446.out 0).trans rfl; have hcz5_1 : w4.cell? ⟨gb446, 1, none⟩ = some (.int .i64 a0_1) := (blk_cell BK446.out 1).trans rfl; have hcz5_2 : w4.cell? ⟨gb446, 2, none⟩ = some (.int .i64 a0_2) := (blk_cell BK446.out 2).trans rfl; have hcz5_3 : w4.cell? ⟨gb446, 3, none⟩ = some (.int .i64 a0_3) := (blk_cell BK446.out 3).trans rfl; have hfz5_0 := blk_frozen BK446.out 0; have hfz5_1 := blk_frozen BK446.out 1; have hfz5_2 := blk_frozen BK446.out 2; have hfz5_3 := blk_frozen BK446.out 3))
   go_ret
   exact ⟨rr_, lb1_ HB.out GE446.out⟩
  ·
   rw [if_neg c3] at H
   exact absurd H (by simp)
 ·
  rw [if_neg c2] at H
  have c2b0 : (a0_1 == 0) = false := beq_eq_false_iff_ne.mpr c2
  have c2b1 : (a0_1 != 0) = true := bne_iff_ne.mpr c2
  by_cases c6 : a0_0.size + 2 ≤ 9223372036854775807
  ·
   rw [if_pos c6] at H
   have c6b0 := eq_true c6
   have c6b1 : decide (a0_0.size + 2 ≤ 9223372036854775807) = true := decide_eq_true c6
   try have c6b2 : (9223372036854775807 < a0_0.size + 2) = False := eq_false (Nat.not_lt.2 c6)
   replace H := Option.bind_eq_some_iff.mp H
   obtain ⟨t447, A70, H⟩ := H
   replace H : (if (sc a0_0 (⟨#[58, 32]⟩ : ByteArray)).size + t447.size ≤ 9223372036854775807 then (if (sc (sc a0_0 (⟨#[58, 32]⟩ : ByteArray)) t447).size + 9 ≤ 9223372036854775807 then ((impl_decimal.f (wrap64 (Int.tdiv a0_2 10))).bind fun t448 => (if (sc (sc (sc a0_0 (⟨#[58, 32]⟩ : ByteArray)) t447) (⟨#[32, 109, 32, 108, 111, 110, 103, 44, 32]⟩ : ByteArray)).size + t448.size ≤ 9223372036854775807 then (if (sc (sc (sc (sc a0_0 (⟨#[58, 32]⟩ : ByteArray)) t447) (⟨#[32, 109, 32, 108, 111, 110, 103, 44, 32]⟩ : ByteArray)) t448).size + 9 ≤ 9223372036854775807 then ((impl_decimal.f a0_3).bind fun t449 => (if (sc (sc (sc (sc (sc a0_0 (⟨#[58, 32]⟩ : ByteArray)) t447) (⟨#[32, 109, 32, 108, 111, 110, 103, 44, 32]⟩ : ByteArray)) t448) (⟨#[32, 109, 32, 100, 101, 101, 112, 44, 32]⟩ : ByteArray)).size + t449.size ≤ 9223372036854775807 then (if (sc (sc (sc (sc (sc (sc a0_0 (⟨#[58, 32]⟩ : ByteArray)) t447) (⟨#[32, 109, 32, 108, 111, 110, 103, 44, 32]⟩ : ByteArray)) t448) (⟨#[32, 109, 32, 100, 101, 101, 112, 44, 32]⟩ : ByteArray)) t449).size + 4 ≤ 9223372036854775807 then (if a0_3 = 1 then (some (sc (sc (sc (sc (sc (sc (sc a0_0 (⟨#[58, 32]⟩ : ByteArray)) t447) (⟨#[32, 109, 32, 108, 111, 110, 103, 44, 32]⟩ : ByteArray)) t448) (⟨#[32, 109, 32, 100, 101, 101, 112, 44, 32]⟩ : ByteArray)) t449) (⟨#[32, 108, 101, 103]⟩ : ByteArray))) else (if (sc (sc (sc (sc (sc (sc (sc a0_0 (⟨#[58, 32]⟩ : ByteArray)) t447) (⟨#[32, 109, 32, 108, 111, 110, 103, 44, 32]⟩ : ByteArray)) t448) (⟨#[32, 109, 32, 100, 101, 101, 112, 44, 32]⟩ : ByteArray)) t449) (⟨#[32, 108, 101, 103]⟩ : ByteArray)).size + 1 ≤ 9223372036854775807 then (some (sc (sc (sc (sc (sc (sc (sc (sc a0_0 (⟨#[58, 32]⟩ : ByteArray)) t447) (⟨#[32, 109, 32, 108, 111, 110, 103, 44, 32]⟩ : ByteArray)) t448) (⟨#[32, 109, 32, 100, 101, 101, 112, 44, 32]⟩ : ByteArray)) t449) (⟨#[32, 108, 101, 103]⟩ : ByteArray)) (⟨#[115]⟩ : ByteArray))) else (none))) else (none)) else (none))) else (none)) else (none))) else (none)) else (none)) = some r := H
   have A7 := Aside0.mk A70
   clear A70
   by_cases c8 : (sc a0_0 (⟨#[58, 32]⟩ : ByteArray)).size + t447.size ≤ 9223372036854775807
   ·
    rw [if_pos c8] at H
    have c8b0 := eq_true c8
    have c8b1 : decide ((sc a0_0 (⟨#[58, 32]⟩ : ByteArray)).size + t447.size ≤ 9223372036854775807) = true := decide_eq_true c8
    try have c8b2 : (9223372036854775807 < (sc a0_0 (⟨#[58, 32]⟩ : ByteArray)).size + t447.size) = False := eq_false (Nat.not_lt.2 c8)
    by_cases c9 : (sc (sc a0_0 (⟨#[58, 32]⟩ : ByteArray)) t447).size + 9 ≤ 9223372036854775807
    ·
     rw [if_pos c9] at H
     have c9b0 := eq_true c9
     have c9b1 : decide ((sc (sc a0_0 (⟨#[58, 32]⟩ : ByteArray)) t447).size + 9 ≤ 9223372036854775807) = true := decide_eq_true c9
     try have c9b2 : (9223372036854775807 < (sc (sc a0_0 (⟨#[58, 32]⟩ : ByteArray)) t447).size + 9) = False := eq_false (Nat.not_lt.2 c9)
     replace H := Option.bind_eq_some_iff.mp H
     obtain ⟨t448, A100, H⟩ := H
     replace H : (if (sc (sc (sc a0_0 (⟨#[58, 32]⟩ : ByteArray)) t447) (⟨#[32, 109, 32, 108, 111, 110, 103, 44, 32]⟩ : ByteArray)).size + t448.size ≤ 9223372036854775807 then (if (sc (sc (sc (sc a0_0 (⟨#[58, 32]⟩ : ByteArray)) t447) (⟨#[32, 109, 32, 108, 111, 110, 103, 44, 32]⟩ : ByteArray)) t448).size + 9 ≤ 9223372036854775807 then ((impl_decimal.f a0_3).bind fun t449 => (if (sc (sc (sc (sc (sc a0_0 (⟨#[58, 32]⟩ : ByteArray)) t447) (⟨#[32, 109, 32, 108, 111, 110, 103, 44, 32]⟩ : ByteArray)) t448) (⟨#[32, 109, 32, 100, 101, 101, 112, 44, 32]⟩ : ByteArray)).size + t449.size ≤ 9223372036854775807 then (if (sc (sc (sc (sc (sc (sc a0_0 (⟨#[58, 32]⟩ : ByteArray)) t447) (⟨#[32, 109, 32, 108, 111, 110, 103, 44, 32]⟩ : ByteArray)) t448) (⟨#[32, 109, 32, 100, 101, 101, 112, 44, 32]⟩ : ByteArray)) t449).size + 4 ≤ 9223372036854775807 then (if a0_3 = 1 then (some (sc (sc (sc (sc (sc (sc (sc a0_0 (⟨#[58, 32]⟩ : ByteArray)) t447) (⟨#[32, 109, 32, 108, 111, 110, 103, 44, 32]⟩ : ByteArray)) t448) (⟨#[32, 109, 32, 100, 101, 101, 112, 44, 32]⟩ : ByteArray)) t449) (⟨#[32, 108, 101, 103]⟩ : ByteArray))) else (if (sc (sc (sc (sc (sc (sc (sc a0_0 (⟨#[58, 32]⟩ : ByteArray)) t447) (⟨#[32, 109, 32, 108, 111, 110, 103, 44, 32]⟩ : ByteArray)) t448) (⟨#[32, 109, 32, 100, 101, 101, 112, 44, 32]⟩ : ByteArray)) t449) (⟨#[32, 108, 101, 103]⟩ : ByteArray)).size + 1 ≤ 9223372036854775807 then (some (sc (sc (sc (sc (sc (sc (sc (sc a0_0 (⟨#[58, 32]⟩ : ByteArray)) t447) (⟨#[32, 109, 32, 108, 111, 110, 103, 44, 32]⟩ : ByteArray)) t448) (⟨#[32, 109, 32, 100, 101, 101, 112, 44, 32]⟩ : ByteArray)) t449) (⟨#[32, 108, 101, 103]⟩ : ByteArray)) (⟨#[115]⟩ : ByteArray))) else (none))) else (none)) else (none))) else (none)) else (none)) = some r := H
     have A10 := Aside0.mk A100
     clear A100
     by_cases c11 : (sc (sc (sc a0_0 (⟨#[58, 32]⟩ : ByteArray)) t447) (⟨#[32, 109, 32, 108, 111, 110, 103, 44, 32]⟩ : ByteArray)).size + t448.size ≤ 9223372036854775807
     ·
      rw [if_pos c11] at H
      have c11b0 := eq_true c11
      have c11b1 : decide ((sc (sc (sc a0_0 (⟨#[58, 32]⟩ : ByteArray)) t447) (⟨#[32, 109, 32, 108, 111, 110, 103, 44, 32]⟩ : ByteArray)).size + t448.size ≤ 9223372036854775807) = true := decide_eq_true c11
      try have c11b2 : (9223372036854775807 < (sc (sc (sc a0_0 (⟨#[58, 32]⟩ : ByteArray)) t447) (⟨#[32, 109, 32, 108, 111, 110, 103, 44, 32]⟩ : ByteArray)).size + t448.size) = False := eq_false (Nat.not_lt.2 c11)
      by_cases c12 : (sc (sc (sc (sc a0_0 (⟨#[58, 32]⟩ : ByteArray)) t447) (⟨#[32, 109, 32, 108, 111, 110, 103, 44, 32]⟩ : ByteArray)) t448).size + 9 ≤ 9223372036854775807
      ·
       rw [if_pos c12] at H
       have c12b0 := eq_true c12
       have c12b1 : decide ((sc (sc (sc (sc a0_0 (⟨#[58, 32]⟩ : ByteArray)) t447) (⟨#[32, 109, 32, 108, 111, 110, 103, 44, 32]⟩ : ByteArray)) t448).size + 9 ≤ 9223372036854775807) = true := decide_eq_true c12
       try have c12b2 : (9223372036854775807 < (sc (sc (sc (sc a0_0 (⟨#[58, 32]⟩ : ByteArray)) t447) (⟨#[32, 109, 32, 108, 111, 110, 103, 44, 32]⟩ : ByteArray)) t448).size + 9) = False := eq_false (Nat.not_lt.2 c12)
       replace H := Option.bind_eq_some_iff.mp H
       obtain ⟨t449, A130, H⟩ := H
       replace H : (if (sc (sc (sc (sc (sc a0_0 (⟨#[58, 32]⟩ : ByteArray)) t447) (⟨#[32, 109, 32, 108, 111, 110, 103, 44, 32]⟩ : ByteArray)) t448) (⟨#[32, 109, 32, 100, 101, 101, 112, 44, 32]⟩ : ByteArray)).size + t449.size ≤ 9223372036854775807 then (if (sc (sc (sc (sc (sc (sc a0_0 (⟨#[58, 32]⟩ : ByteArray)) t447) (⟨#[32, 109, 32, 108, 111, 110, 103, 44, 32]⟩ : ByteArray)) t448) (⟨#[32, 109, 32, 100, 101, 101, 112, 44, 32]⟩ : ByteArray)) t449).size + 4 ≤ 9223372036854775807 then (if a0_3 = 1 then (some (sc (sc (sc (sc (sc (sc (sc a0_0 (⟨#[58, 32]⟩ : ByteArray)) t447) (⟨#[32, 109, 32, 108, 111, 110, 103, 44, 32]⟩ : ByteArray)) t448) (⟨#[32, 109, 32, 100, 101, 101, 112, 44, 32]⟩ : ByteArray)) t449) (⟨#[32, 108, 101, 103]⟩ : ByteArray))) else (if (sc (sc (sc (sc (sc (sc (sc a0_0 (⟨#[58, 32]⟩ : ByteArray)) t447) (⟨#[32, 109, 32, 108, 111, 110, 103, 44, 32]⟩ : ByteArray)) t448) (⟨#[32, 109, 32, 100, 101, 101, 112, 44, 32]⟩ : ByteArray)) t449) (⟨#[32, 108, 101, 103]⟩ : ByteArray)).size + 1 ≤ 9223372036854775807 then (some (sc (sc (sc (sc (sc (sc (sc (sc a0_0 (⟨#[58, 32]⟩ : ByteArray)) t447) (⟨#[32, 109, 32, 108, 111, 110, 103, 44, 32]⟩ : ByteArray)) t448) (⟨#[32, 109, 32, 100, 101, 101, 112, 44, 32]⟩ : ByteArray)) t449) (⟨#[32, 108, 101, 103]⟩ : ByteArray)) (⟨#[115]⟩ : ByteArray))) else (none))) else (none)) else (none)) = some r := H
       have A13 := Aside0.mk A130
       clear A130
       by_cases c14 : (sc (sc (sc (sc (sc a0_0 (⟨#[58, 32]⟩ : ByteArray)) t447) (⟨#[32, 109, 32, 108, 111, 110, 103, 44, 32]⟩ : ByteArray)) t448) (⟨#[32, 109, 32, 100, 101, 101, 112, 44, 32]⟩ : ByteArray)).size + t449.size ≤ 9223372036854775807
       ·
        rw [if_pos c14] at H
        have c14b0 := eq_true c14
        have c14b1 : decide ((sc (sc (sc (sc (sc a0_0 (⟨#[58, 32]⟩ : ByteArray)) t447) (⟨#[32, 109, 32, 108, 111, 110, 103, 44, 32]⟩ : ByteArray)) t448) (⟨#[32, 109, 32, 100, 101, 101, 112, 44, 32]⟩ : ByteArray)).size + t449.size ≤ 9223372036854775807) = true := decide_eq_true c14
        try have c14b2 : (9223372036854775807 < (sc (sc (sc (sc (sc a0_0 (⟨#[58, 32]⟩ : ByteArray)) t447) (⟨#[32, 109, 32, 108, 111, 110, 103, 44, 32]⟩ : ByteArray)) t448) (⟨#[32, 109, 32, 100, 101, 101, 112, 44, 32]⟩ : ByteArray)).size + t449.size) = False := eq_false (Nat.not_lt.2 c14)
        by_cases c15 : (sc (sc (sc (sc (sc (sc a0_0 (⟨#[58, 32]⟩ : ByteArray)) t447) (⟨#[32, 109, 32, 108, 111, 110, 103, 44, 32]⟩ : ByteArray)) t448) (⟨#[32, 109, 32, 100, 101, 101, 112, 44, 32]⟩ : ByteArray)) t449).size + 4 ≤ 9223372036854775807
        ·
         rw [if_pos c15] at H
         have c15b0 := eq_true c15
         have c15b1 : decide ((sc (sc (sc (sc (sc (sc a0_0 (⟨#[58, 32]⟩ : ByteArray)) t447) (⟨#[32, 109, 32, 108, 111, 110, 103, 44, 32]⟩ : ByteArray)) t448) (⟨#[32, 109, 32, 100, 101, 101, 112, 44, 32]⟩ : ByteArray)) t449).size + 4 ≤ 9223372036854775807) = true := decide_eq_true c15
         try have c15b2 : (9223372036854775807 < (sc (sc (sc (sc (sc (sc a0_0 (⟨#[58, 32]⟩ : ByteArray)) t447) (⟨#[32, 109, 32, 108, 111, 110, 103, 44, 32]⟩ : ByteArray)) t448) (⟨#[32, 109, 32, 100, 101, 101, 112, 44, 32]⟩ : ByteArray)) t449).size + 4) = False := eq_false (Nat.not_lt.2 c15)
         by_cases c16 : a0_3 = 1
         ·
          rw [if_pos c16] at H
          have c16b0 : (a0_3 == 1) = true := beq_iff_eq.mpr c16
          have c16b1 : (a0_3 != 1) = false := bne_eq_false_iff_eq.mpr c16
          clear c16
          obtain rfl := Option.some.inj H
          go_enter Tryd.func71, Tryd.ntmps71
          try go_wp2_with (first | ((with_reducible refine gate_dst (N := 1) rfl ?_); refine box_event ?hg (N := 1) ?hd (cs := #[.string a0_0, .int .i64 a0_1, .int .i64 a0_2, .int .i64 a0_3]) (t := 26) ?hr ?_; (case hd => rfl); (case hg => rfl); (case hr => first | (go_simp; done) | (go_simp; rfl)); intro gb446 hg w17 hbox hb; have n0_ := Aside0.mk (below_step (lb0_ HB.out) hb); have n1_ := Aside0.mk (hbox); have n2_ := Aside0.mk ((by rw [hg]; exact (below_size (lb0_ HB.out)) : w.heap.size ≤ gb446)); have n3_ := Aside0.mk ((by rw [hg]; exact (below_size (lb0_ HB.out)) : w.heap.size ≤ gb446)); clear HB; have HB := n0_; have BK446 := n1_; have GW446 := n2_; have GE446 := n3_; clear n0_ n1_ n2_ n3_; clear hb hbox hg; have hcz18_0 : w17.cell? ⟨gb446, 0, none⟩ = some (.string a0_0) := (blk_cell BK446.out 0).trans rfl; have hcz18_1 : w17.cell? ⟨gb446, 1, none⟩ = some (.int .i64 a0_1) := (blk_cell BK446.out 1).trans rfl; have hcz18_2 : w17.cell? ⟨gb446, 2, none⟩ = some (.int .i64 a0_2) := (blk_cell BK446.out 2).trans rfl; have hcz18_3 : w17.cell? ⟨gb446, 3, none⟩ = some (.int .i64 a0_3) := (blk_cell BK446.out 3).trans rfl; have hfz18_0 := blk_frozen BK446.out 0; have hfz18_1 := blk_frozen BK446.out 1; have hfz18_2 := blk_frozen BK446.out 2; have hfz18_3 := blk_frozen BK446.out 3))
          have n0_ := Aside0.mk (blk_drew BK446.out)
          have n1_ := Aside0.mk (below_drew1 HB.out)
          clear BK446
          clear HB
          have BK446 := n0_
          have HB := n1_
          clear n0_ n1_
          refine start_ (n := 21) (S := fun w' => w'.cell? ⟨gb446, 0, none⟩ = some (.string a0_0) ∧ w'.cell? ⟨gb446, 1, none⟩ = some (.int .i64 a0_1) ∧ w'.cell? ⟨gb446, 2, none⟩ = some (.int .i64 a0_2) ∧ w'.cell? ⟨gb446, 3, none⟩ = some (.int .i64 a0_3)) (ds := []) impl_caveLine.mk0 (by kernel_rfl) rfl rfl ⟨(blk_cell BK446.out 0).trans rfl, (blk_cell BK446.out 1).trans rfl, (blk_cell BK446.out 2).trans rfl, (blk_cell BK446.out 3).trans rfl⟩ (fun hHeld => ?_); refine with_tabW impl_caveLine.tab3 impl_caveLine.bits3 (fun HT_ HW_ => ?_)
          generalize w17.drew = w19 at BK446 HB hHeld ⊢
          refine pz_ HT_ 0 (some 10) impl_caveLine.mk1 ?_
          refine pz_ HT_ 3 (some 13) impl_caveLine.mk2 ?_
          refine pz_ HT_ 9 (some 19) impl_caveLine.mk3 ?_
          refine pz_ HT_ 15 (some 25) impl_caveLine.mk4 ?_
          refine take_ (i := 1) (N := some 11) (v := ?_) (a' := ?_) impl_caveLine.mk5 rfl rfl (take_ofW HT_.out HW_.out (by kernel_rfl)) (fun _ _ _ h => h) (Or.inl ⟨by rfl, ?_⟩) hHeld ?_ ?_
          rotate_left
          ·
           rintro w' ⟨s0, s1, s2, s3⟩
           go_simp
           with_reducible rfl
          rotate_left
          ·
           simp only [Act.put, List.setIfInBounds_toArray, List.set_cons_zero, List.set_cons_succ, i64_w, i32_w]
           rfl
          refine pz_ HT_ 2 (some 12) impl_caveLine.mk6 ?_
          refine take_ (i := 4) (N := some 14) (v := ?_) (a' := ?_) impl_caveLine.mk7 rfl rfl (take_ofW HT_.out HW_.out (by kernel_rfl)) (fun _ _ _ h => h) (Or.inl ⟨by rfl, ?_⟩) hHeld ?_ ?_
          rotate_left
          ·
           rintro w' ⟨s0, s1, s2, s3⟩
           go_simp
           with_reducible rfl
          rotate_left
          ·
           simp only [Act.put, List.setIfInBounds_toArray, List.set_cons_zero, List.set_cons_succ, i64_w, i32_w]
           rfl
          refine pz_ HT_ 5 (some 15) impl_caveLine.mk8 ?_
          refine take_ (i := 10) (N := some 20) (v := ?_) (a' := ?_) impl_caveLine.mk9 rfl rfl (take_ofW HT_.out HW_.out (by kernel_rfl)) (fun _ _ _ h => h) (Or.inl ⟨by rfl, ?_⟩) hHeld ?_ ?_
          rotate_left
          ·
           rintro w' ⟨s0, s1, s2, s3⟩
           go_simp
           with_reducible rfl
          rotate_left
          ·
           simp only [Act.put, List.setIfInBounds_toArray, List.set_cons_zero, List.set_cons_succ, i64_w, i32_w]
           rfl
          refine pz_ HT_ 11 (some 21) impl_caveLine.mk10 ?_
          refine take_ (i := 16) (N := some 26) (v := ?_) (a' := ?_) impl_caveLine.mk11 rfl rfl (take_ofW HT_.out HW_.out (by kernel_rfl)) (fun _ _ _ h => h) (Or.inl ⟨by rfl, ?_⟩) hHeld ?_ ?_
          rotate_left
          ·
           rintro w' ⟨s0, s1, s2, s3⟩
           go_simp
           with_reducible rfl
          rotate_left
          ·
           simp only [Act.put, List.setIfInBounds_toArray, List.set_cons_zero, List.set_cons_succ, i64_w, i32_w]
           rfl
          refine one_ (i := 6) (N := some 16) impl_caveLine.mk12 rfl rfl (one_of HT_.out (by kernel_rfl)) (by decide) (fun K hK => ?_)
          refine goes_ Tryd.func94 (by kernel_rfl) rfl #[.int .i64 (wrap64 (Int.tdiv a0_1 10))] (by rfl) rfl rfl (by (try simp only [List.map_toArray, List.map_cons, List.map_nil]); first | done | rfl | (simp only [List.length_drop, List.length_take]; rfl)) ?_
          with_reducible refine (impl_decimal.calls (wrap64 (Int.tdiv a0_1 10)) t447 _ A7.out ?sideT).mono ?_
          case sideT => first | exact HT.out | exact Tb.step HT.out HB.out | exact Tb.step HT.out (by repeat (first | (with_reducible first | exact HB.out | apply below_alloc | apply pw_below_drewN | apply below_drew1 | refine below_set ?_ GE446.out) | exact HB.out | exact Below.refl _ _))
          rintro e w20 ⟨rfl, hb⟩
          refine ⟨_, rfl, ?_⟩
          have n0_ := Aside0.mk (blk_below (g := gb446) (o := .cells #[.string a0_0, .int .i64 a0_1, .int .i64 a0_2, .int .i64 a0_3] 26 (0, 0)) (bk_ BK446.out) hb)
          have n1_ := Aside0.mk (below_step (lb1_ HB.out GE446.out) hb)
          clear BK446
          clear HB
          have BK446 := n0_
          have HB := n1_
          clear n0_ n1_
          (try clear hb)
          (try clear hb2)
          (try clear hk)
          (try clear hi)
          refine hK.out _ _ ⟨(blk_cell BK446.out 0).trans rfl, (blk_cell BK446.out 1).trans rfl, (blk_cell BK446.out 2).trans rfl, (blk_cell BK446.out 3).trans rfl⟩ (fun hHeld => ?_)
          clear hK K
          refine norm_ (a' := ?_) ?_ ?_
          rotate_left
          ·
           show Act.put _ (some 16) _ = _
           simp only [Act.put, List.setIfInBounds_toArray, List.set_cons_zero, List.set_cons_succ, i64_w, i32_w]
           rfl
          refine pz_ HT_ 7 (some 17) impl_caveLine.mk13 ?_
          refine pz_ HT_ 8 (some 18) impl_caveLine.mk14 ?_
          refine one_ (i := 12) (N := some 22) impl_caveLine.mk15 rfl rfl (one_of HT_.out (by kernel_rfl)) (by decide) (fun K hK => ?_)
          refine goes_ Tryd.func94 (by kernel_rfl) rfl #[.int .i64 (wrap64 (Int.tdiv a0_2 10))] (by rfl) rfl rfl (by (try simp only [List.map_toArray, List.map_cons, List.map_nil]); first | done | rfl | (simp only [List.length_drop, List.length_take]; rfl)) ?_
          with_reducible refine (impl_decimal.calls (wrap64 (Int.tdiv a0_2 10)) t448 _ A10.out ?sideT).mono ?_
          case sideT => first | exact HT.out | exact Tb.step HT.out HB.out | exact Tb.step HT.out (by repeat (first | (with_reducible first | exact HB.out | apply below_alloc | apply pw_below_drewN | apply below_drew1 | refine below_set ?_ GE446.out) | exact HB.out | exact Below.refl _ _))
          rintro e w21 ⟨rfl, hb⟩
          refine ⟨_, rfl, ?_⟩
          have n0_ := Aside0.mk (blk_below (g := gb446) (o := .cells #[.string a0_0, .int .i64 a0_1, .int .i64 a0_2, .int .i64 a0_3] 26 (0, 0)) (bk_ BK446.out) hb)
          have n1_ := Aside0.mk (below_step (lb1_ HB.out GE446.out) hb)
          clear BK446
          clear HB
          have BK446 := n0_
          have HB := n1_
          clear n0_ n1_
          (try clear hb)
          (try clear hb2)
          (try clear hk)
          (try clear hi)
          refine hK.out _ _ ⟨(blk_cell BK446.out 0).trans rfl, (blk_cell BK446.out 1).trans rfl, (blk_cell BK446.out 2).trans rfl, (blk_cell BK446.out 3).trans rfl⟩ (fun hHeld => ?_)
          clear hK K
          refine norm_ (a' := ?_) ?_ ?_
          rotate_left
          ·
           show Act.put _ (some 22) _ = _
           simp only [Act.put, List.setIfInBounds_toArray, List.set_cons_zero, List.set_cons_succ, i64_w, i32_w]
           rfl
          refine pz_ HT_ 13 (some 23) impl_caveLine.mk16 ?_
          refine pz_ HT_ 14 (some 24) impl_caveLine.mk17 ?_
          refine one_ (i := 17) (N := some 27) impl_caveLine.mk18 rfl rfl (one_of HT_.out (by kernel_rfl)) (by decide) (fun K hK => ?_)
          refine goes_ Tryd.func94 (by kernel_rfl) rfl #[.int .i64 a0_3] (by rfl) rfl rfl (by (try simp only [List.map_toArray, List.map_cons, List.map_nil]); first | done | rfl | (simp only [List.length_drop, List.length_take]; rfl)) ?_
          with_reducible refine (impl_decimal.calls a0_3 t449 _ A13.out ?sideT).mono ?_
          case sideT => first | exact HT.out | exact Tb.step HT.out HB.out | exact Tb.step HT.out (by repeat (first | (with_reducible first | exact HB.out | apply below_alloc | apply pw_below_drewN | apply below_drew1 | refine below_set ?_ GE446.out) | exact HB.out | exact Below.refl _ _))
          rintro e w22 ⟨rfl, hb⟩
          refine ⟨_, rfl, ?_⟩
          have n0_ := Aside0.mk (blk_below (g := gb446) (o := .cells #[.string a0_0, .int .i64 a0_1, .int .i64 a0_2, .int .i64 a0_3] 26 (0, 0)) (bk_ BK446.out) hb)
          have n1_ := Aside0.mk (below_step (lb1_ HB.out GE446.out) hb)
          clear BK446
          clear HB
          have BK446 := n0_
          have HB := n1_
          clear n0_ n1_
          (try clear hb)
          (try clear hb2)
          (try clear hk)
          (try clear hi)
          refine hK.out _ _ ⟨(blk_cell BK446.out 0).trans rfl, (blk_cell BK446.out 1).trans rfl, (blk_cell BK446.out 2).trans rfl, (blk_cell BK446.out 3).trans rfl⟩ (fun hHeld => ?_)
          clear hK K
          refine norm_ (a' := ?_) ?_ ?_
          rotate_left
          ·
           show Act.put _ (some 27) _ = _
           simp only [Act.put, List.setIfInBounds_toArray, List.set_cons_zero, List.set_cons_succ, i64_w, i32_w]
           rfl
          refine pz_ HT_ 18 (some 28) impl_caveLine.mk19 ?_
          refine pz_ HT_ 19 (some 29) impl_caveLine.mk20 ?_
          refine pz_ HT_ 20 (some 3) impl_caveLine.mk21 ?_
          refine done_ (done_of HT_.out (by kernel_rfl)) ?_
          have hcz23_0 : w22.cell? ⟨gb446, 0, none⟩ = some (.string a0_0) := (blk_cell BK446.out 0).trans rfl
          have hcz23_1 : w22.cell? ⟨gb446, 1, none⟩ = some (.int .i64 a0_1) := (blk_cell BK446.out 1).trans rfl
          have hcz23_2 : w22.cell? ⟨gb446, 2, none⟩ = some (.int .i64 a0_2) := (blk_cell BK446.out 2).trans rfl
          have hcz23_3 : w22.cell? ⟨gb446, 3, none⟩ = some (.int .i64 a0_3) := (blk_cell BK446.out 3).trans rfl
          have hfz23_0 := blk_frozen BK446.out 0
          have hfz23_1 := blk_frozen BK446.out 1
          have hfz23_2 := blk_frozen BK446.out 2
          have hfz23_3 := blk_frozen BK446.out 3
          try go_wp2
          go_ret
          exact ⟨rr_, lb1_ HB.out GE446.out⟩
         ·
          rw [if_neg c16] at H
          have c16b0 : (a0_3 == 1) = false := beq_eq_false_iff_ne.mpr c16
          have c16b1 : (a0_3 != 1) = true := bne_iff_ne.mpr c16
          by_cases c24 : (sc (sc (sc (sc (sc (sc (sc a0_0 (⟨#[58, 32]⟩ : ByteArray)) t447) (⟨#[32, 109, 32, 108, 111, 110, 103, 44, 32]⟩ : ByteArray)) t448) (⟨#[32, 109, 32, 100, 101, 101, 112, 44, 32]⟩ : ByteArray)) t449) (⟨#[32, 108, 101, 103]⟩ : ByteArray)).size + 1 ≤ 9223372036854775807
          ·
           rw [if_pos c24] at H
           have c24b0 := eq_true c24
           have c24b1 : decide ((sc (sc (sc (sc (sc (sc (sc a0_0 (⟨#[58, 32]⟩ : ByteArray)) t447) (⟨#[32, 109, 32, 108, 111, 110, 103, 44, 32]⟩ : ByteArray)) t448) (⟨#[32, 109, 32, 100, 101, 101, 112, 44, 32]⟩ : ByteArray)) t449) (⟨#[32, 108, 101, 103]⟩ : ByteArray)).size + 1 ≤ 9223372036854775807) = true := decide_eq_true c24
           try have c24b2 : (9223372036854775807 < (sc (sc (sc (sc (sc (sc (sc a0_0 (⟨#[58, 32]⟩ : ByteArray)) t447) (⟨#[32, 109, 32, 108, 111, 110, 103, 44, 32]⟩ : ByteArray)) t448) (⟨#[32, 109, 32, 100, 101, 101, 112, 44, 32]⟩ : ByteArray)) t449) (⟨#[32, 108, 101, 103]⟩ : ByteArray)).size + 1) = False := eq_false (Nat.not_lt.2 c24)
           obtain rfl := Option.some.inj H
           go_enter Tryd.func71, Tryd.ntmps71
           try go_wp2_with (first | ((with_reducible refine gate_dst (N := 1) rfl ?_); refine box_event ?hg (N := 1) ?hd (cs := #[.string a0_0, .int .i64 a0_1, .int .i64 a0_2, .int .i64 a0_3]) (t := 26) ?hr ?_; (case hd => rfl); (case hg => rfl); (case hr => first | (go_simp; done) | (go_simp; rfl)); intro gb446 hg w25 hbox hb; have n0_ := Aside0.mk (below_step (lb0_ HB.out) hb); have n1_ := Aside0.mk (hbox); have n2_ := Aside0.mk ((by rw [hg]; exact (below_size (lb0_ HB.out)) : w.heap.size ≤ gb446)); have n3_ := Aside0.mk ((by rw [hg]; exact (below_size (lb0_ HB.out)) : w.heap.size ≤ gb446)); clear HB; have HB := n0_; have BK446 := n1_; have GW446 := n2_; have GE446 := n3_; clear n0_ n1_ n2_ n3_; clear hb hbox hg; have hcz26_0 : w25.cell? ⟨gb446, 0, none⟩ = some (.string a0_0) := (blk_cell BK446.out 0).trans rfl; have hcz26_1 : w25.cell? ⟨gb446, 1, none⟩ = some (.int .i64 a0_1) := (blk_cell BK446.out 1).trans rfl; have hcz26_2 : w25.cell? ⟨gb446, 2, none⟩ = some (.int .i64 a0_2) := (blk_cell BK446.out 2).trans rfl; have hcz26_3 : w25.cell? ⟨gb446, 3, none⟩ = some (.int .i64 a0_3) := (blk_cell BK446.out 3).trans rfl; have hfz26_0 := blk_frozen BK446.out 0; have hfz26_1 := blk_frozen BK446.out 1; have hfz26_2 := blk_frozen BK446.out 2; have hfz26_3 := blk_frozen BK446.out 3))
           have n0_ := Aside0.mk (blk_drew BK446.out)
           have n1_ := Aside0.mk (below_drew1 HB.out)
           clear BK446
           clear HB
           have BK446 := n0_
           have HB := n1_
           clear n0_ n1_
           refine start_ (n := 21) (S := fun w' => w'.cell? ⟨gb446, 0, none⟩ = some (.string a0_0) ∧ w'.cell? ⟨gb446, 1, none⟩ = some (.int .i64 a0_1) ∧ w'.cell? ⟨gb446, 2, none⟩ = some (.int .i64 a0_2) ∧ w'.cell? ⟨gb446, 3, none⟩ = some (.int .i64 a0_3)) (ds := []) impl_caveLine.mk0 (by kernel_rfl) rfl rfl ⟨(blk_cell BK446.out 0).trans rfl, (blk_cell BK446.out 1).trans rfl, (blk_cell BK446.out 2).trans rfl, (blk_cell BK446.out 3).trans rfl⟩ (fun hHeld => ?_); refine with_tabW impl_caveLine.tab3 impl_caveLine.bits3 (fun HT_ HW_ => ?_)
           generalize w25.drew = w27 at BK446 HB hHeld ⊢
           refine pz_ HT_ 0 (some 10) impl_caveLine.mk1 ?_
           refine pz_ HT_ 3 (some 13) impl_caveLine.mk2 ?_
           refine pz_ HT_ 9 (some 19) impl_caveLine.mk3 ?_
           refine pz_ HT_ 15 (some 25) impl_caveLine.mk4 ?_
           refine take_ (i := 1) (N := some 11) (v := ?_) (a' := ?_) impl_caveLine.mk5 rfl rfl (take_ofW HT_.out HW_.out (by kernel_rfl)) (fun _ _ _ h => h) (Or.inl ⟨by rfl, ?_⟩) hHeld ?_ ?_
           rotate_left
           ·
            rintro w' ⟨s0, s1, s2, s3⟩
            go_simp
            with_reducible rfl
           rotate_left
           ·
            simp only [Act.put, List.setIfInBounds_toArray, List.set_cons_zero, List.set_cons_succ, i64_w, i32_w]
            rfl
           refine pz_ HT_ 2 (some 12) impl_caveLine.mk6 ?_
           refine take_ (i := 4) (N := some 14) (v := ?_) (a' := ?_) impl_caveLine.mk7 rfl rfl (take_ofW HT_.out HW_.out (by kernel_rfl)) (fun _ _ _ h => h) (Or.inl ⟨by rfl, ?_⟩) hHeld ?_ ?_
           rotate_left
           ·
            rintro w' ⟨s0, s1, s2, s3⟩
            go_simp
            with_reducible rfl
           rotate_left
           ·
            simp only [Act.put, List.setIfInBounds_toArray, List.set_cons_zero, List.set_cons_succ, i64_w, i32_w]
            rfl
           refine pz_ HT_ 5 (some 15) impl_caveLine.mk8 ?_
           refine take_ (i := 10) (N := some 20) (v := ?_) (a' := ?_) impl_caveLine.mk9 rfl rfl (take_ofW HT_.out HW_.out (by kernel_rfl)) (fun _ _ _ h => h) (Or.inl ⟨by rfl, ?_⟩) hHeld ?_ ?_
           rotate_left
           ·
            rintro w' ⟨s0, s1, s2, s3⟩
            go_simp
            with_reducible rfl
           rotate_left
           ·
            simp only [Act.put, List.setIfInBounds_toArray, List.set_cons_zero, List.set_cons_succ, i64_w, i32_w]
            rfl
           refine pz_ HT_ 11 (some 21) impl_caveLine.mk10 ?_
           refine take_ (i := 16) (N := some 26) (v := ?_) (a' := ?_) impl_caveLine.mk11 rfl rfl (take_ofW HT_.out HW_.out (by kernel_rfl)) (fun _ _ _ h => h) (Or.inl ⟨by rfl, ?_⟩) hHeld ?_ ?_
           rotate_left
           ·
            rintro w' ⟨s0, s1, s2, s3⟩
            go_simp
            with_reducible rfl
           rotate_left
           ·
            simp only [Act.put, List.setIfInBounds_toArray, List.set_cons_zero, List.set_cons_succ, i64_w, i32_w]
            rfl
           refine one_ (i := 6) (N := some 16) impl_caveLine.mk12 rfl rfl (one_of HT_.out (by kernel_rfl)) (by decide) (fun K hK => ?_)
           refine goes_ Tryd.func94 (by kernel_rfl) rfl #[.int .i64 (wrap64 (Int.tdiv a0_1 10))] (by rfl) rfl rfl (by (try simp only [List.map_toArray, List.map_cons, List.map_nil]); first | done | rfl | (simp only [List.length_drop, List.length_take]; rfl)) ?_
           with_reducible refine (impl_decimal.calls (wrap64 (Int.tdiv a0_1 10)) t447 _ A7.out ?sideT).mono ?_
           case sideT => first | exact HT.out | exact Tb.step HT.out HB.out | exact Tb.step HT.out (by repeat (first | (with_reducible first | exact HB.out | apply below_alloc | apply pw_below_drewN | apply below_drew1 | refine below_set ?_ GE446.out) | exact HB.out | exact Below.refl _ _))
           rintro e w28 ⟨rfl, hb⟩
           refine ⟨_, rfl, ?_⟩
           have n0_ := Aside0.mk (blk_below (g := gb446) (o := .cells #[.string a0_0, .int .i64 a0_1, .int .i64 a0_2, .int .i64 a0_3] 26 (0, 0)) (bk_ BK446.out) hb)
           have n1_ := Aside0.mk (below_step (lb1_ HB.out GE446.out) hb)
           clear BK446
           clear HB
           have BK446 := n0_
           have HB := n1_
           clear n0_ n1_
           (try clear hb)
           (try clear hb2)
           (try clear hk)
           (try clear hi)
           refine hK.out _ _ ⟨(blk_cell BK446.out 0).trans rfl, (blk_cell BK446.out 1).trans rfl, (blk_cell BK446.out 2).trans rfl, (blk_cell BK446.out 3).trans rfl⟩ (fun hHeld => ?_)
           clear hK K
           refine norm_ (a' := ?_) ?_ ?_
           rotate_left
           ·
            show Act.put _ (some 16) _ = _
            simp only [Act.put, List.setIfInBounds_toArray, List.set_cons_zero, List.set_cons_succ, i64_w, i32_w]
            rfl
           refine pz_ HT_ 7 (some 17) impl_caveLine.mk13 ?_
           refine pz_ HT_ 8 (some 18) impl_caveLine.mk14 ?_
           refine one_ (i := 12) (N := some 22) impl_caveLine.mk15 rfl rfl (one_of HT_.out (by kernel_rfl)) (by decide) (fun K hK => ?_)
           refine goes_ Tryd.func94 (by kernel_rfl) rfl #[.int .i64 (wrap64 (Int.tdiv a0_2 10))] (by rfl) rfl rfl (by (try simp only [List.map_toArray, List.map_cons, List.map_nil]); first | done | rfl | (simp only [List.length_drop, List.length_take]; rfl)) ?_
           with_reducible refine (impl_decimal.calls (wrap64 (Int.tdiv a0_2 10)) t448 _ A10.out ?sideT).mono ?_
           case sideT => first | exact HT.out | exact Tb.step HT.out HB.out | exact Tb.step HT.out (by repeat (first | (with_reducible first | exact HB.out | apply below_alloc | apply pw_below_drewN | apply below_drew1 | refine below_set ?_ GE446.out) | exact HB.out | exact Below.refl _ _))
           rintro e w29 ⟨rfl, hb⟩
           refine ⟨_, rfl, ?_⟩
           have n0_ := Aside0.mk (blk_below (g := gb446) (o := .cells #[.string a0_0, .int .i64 a0_1, .int .i64 a0_2, .int .i64 a0_3] 26 (0, 0)) (bk_ BK446.out) hb)
           have n1_ := Aside0.mk (below_step (lb1_ HB.out GE446.out) hb)
           clear BK446
           clear HB
           have BK446 := n0_
           have HB := n1_
           clear n0_ n1_
           (try clear hb)
           (try clear hb2)
           (try clear hk)
           (try clear hi)
           refine hK.out _ _ ⟨(blk_cell BK446.out 0).trans rfl, (blk_cell BK446.out 1).trans rfl, (blk_cell BK446.out 2).trans rfl, (blk_cell BK446.out 3).trans rfl⟩ (fun hHeld => ?_)
           clear hK K
           refine norm_ (a' := ?_) ?_ ?_
           rotate_left
           ·
            show Act.put _ (some 22) _ = _
            simp only [Act.put, List.setIfInBounds_toArray, List.set_cons_zero, List.set_cons_succ, i64_w, i32_w]
            rfl
           refine pz_ HT_ 13 (some 23) impl_caveLine.mk16 ?_
           refine pz_ HT_ 14 (some 24) impl_caveLine.mk17 ?_
           refine one_ (i := 17) (N := some 27) impl_caveLine.mk18 rfl rfl (one_of HT_.out (by kernel_rfl)) (by decide) (fun K hK => ?_)
           refine goes_ Tryd.func94 (by kernel_rfl) rfl #[.int .i64 a0_3] (by rfl) rfl rfl (by (try simp only [List.map_toArray, List.map_cons, List.map_nil]); first | done | rfl | (simp only [List.length_drop, List.length_take]; rfl)) ?_
           with_reducible refine (impl_decimal.calls a0_3 t449 _ A13.out ?sideT).mono ?_
           case sideT => first | exact HT.out | exact Tb.step HT.out HB.out | exact Tb.step HT.out (by repeat (first | (with_reducible first | exact HB.out | apply below_alloc | apply pw_below_drewN | apply below_drew1 | refine below_set ?_ GE446.out) | exact HB.out | exact Below.refl _ _))
           rintro e w30 ⟨rfl, hb⟩
           refine ⟨_, rfl, ?_⟩
           have n0_ := Aside0.mk (blk_below (g := gb446) (o := .cells #[.string a0_0, .int .i64 a0_1, .int .i64 a0_2, .int .i64 a0_3] 26 (0, 0)) (bk_ BK446.out) hb)
           have n1_ := Aside0.mk (below_step (lb1_ HB.out GE446.out) hb)
           clear BK446
           clear HB
           have BK446 := n0_
           have HB := n1_
           clear n0_ n1_
           (try clear hb)
           (try clear hb2)
           (try clear hk)
           (try clear hi)
           refine hK.out _ _ ⟨(blk_cell BK446.out 0).trans rfl, (blk_cell BK446.out 1).trans rfl, (blk_cell BK446.out 2).trans rfl, (blk_cell BK446.out 3).trans rfl⟩ (fun hHeld => ?_)
           clear hK K
           refine norm_ (a' := ?_) ?_ ?_
           rotate_left
           ·
            show Act.put _ (some 27) _ = _
            simp only [Act.put, List.setIfInBounds_toArray, List.set_cons_zero, List.set_cons_succ, i64_w, i32_w]
            rfl
           refine pz_ HT_ 18 (some 28) impl_caveLine.mk19 ?_
           refine pz_ HT_ 19 (some 29) impl_caveLine.mk20 ?_
           refine pz_ HT_ 20 (some 3) impl_caveLine.mk21 ?_
           refine done_ (done_of HT_.out (by kernel_rfl)) ?_
           have hcz31_0 : w30.cell? ⟨gb446, 0, none⟩ = some (.string a0_0) := (blk_cell BK446.out 0).trans rfl
           have hcz31_1 : w30.cell? ⟨gb446, 1, none⟩ = some (.int .i64 a0_1) := (blk_cell BK446.out 1).trans rfl
           have hcz31_2 : w30.cell? ⟨gb446, 2, none⟩ = some (.int .i64 a0_2) := (blk_cell BK446.out 2).trans rfl
           have hcz31_3 : w30.cell? ⟨gb446, 3, none⟩ = some (.int .i64 a0_3) := (blk_cell BK446.out 3).trans rfl
           have hfz31_0 := blk_frozen BK446.out 0
           have hfz31_1 := blk_frozen BK446.out 1
           have hfz31_2 := blk_frozen BK446.out 2
           have hfz31_3 := blk_frozen BK446.out 3
           try go_wp2
           go_ret
           exact ⟨rr_, lb1_ HB.out GE446.out⟩
          ·
           rw [if_neg c24] at H
           exact absurd H (by simp)
        ·
         rw [if_neg c15] at H
         exact absurd H (by simp)
       ·
        rw [if_neg c14] at H
        exact absurd H (by simp)
      ·
       rw [if_neg c12] at H
       exact absurd H (by simp)
     ·
      rw [if_neg c11] at H
      exact absurd H (by simp)
    ·
     rw [if_neg c9] at H
     exact absurd H (by simp)
   ·
    rw [if_neg c8] at H
    exact absurd H (by simp)
  ·
   rw [if_neg c6] at H
   exact absurd H (by simp)
end Go.Proofs.YteepnlofbfccgaaDoor.Pr

namespace Go.Proofs.YteepnlofbfccgaaDoor.Pr
open Go.RowKit Go.Proofs.YteepnlofbfccgaaDoorW.PrintWords Go.Proofs.YteepnlofbfccgaaDoorW.PrintLast Go.Proofs.YteepnlofbfccgaaDoorW.PrintMore
attribute [local go_sem] max2_int min2_int max_two min_two max_three min_three max_four min_four   -- for this text's walks alone
set_option linter.unusedVariables false
set_option linter.unusedSimpArgs false
def impl_CaveLine.f (a0_0 : ByteArray) (a0_1 : Int) (a0_2 : Int) (a0_3 : Int) : Option (ByteArray × Bool) := (impl_IsCaveRow.f a0_0 a0_1 a0_2 a0_3).bind fun t451 => (if t451 = true then ((impl_caveLine.f a0_0 a0_1 a0_2 a0_3).bind fun t452 => (some (t452, true))) else (some ((⟨#[]⟩ : ByteArray), false)))
set_option maxHeartbeats 8000000 in
set_option maxRecDepth 100000 in
theorem impl_CaveLine.calls (a0_0 : ByteArray) (a0_1 : Int) (a0_2 : Int) (a0_3 : Int) (r1 : ByteArray) (r2 : Bool) (w : World) (h : impl_CaveLine.f a0_0 a0_1 a0_2 a0_3 = some (r1, r2)) (hT : Tb w) :
  Calls Tryd.prog 38 #[.agg #[.string a0_0, .int .i64 a0_1, .int .i64 a0_2, .int .i64 a0_3]] w fun e w' => e = .returned (.tuple #[.string r1, .bool r2]) ∧ Below w.heap.size w w' := by
 have HT := Aside0.mk hT
 clear hT
 have hu26 := Tryd.underlying26
 have HB := Aside0.mk (Below.refl w.heap.size w)
 have H : ((impl_IsCaveRow.f a0_0 a0_1 a0_2 a0_3).bind fun t451 => (if t451 = true then ((impl_caveLine.f a0_0 a0_1 a0_2 a0_3).bind fun t452 => (some (t452, true))) else (some ((⟨#[]⟩ : ByteArray), false)))) = some (r1, r2) := h
 clear h
 replace H := Option.bind_eq_some_iff.mp H
 obtain ⟨t451, A20, H⟩ := H
 replace H : (if t451 = true then ((impl_caveLine.f a0_0 a0_1 a0_2 a0_3).bind fun t452 => (some (t452, true))) else (some ((⟨#[]⟩ : ByteArray), false))) = some (r1, r2) := H
 have A2 := Aside0.mk A20
 clear A20
 by_cases c3 : t451 = true
 ·
  subst c3
  have H1 : ((impl_caveLine.f a0_0 a0_1 a0_2 a0_3).bind fun t452 => (some (t452, true))) = some (r1, r2) := by rw [if_pos rfl] at H; exact H
  clear H
  have H := H1
  clear H1
  replace H := Option.bind_eq_some_iff.mp H
  obtain ⟨t452, A40, H⟩ := H
  replace H : (some (t452, true)) = some (r1, r2) := H
  have A4 := Aside0.mk A40
  clear A40
  simp only [Option.some.injEq, Prod.mk.injEq] at H
  obtain ⟨rfl, rfl⟩ := H
  go_enter Tryd.func38, Tryd.ntmps38
  go_wp2_with (first | ((with_reducible refine gate_dst (N := 1) rfl ?_); refine box_event ?hg (N := 1) ?hd (cs := #[.string a0_0, .int .i64 a0_1, .int .i64 a0_2, .int .i64 a0_3]) (t := 26) ?hr ?_; (case hd => rfl); (case hg => rfl); (case hr => first | (go_simp; done) | (go_simp; rfl)); intro gb450 hg w5 hbox hb; have n0_ := Aside0.mk (below_step (lb0_ HB.out) hb); have n1_ := Aside0.mk (hbox); have n2_ := Aside0.mk ((by rw [hg]; exact (below_size (lb0_ HB.out)) : w.heap.size ≤ gb450)); have n3_ := Aside0.mk ((by rw [hg]; exact (below_size (lb0_ HB.out)) : w.heap.size ≤ gb450)); clear HB; have HB := n0_; have BK450 := n1_; have GW450 := n2_; have GE450 := n3_; clear n0_ n1_ n2_ n3_; clear hb hbox hg; have hcz6_0 : w5.cell? ⟨gb450, 0, none⟩ = some (.string a0_0) := (blk_cell BK450.out 0).trans rfl; have hcz6_1 : w5.cell? ⟨gb450, 1, none⟩ = some (.int .i64 a0_1) := (blk_cell BK450.out 1).trans rfl; have hcz6_2 : w5.cell? ⟨gb450, 2, none⟩ = some (.int .i64 a0_2) := (blk_cell BK450.out 2).trans rfl; have hcz6_3 : w5.cell? ⟨gb450, 3, none⟩ = some (.int .i64 a0_3) := (blk_cell BK450.out 3).trans rfl; have hfz6_0 := blk_frozen BK450.out 0; have hfz6_1 := blk_frozen BK450.out 1; have hfz6_2 := blk_frozen BK450.out 2; have hfz6_3 := blk_frozen BK450.out 3) | ((with_reducible refine gate_callee (f := 18) rfl ?_); refine ga_ (some 5) Tryd.func18 #[.agg #[.string a0_0, .int .i64 a0_1, .int .i64 a0_2, .int .i64 a0_3]] ?_; (with_reducible refine (impl_IsCaveRow.calls a0_0 a0_1 a0_2 a0_3 true _ A2.out).mono ?_); rintro e w7 ⟨rfl, hb⟩; refine ⟨_, rfl, ?_⟩; have n0_ := Aside0.mk (blk_below (g := gb450) (o := .cells #[.string a0_0, .int .i64 a0_1, .int .i64 a0_2, .int .i64 a0_3] 26 (0, 0)) (bk_ BK450.out) hb); have n1_ := Aside0.mk (below_step (lb1_ HB.out GE450.out) hb); clear BK450; clear HB; have BK450 := n0_; have HB := n1_; clear n0_ n1_; (try clear hb); (try clear hb2); (try clear hk); (try clear hi); have hcz8_0 : w7.cell? ⟨gb450, 0, none⟩ = some (.string a0_0) := (blk_cell BK450.out 0).trans rfl; have hcz8_1 : w7.cell? ⟨gb450, 1, none⟩ = some (.int .i64 a0_1) := (blk_cell BK450.out 1).trans rfl; have hcz8_2 : w7.cell? ⟨gb450, 2, none⟩ = some (.int .i64 a0_2) := (blk_cell BK450.out 2).trans rfl; have hcz8_3 : w7.cell? ⟨gb450, 3, none⟩ = some (.int .i64 a0_3) := (blk_cell BK450.out 3).trans rfl; have hfz8_0 := blk_frozen BK450.out 0; have hfz8_1 := blk_frozen BK450.out 1; have hfz8_2 := blk_frozen BK450.out 2; have hfz8_3 := blk_frozen BK450.out 3) | ((with_reducible refine gate_callee (f := 71) rfl ?_); refine ga_ (some 8) Tryd.func71 #[.agg #[.string a0_0, .int .i64 a0_1, .int .i64 a0_2, .int .i64 a0_3]] ?_; (with_reducible refine (impl_caveLine.calls a0_0 a0_1 a0_2 a0_3 t452 _ A4.out ?sideT).mono ?_); (case sideT => first | exact HT.out | exact Tb.step HT.out HB.out | exact Tb.step HT.out (by repeat (first | (with_reducible first | exact HB.out | apply below_alloc | apply pw_below_drewN | apply below_drew1 | refine below_set ?_ GE450.out) | exact HB.out | exact Below.refl _ _))); rintro e w9 ⟨rfl, hb⟩; refine ⟨_, rfl, ?_⟩; have n0_ := Aside0.mk (blk_below (g := gb450) (o := .cells #[.string a0_0, .int .i64 a0_1, .int .i64 a0_2, .int .i64 a0_3] 26 (0, 0)) (bk_ BK450.out) hb); have n1_ := Aside0.mk (below_step (lb1_ HB.out GE450.out) hb); clear BK450; clear HB; have BK450 := n0_; have HB := n1_; clear n0_ n1_; (try clear hb); (try clear hb2); (try clear hk); (try clear hi)))
  go_ret2
  exact ⟨rr_, lb1_ HB.out GE450.out⟩
 ·
  replace c3 := Bool.eq_false_iff.mpr c3
  subst c3
  have H1 : (some ((⟨#[]⟩ : ByteArray), false)) = some (r1, r2) := by rw [if_neg (show ¬ (false = true) by decide)] at H; exact H
  clear H
  have H := H1
  clear H1
  simp only [Option.some.injEq, Prod.mk.injEq] at H
  obtain ⟨rfl, rfl⟩ := H
  go_enter Tryd.func38, Tryd.ntmps38
  go_wp2_with (first | ((with_reducible refine gate_dst (N := 1) rfl ?_); refine box_event ?hg (N := 1) ?hd (cs := #[.string a0_0, .int .i64 a0_1, .int .i64 a0_2, .int .i64 a0_3]) (t := 26) ?hr ?_; (case hd => rfl); (case hg => rfl); (case hr => first | (go_simp; done) | (go_simp; rfl)); intro gb450 hg w10 hbox hb; have n0_ := Aside0.mk (below_step (lb0_ HB.out) hb); have n1_ := Aside0.mk (hbox); have n2_ := Aside0.mk ((by rw [hg]; exact (below_size (lb0_ HB.out)) : w.heap.size ≤ gb450)); have n3_ := Aside0.mk ((by rw [hg]; exact (below_size (lb0_ HB.out)) : w.heap.size ≤ gb450)); clear HB; have HB := n0_; have BK450 := n1_; have GW450 := n2_; have GE450 := n3_; clear n0_ n1_ n2_ n3_; clear hb hbox hg; have hcz11_0 : w10.cell? ⟨gb450, 0, none⟩ = some (.string a0_0) := (blk_cell BK450.out 0).trans rfl; have hcz11_1 : w10.cell? ⟨gb450, 1, none⟩ = some (.int .i64 a0_1) := (blk_cell BK450.out 1).trans rfl; have hcz11_2 : w10.cell? ⟨gb450, 2, none⟩ = some (.int .i64 a0_2) := (blk_cell BK450.out 2).trans rfl; have hcz11_3 : w10.cell? ⟨gb450, 3, none⟩ = some (.int .i64 a0_3) := (blk_cell BK450.out 3).trans rfl; have hfz11_0 := blk_frozen BK450.out 0; have hfz11_1 := blk_frozen BK450.out 1; have hfz11_2 := blk_frozen BK450.out 2; have hfz11_3 := blk_frozen BK450.out 3) | ((with_reducible refine gate_callee (f := 18) rfl ?_); refine ga_ (some 5) Tryd.func18 #[.agg #[.string a0_0, .int .i64 a0_1, .int .i64 a0_2, .int .i64 a0_3]] ?_; (with_reducible refine (impl_IsCaveRow.calls a0_0 a0_1 a0_2 a0_3 false _ A2.out).mono ?_); rintro e w12 ⟨rfl, hb⟩; refine ⟨_, rfl, ?_⟩; have n0_ := Aside0.mk (blk_below (g := gb450) (o := .cells #[.string a0_0, .int .i64 a0_1, .int .i64 a0_2, .int .i64 a0_3] 26 (0, 0)) (bk_ BK450.out) hb); have n1_ := Aside0.mk (below_step (lb1_ HB.out GE450.out) hb); clear BK450; clear HB; have BK450 := n0_; have HB := n1_; clear n0_ n1_; (try clear hb); (try clear hb2); (try clear hk); (try clear hi)))
  go_ret2
  exact ⟨rr_, lb1_ HB.out GE450.out⟩
end Go.Proofs.YteepnlofbfccgaaDoor.Pr

namespace Go.Proofs.YteepnlofbfccgaaDoor.Pr
open Go.RowKit Go.Proofs.YteepnlofbfccgaaDoorW.PrintWords Go.Proofs.YteepnlofbfccgaaDoorW.PrintLast Go.Proofs.YteepnlofbfccgaaDoorW.PrintMore
attribute [local go_sem] max2_int min2_int max_two min_two max_three min_three max_four min_four sc_in sx_in   -- for this text's walks alone
set_option linter.unusedVariables false
set_option linter.unusedSimpArgs false
def spec_CavesText.l0 : Nat → List (S26) → ByteArray → Int → Option (ByteArray × Bool)
 | 0, _, _, _ => none
 | k + 1, x0, x4, x5 => if x5 < (x0.length : Int) then (if 0 ≤ x5 then ((spec_l26Line.f k ((rd_T26 x0 x5).f0) ((rd_T26 x0 x5).f1) ((rd_T26 x0 x5).f2) ((rd_T26 x0 x5).f3)).bind fun t513 => (if x4.size + t513.size ≤ 9223372036854775807 then (if (sc x4 t513).size + 1 ≤ 9223372036854775807 then (spec_CavesText.l0 k x0 (sc (sc x4 t513) (⟨#[10]⟩ : ByteArray)) (wrap64 (x5 + 1))) else (none)) else (none))) else (none)) else (some (x4, true))
def spec_CavesText.f (k : Nat) (l0 : List (S26)) : Option (ByteArray × Bool) := (spec_l26Good.f k l0).bind fun t511 => (if t511 = true then (spec_CavesText.l0 k l0 (⟨#[]⟩ : ByteArray) 0) else (some ((⟨#[]⟩ : ByteArray), false)))
set_option maxHeartbeats 8000000 in
set_option maxRecDepth 100000 in
theorem spec_CavesText.calls (k : Nat) (A0 : Option Addr) (c0 : Nat) (l0 : List (S26)) (r1 : ByteArray) (r2 : Bool) (w : World) (hr0 : Kd.C k26 w A0 l0.length l0) (hc0 : l0.length ≤ c0) (h : spec_CavesText.f k l0 = some (r1, r2)) :
  Calls Tryd.prog 41 #[.slice A0 l0.length c0] w fun e w' => e = .returned (.tuple #[.string r1, .bool r2]) ∧ Below w.heap.size w w' := by
 have hu26 := Tryd.underlying26
 have HR0 := Aside0.mk hr0
 have HC0 := Aside0.mk hc0
 clear hr0 hc0
 have HB := Aside0.mk (Below.refl w.heap.size w)
 have H : ((spec_l26Good.f k l0).bind fun t511 => (if t511 = true then (spec_CavesText.l0 k l0 (⟨#[]⟩ : ByteArray) 0) else (some ((⟨#[]⟩ : ByteArray), false)))) = some (r1, r2) := h
 clear h
 replace H := Option.bind_eq_some_iff.mp H
 obtain ⟨t511, A20, H⟩ := H
 replace H : (if t511 = true then (spec_CavesText.l0 k l0 (⟨#[]⟩ : ByteArray) 0) else (some ((⟨#[]⟩ : ByteArray), false))) = some (r1, r2) := H
 have A2 := Aside0.mk A20
 clear A20
 by_cases c3 : t511 = true
 ·
  subst c3
  have H1 : (spec_CavesText.l0 k l0 (⟨#[]⟩ : ByteArray) 0) = some (r1, r2) := by rw [if_pos rfl] at H; exact H
  clear H
  have H := H1
  clear H1
  have H' := Aside0.mk H
  clear H
  go_enter Tryd.func41, Tryd.ntmps41
  go_wp2_with (first | ((with_reducible refine gate_callee (f := 58) rfl ?_); refine ga_ (some 7) Tryd.func58 #[.slice A0 l0.length c0] ?_; (with_reducible refine (spec_l26Good.calls k _ _ l0 true _ ?side1 ?side2 A2.out).mono ?_); (case side1 => exact kc_ HR0.out); (case side2 => exact HC0.out); rintro e w4 ⟨rfl, hb⟩; refine ⟨_, rfl, ?_⟩; have n0_ := Aside0.mk (below_step (lb0_ HB.out) hb); clear HB; have HB := n0_; clear n0_; (try clear hb); (try clear hb2); (try clear hk); (try clear hi)))
  go_loopg [4, 5] k (fun kq v4 v5 w' => ∃ (x4_1 : ByteArray) (x5_1 : Int), v4 = .string x4_1 ∧ v5 = .int .i64 x5_1 ∧ Aside0 (spec_CavesText.l0 kq l0 x4_1 x5_1 = some (r1, r2)) ∧ Aside0 (kq ≤ k) ∧ Aside0 (Below w.heap.size w w'))
  case atStart => exact ⟨((⟨#[]⟩ : ByteArray)), (0), (by first | rfl | (simp; done) | (simp [*]; done)), (by first | rfl | (simp; done) | (simp [*]; done)), H', ⟨Nat.le_refl _⟩, ⟨lb0_ HB.out⟩⟩
  case round =>
   clear H'
   try clear p2
   try clear c3
   try clear c4
   obtain ⟨x4_1, x5_1, rfl, rfl, HA, HK1, HB⟩ := hrel
   cases gk with
   | zero => exact absurd HA.out (by simp [spec_CavesText.l0])
   | succ k1 =>
    have H := HA.out
    clear HA
    simp only [spec_CavesText.l0] at H
    by_cases c5 : x5_1 < (l0.length : Int)
    ·
     rw [if_pos c5] at H
     have c5b0 : decide (x5_1 < (l0.length : Int)) = true := decide_eq_true c5
     clear c5
     by_cases c6 : 0 ≤ x5_1
     ·
      rw [if_pos c6] at H
      have c6b0 : decide (0 ≤ x5_1) = true := decide_eq_true c6
      clear c6
      replace H := Option.bind_eq_some_iff.mp H
      obtain ⟨t513, A70, H⟩ := H
      replace H : (if x4_1.size + t513.size ≤ 9223372036854775807 then (if (sc x4_1 t513).size + 1 ≤ 9223372036854775807 then (spec_CavesText.l0 k1 l0 (sc (sc x4_1 t513) (⟨#[10]⟩ : ByteArray)) (wrap64 (x5_1 + 1))) else (none)) else (none)) = some (r1, r2) := H
      have A7 := Aside0.mk A70
      clear A70
      by_cases c8 : x4_1.size + t513.size ≤ 9223372036854775807
      ·
       rw [if_pos c8] at H
       have c8b0 := eq_true c8
       have c8b1 : decide (x4_1.size + t513.size ≤ 9223372036854775807) = true := decide_eq_true c8
       try have c8b2 : (9223372036854775807 < x4_1.size + t513.size) = False := eq_false (Nat.not_lt.2 c8)
       by_cases c9 : (sc x4_1 t513).size + 1 ≤ 9223372036854775807
       ·
        rw [if_pos c9] at H
        have c9b0 := eq_true c9
        have c9b1 : decide ((sc x4_1 t513).size + 1 ≤ 9223372036854775807) = true := decide_eq_true c9
        try have c9b2 : (9223372036854775807 < (sc x4_1 t513).size + 1) = False := eq_false (Nat.not_lt.2 c9)
        have H' := Aside0.mk H
        clear H
        have p512 : 0 ≤ (x5_1 : Int) := dt_
        have q512 : x5_1 < (l0.length : Int) := dt_
        obtain ⟨ad512, e512, hx512_0, hx512_1, hx512_2, hx512_3⟩ := at_T26 HR0.out x5_1 p512 q512
        cases e512
        replace hx512_0 := bc_ HB.out hx512_0
        replace hx512_1 := bc_ HB.out hx512_1
        replace hx512_2 := bc_ HB.out hx512_2
        replace hx512_3 := bc_ HB.out hx512_3
        replace p512 := eq_true p512
        replace q512 := eq_true q512
        go_wp2_with (first | ((with_reducible refine gate_callee (f := 70) rfl ?_); refine ga_ (some 20) Tryd.func70 #[.agg #[.string ((rd_T26 l0 x5_1).f0), .int .i64 ((rd_T26 l0 x5_1).f1), .int .i64 ((rd_T26 l0 x5_1).f2), .int .i64 ((rd_T26 l0 x5_1).f3)]] ?_; (with_reducible refine (spec_l26Line.calls k1 ((rd_T26 l0 x5_1).f0) ((rd_T26 l0 x5_1).f1) ((rd_T26 l0 x5_1).f2) ((rd_T26 l0 x5_1).f3) t513 _ A7.out).mono ?_); rintro e w10 ⟨rfl, hb⟩; refine ⟨_, rfl, ?_⟩; have n0_ := Aside0.mk (below_step (lb0_ HB.out) hb); clear HB; have HB := n0_; clear n0_; (try clear hb); (try clear hb2); (try clear hk); (try clear hi)))
        go_roundg k1
        case measure => have := HK1.out; omega
        case rel => exact ⟨(sc (sc x4_1 t513) (⟨#[10]⟩ : ByteArray)), (wrap64 (x5_1 + 1)), (by first | rfl | (simp; done) | (simp [*]; done)), (by first | rfl | (simp; done) | (simp [*]; done)), H', ⟨by have := HK1.out; omega⟩, ⟨lb0_ HB.out⟩⟩
       ·
        rw [if_neg c9] at H
        exact absurd H (by simp)
      ·
       rw [if_neg c8] at H
       exact absurd H (by simp)
     ·
      rw [if_neg c6] at H
      exact absurd H (by simp)
    ·
     rw [if_neg c5] at H
     have c5b0 : decide (x5_1 < (l0.length : Int)) = false := decide_eq_false c5
     clear c5
     simp only [Option.some.injEq, Prod.mk.injEq] at H
     obtain ⟨rfl, rfl⟩ := H
     go_wp2
     go_ret2
     exact ⟨rr_, lb0_ HB.out⟩
 ·
  replace c3 := Bool.eq_false_iff.mpr c3
  subst c3
  have H1 : (some ((⟨#[]⟩ : ByteArray), false)) = some (r1, r2) := by rw [if_neg (show ¬ (false = true) by decide)] at H; exact H
  clear H
  have H := H1
  clear H1
  simp only [Option.some.injEq, Prod.mk.injEq] at H
  obtain ⟨rfl, rfl⟩ := H
  go_enter Tryd.func41, Tryd.ntmps41
  go_wp2_with (first | ((with_reducible refine gate_callee (f := 58) rfl ?_); refine ga_ (some 7) Tryd.func58 #[.slice A0 l0.length c0] ?_; (with_reducible refine (spec_l26Good.calls k _ _ l0 false _ ?side1 ?side2 A2.out).mono ?_); (case side1 => exact kc_ HR0.out); (case side2 => exact HC0.out); rintro e w11 ⟨rfl, hb⟩; refine ⟨_, rfl, ?_⟩; have n0_ := Aside0.mk (below_step (lb0_ HB.out) hb); clear HB; have HB := n0_; clear n0_; (try clear hb); (try clear hb2); (try clear hk); (try clear hi)))
  go_ret2
  exact ⟨rr_, lb0_ HB.out⟩
end Go.Proofs.YteepnlofbfccgaaDoor.Pr

namespace Go.Proofs.YteepnlofbfccgaaDoor.Pr
open Go.RowKit Go.Proofs.YteepnlofbfccgaaDoorW.PrintWords Go.Proofs.YteepnlofbfccgaaDoorW.PrintLast Go.Proofs.YteepnlofbfccgaaDoorW.PrintMore
attribute [local go_sem] max2_int min2_int max_two min_two max_three min_three max_four min_four   -- for this text's walks alone
set_option linter.unusedVariables false
set_option linter.unusedSimpArgs false
theorem heap_new_ (w : World) (cs : Array Value) (t : TypeId) : (w.alloc (.cells cs t)).heap[w.heap.size]? = some (.cells cs t (0, 0)) := by
 show (w.heap.push _)[w.heap.size]? = _
 simp
end Go.Proofs.YteepnlofbfccgaaDoor.Pr

namespace Go.Proofs.YteepnlofbfccgaaDoor.Pr
open Go.RowKit Go.Proofs.YteepnlofbfccgaaDoorW.PrintWords Go.Proofs.YteepnlofbfccgaaDoorW.PrintLast Go.Proofs.YteepnlofbfccgaaDoorW.PrintMore
attribute [local go_sem] max2_int min2_int max_two min_two max_three min_three max_four min_four sc_in sx_in   -- for this text's walks alone
set_option linter.unusedVariables false
set_option linter.unusedSimpArgs false
set_option maxRecDepth 100000 in
theorem bd_copy_used (b : Nat) (w : World) (h0 : w.cell? ⟨b, 0, none⟩ = some (.pointer (some ⟨b, 0, none⟩))) :
  Calls Tryd.prog 98 #[.pointer (some ⟨b, 0, none⟩)] w fun e w' => e = .returned (.tuple #[]) ∧ w' = w := by
 obtain ⟨j, hj, _⟩ := Option.map_eq_some_iff.1 (Tryd.Builder_Extra_169.sizeBuilder : (Tryd.prog.info? 83).map (·.size) = some 2)
 go_enter Tryd.func98, Tryd.ntmps98
 go_wp2
 rw [Lib.run_neq_ptr_same w _ Tryd.underlying81 hj]
 go_wp2
 go_end0
 exact ⟨rfl, rfl⟩
set_option maxRecDepth 100000 in
theorem bd_copy_fresh (b : Nat) (w : World) (h0 : w.cell? ⟨b, 0, none⟩ = some (.pointer none)) (hsh : w.shape? b = some (83, 2)) (hfz : w.frozen? ⟨b, 0, none⟩ = false) :
  Calls Tryd.prog 98 #[.pointer (some ⟨b, 0, none⟩)] w fun e w' => e = .returned (.tuple #[]) ∧ w' = w.setCell ⟨b, 0, none⟩ (.pointer (some ⟨b, 0, none⟩)) := by
 obtain ⟨j, hj, hjs⟩ := Option.map_eq_some_iff.1 (Tryd.Builder_Extra_169.sizeBuilder : (Tryd.prog.info? 83).map (·.size) = some 2)
 go_enter Tryd.func98, Tryd.ntmps98
 go_wp2
 rw [Lib.run_to_unsafe w ⟨b, 0, none⟩ Tryd.underlying81 Tryd.underlying115 hj (by rw [hjs]; decide) hsh (Nat.zero_lt_succ 1)]
 simp only [Result.andThen]
 rw [Oper.upon_value]
 go_wp2
 rw [run_callFunc_extern Tryd.func112 (by kernel_rfl) (by kernel_rfl) (by kernel_rfl) (e := Extern.AbiNoEscape.same) (by kernel_rfl)]
 rw [Lib.run_noEscape]
 simp only [Result.andThen]
 rw [Oper.upon_value]
 go_wp2
 rw [Lib.run_from_unsafe w ⟨b, 0, none⟩ Tryd.underlying115 Tryd.underlying81 hj hsh Tryd.Builder_Extra_169.liesBuilder]
 simp only [Result.andThen]
 rw [Oper.upon_value]
 go_wp2
 go_end0
 exact ⟨rfl, rfl⟩
theorem bd_copy (B b : Nat) (bs : List Value) (w : World) (h : Lib.IsBuilder 83 5 B b bs w) :
  Calls Tryd.prog 98 #[.pointer (some ⟨b, 0, none⟩)] w fun e w' => e = .returned (.tuple #[]) ∧ (Lib.BuilderAt 83 5 B b (.pointer (some ⟨b, 0, none⟩)) bs w' ∧ Below B w w') := by
 rcases h with h | h
 ·
  refine (bd_copy_fresh b w h.cell0 h.shape h.frozen0).mono ?_
  rintro e w' ⟨rfl, rfl⟩
  exact ⟨rfl, h.used _, (Below.refl B w).setCell (p := ⟨b, 0, none⟩) h.1 _⟩
 ·
  refine (bd_copy_used b w h.cell0).mono ?_
  rintro e w' ⟨rfl, rfl⟩
  exact ⟨rfl, h, Below.refl B _⟩
set_option maxHeartbeats 2000000 in
set_option maxRecDepth 100000 in
theorem bd_write (B b : Nat) (bs : List Value) (s : ByteArray) (w : World) (h : Lib.IsBuilder 83 5 B b bs w) (hlen : bs.length + s.size ≤ 140737488355328) (hBw : B ≤ w.heap.size) :
  Calls Tryd.prog 76 #[.pointer (some ⟨b, 0, none⟩), .string s] w fun e w' => e = .returned (.tuple #[.int .i64 s.size, .nilIface]) ∧ (Lib.BuilderAt 83 5 B b (.pointer (some ⟨b, 0, none⟩)) (bs ++ Lib.strCells s) w' ∧ Below B w w') := by
 obtain ⟨i0, hi, hz0, hz1, hz2⟩ := Go.info_parts Tryd.Builder_Extra_169.infoByte
 go_enter Tryd.func76, Tryd.ntmps76
 go_wp2_with (go_at_call 98; refine (bd_copy B b bs _ h).mono ?_)
 rintro e w1 ⟨rfl, h1, hb1⟩
 obtain ⟨hB, v, hbk, hown, hne⟩ := h1
 have c0 : w1.cell? ⟨b, 0, none⟩ = some (.pointer (some ⟨b, 0, none⟩)) := by rw [Lib.cell_of_heap hbk]; rfl
 have c1 : w1.cell? ⟨b, 1, none⟩ = some v := by rw [Lib.cell_of_heap hbk]; rfl
 go_wp2_with (at_builtin; refine Lib.wpList_append_own_string _ rfl _ _ 54 9 rfl B 5 i0 Tryd.underlying54 Tryd.underlying9 hi hz0 hz1 hz2 _ _ _ rfl hown s rfl ?c3 ?c4 ?c5 ?_)
 case c3 => unfold maxLen; omega
 case c4 => omega
 case c5 => have := hb1.size; omega
 intro v' w2 hown' hgrow _
 have hlt : b < w1.heap.size := by
  rcases Nat.lt_or_ge b w1.heap.size with h' | h'
  ·
   exact h'
  ·
   simp [Array.getElem?_eq_none h'] at hbk
 have hb2 : w2.heap[b]? = some (.cells #[.pointer (some ⟨b, 0, none⟩), v] 83 (0, 0)) := by
  rw [hgrow.block b hlt (fun e => hne e.symm)]
  exact hbk
 have d0 : w2.cell? ⟨b, 0, none⟩ = some (.pointer (some ⟨b, 0, none⟩)) := by rw [Lib.cell_of_heap hb2]; rfl
 have d1 : w2.cell? ⟨b, 1, none⟩ = some v := by rw [Lib.cell_of_heap hb2]; rfl
 have f1 : w2.frozen? ⟨b, 1, none⟩ = false := Lib.frozen_of_heap hb2 1
 obtain ⟨ao, n', cap, rfl⟩ : ∃ ao n' cap, v' = .slice ao n' cap := by
  rcases hown'.2 with ⟨hv, _⟩ | ⟨g, cap, cur, hv, _⟩
  ·
   exact ⟨_, _, _, hv⟩
  ·
   exact ⟨_, _, _, hv⟩
 go_wp2
 go_ret2
 refine ⟨rfl, ?_, ?_⟩
 ·
  exact Lib.BuilderAt.put (T := 83) (e := 5) hB hb2 (bs' := bs ++ Lib.strCells s) (by simpa [Lib.strCells_length] using hown') (by decide)
 ·
  exact (hb1.grown hgrow (by have := hb1.size; omega) (fun k hk => (hown.lt k hk).1)).setCell (p := ⟨b, 1, none⟩) hB _
theorem bd_below {B b : Nat} {p : Value} {bs : List Value} {w w1 : World} (h : Lib.BuilderAt 83 5 B b p bs w) (hb : Below w.heap.size w w1) : Lib.BuilderAt 83 5 B b p bs w1 := by
 have hlt := h.lt
 obtain ⟨hB, v, hbk, hown, hne⟩ := h
 refine ⟨hB, v, (hb.block b hlt).trans hbk, own_move hown (fun k hk => hb.block k (own_lt hown k hk)), hne⟩
def linesF_ : List S26 → List UInt8 → Option (List UInt8)
 | [], acc => some acc
 | x :: xs, acc => (impl_caveLine.f x.f0 x.f1 x.f2 x.f3).bind fun s => if acc.length + (s.size + 1) ≤ 140737488355328 then linesF_ xs (acc ++ (sc s (⟨#[10]⟩ : ByteArray)).data.toList) else none
theorem strCells_bytes_ (l : List UInt8) (s : ByteArray) : Lib.byteCells l ++ Lib.strCells s = Lib.byteCells (l ++ s.data.toList) := by
 unfold Lib.byteCells Lib.strCells
 rw [List.map_append]
def impl_CavesText.f (k : Nat) (l0 : List S26) : Option (ByteArray × Bool) :=
 (impl_AreCaves.f k l0).bind fun t => if t = true then (linesF_ l0 []).bind fun r => some (⟨r.toArray⟩, true) else some (⟨#[]⟩, false)
set_option maxHeartbeats 8000000 in
set_option maxRecDepth 100000 in
theorem impl_CavesText.calls (k : Nat) (A0 : Option Addr) (c0 : Nat) (l0 : List S26) (r1 : ByteArray) (r2 : Bool) (w : World) (hr0 : Kd.C k26 w A0 l0.length l0) (hc0 : l0.length ≤ c0) (h : impl_CavesText.f k l0 = some (r1, r2)) (hT : Tb w) :
  Calls Tryd.prog 42 #[.slice A0 l0.length c0] w fun e w' => e = .returned (.tuple #[.string r1, .bool r2]) ∧ Below w.heap.size w w' := by
 unfold impl_CavesText.f at h
 obtain ⟨t, e1, h⟩ := Option.bind_eq_some_iff.mp h
 have hL : l0.length ≤ 9223372036854775807 := hr0.2.1
 have HR := Aside0.mk hr0
 have E1 := Aside0.mk e1
 have HT := Aside0.mk hT
 clear hr0 e1 hT
 cases t with
 | false =>
  rw [if_neg (by decide)] at h
  simp only [Option.some.injEq, Prod.mk.injEq] at h
  obtain ⟨rfl, rfl⟩ := h
  go_enter Tryd.func42, Tryd.ntmps42
  go_wp2_with (go_at_call 22; refine (impl_AreCaves.calls k A0 c0 l0 false _ HR.out hc0 E1.out).mono ?_; rintro e w1 ⟨rfl, hb1⟩)
  go_ret2
  exact ⟨rfl, hb1⟩
 | true =>
  rw [if_pos rfl] at h
  obtain ⟨r, hr, h⟩ := Option.bind_eq_some_iff.mp h
  simp only [Option.some.injEq, Prod.mk.injEq] at h
  obtain ⟨rfl, rfl⟩ := h
  have HA0 := Aside0.mk hr
  clear hr
  go_enter Tryd.func42, Tryd.ntmps42
  go_wp2_with (go_at_call 22; refine (impl_AreCaves.calls k A0 c0 l0 true _ HR.out hc0 E1.out).mono ?_; rintro e w1 ⟨rfl, hb1⟩; have HB1 := Aside0.mk hb1; clear hb1)
  go_loopg [12] l0.length (fun gg v12 wr => ∃ (kk : Nat) (acc : List UInt8), kk ≤ l0.length ∧ l0.length - kk ≤ gg ∧ v12 = .int .i64 kk ∧ Aside0 (linesF_ (l0.drop kk) acc = some r) ∧ Aside0 (Lib.IsBuilder 83 5 w.heap.size w1.heap.size (Lib.byteCells acc) wr) ∧ Aside0 (Below w.heap.size w wr))
  case atStart =>
   refine ⟨0, [], Nat.zero_le _, by omega, rfl, HA0, ⟨.inl ⟨HB1.out.size, .slice none 0 0, heap_new_ w1 _ 83, ⟨rfl, .inl ⟨rfl, rfl⟩⟩, by simp [Value.ownBlock]⟩⟩, ⟨below_alloc HB1.out _⟩⟩
  case round =>
   obtain ⟨kk, acc, hkk, hg, rfl, HA, IB, BW⟩ := hrel
   by_cases hlt : kk < l0.length
   ·
    have hltz : (kk : Int) < (l0.length : Int) := by omega
    have hk0 : (0 : Int) ≤ (kk : Int) := by omega
    have hA := HA.out
    rw [List.drop_eq_getElem_cons hlt] at hA
    have ex : rd_T26 l0 (kk : Int) = l0[kk] := by
     show l0.getD (kk : Int).toNat _ = _
     rw [Int.toNat_natCast, List.getD_eq_getElem?_getD, List.getElem?_eq_getElem hlt]
     rfl
    rw [← ex] at hA
    unfold linesF_ at hA
    obtain ⟨s, hs, hA⟩ := Option.bind_eq_some_iff.mp hA
    by_cases hz : acc.length + (s.size + 1) ≤ 140737488355328
    ·
     rw [if_pos hz] at hA
     obtain ⟨ad, e0, hx0, hx1, hx2, hx3⟩ := at_T26 HR.out (kk : Int) hk0 hltz
     replace hx0 := (BW.out.cell (World.block_lt_of_cell? w _ hx0)).trans hx0
     replace hx1 := (BW.out.cell (World.block_lt_of_cell? w _ hx1)).trans hx1
     replace hx2 := (BW.out.cell (World.block_lt_of_cell? w _ hx2)).trans hx2
     replace hx3 := (BW.out.cell (World.block_lt_of_cell? w _ hx3)).trans hx3
     have HS := Aside0.mk hs
     have HA' := Aside0.mk hA
     have HZ := Aside0.mk hz
     have HG := Aside0.mk hg
     clear HA hs hA hz ex hg
     generalize rd_T26 l0 (kk : Int) = y at hx0 hx1 hx2 hx3 HS
     subst e0
     rw [Int.toNat_natCast] at hx0 hx1 hx2 hx3
     have hz2 : s.size + 1 ≤ 9223372036854775807 := by have := HZ.out; omega
     go_wp2_with (first | (go_at_call 71; refine (impl_caveLine.calls y.f0 y.f1 y.f2 y.f3 s _ HS.out (Tb.step HT.out (below_alloc BW.out _))).mono ?_; rintro e w2 ⟨rfl, hb2⟩; have HW := Aside0.mk (below_step (below_alloc (Below.refl wr.heap.size wr) _) hb2); have HW0 := Aside0.mk (below_step (below_alloc BW.out _) hb2); clear hb2) | (go_at_call 76; refine (bd_write w.heap.size w1.heap.size (Lib.byteCells acc) (sc s (⟨#[10]⟩ : ByteArray)) _ (IB.out.elim (fun x => .inl (bd_below x HW.out)) (fun x => .inr (bd_below x HW.out))) ?hl (below_size HW0.out)).mono ?_; (case hl => (rw [Lib.byteCells_length]; unfold sc; rw [ByteArray.size_append]; exact HZ.out)); rintro e w3 ⟨rfl, hw3, hb3⟩))
     go_roundg (l0.length - (kk + 1))
     case measure => have := HG.out; omega
     case rel =>
      refine ⟨kk + 1, acc ++ (sc s (⟨#[10]⟩ : ByteArray)).data.toList, by omega, by omega, by go_num, HA', ⟨.inr ?_⟩, ⟨HW0.out.trans hb3⟩⟩
      rw [← strCells_bytes_]
      exact hw3
    ·
     rw [if_neg hz] at hA
     cases hA
   ·
    have hltz : ¬ (kk : Int) < (l0.length : Int) := by omega
    have hkl : kk = l0.length := by omega
    have hA := HA.out
    rw [List.drop_of_length_le (by omega)] at hA
    simp only [linesF_, Option.some.injEq] at hA
    subst hA
    clear HA
    go_wp2_with (go_at_call 77; refine (Tryd.Builder_String_any w.heap.size w1.heap.size acc _ IB.out (below_size BW.out)).mono ?_; rintro e w9 ⟨rfl, hb9⟩)
    go_ret2
    exact ⟨rfl, BW.out.trans hb9⟩
end Go.Proofs.YteepnlofbfccgaaDoor.Pr

namespace Go.Proofs.YteepnlofbfccgaaDoor.Pr
open Go.RowKit Go.Proofs.YteepnlofbfccgaaDoorW.PrintWords Go.Proofs.YteepnlofbfccgaaDoorW.PrintLast Go.Proofs.YteepnlofbfccgaaDoorW.PrintMore
attribute [local go_sem] max2_int min2_int max_two min_two max_three min_three max_four min_four   -- for this text's walks alone
set_option linter.unusedVariables false
set_option linter.unusedSimpArgs false
def laws_rBig.f (l0 : List Int) : Option (Bool) := some (decide ((l0.length : Int) > 65536))
set_option maxHeartbeats 8000000 in
set_option maxRecDepth 100000 in
theorem laws_rBig.calls (A0 : Option Addr) (c0 : Nat) (l0 : List Int) (r : Bool) (w : World) (hr0 : Kd.C (Kd.int .u8) w A0 l0.length l0) (hc0 : l0.length ≤ c0) (h : laws_rBig.f l0 = some r) :
  Calls Tryd.prog 45 #[.slice A0 l0.length c0] w fun e w' => e = .returned (.bool r) ∧ Drawn0 w w' := by
 have HR0 := Aside0.mk hr0
 have HC0 := Aside0.mk hc0
 clear hr0 hc0
 have H : (some (decide ((l0.length : Int) > 65536))) = some r := h
 clear h
 obtain rfl := Option.some.inj H
 go_enter Tryd.func45, Tryd.ntmps45
 go_wp2
 go_ret
 exact ⟨by first | rfl | (simp; done) | (simp [*]; done), by repeat (first | exact Drawn0.refl _ | apply Drawn0.step)⟩
def laws_rTexts.l0 : Nat → List ByteArray → List ByteArray → Int → Option (Bool)
 | 0, _, _, _ => none
 | k + 1, x0, x1, x5 => if x5 < (x0.length : Int) then (if 0 ≤ x5 then (if x5 < (x1.length : Int) then (if (rdOf ByteArray.empty x0 x5).toList = (rdOf ByteArray.empty x1 x5).toList then (laws_rTexts.l0 k x0 x1 (wrap64 (x5 + 1))) else (some false)) else (none)) else (none)) else (some true)
def laws_rTexts.f (k : Nat) (l0 : List ByteArray) (l1 : List ByteArray) : Option (Bool) := if (l0.length : Int) = (l1.length : Int) then (laws_rTexts.l0 k l0 l1 0) else (some false)
set_option maxHeartbeats 8000000 in
set_option maxRecDepth 100000 in
theorem laws_rTexts.calls (k : Nat) (A0 : Option Addr) (c0 : Nat) (l0 : List ByteArray) (A1 : Option Addr) (c1 : Nat) (l1 : List ByteArray) (r : Bool) (w : World) (hr0 : Kd.C Kd.string w A0 l0.length l0) (hc0 : l0.length ≤ c0) (hr1 : Kd.C Kd.string w A1 l1.length l1) (hc1 : l1.length ≤ c1) (h : laws_rTexts.f k l0 l1 = some r) :
  Calls Tryd.prog 49 #[.slice A0 l0.length c0, .slice A1 l1.length c1] w fun e w' => e = .returned (.bool r) ∧ Drawn0 w w' := by
 have HR0 := Aside0.mk hr0
 have HC0 := Aside0.mk hc0
 clear hr0 hc0
 have HR1 := Aside0.mk hr1
 have HC1 := Aside0.mk hc1
 clear hr1 hc1
 have H : (if (l0.length : Int) = (l1.length : Int) then (laws_rTexts.l0 k l0 l1 0) else (some false)) = some r := h
 clear h
 by_cases c3 : (l0.length : Int) = (l1.length : Int)
 ·
  rw [if_pos c3] at H
  have c3b0 : ((l0.length : Int) == (l1.length : Int)) = true := beq_iff_eq.mpr c3
  have c3b1 : ((l0.length : Int) != (l1.length : Int)) = false := bne_eq_false_iff_eq.mpr c3
  have c3b2 : (l0.length == l1.length) = true := by first | simpa using c3 | (simp at c3 ⊢; omega)
  clear c3
  have H' := Aside0.mk H
  clear H
  go_enter Tryd.func49, Tryd.ntmps49
  go_wp2
  repeat (go_quiet (fail); try go_wp2)
  go_loopg [5] k (fun kq v5 w' => ∃ (x5_1 : Int), v5 = .int .i64 x5_1 ∧ Aside0 (laws_rTexts.l0 kq l0 l1 x5_1 = some r) ∧ Aside0 (kq ≤ k) ∧ Drawn0 w w')
  case atStart => exact ⟨(0), (by first | rfl | (simp; done) | (simp [*]; done)), H', ⟨Nat.le_refl _⟩, by repeat (first | exact Drawn0.refl _ | apply Drawn0.step)⟩
  case round =>
   clear H'
   try clear c1
   try clear p2
   try clear c3
   try clear c3b0
   try clear c3b1
   try clear c3b2
   obtain ⟨x5_1, rfl, HA, HK1, ⟨m1, rfl⟩⟩ := hrel
   cases gk with
   | zero => exact absurd HA.out (by simp [laws_rTexts.l0])
   | succ k1 =>
    have H := HA.out
    clear HA
    simp only [laws_rTexts.l0] at H
    by_cases c4 : x5_1 < (l0.length : Int)
    ·
     rw [if_pos c4] at H
     have c4b0 : decide (x5_1 < (l0.length : Int)) = true := decide_eq_true c4
     clear c4
     by_cases c5 : 0 ≤ x5_1
     ·
      rw [if_pos c5] at H
      have c5b0 : decide (0 ≤ x5_1) = true := decide_eq_true c5
      clear c5
      by_cases c6 : x5_1 < (l1.length : Int)
      ·
       rw [if_pos c6] at H
       have c6b0 : decide (x5_1 < (l1.length : Int)) = true := decide_eq_true c6
       clear c6
       by_cases c7 : (rdOf ByteArray.empty l0 x5_1).toList = (rdOf ByteArray.empty l1 x5_1).toList
       ·
        rw [if_pos c7] at H
        have c7b0 : ((rdOf ByteArray.empty l0 x5_1).toList == (rdOf ByteArray.empty l1 x5_1).toList) = true := beq_iff_eq.mpr c7
        have c7b1 : ((rdOf ByteArray.empty l0 x5_1).toList != (rdOf ByteArray.empty l1 x5_1).toList) = false := bne_eq_false_iff_eq.mpr c7
        clear c7
        have H' := Aside0.mk H
        clear H
        have p738 : 0 ≤ (x5_1 : Int) := dt_
        have q738 : x5_1 < (l0.length : Int) := dt_
        obtain ⟨ad738, e738, hx738_0⟩ := Kd.at_string HR0.out x5_1 p738 q738
        cases e738
        replace p738 := eq_true p738
        replace q738 := eq_true q738
        have p739 : 0 ≤ (x5_1 : Int) := dt_
        have q739 : x5_1 < (l1.length : Int) := dt_
        obtain ⟨ad739, e739, hx739_0⟩ := Kd.at_string HR1.out x5_1 p739 q739
        cases e739
        replace p739 := eq_true p739
        replace q739 := eq_true q739
        go_wp2
        repeat (go_quiet (fail); try go_wp2)
        go_roundg k1
        case measure => have := HK1.out; omega
        case rel => exact ⟨(wrap64 (x5_1 + 1)), (by first | rfl | (simp; done) | (simp [*]; done)), H', ⟨by have := HK1.out; omega⟩, by repeat (first | exact Drawn0.refl _ | apply Drawn0.step)⟩
       ·
        rw [if_neg c7] at H
        have c7b0 : ((rdOf ByteArray.empty l0 x5_1).toList == (rdOf ByteArray.empty l1 x5_1).toList) = false := beq_eq_false_iff_ne.mpr c7
        have c7b1 : ((rdOf ByteArray.empty l0 x5_1).toList != (rdOf ByteArray.empty l1 x5_1).toList) = true := bne_iff_ne.mpr c7
        obtain rfl := Option.some.inj H
        have p738 : 0 ≤ (x5_1 : Int) := dt_
        have q738 : x5_1 < (l0.length : Int) := dt_
        obtain ⟨ad738, e738, hx738_0⟩ := Kd.at_string HR0.out x5_1 p738 q738
        cases e738
        replace p738 := eq_true p738
        replace q738 := eq_true q738
        have p739 : 0 ≤ (x5_1 : Int) := dt_
        have q739 : x5_1 < (l1.length : Int) := dt_
        obtain ⟨ad739, e739, hx739_0⟩ := Kd.at_string HR1.out x5_1 p739 q739
        cases e739
        replace p739 := eq_true p739
        replace q739 := eq_true q739
        go_wp2
        repeat (go_quiet (fail); try go_wp2)
        go_ret
        exact ⟨by first | rfl | (simp; done) | (simp [*]; done), by repeat (first | exact Drawn0.refl _ | apply Drawn0.step)⟩
      ·
       rw [if_neg c6] at H
       exact absurd H (by simp)
     ·
      rw [if_neg c5] at H
      exact absurd H (by simp)
    ·
     rw [if_neg c4] at H
     have c4b0 : decide (x5_1 < (l0.length : Int)) = false := decide_eq_false c4
     clear c4
     obtain rfl := Option.some.inj H
     go_wp2
     repeat (go_quiet (fail); try go_wp2)
     go_ret
     exact ⟨by first | rfl | (simp; done) | (simp [*]; done), by repeat (first | exact Drawn0.refl _ | apply Drawn0.step)⟩
 ·
  rw [if_neg c3] at H
  have c3b0 : ((l0.length : Int) == (l1.length : Int)) = false := beq_eq_false_iff_ne.mpr c3
  have c3b1 : ((l0.length : Int) != (l1.length : Int)) = true := bne_iff_ne.mpr c3
  have c3b2 : (l0.length == l1.length) = false := by first | simpa using c3 | (simp at c3 ⊢; omega)
  obtain rfl := Option.some.inj H
  go_enter Tryd.func49, Tryd.ntmps49
  go_wp2
  repeat (go_quiet (fail); try go_wp2)
  go_ret
  exact ⟨by first | rfl | (simp; done) | (simp [*]; done), by repeat (first | exact Drawn0.refl _ | apply Drawn0.step)⟩
def spec_newCur.f (l0 : List Int) : Option (List Int × Int × Int) := some (l0, 0, 0)
def IsS93 (w0 W : World) (g : Nat) (f0 : List Int) (f1 : Int) (f2 : Int) : Prop := ∃ A0 c0, W.heap[g]? = some (.cells #[.slice A0 f0.length c0, .int .i64 f1, .int .u64 f2] 93 (0, 0)) ∧ w0.heap.size ≤ g ∧ Kd.C (Kd.int .u8) w0 A0 f0.length f0
theorem IsS93.grown {w0 W : World} {g : Nat} {f0 : List Int} {f1 : Int} {f2 : Int} {W1 : World} {row : Option Nat} (h : IsS93 w0 W g f0 f1 f2) (hw : W.grownBy W1 row) (hne : some g ≠ row) : IsS93 w0 W1 g f0 f1 f2 := by
 obtain ⟨A0, c0, hb, hg, hr0⟩ := h
 exact ⟨A0, c0, blk_grown hb hw hne, hg, hr0⟩
theorem IsS93.below {w0 W : World} {g : Nat} {f0 : List Int} {f1 : Int} {f2 : Int} {W1 : World} (h : IsS93 w0 W g f0 f1 f2) (hw : Below W.heap.size W W1) : IsS93 w0 W1 g f0 f1 f2 := h.grown (grown_of_below hw none) (by simp)
theorem IsS93.alloc {w0 W : World} {g : Nat} {f0 : List Int} {f1 : Int} {f2 : Int} (h : IsS93 w0 W g f0 f1 f2) (o : Obj) : IsS93 w0 (W.alloc o) g f0 f1 f2 := h.below (below_alloc (Below.refl _ _) o)
theorem IsS93.drewN {w0 W : World} {g : Nat} {f0 : List Int} {f1 : Int} {f2 : Int} (h : IsS93 w0 W g f0 f1 f2) (m : Nat) : IsS93 w0 (W.drewN m) g f0 f1 f2 := h
theorem IsS93.drew {w0 W : World} {g : Nat} {f0 : List Int} {f1 : Int} {f2 : Int} (h : IsS93 w0 W g f0 f1 f2) : IsS93 w0 W.drew g f0 f1 f2 := h
theorem IsS93.apart {w0 W : World} {g : Nat} {f0 : List Int} {f1 : Int} {f2 : Int} {α : Type} {d : Kd α} {e : Nat} {base : Nat} {ok : Nat → Prop} {v : Value} {xs : List α} (h : IsS93 w0 W g f0 f1 f2) (ho : d.R e W base ok v xs) (ht : ∀ q, q ∈ e :: d.E → q ≠ 93) : d.R e W base (fun k => ok k ∧ k ≠ g) v xs := by
 obtain ⟨A0, c0, hb, hg, hr0⟩ := h
 exact Kd.R_types ho hb ht
theorem IsS93.own_ne {w0 W : World} {g : Nat} {f0 : List Int} {f1 : Int} {f2 : Int} {α : Type} {d : Kd α} {e : Nat} {base : Nat} {ok : Nat → Prop} {v : Value} {xs : List α} (h : IsS93 w0 W g f0 f1 f2) (ho : d.R e W base ok v xs) (ht : e ≠ 93) : some g ≠ v.ownBlock := by
 obtain ⟨A0, c0, hb, hg, hr0⟩ := h
 exact Kd.R_ne ho hb ht
theorem IsS93.lt {w0 W : World} {g : Nat} {f0 : List Int} {f1 : Int} {f2 : Int} (h : IsS93 w0 W g f0 f1 f2) : g < W.heap.size := by
 obtain ⟨A0, c0, hb, hg, hr0⟩ := h
 exact blk_lt hb
theorem IsS93.ge {w0 W : World} {g : Nat} {f0 : List Int} {f1 : Int} {f2 : Int} (h : IsS93 w0 W g f0 f1 f2) : w0.heap.size ≤ g := by
 obtain ⟨A0, c0, hb, hg, hr0⟩ := h
 exact hg
theorem IsS93.ne_blk {w0 W : World} {g : Nat} {f0 : List Int} {f1 : Int} {f2 : Int} {a : Nat} {cs : Array Value} {t : TypeId} {fr : Nat × Nat} (h : IsS93 w0 W g f0 f1 f2) (hb2 : W.heap[a]? = some (.cells cs t fr)) (ht : t ≠ 93) : g ≠ a := by
 obtain ⟨A0, c0, hb, hg, hr0⟩ := h
 rintro rfl
 rw [hb] at hb2
 injection hb2 with hb2
 injection hb2 with _ ht2
 exact ht ht2.symm
theorem IsS93.far {w0 W : World} {g : Nat} {f0 : List Int} {f1 : Int} {f2 : Int} {p : Addr} (h : IsS93 w0 W g f0 f1 f2) (hne : g ≠ p.block) (u : Value) : IsS93 w0 (W.setCell p u) g f0 f1 f2 := by
 obtain ⟨A0, c0, hb, hg, hr0⟩ := h
 exact ⟨A0, c0, blk_far hb hne u, hg, hr0⟩
theorem cellS93_0 {W : World} {g : Nat} {A0 : Option Addr} {c0 : Nat} {f0 : List Int} {f1 : Int} {f2 : Int} (h : W.heap[g]? = some (.cells #[.slice A0 f0.length c0, .int .i64 f1, .int .u64 f2] 93 (0, 0))) : W.cell? ⟨g, 0, none⟩ = some (.slice A0 f0.length c0) := (blk_cell h 0).trans rfl
theorem cellS93_1 {W : World} {g : Nat} {A0 : Option Addr} {c0 : Nat} {f0 : List Int} {f1 : Int} {f2 : Int} (h : W.heap[g]? = some (.cells #[.slice A0 f0.length c0, .int .i64 f1, .int .u64 f2] 93 (0, 0))) : W.cell? ⟨g, 1, none⟩ = some (.int .i64 f1) := (blk_cell h 1).trans rfl
theorem IsS93.set_1 {w0 W : World} {g : Nat} {f0 : List Int} {f1 : Int} {f2 : Int} (h : IsS93 w0 W g f0 f1 f2) (x : Int) : IsS93 w0 (W.setCell ⟨g, 1, none⟩ (.int .i64 x)) g f0 x f2 := by
 obtain ⟨A0, c0, hb, hg, hr0⟩ := h
 exact ⟨A0, c0, by simpa using blk_set hb 1 (.int .i64 x), hg, hr0⟩
theorem cellS93_2 {W : World} {g : Nat} {A0 : Option Addr} {c0 : Nat} {f0 : List Int} {f1 : Int} {f2 : Int} (h : W.heap[g]? = some (.cells #[.slice A0 f0.length c0, .int .i64 f1, .int .u64 f2] 93 (0, 0))) : W.cell? ⟨g, 2, none⟩ = some (.int .u64 f2) := (blk_cell h 2).trans rfl
theorem IsS93.set_2 {w0 W : World} {g : Nat} {f0 : List Int} {f1 : Int} {f2 : Int} (h : IsS93 w0 W g f0 f1 f2) (x : Int) : IsS93 w0 (W.setCell ⟨g, 2, none⟩ (.int .u64 x)) g f0 f1 x := by
 obtain ⟨A0, c0, hb, hg, hr0⟩ := h
 exact ⟨A0, c0, by simpa using blk_set hb 2 (.int .u64 x), hg, hr0⟩
def spec_l1Cur_next.f (s0_0 : List Int) (s0_1 : Int) (s0_2 : Int) : Option (Int × Int × Int) := if s0_1 < (s0_0.length : Int) then (if 0 ≤ s0_1 then (if (wrap64 (s0_1 + 1)) ≤ (s0_0.length : Int) then (some (wrap64 (rd s0_0 s0_1), wrap64 (s0_1 + 1), IntKind.u64.wrap ((IntKind.u64.wrap ((IntKind.u64.wrap (s0_2 * 6364136223846793005)) + (IntKind.u64.wrap (wrap64 (rd s0_0 s0_1))))) + 933933))) else (some (wrap64 (Go.bits .and .u64 ((IntKind.u64.wrap ((IntKind.u64.wrap ((IntKind.u64.wrap (s0_2 * 6364136223846793005)) + (IntKind.u64.wrap (wrap64 (rd s0_0 s0_1))))) + 933933)) / 1099511627776) 255), wrap64 (s0_1 + 1), IntKind.u64.wrap ((IntKind.u64.wrap ((IntKind.u64.wrap (s0_2 * 6364136223846793005)) + (IntKind.u64.wrap (wrap64 (rd s0_0 s0_1))))) + 933933)))) else (none)) else (if (wrap64 (s0_1 + 1)) ≤ (s0_0.length : Int) then (some (0, wrap64 (s0_1 + 1), IntKind.u64.wrap ((IntKind.u64.wrap ((IntKind.u64.wrap (s0_2 * 6364136223846793005)) + 0)) + 933933))) else (some (wrap64 (Go.bits .and .u64 ((IntKind.u64.wrap ((IntKind.u64.wrap ((IntKind.u64.wrap (s0_2 * 6364136223846793005)) + 0)) + 933933)) / 1099511627776) 255), wrap64 (s0_1 + 1), IntKind.u64.wrap ((IntKind.u64.wrap ((IntKind.u64.wrap (s0_2 * 6364136223846793005)) + 0)) + 933933))))
set_option maxHeartbeats 8000000 in
set_option maxRecDepth 100000 in
theorem spec_l1Cur_next.calls (g : Nat) (s0_0 : List Int) (s0_1 : Int) (s0_2 : Int) (r1 : Int) (r2 : Int) (r3 : Int) (w0 w : World) (hI : IsS93 w0 w g s0_0 s0_1 s0_2) (hB : Below w0.heap.size w0 w) (h : spec_l1Cur_next.f s0_0 s0_1 s0_2 = some (r1, r2, r3)) :
  Calls Tryd.prog 100 #[.pointer (some ⟨g, 0, none⟩)] w fun e w' => e = .returned (.int .i64 r1) ∧ IsS93 w0 w' g s0_0 r2 r3 ∧ Below w0.heap.size w0 w' ∧ KeepBut w w' g none := by
 have HI0 := Aside0.mk hI
 have HK := Aside0.mk (KeepBut.refl w g none)
 have HL := Aside0.mk hB.size
 clear hI
 have HW0 := Aside0.mk hB.size
 have HB := Aside0.mk hB
 clear hB
 have H : (if s0_1 < (s0_0.length : Int) then (if 0 ≤ s0_1 then (if (wrap64 (s0_1 + 1)) ≤ (s0_0.length : Int) then (some (wrap64 (rd s0_0 s0_1), wrap64 (s0_1 + 1), IntKind.u64.wrap ((IntKind.u64.wrap ((IntKind.u64.wrap (s0_2 * 6364136223846793005)) + (IntKind.u64.wrap (wrap64 (rd s0_0 s0_1))))) + 933933))) else (some (wrap64 (Go.bits .and .u64 ((IntKind.u64.wrap ((IntKind.u64.wrap ((IntKind.u64.wrap (s0_2 * 6364136223846793005)) + (IntKind.u64.wrap (wrap64 (rd s0_0 s0_1))))) + 933933)) / 1099511627776) 255), wrap64 (s0_1 + 1), IntKind.u64.wrap ((IntKind.u64.wrap ((IntKind.u64.wrap (s0_2 * 6364136223846793005)) + (IntKind.u64.wrap (wrap64 (rd s0_0 s0_1))))) + 933933)))) else (none)) else (if (wrap64 (s0_1 + 1)) ≤ (s0_0.length : Int) then (some (0, wrap64 (s0_1 + 1), IntKind.u64.wrap ((IntKind.u64.wrap ((IntKind.u64.wrap (s0_2 * 6364136223846793005)) + 0)) + 933933))) else (some (wrap64 (Go.bits .and .u64 ((IntKind.u64.wrap ((IntKind.u64.wrap ((IntKind.u64.wrap (s0_2 * 6364136223846793005)) + 0)) + 933933)) / 1099511627776) 255), wrap64 (s0_1 + 1), IntKind.u64.wrap ((IntKind.u64.wrap ((IntKind.u64.wrap (s0_2 * 6364136223846793005)) + 0)) + 933933))))) = some (r1, r2, r3) := h
 clear h
 by_cases c2 : s0_1 < (s0_0.length : Int)
 ·
  rw [if_pos c2] at H
  have c2b0 : decide (s0_1 < (s0_0.length : Int)) = true := decide_eq_true c2
  clear c2
  by_cases c3 : 0 ≤ s0_1
  ·
   rw [if_pos c3] at H
   have c3b0 : decide (0 ≤ s0_1) = true := decide_eq_true c3
   clear c3
   by_cases c4 : (wrap64 (s0_1 + 1)) ≤ (s0_0.length : Int)
   ·
    rw [if_pos c4] at H
    have c4b0 : decide ((wrap64 (s0_1 + 1)) ≤ (s0_0.length : Int)) = true := decide_eq_true c4
    clear c4
    simp only [Option.some.injEq, Prod.mk.injEq] at H
    obtain ⟨rfl, rfl, rfl⟩ := H
    obtain ⟨ASz5_0, cSz5_0, HGz5, hgz5, HSz5_0⟩ := HI0.out
    have hcz5_0 := cellS93_0 HGz5
    have hcz5_1 := cellS93_1 HGz5
    have hcz5_2 := cellS93_2 HGz5
    have hfz5_1 := blk_frozen HGz5 1
    have hfz5_2 := blk_frozen HGz5 2
    clear HGz5 hgz5
    have p571 : 0 ≤ (s0_1 : Int) := dt_
    have q571 : s0_1 < (s0_0.length : Int) := dt_
    obtain ⟨ad571, e571, hx571_0⟩ := Kd.at_int HSz5_0 s0_1 p571 q571
    cases e571
    replace hx571_0 := pw_cell_below HB.out hx571_0
    replace p571 := eq_true p571
    replace q571 := eq_true q571
    go_enter Tryd.func100, Tryd.ntmps100
    go_wp2
    repeat (go_quiet (fail); try go_wp2)
    go_ret
    (try simp only [Int.add_zero])
    exact ⟨rr_, by repeat (first | (with_reducible first | exact HI0.out | apply IsS93.alloc | apply IsS93.drewN | apply IsS93.drew | apply IsS93.set_1 | apply IsS93.set_2) | exact HI0.out), by repeat (first | (with_reducible first | exact HB.out | apply below_alloc | apply pw_below_drewN | apply below_drew1 | refine below_set ?_ (IsS93.ge HI0.out)) | exact HB.out), by repeat (first | (with_reducible first | exact HK.out | apply KeepBut.set_ | apply keep_drewN | apply keep_drew | apply keep_alloc) | exact HK.out)⟩
   ·
    rw [if_neg c4] at H
    have c4b0 : decide ((wrap64 (s0_1 + 1)) ≤ (s0_0.length : Int)) = false := decide_eq_false c4
    clear c4
    simp only [Option.some.injEq, Prod.mk.injEq] at H
    obtain ⟨rfl, rfl, rfl⟩ := H
    obtain ⟨ASz6_0, cSz6_0, HGz6, hgz6, HSz6_0⟩ := HI0.out
    have hcz6_0 := cellS93_0 HGz6
    have hcz6_1 := cellS93_1 HGz6
    have hcz6_2 := cellS93_2 HGz6
    have hfz6_1 := blk_frozen HGz6 1
    have hfz6_2 := blk_frozen HGz6 2
    clear HGz6 hgz6
    have p571 : 0 ≤ (s0_1 : Int) := dt_
    have q571 : s0_1 < (s0_0.length : Int) := dt_
    obtain ⟨ad571, e571, hx571_0⟩ := Kd.at_int HSz6_0 s0_1 p571 q571
    cases e571
    replace hx571_0 := pw_cell_below HB.out hx571_0
    replace p571 := eq_true p571
    replace q571 := eq_true q571
    go_enter Tryd.func100, Tryd.ntmps100
    go_wp2
    repeat (go_quiet (fail); try go_wp2)
    go_ret
    (try simp only [Int.add_zero])
    exact ⟨rr_, by repeat (first | (with_reducible first | exact HI0.out | apply IsS93.alloc | apply IsS93.drewN | apply IsS93.drew | apply IsS93.set_1 | apply IsS93.set_2) | exact HI0.out), by repeat (first | (with_reducible first | exact HB.out | apply below_alloc | apply pw_below_drewN | apply below_drew1 | refine below_set ?_ (IsS93.ge HI0.out)) | exact HB.out), by repeat (first | (with_reducible first | exact HK.out | apply KeepBut.set_ | apply keep_drewN | apply keep_drew | apply keep_alloc) | exact HK.out)⟩
  ·
   rw [if_neg c3] at H
   exact absurd H (by simp)
 ·
  rw [if_neg c2] at H
  have c2b0 : decide (s0_1 < (s0_0.length : Int)) = false := decide_eq_false c2
  clear c2
  by_cases c7 : (wrap64 (s0_1 + 1)) ≤ (s0_0.length : Int)
  ·
   rw [if_pos c7] at H
   have c7b0 : decide ((wrap64 (s0_1 + 1)) ≤ (s0_0.length : Int)) = true := decide_eq_true c7
   clear c7
   simp only [Option.some.injEq, Prod.mk.injEq] at H
   obtain ⟨rfl, rfl, rfl⟩ := H
   obtain ⟨ASz8_0, cSz8_0, HGz8, hgz8, HSz8_0⟩ := HI0.out
   have hcz8_0 := cellS93_0 HGz8
   have hcz8_1 := cellS93_1 HGz8
   have hcz8_2 := cellS93_2 HGz8
   have hfz8_1 := blk_frozen HGz8 1
   have hfz8_2 := blk_frozen HGz8 2
   clear HGz8 hgz8
   go_enter Tryd.func100, Tryd.ntmps100
   go_wp2
   repeat (go_quiet (fail); try go_wp2)
   go_ret
   (try simp only [Int.add_zero])
   exact ⟨rr_, by repeat (first | (with_reducible first | exact HI0.out | apply IsS93.alloc | apply IsS93.drewN | apply IsS93.drew | apply IsS93.set_1 | apply IsS93.set_2) | exact HI0.out), by repeat (first | (with_reducible first | exact HB.out | apply below_alloc | apply pw_below_drewN | apply below_drew1 | refine below_set ?_ (IsS93.ge HI0.out)) | exact HB.out), by repeat (first | (with_reducible first | exact HK.out | apply KeepBut.set_ | apply keep_drewN | apply keep_drew | apply keep_alloc) | exact HK.out)⟩
  ·
   rw [if_neg c7] at H
   have c7b0 : decide ((wrap64 (s0_1 + 1)) ≤ (s0_0.length : Int)) = false := decide_eq_false c7
   clear c7
   simp only [Option.some.injEq, Prod.mk.injEq] at H
   obtain ⟨rfl, rfl, rfl⟩ := H
   obtain ⟨ASz9_0, cSz9_0, HGz9, hgz9, HSz9_0⟩ := HI0.out
   have hcz9_0 := cellS93_0 HGz9
   have hcz9_1 := cellS93_1 HGz9
   have hcz9_2 := cellS93_2 HGz9
   have hfz9_1 := blk_frozen HGz9 1
   have hfz9_2 := blk_frozen HGz9 2
   clear HGz9 hgz9
   go_enter Tryd.func100, Tryd.ntmps100
   go_wp2
   repeat (go_quiet (fail); try go_wp2)
   go_ret
   (try simp only [Int.add_zero])
   exact ⟨rr_, by repeat (first | (with_reducible first | exact HI0.out | apply IsS93.alloc | apply IsS93.drewN | apply IsS93.drew | apply IsS93.set_1 | apply IsS93.set_2) | exact HI0.out), by repeat (first | (with_reducible first | exact HB.out | apply below_alloc | apply pw_below_drewN | apply below_drew1 | refine below_set ?_ (IsS93.ge HI0.out)) | exact HB.out), by repeat (first | (with_reducible first | exact HK.out | apply KeepBut.set_ | apply keep_drewN | apply keep_drew | apply keep_alloc) | exact HK.out)⟩
def spec_l1Cur_pick.f (s0_0 : List Int) (s0_1 : Int) (s0_2 : Int) (a1 : Int) : Option (Int × Int × Int) := if a1 ≤ 1 then (some (0, s0_1, s0_2)) else ((spec_l1Cur_next.f s0_0 s0_1 s0_2).bind fun bt572 => (if a1 > 200 then ((spec_l1Cur_next.f s0_0 bt572.2.1 bt572.2.2).bind fun bt575 => (if a1 = 0 then (none) else (some (Int.tmod (wrap64 ((wrap64 (bt572.1 * 256)) + bt575.1)) a1, bt575.2.1, bt575.2.2)))) else (if a1 = 0 then (none) else (some (Int.tmod bt572.1 a1, bt572.2.1, bt572.2.2)))))
set_option maxHeartbeats 8000000 in
set_option maxRecDepth 100000 in
theorem spec_l1Cur_pick.calls (g : Nat) (s0_0 : List Int) (s0_1 : Int) (s0_2 : Int) (a1 : Int) (r1 : Int) (r2 : Int) (r3 : Int) (w0 w : World) (hI : IsS93 w0 w g s0_0 s0_1 s0_2) (hB : Below w0.heap.size w0 w) (h : spec_l1Cur_pick.f s0_0 s0_1 s0_2 a1 = some (r1, r2, r3)) :
  Calls Tryd.prog 82 #[.pointer (some ⟨g, 0, none⟩), .int .i64 a1] w fun e w' => e = .returned (.int .i64 r1) ∧ IsS93 w0 w' g s0_0 r2 r3 ∧ Below w0.heap.size w0 w' ∧ KeepBut w w' g none := by
 have HI0 := Aside0.mk hI
 have HK := Aside0.mk (KeepBut.refl w g none)
 have HL := Aside0.mk hB.size
 clear hI
 have HW0 := Aside0.mk hB.size
 have HB := Aside0.mk hB
 clear hB
 have H : (if a1 ≤ 1 then (some (0, s0_1, s0_2)) else ((spec_l1Cur_next.f s0_0 s0_1 s0_2).bind fun bt572 => (if a1 > 200 then ((spec_l1Cur_next.f s0_0 bt572.2.1 bt572.2.2).bind fun bt575 => (if a1 = 0 then (none) else (some (Int.tmod (wrap64 ((wrap64 (bt572.1 * 256)) + bt575.1)) a1, bt575.2.1, bt575.2.2)))) else (if a1 = 0 then (none) else (some (Int.tmod bt572.1 a1, bt572.2.1, bt572.2.2)))))) = some (r1, r2, r3) := h
 clear h
 by_cases c3 : a1 ≤ 1
 ·
  rw [if_pos c3] at H
  have c3b0 : decide (a1 ≤ 1) = true := decide_eq_true c3
  clear c3
  simp only [Option.some.injEq, Prod.mk.injEq] at H
  obtain ⟨rfl, rfl, rfl⟩ := H
  go_enter Tryd.func82, Tryd.ntmps82
  go_wp2
  go_ret
  exact ⟨rr_, by repeat (first | (with_reducible first | exact HI0.out | apply IsS93.alloc | apply IsS93.drewN | apply IsS93.drew | apply IsS93.set_1 | apply IsS93.set_2) | exact HI0.out), by repeat (first | (with_reducible first | exact HB.out | apply below_alloc | apply pw_below_drewN | apply below_drew1 | refine below_set ?_ (IsS93.ge HI0.out)) | exact HB.out), by repeat (first | (with_reducible first | exact HK.out | apply KeepBut.set_ | apply keep_drewN | apply keep_drew | apply keep_alloc) | exact HK.out)⟩
 ·
  rw [if_neg c3] at H
  have c3b0 : decide (a1 ≤ 1) = false := decide_eq_false c3
  clear c3
  replace H := Option.bind_eq_some_iff.mp H
  obtain ⟨⟨t572, t573, t574⟩, A40, H⟩ := H
  replace H : (if a1 > 200 then ((spec_l1Cur_next.f s0_0 t573 t574).bind fun bt575 => (if a1 = 0 then (none) else (some (Int.tmod (wrap64 ((wrap64 (t572 * 256)) + bt575.1)) a1, bt575.2.1, bt575.2.2)))) else (if a1 = 0 then (none) else (some (Int.tmod t572 a1, t573, t574)))) = some (r1, r2, r3) := H
  have A4 := Aside0.mk A40
  clear A40
  by_cases c5 : a1 > 200
  ·
   rw [if_pos c5] at H
   have c5b0 : decide (200 < a1) = true := decide_eq_true c5
   clear c5
   replace H := Option.bind_eq_some_iff.mp H
   obtain ⟨⟨t575, t576, t577⟩, A60, H⟩ := H
   replace H : (if a1 = 0 then (none) else (some (Int.tmod (wrap64 ((wrap64 (t572 * 256)) + t575)) a1, t576, t577))) = some (r1, r2, r3) := H
   have A6 := Aside0.mk A60
   clear A60
   by_cases c7 : a1 = 0
   ·
    rw [if_pos c7] at H
    exact absurd H (by simp)
   ·
    rw [if_neg c7] at H
    have c7b0 : (a1 == 0) = false := beq_eq_false_iff_ne.mpr c7
    have c7b1 : (a1 != 0) = true := bne_iff_ne.mpr c7
    simp only [Option.some.injEq, Prod.mk.injEq] at H
    obtain ⟨rfl, rfl, rfl⟩ := H
    go_enter Tryd.func82, Tryd.ntmps82
    go_wp2_with (first | ((with_reducible refine gate_callee (f := 100) rfl ?_); refine ga_ (some 9) Tryd.func100 #[.pointer (some ⟨g, 0, none⟩)] ?_; (with_reducible refine (spec_l1Cur_next.calls g s0_0 s0_1 s0_2 t572 t573 t574 w0 _ ?side1 ?side2 A4.out).mono ?_); (case side1 => repeat (first | (with_reducible first | exact HI0.out | apply IsS93.alloc | apply IsS93.drewN | apply IsS93.drew | apply IsS93.set_1 | apply IsS93.set_2) | exact HI0.out)); (case side2 => repeat (first | (with_reducible first | exact HB.out | apply below_alloc | apply pw_below_drewN | apply below_drew1 | refine below_set ?_ (IsS93.ge HI0.out)) | exact HB.out)); rintro e w8 ⟨rfl, hi, hb, hk⟩; refine ⟨_, rfl, ?_⟩; have n0_ := Aside0.mk (KeepBut.trans (by repeat (first | (with_reducible first | exact HK.out | apply KeepBut.set_ | apply keep_drewN | apply keep_drew | apply keep_alloc) | exact HK.out)) hk (.inl rfl)); have n1_ := Aside0.mk (hb); have n2_ := Aside0.mk (hi); clear HK; clear HB; clear HI0; have HK := n0_; have HB := n1_; have HI0 := n2_; clear n0_ n1_ n2_; (try clear hb); (try clear hb2); (try clear hk); (try clear hi)) | ((with_reducible refine gate_callee (f := 100) rfl ?_); refine ga_ (some 15) Tryd.func100 #[.pointer (some ⟨g, 0, none⟩)] ?_; (with_reducible refine (spec_l1Cur_next.calls g s0_0 t573 t574 t575 t576 t577 w0 _ ?side1 ?side2 A6.out).mono ?_); (case side1 => repeat (first | (with_reducible first | exact HI0.out | apply IsS93.alloc | apply IsS93.drewN | apply IsS93.drew | apply IsS93.set_1 | apply IsS93.set_2) | exact HI0.out)); (case side2 => repeat (first | (with_reducible first | exact HB.out | apply below_alloc | apply pw_below_drewN | apply below_drew1 | refine below_set ?_ (IsS93.ge HI0.out)) | exact HB.out)); rintro e w9 ⟨rfl, hi, hb, hk⟩; refine ⟨_, rfl, ?_⟩; have n0_ := Aside0.mk (KeepBut.trans (by repeat (first | (with_reducible first | exact HK.out | apply KeepBut.set_ | apply keep_drewN | apply keep_drew | apply keep_alloc) | exact HK.out)) hk (.inl rfl)); have n1_ := Aside0.mk (hb); have n2_ := Aside0.mk (hi); clear HK; clear HB; clear HI0; have HK := n0_; have HB := n1_; have HI0 := n2_; clear n0_ n1_ n2_; (try clear hb); (try clear hb2); (try clear hk); (try clear hi)))
    go_ret
    exact ⟨rr_, by repeat (first | (with_reducible first | exact HI0.out | apply IsS93.alloc | apply IsS93.drewN | apply IsS93.drew | apply IsS93.set_1 | apply IsS93.set_2) | exact HI0.out), by repeat (first | (with_reducible first | exact HB.out | apply below_alloc | apply pw_below_drewN | apply below_drew1 | refine below_set ?_ (IsS93.ge HI0.out)) | exact HB.out), by repeat (first | (with_reducible first | exact HK.out | apply KeepBut.set_ | apply keep_drewN | apply keep_drew | apply keep_alloc) | exact HK.out)⟩
  ·
   rw [if_neg c5] at H
   have c5b0 : decide (200 < a1) = false := decide_eq_false c5
   clear c5
   by_cases c10 : a1 = 0
   ·
    rw [if_pos c10] at H
    exact absurd H (by simp)
   ·
    rw [if_neg c10] at H
    have c10b0 : (a1 == 0) = false := beq_eq_false_iff_ne.mpr c10
    have c10b1 : (a1 != 0) = true := bne_iff_ne.mpr c10
    simp only [Option.some.injEq, Prod.mk.injEq] at H
    obtain ⟨rfl, rfl, rfl⟩ := H
    go_enter Tryd.func82, Tryd.ntmps82
    go_wp2_with (first | ((with_reducible refine gate_callee (f := 100) rfl ?_); refine ga_ (some 9) Tryd.func100 #[.pointer (some ⟨g, 0, none⟩)] ?_; (with_reducible refine (spec_l1Cur_next.calls g s0_0 s0_1 s0_2 t572 t573 t574 w0 _ ?side1 ?side2 A4.out).mono ?_); (case side1 => repeat (first | (with_reducible first | exact HI0.out | apply IsS93.alloc | apply IsS93.drewN | apply IsS93.drew | apply IsS93.set_1 | apply IsS93.set_2) | exact HI0.out)); (case side2 => repeat (first | (with_reducible first | exact HB.out | apply below_alloc | apply pw_below_drewN | apply below_drew1 | refine below_set ?_ (IsS93.ge HI0.out)) | exact HB.out)); rintro e w11 ⟨rfl, hi, hb, hk⟩; refine ⟨_, rfl, ?_⟩; have n0_ := Aside0.mk (KeepBut.trans (by repeat (first | (with_reducible first | exact HK.out | apply KeepBut.set_ | apply keep_drewN | apply keep_drew | apply keep_alloc) | exact HK.out)) hk (.inl rfl)); have n1_ := Aside0.mk (hb); have n2_ := Aside0.mk (hi); clear HK; clear HB; clear HI0; have HK := n0_; have HB := n1_; have HI0 := n2_; clear n0_ n1_ n2_; (try clear hb); (try clear hb2); (try clear hk); (try clear hi)))
    go_ret
    exact ⟨rr_, by repeat (first | (with_reducible first | exact HI0.out | apply IsS93.alloc | apply IsS93.drewN | apply IsS93.drew | apply IsS93.set_1 | apply IsS93.set_2) | exact HI0.out), by repeat (first | (with_reducible first | exact HB.out | apply below_alloc | apply pw_below_drewN | apply below_drew1 | refine below_set ?_ (IsS93.ge HI0.out)) | exact HB.out), by repeat (first | (with_reducible first | exact HK.out | apply KeepBut.set_ | apply keep_drewN | apply keep_drew | apply keep_alloc) | exact HK.out)⟩
def spec_l1Cur_among.f (s0_0 : List Int) (s0_1 : Int) (s0_2 : Int) (l1 : List Int) : Option (Int × Int × Int) := (spec_l1Cur_pick.f s0_0 s0_1 s0_2 (l1.length : Int)).bind fun bt581 => (if 0 ≤ bt581.1 then (if bt581.1 < (l1.length : Int) then (some (rd l1 bt581.1, bt581.2.1, bt581.2.2)) else (none)) else (none))
set_option maxHeartbeats 8000000 in
set_option maxRecDepth 100000 in
theorem spec_l1Cur_among.calls (g : Nat) (s0_0 : List Int) (s0_1 : Int) (s0_2 : Int) (A1 : Option Addr) (c1 : Nat) (l1 : List Int) (r1 : Int) (r2 : Int) (r3 : Int) (w0 w : World) (hI : IsS93 w0 w g s0_0 s0_1 s0_2) (hB : Below w0.heap.size w0 w) (hr1 : Kd.C (Kd.int .i64) w A1 l1.length l1) (hc1 : l1.length ≤ c1) (hf1 : ∀ ad, A1 = some ad → 0 < l1.length → ad.block ≠ g) (h : spec_l1Cur_among.f s0_0 s0_1 s0_2 l1 = some (r1, r2, r3)) :
  Calls Tryd.prog 83 #[.pointer (some ⟨g, 0, none⟩), .slice A1 l1.length c1] w fun e w' => e = .returned (.int .i64 r1) ∧ IsS93 w0 w' g s0_0 r2 r3 ∧ Below w0.heap.size w0 w' ∧ KeepBut w w' g none := by
 have HR1 := Aside0.mk hr1
 have HC1 := Aside0.mk hc1
 clear hr1 hc1
 have HI0 := Aside0.mk hI
 have HK := Aside0.mk (KeepBut.refl w g none)
 have HL := Aside0.mk hB.size
 clear hI
 have HW0 := Aside0.mk hB.size
 have HB := Aside0.mk hB
 clear hB
 have H : ((spec_l1Cur_pick.f s0_0 s0_1 s0_2 (l1.length : Int)).bind fun bt581 => (if 0 ≤ bt581.1 then (if bt581.1 < (l1.length : Int) then (some (rd l1 bt581.1, bt581.2.1, bt581.2.2)) else (none)) else (none))) = some (r1, r2, r3) := h
 clear h
 replace H := Option.bind_eq_some_iff.mp H
 obtain ⟨⟨t581, t582, t583⟩, A30, H⟩ := H
 replace H : (if 0 ≤ t581 then (if t581 < (l1.length : Int) then (some (rd l1 t581, t582, t583)) else (none)) else (none)) = some (r1, r2, r3) := H
 have A3 := Aside0.mk A30
 clear A30
 by_cases c4 : 0 ≤ t581
 ·
  rw [if_pos c4] at H
  have c4b0 : decide (0 ≤ t581) = true := decide_eq_true c4
  clear c4
  by_cases c5 : t581 < (l1.length : Int)
  ·
   rw [if_pos c5] at H
   have c5b0 : decide (t581 < (l1.length : Int)) = true := decide_eq_true c5
   clear c5
   simp only [Option.some.injEq, Prod.mk.injEq] at H
   obtain ⟨rfl, rfl, rfl⟩ := H
   go_enter Tryd.func83, Tryd.ntmps83
   go_wp2_with (first | ((with_reducible refine gate_callee (f := 82) rfl ?_); refine ga_ (some 9) Tryd.func82 #[.pointer (some ⟨g, 0, none⟩), .int .i64 (l1.length : Int)] ?_; (with_reducible refine (spec_l1Cur_pick.calls g s0_0 s0_1 s0_2 (l1.length : Int) t581 t582 t583 w0 _ ?side1 ?side2 A3.out).mono ?_); (case side1 => repeat (first | (with_reducible first | exact HI0.out | apply IsS93.alloc | apply IsS93.drewN | apply IsS93.drew | apply IsS93.set_1 | apply IsS93.set_2) | exact HI0.out)); (case side2 => repeat (first | (with_reducible first | exact HB.out | apply below_alloc | apply pw_below_drewN | apply below_drew1 | refine below_set ?_ (IsS93.ge HI0.out)) | exact HB.out)); rintro e w6 ⟨rfl, hi, hb, hk⟩; refine ⟨_, rfl, ?_⟩; have n0_ := Aside0.mk (KeepBut.trans (by repeat (first | (with_reducible first | exact HK.out | apply KeepBut.set_ | apply keep_drewN | apply keep_drew | apply keep_alloc) | exact HK.out)) hk (.inl rfl)); have n1_ := Aside0.mk (hb); have n2_ := Aside0.mk (hi); clear HK; clear HB; clear HI0; have HK := n0_; have HB := n1_; have HI0 := n2_; clear n0_ n1_ n2_; (try clear hb); (try clear hb2); (try clear hk); (try clear hi); have p584 : 0 ≤ (t581 : Int) := dt_; have q584 : t581 < (l1.length : Int) := dt_; obtain ⟨ad584, e584, hx584_0⟩ := Kd.at_int HR1.out t581 p584 q584; cases e584; replace hx584_0 := keep_cell HK.out hx584_0 (by first | (rw [add_block]; exact hf1 _ rfl (by omega)) | exact hf1 _ rfl (by omega) | exact hf1 ad584 rfl (by omega)); replace p584 := eq_true p584; replace q584 := eq_true q584))
   go_ret
   exact ⟨rr_, by repeat (first | (with_reducible first | exact HI0.out | apply IsS93.alloc | apply IsS93.drewN | apply IsS93.drew | apply IsS93.set_1 | apply IsS93.set_2) | exact HI0.out), by repeat (first | (with_reducible first | exact HB.out | apply below_alloc | apply pw_below_drewN | apply below_drew1 | refine below_set ?_ (IsS93.ge HI0.out)) | exact HB.out), by repeat (first | (with_reducible first | exact HK.out | apply KeepBut.set_ | apply keep_drewN | apply keep_drew | apply keep_alloc) | exact HK.out)⟩
  ·
   rw [if_neg c5] at H
   exact absurd H (by simp)
 ·
  rw [if_neg c4] at H
  exact absurd H (by simp)
def spec_l1Cur_of.f (s0_0 : List Int) (s0_1 : Int) (s0_2 : Int) (l1 : List ByteArray) : Option (ByteArray × Int × Int) := (spec_l1Cur_pick.f s0_0 s0_1 s0_2 (l1.length : Int)).bind fun bt585 => (if 0 ≤ bt585.1 then (if bt585.1 < (l1.length : Int) then (some (rdOf ByteArray.empty l1 bt585.1, bt585.2.1, bt585.2.2)) else (none)) else (none))
set_option maxHeartbeats 8000000 in
set_option maxRecDepth 100000 in
theorem spec_l1Cur_of.calls (g : Nat) (s0_0 : List Int) (s0_1 : Int) (s0_2 : Int) (A1 : Option Addr) (c1 : Nat) (l1 : List ByteArray) (r1 : ByteArray) (r2 : Int) (r3 : Int) (w0 w : World) (hI : IsS93 w0 w g s0_0 s0_1 s0_2) (hB : Below w0.heap.size w0 w) (hr1 : Kd.C Kd.string w A1 l1.length l1) (hc1 : l1.length ≤ c1) (hf1 : ∀ ad, A1 = some ad → 0 < l1.length → ad.block ≠ g) (h : spec_l1Cur_of.f s0_0 s0_1 s0_2 l1 = some (r1, r2, r3)) :
  Calls Tryd.prog 101 #[.pointer (some ⟨g, 0, none⟩), .slice A1 l1.length c1] w fun e w' => e = .returned (.string r1) ∧ IsS93 w0 w' g s0_0 r2 r3 ∧ Below w0.heap.size w0 w' ∧ KeepBut w w' g none := by
 have HR1 := Aside0.mk hr1
 have HC1 := Aside0.mk hc1
 clear hr1 hc1
 have HI0 := Aside0.mk hI
 have HK := Aside0.mk (KeepBut.refl w g none)
 have HL := Aside0.mk hB.size
 clear hI
 have HW0 := Aside0.mk hB.size
 have HB := Aside0.mk hB
 clear hB
 have H : ((spec_l1Cur_pick.f s0_0 s0_1 s0_2 (l1.length : Int)).bind fun bt585 => (if 0 ≤ bt585.1 then (if bt585.1 < (l1.length : Int) then (some (rdOf ByteArray.empty l1 bt585.1, bt585.2.1, bt585.2.2)) else (none)) else (none))) = some (r1, r2, r3) := h
 clear h
 replace H := Option.bind_eq_some_iff.mp H
 obtain ⟨⟨t585, t586, t587⟩, A30, H⟩ := H
 replace H : (if 0 ≤ t585 then (if t585 < (l1.length : Int) then (some (rdOf ByteArray.empty l1 t585, t586, t587)) else (none)) else (none)) = some (r1, r2, r3) := H
 have A3 := Aside0.mk A30
 clear A30
 by_cases c4 : 0 ≤ t585
 ·
  rw [if_pos c4] at H
  have c4b0 : decide (0 ≤ t585) = true := decide_eq_true c4
  clear c4
  by_cases c5 : t585 < (l1.length : Int)
  ·
   rw [if_pos c5] at H
   have c5b0 : decide (t585 < (l1.length : Int)) = true := decide_eq_true c5
   clear c5
   simp only [Option.some.injEq, Prod.mk.injEq] at H
   obtain ⟨rfl, rfl, rfl⟩ := H
   go_enter Tryd.func101, Tryd.ntmps101
   go_wp2_with (first | ((with_reducible refine gate_callee (f := 82) rfl ?_); refine ga_ (some 9) Tryd.func82 #[.pointer (some ⟨g, 0, none⟩), .int .i64 (l1.length : Int)] ?_; (with_reducible refine (spec_l1Cur_pick.calls g s0_0 s0_1 s0_2 (l1.length : Int) t585 t586 t587 w0 _ ?side1 ?side2 A3.out).mono ?_); (case side1 => repeat (first | (with_reducible first | exact HI0.out | apply IsS93.alloc | apply IsS93.drewN | apply IsS93.drew | apply IsS93.set_1 | apply IsS93.set_2) | exact HI0.out)); (case side2 => repeat (first | (with_reducible first | exact HB.out | apply below_alloc | apply pw_below_drewN | apply below_drew1 | refine below_set ?_ (IsS93.ge HI0.out)) | exact HB.out)); rintro e w6 ⟨rfl, hi, hb, hk⟩; refine ⟨_, rfl, ?_⟩; have n0_ := Aside0.mk (KeepBut.trans (by repeat (first | (with_reducible first | exact HK.out | apply KeepBut.set_ | apply keep_drewN | apply keep_drew | apply keep_alloc) | exact HK.out)) hk (.inl rfl)); have n1_ := Aside0.mk (hb); have n2_ := Aside0.mk (hi); clear HK; clear HB; clear HI0; have HK := n0_; have HB := n1_; have HI0 := n2_; clear n0_ n1_ n2_; (try clear hb); (try clear hb2); (try clear hk); (try clear hi); have p588 : 0 ≤ (t585 : Int) := dt_; have q588 : t585 < (l1.length : Int) := dt_; obtain ⟨ad588, e588, hx588_0⟩ := Kd.at_string HR1.out t585 p588 q588; cases e588; replace hx588_0 := keep_cell HK.out hx588_0 (by first | (rw [add_block]; exact hf1 _ rfl (by omega)) | exact hf1 _ rfl (by omega) | exact hf1 ad588 rfl (by omega)); replace p588 := eq_true p588; replace q588 := eq_true q588))
   go_ret
   exact ⟨rr_, by repeat (first | (with_reducible first | exact HI0.out | apply IsS93.alloc | apply IsS93.drewN | apply IsS93.drew | apply IsS93.set_1 | apply IsS93.set_2) | exact HI0.out), by repeat (first | (with_reducible first | exact HB.out | apply below_alloc | apply pw_below_drewN | apply below_drew1 | refine below_set ?_ (IsS93.ge HI0.out)) | exact HB.out), by repeat (first | (with_reducible first | exact HK.out | apply KeepBut.set_ | apply keep_drewN | apply keep_drew | apply keep_alloc) | exact HK.out)⟩
  ·
   rw [if_neg c5] at H
   exact absurd H (by simp)
 ·
  rw [if_neg c4] at H
  exact absurd H (by simp)
end Go.Proofs.YteepnlofbfccgaaDoor.Pr

