/-
What is proved: parts of the law FnExactWalkAll: what the functions that it reaches compute, and the plain law.
Conditions: those of each theorem.
-/
import Derived.Test.YthmjimboajmhmaaCFnExactWalkAll2
set_option maxHeartbeats 8000000
set_option maxRecDepth 100000
namespace Go.Proofs.Ythmjimboajmhmaa.Pr
open Go.RowKit Go.Proofs.YthmjimboajmhmaaW.PrintWords Go.Proofs.YthmjimboajmhmaaW.PrintLast Go.Proofs.YthmjimboajmhmaaW.PrintMore
attribute [local go_sem] max2_int min2_int max_two min_two max_three min_three max_four min_four   -- for this text's walks alone
set_option linter.unusedVariables false
set_option linter.unusedSimpArgs false
mutual
def spec_l25Out.l0 : Nat → List (S37) → List Bool → Int → List Int → Int → Option (Int)
 | 0, _, _, _, _, _ => none
 | k + 1, x0, x1, x2, x7, x8 => if x8 < 8 then (if x7.length < 17592186044416 then (spec_l25Out.l0 k x0 x1 x2 (x7 ++ [(-1)]) (wrap64 (x8 + 1))) else (none)) else (if 0 < (x7.length : Int) then (spec_l25Out.l1 k x0 x1 x2 (x7.set (0 : Int).toNat 0) true) else (none))
def spec_l25Out.l1 : Nat → List (S37) → List Bool → Int → List Int → Bool → Option (Int)
 | 0, _, _, _, _, _ => none
 | k + 1, x0, x1, x2, x7, x9 => if x9 = true then (spec_l25Out.l2 k x0 x1 x2 x7 false 0) else (if 0 ≤ x2 then (if x2 < (x7.length : Int) then (some (rd x7 x2)) else (none)) else (none))
def spec_l25Out.l2 : Nat → List (S37) → List Bool → Int → List Int → Bool → Int → Option (Int)
 | 0, _, _, _, _, _, _ => none
 | k + 1, x0, x1, x2, x7, x9, x10 => if x10 < (x0.length : Int) then (if 0 ≤ x10 then (if 0 ≤ ((rd_T37 x0 x10).f0) then (if ((rd_T37 x0 x10).f0) < (x1.length : Int) then (if (rdOf false x1 ((rd_T37 x0 x10).f0) = true) then (if 0 ≤ ((rd_T37 x0 x10).f1) then (if ((rd_T37 x0 x10).f1) < (x1.length : Int) then (spec_l25Out.j3 k x0 x1 x2 x7 x9 x10 ((rd_T37 x0 x10).f0) ((rd_T37 x0 x10).f1) (!(rdOf false x1 ((rd_T37 x0 x10).f1)))) else (none)) else (none)) else (spec_l25Out.j3 k x0 x1 x2 x7 x9 x10 ((rd_T37 x0 x10).f0) ((rd_T37 x0 x10).f1) true)) else (none)) else (none)) else (none)) else (spec_l25Out.l1 k x0 x1 x2 x7 x9)
def spec_l25Out.j3 : Nat → List (S37) → List Bool → Int → List Int → Bool → Int → Int → Int → Bool → Option (Int)
 | 0, _, _, _, _, _, _, _, _, _ => none
 | k + 1, x0, x1, x2, x7, x9, x10, x11, x12, x53 => if x53 = true then (spec_l25Out.l2 k x0 x1 x2 x7 x9 (wrap64 (x10 + 1))) else (if 0 ≤ x11 then (if x11 < (x7.length : Int) then (if 0 ≤ x10 then (if x10 < (x0.length : Int) then (if (rd x7 x11) ≥ 0 then (if 0 ≤ x12 then (if x12 < (x7.length : Int) then (if (rd x7 x12) < 0 then (spec_l25Out.j4 k x0 x1 x2 x7 x9 x10 x11 x12 (wrap64 ((rd x7 x11) + ((rd_T37 x0 x10).f2))) true) else (spec_l25Out.j4 k x0 x1 x2 x7 x9 x10 x11 x12 (wrap64 ((rd x7 x11) + ((rd_T37 x0 x10).f2))) (decide ((wrap64 ((rd x7 x11) + ((rd_T37 x0 x10).f2))) < (rd x7 x12))))) else (none)) else (none)) else (spec_l25Out.j4 k x0 x1 x2 x7 x9 x10 x11 x12 (wrap64 ((rd x7 x11) + ((rd_T37 x0 x10).f2))) false)) else (none)) else (none)) else (none)) else (none))
def spec_l25Out.j4 : Nat → List (S37) → List Bool → Int → List Int → Bool → Int → Int → Int → Int → Bool → Option (Int)
 | 0, _, _, _, _, _, _, _, _, _, _ => none
 | k + 1, x0, x1, x2, x7, x9, x10, x11, x12, x13, x83 => if x83 = true then (if 0 ≤ x12 then (if x12 < (x7.length : Int) then ((some (x7.set (x12 : Int).toNat x13 : List Int)).bind fun y122 => (if 0 ≤ x10 then (if x10 < (x0.length : Int) then (if (rd y122 x12) ≥ 0 then (if 0 ≤ x11 then (if x11 < (x7.length : Int) then (if (rd y122 x11) < 0 then (spec_l25Out.l2 k x0 x1 x2 (y122.set (x11 : Int).toNat (wrap64 ((rd y122 x12) + ((rd_T37 x0 x10).f2)))) true (wrap64 (x10 + 1))) else (if (wrap64 ((rd y122 x12) + ((rd_T37 x0 x10).f2))) < (rd y122 x11) then (spec_l25Out.l2 k x0 x1 x2 (y122.set (x11 : Int).toNat (wrap64 ((rd y122 x12) + ((rd_T37 x0 x10).f2)))) true (wrap64 (x10 + 1))) else (spec_l25Out.l2 k x0 x1 x2 y122 true (wrap64 (x10 + 1))))) else (none)) else (none)) else (spec_l25Out.l2 k x0 x1 x2 y122 true (wrap64 (x10 + 1)))) else (none)) else (none))) else (none)) else (none)) else (if 0 ≤ x12 then (if x12 < (x7.length : Int) then (if 0 ≤ x10 then (if x10 < (x0.length : Int) then (if (rd x7 x12) ≥ 0 then (if 0 ≤ x11 then (if x11 < (x7.length : Int) then (if (rd x7 x11) < 0 then (spec_l25Out.l2 k x0 x1 x2 (x7.set (x11 : Int).toNat (wrap64 ((rd x7 x12) + ((rd_T37 x0 x10).f2)))) true (wrap64 (x10 + 1))) else (if (wrap64 ((rd x7 x12) + ((rd_T37 x0 x10).f2))) < (rd x7 x11) then (spec_l25Out.l2 k x0 x1 x2 (x7.set (x11 : Int).toNat (wrap64 ((rd x7 x12) + ((rd_T37 x0 x10).f2)))) true (wrap64 (x10 + 1))) else (spec_l25Out.l2 k x0 x1 x2 x7 x9 (wrap64 (x10 + 1))))) else (none)) else (none)) else (spec_l25Out.l2 k x0 x1 x2 x7 x9 (wrap64 (x10 + 1)))) else (none)) else (none)) else (none)) else (none))
end
def spec_l25Out.f (k : Nat) (l0 : List (S37)) (l1 : List Bool) (a2 : Int) : Option (Int) := spec_l25Out.l0 k l0 l1 a2 (([] : List Int)) 0
theorem spec_l25Out.calls (k : Nat) (A0 : Option Addr) (c0 : Nat) (l0 : List (S37)) (A1 : Option Addr) (c1 : Nat) (l1 : List Bool) (a2 : Int) (r : Int) (w : World) (hr0 : Kd.C k37 w A0 l0.length l0) (hc0 : l0.length ≤ c0) (hr1 : Kd.C Kd.bool w A1 l1.length l1) (hc1 : l1.length ≤ c1) (h : spec_l25Out.f k l0 l1 a2 = some r) :
  Calls Try.prog 88 #[.slice A0 l0.length c0, .slice A1 l1.length c1, .int .i64 a2] w fun e w' => e = .returned (.int .i64 r) ∧ Below w.heap.size w w' := by
 have HR0 := Aside0.mk hr0
 have HC0 := Aside0.mk hc0
 clear hr0 hc0
 have HR1 := Aside0.mk hr1
 have HC1 := Aside0.mk hc1
 clear hr1 hc1
 have HB := Aside0.mk (Below.refl w.heap.size w)
 have H : (spec_l25Out.l0 k l0 l1 a2 (([] : List Int)) 0) = some r := h
 clear h
 obtain ⟨y105, hy105⟩ : ∃ y_ : List Int, y_ = (([] : List Int)) := ⟨_, rfl⟩
 replace H : (spec_l25Out.l0 k l0 l1 a2 y105 0) = some r := by first | (rw [hy105]; with_reducible exact H) | (have H2_ := (Option.bind_some _ _).symm.trans H; rw [hy105]; with_reducible exact H2_) | (have H2_ := (Option.bind_some _ _).symm.trans H; with_reducible exact H2_) | with_reducible exact H | (rw [hy105]; exact H) | exact H
 have Ny105 := Aside0.mk hy105
 clear hy105
 have H' := Aside0.mk H
 clear H
 go_enter Try.func88, Try.ntmps88
 go_wp2_with (first | ((with_reducible refine gate_dst (N := 15) rfl ?_); refine Kd.R_lit (Kd.int .i64) _ 3 ?hg (N := 15) ?hd (xs := ([] : List Int)) (inner := []) (ok := fun _ => True) (okp := fun _ => True) ?hr ?hp (fun _ hk => hk) trivial (Below.refl _ _) (Nat.le_refl _) (by simp) ?_; (case hd => rfl); (case hg => rfl); (case hr => first | (go_simp; done) | (go_simp; rfl)); (case hp => exact (Reps.none _ _)); intro v106 w4 ho5 hb hg_ hnew_; clear hg_ hnew_; replace ho5 := ry_ Ny105.out ho5; have HO107 := Aside0.mk (Kd.R_lower ho5 (below_size (lb0_ HB.out))); replace HB := Aside0.mk (below_step (lb0_ HB.out) hb); clear hb ho5))
 repeat (go_quiet (first | ((with_reducible refine gate_dst (N := 15) rfl ?_); refine Kd.R_lit (Kd.int .i64) _ 3 ?hg (N := 15) ?hd (xs := ([] : List Int)) (inner := []) (ok := fun _ => True) (okp := fun _ => True) ?hr ?hp (fun _ hk => hk) trivial (Below.refl _ _) (Nat.le_refl _) (by simp) ?_; (case hd => rfl); (case hg => rfl); (case hr => first | (go_simp; done) | (go_simp; rfl)); (case hp => exact (Reps.none _ _)); intro v106 w4 ho5 hb hg_ hnew_; clear hg_ hnew_; replace ho5 := ry_ Ny105.out ho5; have HO107 := Aside0.mk (Kd.R_lower ho5 (below_size (lb0_ HB.out))); replace HB := Aside0.mk (below_step (lb0_ HB.out) hb); clear hb ho5)); try go_wp2_with (first | ((with_reducible refine gate_dst (N := 15) rfl ?_); refine Kd.R_lit (Kd.int .i64) _ 3 ?hg (N := 15) ?hd (xs := ([] : List Int)) (inner := []) (ok := fun _ => True) (okp := fun _ => True) ?hr ?hp (fun _ hk => hk) trivial (Below.refl _ _) (Nat.le_refl _) (by simp) ?_; (case hd => rfl); (case hg => rfl); (case hr => first | (go_simp; done) | (go_simp; rfl)); (case hp => exact (Reps.none _ _)); intro v106 w4 ho5 hb hg_ hnew_; clear hg_ hnew_; replace ho5 := ry_ Ny105.out ho5; have HO107 := Aside0.mk (Kd.R_lower ho5 (below_size (lb0_ HB.out))); replace HB := Aside0.mk (below_step (lb0_ HB.out) hb); clear hb ho5)))
 go_loopg [7, 8] k (fun kq v7 v8 w' => ∃ (x7_1 : List Int) (x8_1 : Int), v8 = .int .i64 x8_1 ∧ Aside0 (spec_l25Out.l0 kq l0 l1 a2 x7_1 x8_1 = some r) ∧ Aside0 (kq ≤ k) ∧ Aside0 (Kd.R (Kd.int .i64) 3 w' w.heap.size (fun _ => True) v7 x7_1) ∧ Aside0 (Below w.heap.size w w'))
 case atStart => exact ⟨(y105), (0), (by first | rfl | (simp; done) | (simp [*]; done)), H', ⟨Nat.le_refl _⟩, ⟨kr_ HO107.out⟩, ⟨lb0_ HB.out⟩⟩
 case round =>
  clear H'
  try clear c1
  try clear p2
  obtain ⟨x7_1, x8_1, rfl, HA, HK1, HO_7, HB⟩ := hrel
  cases gk with
  | zero => exact absurd HA.out (by simp [spec_l25Out.l0])
  | succ k1 =>
   have H := HA.out
   clear HA
   simp only [spec_l25Out.l0] at H
   by_cases c6 : x8_1 < 8
   ·
    rw [if_pos c6] at H
    have c6b0 : decide (x8_1 < 8) = true := decide_eq_true c6
    clear c6
    by_cases c7 : x7_1.length < 17592186044416
    ·
     rw [if_pos c7] at H
     have LMc7 := Aside0.mk c7
     clear c7
     obtain ⟨y108, hy108⟩ : ∃ y_ : List Int, y_ = (x7_1 ++ [(-1)]) := ⟨_, rfl⟩
     replace H : (spec_l25Out.l0 k1 l0 l1 a2 y108 (wrap64 (x8_1 + 1))) = some r := by first | (rw [hy108]; with_reducible exact H) | (have H2_ := (Option.bind_some _ _).symm.trans H; rw [hy108]; with_reducible exact H2_) | (have H2_ := (Option.bind_some _ _).symm.trans H; with_reducible exact H2_) | with_reducible exact H | (rw [hy108]; exact H) | exact H
     have Ny108 := Aside0.mk hy108
     clear hy108
     have H' := Aside0.mk H
     clear H
     go_wp2_with (first | ((with_reducible refine gate_builtin (b := .append) (xs := #[.tmp 20, .tmp 21]) rfl ?_); at_builtin; refine Kd.R_append (Kd.int .i64) (w0 := w) w.heap.size rfl (.tmp 20) (.tmp 21) 60 3 (.int .i64 0) 8 rfl Try.underlying60 info3 rfl (by decide) (by omega) u7 x7_1 (-1) [.int .i64 (-1)] (fun _ => True) (fun _ => False) rfl rfl ?aP (fun _ hk => hk.elim) ?aF ?aO ?aB ?aS ?aL ?_; (case aP => exact rfl); (case aB => exact (lb0_ HB.out)); (case aF => exact (fun _ _ => trivial)); (case aO => exact (kr_ HO_7.out)); (case aS => exact (below_size (lb0_ HB.out))); (case aL => have := LMc7.out; omega); intro v109 w8 ho hb hg hat; rw [← Ny108.out] at ho; replace HB := Aside0.mk (hb); have HO110 := Aside0.mk (ho); clear HO_7; clear ho hb hg hat))
     repeat (go_quiet (first | ((with_reducible refine gate_builtin (b := .append) (xs := #[.tmp 20, .tmp 21]) rfl ?_); at_builtin; refine Kd.R_append (Kd.int .i64) (w0 := w) w.heap.size rfl (.tmp 20) (.tmp 21) 60 3 (.int .i64 0) 8 rfl Try.underlying60 info3 rfl (by decide) (by omega) u7 x7_1 (-1) [.int .i64 (-1)] (fun _ => True) (fun _ => False) rfl rfl ?aP (fun _ hk => hk.elim) ?aF ?aO ?aB ?aS ?aL ?_; (case aP => exact rfl); (case aB => exact (lb0_ HB.out)); (case aF => exact (fun _ _ => trivial)); (case aO => exact (kr_ HO_7.out)); (case aS => exact (below_size (lb0_ HB.out))); (case aL => have := LMc7.out; omega); intro v109 w8 ho hb hg hat; rw [← Ny108.out] at ho; replace HB := Aside0.mk (hb); have HO110 := Aside0.mk (ho); clear HO_7; clear ho hb hg hat)); try go_wp2_with (first | ((with_reducible refine gate_builtin (b := .append) (xs := #[.tmp 20, .tmp 21]) rfl ?_); at_builtin; refine Kd.R_append (Kd.int .i64) (w0 := w) w.heap.size rfl (.tmp 20) (.tmp 21) 60 3 (.int .i64 0) 8 rfl Try.underlying60 info3 rfl (by decide) (by omega) u7 x7_1 (-1) [.int .i64 (-1)] (fun _ => True) (fun _ => False) rfl rfl ?aP (fun _ hk => hk.elim) ?aF ?aO ?aB ?aS ?aL ?_; (case aP => exact rfl); (case aB => exact (lb0_ HB.out)); (case aF => exact (fun _ _ => trivial)); (case aO => exact (kr_ HO_7.out)); (case aS => exact (below_size (lb0_ HB.out))); (case aL => have := LMc7.out; omega); intro v109 w8 ho hb hg hat; rw [← Ny108.out] at ho; replace HB := Aside0.mk (hb); have HO110 := Aside0.mk (ho); clear HO_7; clear ho hb hg hat)))
     go_roundg k1
     case measure => have := HK1.out; omega
     case rel => exact ⟨(y108), (wrap64 (x8_1 + 1)), (by first | rfl | (simp; done) | (simp [*]; done)), H', ⟨by have := HK1.out; omega⟩, ⟨kr_ HO110.out⟩, ⟨lb0_ HB.out⟩⟩
    ·
     rw [if_neg c7] at H
     exact absurd H (by simp)
   ·
    rw [if_neg c6] at H
    have c6b0 : decide (x8_1 < 8) = false := decide_eq_false c6
    clear c6
    by_cases c9 : 0 < (x7_1.length : Int)
    ·
     rw [if_pos c9] at H
     have c9b0 : decide (0 < (x7_1.length : Int)) = true := decide_eq_true c9
     have c9b1 : decide (0 < x7_1.length) = true := decide_eq_true (by omega)
     clear c9
     obtain ⟨y111, hy111⟩ : ∃ y_ : List Int, y_ = (x7_1.set (0 : Int).toNat 0) := ⟨_, rfl⟩
     replace H : (spec_l25Out.l1 k1 l0 l1 a2 y111 true) = some r := by first | (rw [hy111]; with_reducible exact H) | (have H2_ := (Option.bind_some _ _).symm.trans H; rw [hy111]; with_reducible exact H2_) | (have H2_ := (Option.bind_some _ _).symm.trans H; with_reducible exact H2_) | with_reducible exact H | (rw [hy111]; exact H) | exact H
     have Ny111 := Aside0.mk hy111
     clear hy111
     have H' := Aside0.mk H
     clear H
     have p10 : 0 ≤ (0 : Int) := (by omega)
     have q10 : (0 : Int) < ((x7_1.length : Int) : Int) := dt_
     have qi10 : (0 < x7_1.length) = True := eq_true (by omega)
     obtain ⟨go10, co10, eo10, gb10, gl10, cl10, HG10⟩ := Kd.R_form HO_7.out (by omega)
     (first | cases eo10 | (injection eo10 with ea_ en_ ec_; (first | subst ea_ | (injection ea_ with ea_; subst ea_)); subst ec_; clear en_))
     have GB10 := Aside0.mk gb10
     have GG10 := Aside0.mk HG10
     clear gb10 gl10 HG10
     obtain ⟨hx10_0, hf10_0⟩ := Kd.R_celln 0 HO_7.out (0 : Int) p10 q10
     (try rw [show ((0 : Int)).toNat = 0 from rfl] at hx10_0)
     (try simp only [Nat.reduceMul, Nat.zero_mul, Nat.zero_add, Nat.reduceAdd] at hx10_0)
     (try rw [show ((0 : Int)).toNat = 0 from rfl] at hf10_0)
     (try simp only [Nat.reduceMul, Nat.zero_mul, Nat.zero_add, Nat.reduceAdd] at hf10_0)
     replace p10 := eq_true p10
     replace q10 := eq_true q10
     have HP11 := Kd.R_putg HO_7.out (0 : Int) 0
     go_wp2_with (first | ((with_reducible refine gate_store (t := 3) (p := 24) rfl ?_); (try (rw [drewN_self wr]; generalize hq_ : World.drewN wr _ = wr; replace HO_7 := Aside0.mk (Kd.R_at hq_ HO_7.out); replace HB := Aside0.mk (below_at hq_ HB.out); clear hq_; (try (have HP11 := Kd.R_putg HO_7.out (0 : Int) 0)))); refine store_event (t := 3) (p := 24) (v := ?vo_w12) (w1 := (wr.setCell ⟨go10, (0 : Int).toNat, none⟩ (.int .i64 0))) ?hg ?ho ?hn ?hr ?_; (case ho => rfl); (case hg => rfl); (case hn => rfl); (case hr => first | (go_simp; done) | (go_simp; rfl)); intro w12 hw; have hg : wr.grownBy w12 (some go10) := (by rw [hw]; exact HP11.2); have hp_ : Kd.R (Kd.int .i64) 3 w12 w.heap.size (fun _ => True) (.slice (some ⟨go10, 0, none⟩) x7_1.length co10) y111 := (by rw [hw, Ny111.out]; exact HP11.1); clear HP11; replace HO_7 := Aside0.mk (hp_); replace HB := Aside0.mk ((by rw [hw]; exact below_set (HB.out) GB10.out : Below w.heap.size w w12)); clear hg hw hp_))
     repeat (go_quiet (first | ((with_reducible refine gate_store (t := 3) (p := 24) rfl ?_); (try (rw [drewN_self wr]; generalize hq_ : World.drewN wr _ = wr; replace HO_7 := Aside0.mk (Kd.R_at hq_ HO_7.out); replace HB := Aside0.mk (below_at hq_ HB.out); clear hq_; (try (have HP11 := Kd.R_putg HO_7.out (0 : Int) 0)))); refine store_event (t := 3) (p := 24) (v := ?vo_w12) (w1 := (wr.setCell ⟨go10, (0 : Int).toNat, none⟩ (.int .i64 0))) ?hg ?ho ?hn ?hr ?_; (case ho => rfl); (case hg => rfl); (case hn => rfl); (case hr => first | (go_simp; done) | (go_simp; rfl)); intro w12 hw; have hg : wr.grownBy w12 (some go10) := (by rw [hw]; exact HP11.2); have hp_ : Kd.R (Kd.int .i64) 3 w12 w.heap.size (fun _ => True) (.slice (some ⟨go10, 0, none⟩) x7_1.length co10) y111 := (by rw [hw, Ny111.out]; exact HP11.1); clear HP11; replace HO_7 := Aside0.mk (hp_); replace HB := Aside0.mk ((by rw [hw]; exact below_set (HB.out) GB10.out : Below w.heap.size w w12)); clear hg hw hp_)); try go_wp2_with (first | ((with_reducible refine gate_store (t := 3) (p := 24) rfl ?_); (try (rw [drewN_self wr]; generalize hq_ : World.drewN wr _ = wr; replace HO_7 := Aside0.mk (Kd.R_at hq_ HO_7.out); replace HB := Aside0.mk (below_at hq_ HB.out); clear hq_; (try (have HP11 := Kd.R_putg HO_7.out (0 : Int) 0)))); refine store_event (t := 3) (p := 24) (v := ?vo_w12) (w1 := (wr.setCell ⟨go10, (0 : Int).toNat, none⟩ (.int .i64 0))) ?hg ?ho ?hn ?hr ?_; (case ho => rfl); (case hg => rfl); (case hn => rfl); (case hr => first | (go_simp; done) | (go_simp; rfl)); intro w12 hw; have hg : wr.grownBy w12 (some go10) := (by rw [hw]; exact HP11.2); have hp_ : Kd.R (Kd.int .i64) 3 w12 w.heap.size (fun _ => True) (.slice (some ⟨go10, 0, none⟩) x7_1.length co10) y111 := (by rw [hw, Ny111.out]; exact HP11.1); clear HP11; replace HO_7 := Aside0.mk (hp_); replace HB := Aside0.mk ((by rw [hw]; exact below_set (HB.out) GB10.out : Below w.heap.size w w12)); clear hg hw hp_)))
     go_loopg [9] k1 (fun kq v9 w' => ∃ (x7_2 : List Int) (x9_2 : Bool), v9 = .bool x9_2 ∧ Aside0 (spec_l25Out.l1 kq l0 l1 a2 x7_2 x9_2 = some r) ∧ Aside0 (kq ≤ k1) ∧ Aside0 (Kd.R (Kd.int .i64) 3 w' w.heap.size (fun _ => True) (.slice (some ⟨go10, 0, none⟩) x7_1.length co10) x7_2) ∧ Aside0 (Below w.heap.size w w'))
     case atStart => exact ⟨(y111), (true), (by first | rfl | (simp; done) | (simp [*]; done)), H', ⟨Nat.le_refl _⟩, ⟨kr_ HO_7.out⟩, ⟨lb0_ HB.out⟩⟩
     case round =>
      clear H'
      try clear c1
      try clear p1
      try clear q1
      try clear hx1
      try clear qi1
      try clear p2
      try clear c6
      try clear c6b0
      try clear p6
      try clear c7
      try clear c8
      try clear c9
      try clear c9b0
      try clear c9b1
      try clear p10
      try clear q10
      try clear hx10
      try clear qi10
      try clear hf10
      try clear hx10_0
      try clear p10
      try clear p2
      try clear q10
      obtain ⟨x7_2, x9_2, rfl, HA, HK2, HO_7, HB⟩ := hrel
      have hl7_2 := (Kd.R_reads' HO_7.out).1
      rw [hl7_2] at HO_7
      (try simp only [hl7_2])
      cases gk with
      | zero => exact absurd HA.out (by simp [spec_l25Out.l1])
      | succ k2 =>
       have H := HA.out
       clear HA
       simp only [spec_l25Out.l1] at H
       by_cases c13 : x9_2 = true
       ·
        subst c13
        have H1 : (spec_l25Out.l2 k2 l0 l1 a2 x7_2 false 0) = some r := by rw [if_pos rfl] at H; exact H
        clear H; have H := H1; clear H1; have H' := Aside0.mk H; clear H
        go_wp2
        repeat (go_quiet (fail); try go_wp2)
        go_loopg [9, 10] k2 (fun kq v9 v10 w' => ∃ (x7_3 : List Int) (x9_3 : Bool) (x10_3 : Int), v9 = .bool x9_3 ∧ v10 = .int .i64 x10_3 ∧ Aside0 (spec_l25Out.l2 kq l0 l1 a2 x7_3 x9_3 x10_3 = some r) ∧ Aside0 (kq ≤ k2) ∧ Aside0 (Kd.R (Kd.int .i64) 3 w' w.heap.size (fun _ => True) (.slice (some ⟨go10, 0, none⟩) x7_2.length co10) x7_3) ∧ Aside0 (Below w.heap.size w w'))
        case atStart => exact ⟨(x7_2), (false), (0), (by first | rfl | (simp; done) | (simp [*]; done)), (by first | rfl | (simp; done) | (simp [*]; done)), H', ⟨Nat.le_refl _⟩, ⟨by (try simp only [hl7_2]); (with_reducible repeat (first | apply Kd.R_alloc | apply Kd.R_drewN | apply Kd.R_drew)); exact HO_7.out⟩, ⟨lb0_ HB.out⟩⟩
        case round =>
         clear H'
         try clear c1
         try clear p1
         try clear q1
         try clear hx1
         try clear qi1
         try clear p2
         try clear c6
         try clear c6b0
         try clear p6
         try clear c7
         try clear c8
         try clear c9
         try clear c9b0
         try clear c9b1
         try clear p10
         try clear q10
         try clear hx10
         try clear qi10
         try clear hf10
         try clear c13
         try clear hx10_0
         try clear p1
         try clear p10
         try clear p2
         try clear p6
         try clear q1
         try clear q10
         obtain ⟨x7_3, x9_3, x10_3, rfl, rfl, HA, HK3, HO_7, HB⟩ := hrel; have hl7_3 := (Kd.R_reads' HO_7.out).1
         rw [hl7_3] at HO_7
         (try simp only [hl7_3])
         cases gk with
         | zero => exact absurd HA.out (by simp [spec_l25Out.l2])
         | succ k3 =>
          have H := HA.out; clear HA; simp only [spec_l25Out.l2] at H
          by_cases c14 : x10_3 < (l0.length : Int)
          ·
           rw [if_pos c14] at H
           have c14b0 : decide (x10_3 < (l0.length : Int)) = true := decide_eq_true c14; clear c14
           by_cases c15 : 0 ≤ x10_3
           ·
            rw [if_pos c15] at H
            have c15b0 : decide (0 ≤ x10_3) = true := decide_eq_true c15; clear c15; have HC16 := Aside0.mk H; clear H; have p113 : 0 ≤ (x10_3 : Int) := dt_; have q113 : x10_3 < (l0.length : Int) := dt_; obtain ⟨ad113, e113, hx113_0, hx113_1, hx113_2, hx113_3, hx113_4⟩ := at_T37 HR0.out x10_3 p113 q113
            cases e113
            replace hx113_0 := bc_ HB.out hx113_0; replace hx113_1 := bc_ HB.out hx113_1; replace hx113_2 := bc_ HB.out hx113_2; replace hx113_3 := bc_ HB.out hx113_3; replace hx113_4 := bc_ HB.out hx113_4; replace p113 := eq_true p113; replace q113 := eq_true q113; have p114 : 0 ≤ (x10_3 : Int) := dt_; have q114 : x10_3 < (l0.length : Int) := dt_; obtain ⟨ad114, e114, hx114_0, hx114_1, hx114_2, hx114_3, hx114_4⟩ := at_T37 HR0.out x10_3 p114 q114
            obtain rfl : ad113 = ad114 := (by injection e114)
            replace hx114_0 := bc_ HB.out hx114_0; replace hx114_1 := bc_ HB.out hx114_1; replace hx114_2 := bc_ HB.out hx114_2; replace hx114_3 := bc_ HB.out hx114_3; replace hx114_4 := bc_ HB.out hx114_4; replace p114 := eq_true p114; replace q114 := eq_true q114
            go_upto_region 14 with (fail)
            repeat (go_quiet (fail); go_upto_region 14 with (fail))
            go_cut [53] (fun v53 wc => ∃ (kq : Nat) (x53_15 : Bool), v53 = .bool x53_15 ∧ Aside0 (spec_l25Out.j3 kq l0 l1 a2 x7_3 x9_3 x10_3 ((rd_T37 l0 x10_3).f0) ((rd_T37 l0 x10_3).f1) x53_15 = some r) ∧ Aside0 (kq ≤ k3) ∧ Aside0 (Kd.R (Kd.int .i64) 3 wc w.heap.size (fun _ => True) (.slice (some ⟨go10, 0, none⟩) x7_3.length co10) x7_3) ∧ Aside0 (Below w.heap.size w wc))
            case first =>
             have H := HC16.out; clear HC16
             by_cases c17 : 0 ≤ ((rd_T37 l0 x10_3).f0)
             ·
              rw [if_pos c17] at H
              have c17b0 : decide (0 ≤ ((rd_T37 l0 x10_3).f0)) = true := decide_eq_true c17; clear c17
              (first | rw [c17b0] | (simp only [i64_w, i32_w]; rw [c17b0]) | skip)
              by_cases c18 : ((rd_T37 l0 x10_3).f0) < (l1.length : Int)
              ·
               rw [if_pos c18] at H
               have c18b0 : decide (((rd_T37 l0 x10_3).f0) < (l1.length : Int)) = true := decide_eq_true c18; clear c18
               obtain ⟨bq19, hbq19⟩ : ∃ b_ : Bool, b_ = (rdOf false l1 ((rd_T37 l0 x10_3).f0)) := ⟨_, rfl⟩
               replace H : (if (bq19 = true) then (if 0 ≤ ((rd_T37 l0 x10_3).f1) then (if ((rd_T37 l0 x10_3).f1) < (l1.length : Int) then (spec_l25Out.j3 k3 l0 l1 a2 x7_3 x9_3 x10_3 ((rd_T37 l0 x10_3).f0) ((rd_T37 l0 x10_3).f1) (!(rdOf false l1 ((rd_T37 l0 x10_3).f1)))) else (none)) else (none)) else (spec_l25Out.j3 k3 l0 l1 a2 x7_3 x9_3 x10_3 ((rd_T37 l0 x10_3).f0) ((rd_T37 l0 x10_3).f1) true)) = some r := by rw [← hbq19] at H; exact H
               have Nbq19 := Aside0.mk hbq19; clear hbq19
               by_cases c20 : (bq19 = true)
               ·
                subst c20
                have H1 : (if 0 ≤ ((rd_T37 l0 x10_3).f1) then (if ((rd_T37 l0 x10_3).f1) < (l1.length : Int) then (spec_l25Out.j3 k3 l0 l1 a2 x7_3 x9_3 x10_3 ((rd_T37 l0 x10_3).f0) ((rd_T37 l0 x10_3).f1) (!(rdOf false l1 ((rd_T37 l0 x10_3).f1)))) else (none)) else (none)) = some r := by rw [if_pos rfl] at H; exact H
                clear H; have H := H1; clear H1
                by_cases c21 : 0 ≤ ((rd_T37 l0 x10_3).f1)
                ·
                 rw [if_pos c21] at H
                 have c21b0 : decide (0 ≤ ((rd_T37 l0 x10_3).f1)) = true := decide_eq_true c21; clear c21
                 by_cases c22 : ((rd_T37 l0 x10_3).f1) < (l1.length : Int)
                 ·
                  rw [if_pos c22] at H
                  have c22b0 : decide (((rd_T37 l0 x10_3).f1) < (l1.length : Int)) = true := decide_eq_true c22; clear c22; have H' := Aside0.mk H; clear H; have p115 : 0 ≤ (((rd_T37 l0 x10_3).f0) : Int) := dt_; have q115 : ((rd_T37 l0 x10_3).f0) < (l1.length : Int) := dt_; obtain ⟨ad115, e115, hx115_0⟩ := Kd.at_bool HR1.out ((rd_T37 l0 x10_3).f0) p115 q115; (try rw [← Nbq19.out] at hx115_0)
                  cases e115
                  replace hx115_0 := bc_ HB.out hx115_0; replace p115 := eq_true p115; replace q115 := eq_true q115; have p116 : 0 ≤ (((rd_T37 l0 x10_3).f1) : Int) := dt_; have q116 : ((rd_T37 l0 x10_3).f1) < (l1.length : Int) := dt_; obtain ⟨ad116, e116, hx116_0⟩ := Kd.at_bool HR1.out ((rd_T37 l0 x10_3).f1) p116 q116; (try rw [← Nbq19.out] at hx116_0)
                  obtain rfl : ad115 = ad116 := (by injection e116)
                  replace hx116_0 := bc_ HB.out hx116_0; replace p116 := eq_true p116; replace q116 := eq_true q116
                  go_wp2
                  repeat (go_quiet (fail); try go_wp2)
                  go_meet
                  case rel => exact ⟨_, (!(rdOf false l1 ((rd_T37 l0 x10_3).f1))), (by first | rfl | (simp; done) | (simp [*]; done)), H', ⟨by have := HK1.out; have := HK2.out; have := HK3.out; first | omega | exact Nat.le_refl _⟩, ⟨by (try simp only [hl7_2]); (try simp only [hl7_3]); (with_reducible repeat (first | apply Kd.R_alloc | apply Kd.R_drewN | apply Kd.R_drew)); exact HO_7.out⟩, ⟨lb0_ HB.out⟩⟩
                 ·
                  rw [if_neg c22] at H
                  exact absurd H (by simp)
                ·
                 rw [if_neg c21] at H
                 exact absurd H (by simp)
               ·
                replace c20 := Bool.eq_false_iff.mpr c20; subst c20
                have H1 : (spec_l25Out.j3 k3 l0 l1 a2 x7_3 x9_3 x10_3 ((rd_T37 l0 x10_3).f0) ((rd_T37 l0 x10_3).f1) true) = some r := by rw [if_neg (show ¬ (false = true) by decide)] at H; exact H
                clear H; have H := H1; clear H1; have H' := Aside0.mk H; clear H; have p115 : 0 ≤ (((rd_T37 l0 x10_3).f0) : Int) := dt_; have q115 : ((rd_T37 l0 x10_3).f0) < (l1.length : Int) := dt_; obtain ⟨ad115, e115, hx115_0⟩ := Kd.at_bool HR1.out ((rd_T37 l0 x10_3).f0) p115 q115; (try rw [← Nbq19.out] at hx115_0)
                cases e115
                replace hx115_0 := bc_ HB.out hx115_0; replace p115 := eq_true p115; replace q115 := eq_true q115
                go_wp2
                repeat (go_quiet (fail); try go_wp2)
                go_meet
                case rel => exact ⟨_, (true), (by first | rfl | (simp; done) | (simp [*]; done)), H', ⟨by have := HK1.out; have := HK2.out; have := HK3.out; first | omega | exact Nat.le_refl _⟩, ⟨by (try simp only [hl7_2]); (try simp only [hl7_3]); (with_reducible repeat (first | apply Kd.R_alloc | apply Kd.R_drewN | apply Kd.R_drew)); exact HO_7.out⟩, ⟨lb0_ HB.out⟩⟩
              ·
               rw [if_neg c18] at H
               exact absurd H (by simp)
             ·
              rw [if_neg c17] at H
              exact absurd H (by simp)
            case rest =>
             clear HC16
             try clear c1
             try clear p1
             try clear q1
             try clear hx1
             try clear qi1
             try clear c2
             try clear p2
             try clear c6
             try clear c6b0
             try clear p6
             try clear c7
             try clear c8
             try clear c9
             try clear c9b0
             try clear c9b1
             try clear p10
             try clear q10
             try clear hx10
             try clear qi10
             try clear hf10
             try clear p11
             try clear q11
             try clear hx11
             try clear c13
             try clear c14
             try clear c14b0
             try clear c15
             try clear c15b0
             try clear c17
             try clear c17b0
             try clear c18
             try clear c18b0
             try clear q19
             try clear c20
             try clear c21
             try clear c21b0
             try clear c22
             try clear c22b0
             try clear hx10_0
             try clear hx113_0
             try clear hx113_1
             try clear hx113_2
             try clear hx113_3
             try clear hx113_4
             try clear hx114_0
             try clear hx114_1
             try clear hx114_2
             try clear hx114_3
             try clear hx114_4
             try clear hx115_0
             try clear hx116_0
             try clear p1
             try clear p10
             try clear p113
             try clear p114
             try clear p115
             try clear p116
             try clear p2
             try clear p6
             try clear q1
             try clear q10
             try clear q113
             try clear q114
             try clear q115
             try clear q116
             obtain ⟨kq, x53_15, rfl, HA, HJ15, HO_7, HB⟩ := hcut
             cases kq with
             | zero => exact absurd HA.out (by simp [spec_l25Out.j3])
             | succ kj15 =>
              have H := HA.out; clear HA; simp only [spec_l25Out.j3] at H
              by_cases c23 : x53_15 = true
              ·
               subst c23
               have H1 : (spec_l25Out.l2 kj15 l0 l1 a2 x7_3 x9_3 (wrap64 (x10_3 + 1))) = some r := by rw [if_pos rfl] at H; exact H
               clear H; have H := H1; clear H1; have H' := Aside0.mk H; clear H
               go_wp2
               repeat (go_quiet (fail); try go_wp2)
               (try simp only [← hl7_3])
               go_roundg kj15
               case measure => have := HK1.out; have := HK2.out; have := HK3.out; have := HJ15.out; omega
               case rel => exact ⟨(x7_3), (x9_3), (wrap64 (x10_3 + 1)), (by first | rfl | (simp; done) | (simp [*]; done)), (by first | rfl | (simp; done) | (simp [*]; done)), H', ⟨by have := HK1.out; have := HK2.out; have := HK3.out; have := HJ15.out; omega⟩, ⟨by (try simp only [hl7_2]); (try simp only [hl7_3]); (with_reducible repeat (first | apply Kd.R_alloc | apply Kd.R_drewN | apply Kd.R_drew)); exact HO_7.out⟩, ⟨lb0_ HB.out⟩⟩
              ·
               replace c23 := Bool.eq_false_iff.mpr c23; subst c23
               have H1 : (if 0 ≤ ((rd_T37 l0 x10_3).f0) then (if ((rd_T37 l0 x10_3).f0) < (x7_3.length : Int) then (if 0 ≤ x10_3 then (if x10_3 < (l0.length : Int) then (if (rd x7_3 ((rd_T37 l0 x10_3).f0)) ≥ 0 then (if 0 ≤ ((rd_T37 l0 x10_3).f1) then (if ((rd_T37 l0 x10_3).f1) < (x7_3.length : Int) then (if (rd x7_3 ((rd_T37 l0 x10_3).f1)) < 0 then (spec_l25Out.j4 kj15 l0 l1 a2 x7_3 x9_3 x10_3 ((rd_T37 l0 x10_3).f0) ((rd_T37 l0 x10_3).f1) (wrap64 ((rd x7_3 ((rd_T37 l0 x10_3).f0)) + ((rd_T37 l0 x10_3).f2))) true) else (spec_l25Out.j4 kj15 l0 l1 a2 x7_3 x9_3 x10_3 ((rd_T37 l0 x10_3).f0) ((rd_T37 l0 x10_3).f1) (wrap64 ((rd x7_3 ((rd_T37 l0 x10_3).f0)) + ((rd_T37 l0 x10_3).f2))) (decide ((wrap64 ((rd x7_3 ((rd_T37 l0 x10_3).f0)) + ((rd_T37 l0 x10_3).f2))) < (rd x7_3 ((rd_T37 l0 x10_3).f1)))))) else (none)) else (none)) else (spec_l25Out.j4 kj15 l0 l1 a2 x7_3 x9_3 x10_3 ((rd_T37 l0 x10_3).f0) ((rd_T37 l0 x10_3).f1) (wrap64 ((rd x7_3 ((rd_T37 l0 x10_3).f0)) + ((rd_T37 l0 x10_3).f2))) false)) else (none)) else (none)) else (none)) else (none)) = some r := by rw [if_neg (show ¬ (false = true) by decide)] at H; exact H
               clear H; have H := H1; clear H1
               by_cases c24 : 0 ≤ ((rd_T37 l0 x10_3).f0)
               ·
                rw [if_pos c24] at H
                have c24b0 : decide (0 ≤ ((rd_T37 l0 x10_3).f0)) = true := decide_eq_true c24; clear c24
                by_cases c25 : ((rd_T37 l0 x10_3).f0) < (x7_3.length : Int)
                ·
                 rw [if_pos c25] at H
                 have c25b0 : decide (((rd_T37 l0 x10_3).f0) < (x7_3.length : Int)) = true := decide_eq_true c25; clear c25
                 by_cases c26 : 0 ≤ x10_3
                 ·
                  rw [if_pos c26] at H
                  have c26b0 : decide (0 ≤ x10_3) = true := decide_eq_true c26; clear c26
                  by_cases c27 : x10_3 < (l0.length : Int)
                  ·
                   rw [if_pos c27] at H
                   have c27b0 : decide (x10_3 < (l0.length : Int)) = true := decide_eq_true c27; clear c27; have HC28 := Aside0.mk H; clear H; have p117 : 0 ≤ (((rd_T37 l0 x10_3).f0) : Int) := dt_; have q117 : ((rd_T37 l0 x10_3).f0) < (x7_3.length : Int) := dt_; obtain ⟨ad117, e117, hx117_0⟩ := Kd.at_int (Kd.R_reads' HO_7.out).2.2 ((rd_T37 l0 x10_3).f0) p117 q117
                   obtain rfl : (⟨go10, 0, none⟩ : Addr) = ad117 := (by injection e117)
                   (first | simp only [add_plain] at hx117_0 | simp only [add_at] at hx117_0 | simp only [Addr.add, Nat.zero_add] at hx117_0 | skip)
                   replace p117 := eq_true p117; replace q117 := eq_true q117; have p118 : 0 ≤ (x10_3 : Int) := dt_; have q118 : x10_3 < (l0.length : Int) := dt_; obtain ⟨ad118, e118, hx118_0, hx118_1, hx118_2, hx118_3, hx118_4⟩ := at_T37 HR0.out x10_3 p118 q118
                   obtain rfl : ad113 = ad118 := (by injection e118)
                   replace hx118_0 := bc_ HB.out hx118_0; replace hx118_1 := bc_ HB.out hx118_1; replace hx118_2 := bc_ HB.out hx118_2; replace hx118_3 := bc_ HB.out hx118_3; replace hx118_4 := bc_ HB.out hx118_4; replace p118 := eq_true p118; replace q118 := eq_true q118
                   go_upto_region 16 with (fail)
                   repeat (go_quiet (fail); go_upto_region 16 with (fail))
                   go_cut [83] (fun v83 wc => ∃ (kq : Nat) (x83_27 : Bool), v83 = .bool x83_27 ∧ Aside0 (spec_l25Out.j4 kq l0 l1 a2 x7_3 x9_3 x10_3 ((rd_T37 l0 x10_3).f0) ((rd_T37 l0 x10_3).f1) (wrap64 ((rd x7_3 ((rd_T37 l0 x10_3).f0)) + ((rd_T37 l0 x10_3).f2))) x83_27 = some r) ∧ Aside0 (kq ≤ kj15) ∧ Aside0 (Kd.R (Kd.int .i64) 3 wc w.heap.size (fun _ => True) (.slice (some ⟨go10, 0, none⟩) x7_3.length co10) x7_3) ∧ Aside0 (Below w.heap.size w wc))
                   case first =>
                    have H := HC28.out; clear HC28
                    by_cases c29 : (rd x7_3 ((rd_T37 l0 x10_3).f0)) ≥ 0
                    ·
                     rw [if_pos c29] at H
                     have c29b0 : decide (0 ≤ (rd x7_3 ((rd_T37 l0 x10_3).f0))) = true := decide_eq_true c29; clear c29
                     (first | rw [c29b0] | (simp only [i64_w, i32_w]; rw [c29b0]) | skip)
                     by_cases c30 : 0 ≤ ((rd_T37 l0 x10_3).f1)
                     ·
                      rw [if_pos c30] at H
                      have c30b0 : decide (0 ≤ ((rd_T37 l0 x10_3).f1)) = true := decide_eq_true c30; clear c30
                      by_cases c31 : ((rd_T37 l0 x10_3).f1) < (x7_3.length : Int)
                      ·
                       rw [if_pos c31] at H
                       have c31b0 : decide (((rd_T37 l0 x10_3).f1) < (x7_3.length : Int)) = true := decide_eq_true c31; clear c31
                       by_cases c32 : (rd x7_3 ((rd_T37 l0 x10_3).f1)) < 0
                       ·
                        rw [if_pos c32] at H
                        have c32b0 : decide ((rd x7_3 ((rd_T37 l0 x10_3).f1)) < 0) = true := decide_eq_true c32; clear c32; have H' := Aside0.mk H; clear H; have p119 : 0 ≤ (((rd_T37 l0 x10_3).f0) : Int) := dt_; have q119 : ((rd_T37 l0 x10_3).f0) < (x7_3.length : Int) := dt_; obtain ⟨ad119, e119, hx119_0⟩ := Kd.at_int (Kd.R_reads' HO_7.out).2.2 ((rd_T37 l0 x10_3).f0) p119 q119
                        obtain rfl : (⟨go10, 0, none⟩ : Addr) = ad119 := (by injection e119)
                        (first | simp only [add_plain] at hx119_0 | simp only [add_at] at hx119_0 | simp only [Addr.add, Nat.zero_add] at hx119_0 | skip)
                        replace p119 := eq_true p119; replace q119 := eq_true q119; have p120 : 0 ≤ (((rd_T37 l0 x10_3).f1) : Int) := dt_; have q120 : ((rd_T37 l0 x10_3).f1) < (x7_3.length : Int) := dt_; obtain ⟨ad120, e120, hx120_0⟩ := Kd.at_int (Kd.R_reads' HO_7.out).2.2 ((rd_T37 l0 x10_3).f1) p120 q120
                        obtain rfl : (⟨go10, 0, none⟩ : Addr) = ad120 := (by injection e120)
                        (first | simp only [add_plain] at hx120_0 | simp only [add_at] at hx120_0 | simp only [Addr.add, Nat.zero_add] at hx120_0 | skip)
                        replace p120 := eq_true p120; replace q120 := eq_true q120
                        go_wp2
                        repeat (go_quiet (fail); try go_wp2)
                        go_meet
                        case rel => exact ⟨_, (true), (by first | rfl | (simp; done) | (simp [*]; done)), H', ⟨by have := HK1.out; have := HK2.out; have := HK3.out; have := HJ15.out; first | omega | exact Nat.le_refl _⟩, ⟨by (try simp only [hl7_2]); (try simp only [hl7_3]); (with_reducible repeat (first | apply Kd.R_alloc | apply Kd.R_drewN | apply Kd.R_drew)); exact HO_7.out⟩, ⟨lb0_ HB.out⟩⟩
                       ·
                        rw [if_neg c32] at H
                        have c32b0 : decide ((rd x7_3 ((rd_T37 l0 x10_3).f1)) < 0) = false := decide_eq_false c32; clear c32; have H' := Aside0.mk H; clear H; have p119 : 0 ≤ (((rd_T37 l0 x10_3).f0) : Int) := dt_; have q119 : ((rd_T37 l0 x10_3).f0) < (x7_3.length : Int) := dt_; obtain ⟨ad119, e119, hx119_0⟩ := Kd.at_int (Kd.R_reads' HO_7.out).2.2 ((rd_T37 l0 x10_3).f0) p119 q119
                        obtain rfl : (⟨go10, 0, none⟩ : Addr) = ad119 := (by injection e119)
                        (first | simp only [add_plain] at hx119_0 | simp only [add_at] at hx119_0 | simp only [Addr.add, Nat.zero_add] at hx119_0 | skip)
                        replace p119 := eq_true p119; replace q119 := eq_true q119; have p120 : 0 ≤ (((rd_T37 l0 x10_3).f1) : Int) := dt_; have q120 : ((rd_T37 l0 x10_3).f1) < (x7_3.length : Int) := dt_; obtain ⟨ad120, e120, hx120_0⟩ := Kd.at_int (Kd.R_reads' HO_7.out).2.2 ((rd_T37 l0 x10_3).f1) p120 q120
                        obtain rfl : (⟨go10, 0, none⟩ : Addr) = ad120 := (by injection e120)
                        (first | simp only [add_plain] at hx120_0 | simp only [add_at] at hx120_0 | simp only [Addr.add, Nat.zero_add] at hx120_0 | skip)
                        replace p120 := eq_true p120; replace q120 := eq_true q120; have p121 : 0 ≤ (((rd_T37 l0 x10_3).f1) : Int) := dt_; have q121 : ((rd_T37 l0 x10_3).f1) < (x7_3.length : Int) := dt_; obtain ⟨ad121, e121, hx121_0⟩ := Kd.at_int (Kd.R_reads' HO_7.out).2.2 ((rd_T37 l0 x10_3).f1) p121 q121
                        obtain rfl : (⟨go10, 0, none⟩ : Addr) = ad121 := (by injection e121)
                        (first | simp only [add_plain] at hx121_0 | simp only [add_at] at hx121_0 | simp only [Addr.add, Nat.zero_add] at hx121_0 | skip)
                        replace p121 := eq_true p121; replace q121 := eq_true q121
                        go_wp2
                        repeat (go_quiet (fail); try go_wp2)
                        go_meet
                        case rel => exact ⟨_, (decide ((wrap64 ((rd x7_3 ((rd_T37 l0 x10_3).f0)) + ((rd_T37 l0 x10_3).f2))) < (rd x7_3 ((rd_T37 l0 x10_3).f1)))), (by first | rfl | (simp; done) | (simp [*]; done)), H', ⟨by have := HK1.out; have := HK2.out; have := HK3.out; have := HJ15.out; first | omega | exact Nat.le_refl _⟩, ⟨by (try simp only [hl7_2]); (try simp only [hl7_3]); (with_reducible repeat (first | apply Kd.R_alloc | apply Kd.R_drewN | apply Kd.R_drew)); exact HO_7.out⟩, ⟨lb0_ HB.out⟩⟩
                      ·
                       rw [if_neg c31] at H
                       exact absurd H (by simp)
                     ·
                      rw [if_neg c30] at H
                      exact absurd H (by simp)
                    ·
                     rw [if_neg c29] at H
                     have c29b0 : decide (0 ≤ (rd x7_3 ((rd_T37 l0 x10_3).f0))) = false := decide_eq_false c29; clear c29
                     (first | rw [c29b0] | (simp only [i64_w, i32_w]; rw [c29b0]) | skip)
                     have H' := Aside0.mk H; clear H; have p119 : 0 ≤ (((rd_T37 l0 x10_3).f0) : Int) := dt_; have q119 : ((rd_T37 l0 x10_3).f0) < (x7_3.length : Int) := dt_; obtain ⟨ad119, e119, hx119_0⟩ := Kd.at_int (Kd.R_reads' HO_7.out).2.2 ((rd_T37 l0 x10_3).f0) p119 q119
                     obtain rfl : (⟨go10, 0, none⟩ : Addr) = ad119 := (by injection e119)
                     (first | simp only [add_plain] at hx119_0 | simp only [add_at] at hx119_0 | simp only [Addr.add, Nat.zero_add] at hx119_0 | skip)
                     replace p119 := eq_true p119; replace q119 := eq_true q119
                     go_wp2
                     repeat (go_quiet (fail); try go_wp2)
                     go_meet
                     case rel => exact ⟨_, (false), (by first | rfl | (simp; done) | (simp [*]; done)), H', ⟨by have := HK1.out; have := HK2.out; have := HK3.out; have := HJ15.out; first | omega | exact Nat.le_refl _⟩, ⟨by (try simp only [hl7_2]); (try simp only [hl7_3]); (with_reducible repeat (first | apply Kd.R_alloc | apply Kd.R_drewN | apply Kd.R_drew)); exact HO_7.out⟩, ⟨lb0_ HB.out⟩⟩
                   case rest =>
                    clear HC28
                    try clear c1
                    try clear p1
                    try clear q1
                    try clear hx1
                    try clear qi1
                    try clear c2
                    try clear p2
                    try clear c3
                    try clear c6
                    try clear c6b0
                    try clear p6
                    try clear c7
                    try clear c8
                    try clear c9
                    try clear c9b0
                    try clear c9b1
                    try clear p10
                    try clear q10
                    try clear hx10
                    try clear qi10
                    try clear hf10
                    try clear p11
                    try clear q11
                    try clear hx11
                    try clear p12
                    try clear q12
                    try clear hx12
                    try clear c13
                    try clear c14
                    try clear c14b0
                    try clear c15
                    try clear c15b0
                    try clear c17
                    try clear c17b0
                    try clear c18
                    try clear c18b0
                    try clear q19
                    try clear c20
                    try clear c21
                    try clear c21b0
                    try clear c22
                    try clear c22b0
                    try clear c23
                    try clear c24
                    try clear c24b0
                    try clear c25
                    try clear c25b0
                    try clear c26
                    try clear c26b0
                    try clear c27
                    try clear c27b0
                    try clear c29
                    try clear c29b0
                    try clear c30
                    try clear c30b0
                    try clear c31
                    try clear c31b0
                    try clear c32
                    try clear c32b0
                    try clear hx10_0
                    try clear hx113_0
                    try clear hx113_1
                    try clear hx113_2
                    try clear hx113_3
                    try clear hx113_4
                    try clear hx114_0
                    try clear hx114_1
                    try clear hx114_2
                    try clear hx114_3
                    try clear hx114_4
                    try clear hx115_0
                    try clear hx116_0
                    try clear hx117_0
                    try clear hx118_0
                    try clear hx118_1
                    try clear hx118_2
                    try clear hx118_3
                    try clear hx118_4
                    try clear hx119_0
                    try clear hx120_0
                    try clear hx121_0
                    try clear p1
                    try clear p10
                    try clear p11
                    try clear p113
                    try clear p114
                    try clear p115
                    try clear p116
                    try clear p117
                    try clear p118
                    try clear p119
                    try clear p120
                    try clear p121
                    try clear p2
                    try clear p6
                    try clear q1
                    try clear q10
                    try clear q11
                    try clear q113
                    try clear q114
                    try clear q115
                    try clear q116
                    try clear q117
                    try clear q118
                    try clear q119
                    try clear q120
                    try clear q121
                    try clear q19
                    obtain ⟨kq, x83_27, rfl, HA, HJ27, HO_7, HB⟩ := hcut
                    cases kq with
                    | zero => exact absurd HA.out (by simp [spec_l25Out.j4])
                    | succ kj27 =>
                     have H := HA.out; clear HA; simp only [spec_l25Out.j4] at H
                     by_cases c33 : x83_27 = true
                     ·
                      subst c33
                      have H1 : (if 0 ≤ ((rd_T37 l0 x10_3).f1) then (if ((rd_T37 l0 x10_3).f1) < (x7_3.length : Int) then ((some (x7_3.set (((rd_T37 l0 x10_3).f1) : Int).toNat (wrap64 ((rd x7_3 ((rd_T37 l0 x10_3).f0)) + ((rd_T37 l0 x10_3).f2))) : List Int)).bind fun y122 => (if 0 ≤ x10_3 then (if x10_3 < (l0.length : Int) then (if (rd y122 ((rd_T37 l0 x10_3).f1)) ≥ 0 then (if 0 ≤ ((rd_T37 l0 x10_3).f0) then (if ((rd_T37 l0 x10_3).f0) < (x7_3.length : Int) then (if (rd y122 ((rd_T37 l0 x10_3).f0)) < 0 then (spec_l25Out.l2 kj27 l0 l1 a2 (y122.set (((rd_T37 l0 x10_3).f0) : Int).toNat (wrap64 ((rd y122 ((rd_T37 l0 x10_3).f1)) + ((rd_T37 l0 x10_3).f2)))) true (wrap64 (x10_3 + 1))) else (if (wrap64 ((rd y122 ((rd_T37 l0 x10_3).f1)) + ((rd_T37 l0 x10_3).f2))) < (rd y122 ((rd_T37 l0 x10_3).f0)) then (spec_l25Out.l2 kj27 l0 l1 a2 (y122.set (((rd_T37 l0 x10_3).f0) : Int).toNat (wrap64 ((rd y122 ((rd_T37 l0 x10_3).f1)) + ((rd_T37 l0 x10_3).f2)))) true (wrap64 (x10_3 + 1))) else (spec_l25Out.l2 kj27 l0 l1 a2 y122 true (wrap64 (x10_3 + 1))))) else (none)) else (none)) else (spec_l25Out.l2 kj27 l0 l1 a2 y122 true (wrap64 (x10_3 + 1)))) else (none)) else (none))) else (none)) else (none)) = some r := by rw [if_pos rfl] at H; exact H
                      clear H; have H := H1; clear H1
                      by_cases c34 : 0 ≤ ((rd_T37 l0 x10_3).f1)
                      ·
                       rw [if_pos c34] at H
                       have c34b0 : decide (0 ≤ ((rd_T37 l0 x10_3).f1)) = true := decide_eq_true c34; clear c34
                       by_cases c35 : ((rd_T37 l0 x10_3).f1) < (x7_3.length : Int)
                       ·
                        rw [if_pos c35] at H
                        have c35b0 : decide (((rd_T37 l0 x10_3).f1) < (x7_3.length : Int)) = true := decide_eq_true c35; clear c35
                        obtain ⟨y122, hy122⟩ : ∃ y_ : List Int, y_ = (x7_3.set (((rd_T37 l0 x10_3).f1) : Int).toNat (wrap64 ((rd x7_3 ((rd_T37 l0 x10_3).f0)) + ((rd_T37 l0 x10_3).f2)))) := ⟨_, rfl⟩
                        replace H : (if 0 ≤ x10_3 then (if x10_3 < (l0.length : Int) then (if (rd y122 ((rd_T37 l0 x10_3).f1)) ≥ 0 then (if 0 ≤ ((rd_T37 l0 x10_3).f0) then (if ((rd_T37 l0 x10_3).f0) < (x7_3.length : Int) then (if (rd y122 ((rd_T37 l0 x10_3).f0)) < 0 then (spec_l25Out.l2 kj27 l0 l1 a2 (y122.set (((rd_T37 l0 x10_3).f0) : Int).toNat (wrap64 ((rd y122 ((rd_T37 l0 x10_3).f1)) + ((rd_T37 l0 x10_3).f2)))) true (wrap64 (x10_3 + 1))) else (if (wrap64 ((rd y122 ((rd_T37 l0 x10_3).f1)) + ((rd_T37 l0 x10_3).f2))) < (rd y122 ((rd_T37 l0 x10_3).f0)) then (spec_l25Out.l2 kj27 l0 l1 a2 (y122.set (((rd_T37 l0 x10_3).f0) : Int).toNat (wrap64 ((rd y122 ((rd_T37 l0 x10_3).f1)) + ((rd_T37 l0 x10_3).f2)))) true (wrap64 (x10_3 + 1))) else (spec_l25Out.l2 kj27 l0 l1 a2 y122 true (wrap64 (x10_3 + 1))))) else (none)) else (none)) else (spec_l25Out.l2 kj27 l0 l1 a2 y122 true (wrap64 (x10_3 + 1)))) else (none)) else (none)) = some r := by first | (rw [hy122]; with_reducible exact H) | (have H2_ := (Option.bind_some _ _).symm.trans H; rw [hy122]; with_reducible exact H2_) | (have H2_ := (Option.bind_some _ _).symm.trans H; with_reducible exact H2_) | with_reducible exact H | (rw [hy122]; exact H) | exact H
                        have Ny122 := Aside0.mk hy122; clear hy122
                        by_cases c37 : 0 ≤ x10_3
                        ·
                         rw [if_pos c37] at H
                         have c37b0 : decide (0 ≤ x10_3) = true := decide_eq_true c37; clear c37
                         by_cases c38 : x10_3 < (l0.length : Int)
                         ·
                          rw [if_pos c38] at H
                          have c38b0 : decide (x10_3 < (l0.length : Int)) = true := decide_eq_true c38; clear c38
                          by_cases c39 : (rd y122 ((rd_T37 l0 x10_3).f1)) ≥ 0
                          ·
                           rw [if_pos c39] at H
                           have c39b0 : decide (0 ≤ (rd y122 ((rd_T37 l0 x10_3).f1))) = true := decide_eq_true c39; clear c39
                           by_cases c40 : 0 ≤ ((rd_T37 l0 x10_3).f0)
                           ·
                            rw [if_pos c40] at H
                            have c40b0 : decide (0 ≤ ((rd_T37 l0 x10_3).f0)) = true := decide_eq_true c40; clear c40
                            by_cases c41 : ((rd_T37 l0 x10_3).f0) < (x7_3.length : Int)
                            ·
                             rw [if_pos c41] at H
                             have c41b0 : decide (((rd_T37 l0 x10_3).f0) < (x7_3.length : Int)) = true := decide_eq_true c41; clear c41
                             by_cases c42 : (rd y122 ((rd_T37 l0 x10_3).f0)) < 0
                             ·
                              rw [if_pos c42] at H
                              have c42b0 : decide ((rd y122 ((rd_T37 l0 x10_3).f0)) < 0) = true := decide_eq_true c42; clear c42
                              obtain ⟨y127, hy127⟩ : ∃ y_ : List Int, y_ = (y122.set (((rd_T37 l0 x10_3).f0) : Int).toNat (wrap64 ((rd y122 ((rd_T37 l0 x10_3).f1)) + ((rd_T37 l0 x10_3).f2)))) := ⟨_, rfl⟩
                              replace H : (spec_l25Out.l2 kj27 l0 l1 a2 y127 true (wrap64 (x10_3 + 1))) = some r := by first | (rw [hy127]; with_reducible exact H) | (have H2_ := (Option.bind_some _ _).symm.trans H; rw [hy127]; with_reducible exact H2_) | (have H2_ := (Option.bind_some _ _).symm.trans H; with_reducible exact H2_) | with_reducible exact H | (rw [hy127]; exact H) | exact H
                              have Ny127 := Aside0.mk hy127; clear hy127; have H' := Aside0.mk H; clear H; have p36 : 0 ≤ (((rd_T37 l0 x10_3).f1) : Int) := dt_; have q36 : (((rd_T37 l0 x10_3).f1) : Int) < ((x7_3.length : Int) : Int) := dt_; obtain ⟨hx36_0, hf36_0⟩ := Kd.R_celln 0 HO_7.out (((rd_T37 l0 x10_3).f1) : Int) p36 q36; replace p36 := eq_true p36; replace q36 := eq_true q36; have HP44 := Kd.R_putg HO_7.out (((rd_T37 l0 x10_3).f1) : Int) (wrap64 ((rd x7_3 ((rd_T37 l0 x10_3).f0)) + ((rd_T37 l0 x10_3).f2)))
                              go_wp2_with (first | ((with_reducible refine gate_store (t := 3) (p := 87) rfl ?_); (try (rw [drewN_self wc]; generalize hq_ : World.drewN wc _ = wc; replace HO_7 := Aside0.mk (Kd.R_at hq_ HO_7.out); replace HB := Aside0.mk (below_at hq_ HB.out); clear hq_; (try (have HP44 := Kd.R_putg HO_7.out (((rd_T37 l0 x10_3).f1) : Int) (wrap64 ((rd x7_3 ((rd_T37 l0 x10_3).f0)) + ((rd_T37 l0 x10_3).f2))))))); refine store_event (t := 3) (p := 87) (v := ?vo_w45) (w1 := (wc.setCell ⟨go10, (((rd_T37 l0 x10_3).f1) : Int).toNat, none⟩ (.int .i64 (wrap64 ((rd x7_3 ((rd_T37 l0 x10_3).f0)) + ((rd_T37 l0 x10_3).f2)))))) ?hg ?ho ?hn ?hr ?_; (case ho => rfl); (case hg => rfl); (case hn => rfl); (case hr => first | (go_simp; done) | (go_simp; rfl)); intro w45 hw; have hg : wc.grownBy w45 (some go10) := (by rw [hw]; exact HP44.2); have hp_ : Kd.R (Kd.int .i64) 3 w45 w.heap.size (fun _ => True) (.slice (some ⟨go10, 0, none⟩) x7_3.length co10) y122 := (by rw [hw, Ny122.out]; exact HP44.1); clear HP44; replace HO_7 := Aside0.mk (hp_); replace HB := Aside0.mk ((by rw [hw]; exact below_set (HB.out) GB10.out : Below w.heap.size w w45)); clear hg hw hp_; have p123 : 0 ≤ (((rd_T37 l0 x10_3).f1) : Int) := dt_; have q123 : ((rd_T37 l0 x10_3).f1) < (y122.length : Int) := (by have h_ : (((rd_T37 l0 x10_3).f1) : Int) < ((x7_3.length : Int) : Int) := dt_; first | (have e_ := (Kd.R_reads' HO_7.out).1; omega) | simpa only [Ny122.out, List.length_set] using h_); have ql123 : ((((rd_T37 l0 x10_3).f1) : Int) < ((x7_3.length : Int) : Int)) = True := eq_true (dt_); obtain ⟨ad123, e123, hx123_0⟩ := Kd.at_int (Kd.R_reads' HO_7.out).2.2 ((rd_T37 l0 x10_3).f1) p123 q123; obtain rfl : (⟨go10, 0, none⟩ : Addr) = ad123 := (by injection e123); (first | simp only [add_plain] at hx123_0 | simp only [add_at] at hx123_0 | simp only [Addr.add, Nat.zero_add] at hx123_0 | skip); replace p123 := eq_true p123; replace q123 := eq_true q123; have p124 : 0 ≤ (x10_3 : Int) := dt_; have q124 : x10_3 < (l0.length : Int) := dt_; obtain ⟨ad124, e124, hx124_0, hx124_1, hx124_2, hx124_3, hx124_4⟩ := at_T37 HR0.out x10_3 p124 q124; obtain rfl : ad113 = ad124 := (by injection e124); replace hx124_0 := bc_ HB.out hx124_0; replace hx124_1 := bc_ HB.out hx124_1; replace hx124_2 := bc_ HB.out hx124_2; replace hx124_3 := bc_ HB.out hx124_3; replace hx124_4 := bc_ HB.out hx124_4; replace p124 := eq_true p124; replace q124 := eq_true q124; have p125 : 0 ≤ (((rd_T37 l0 x10_3).f1) : Int) := dt_; have q125 : ((rd_T37 l0 x10_3).f1) < (y122.length : Int) := (by have h_ : (((rd_T37 l0 x10_3).f1) : Int) < ((x7_3.length : Int) : Int) := dt_; first | (have e_ := (Kd.R_reads' HO_7.out).1; omega) | simpa only [Ny122.out, List.length_set] using h_); have ql125 : ((((rd_T37 l0 x10_3).f1) : Int) < ((x7_3.length : Int) : Int)) = True := eq_true (dt_); obtain ⟨ad125, e125, hx125_0⟩ := Kd.at_int (Kd.R_reads' HO_7.out).2.2 ((rd_T37 l0 x10_3).f1) p125 q125; obtain rfl : (⟨go10, 0, none⟩ : Addr) = ad125 := (by injection e125); (first | simp only [add_plain] at hx125_0 | simp only [add_at] at hx125_0 | simp only [Addr.add, Nat.zero_add] at hx125_0 | skip); replace p125 := eq_true p125; replace q125 := eq_true q125; have p126 : 0 ≤ (((rd_T37 l0 x10_3).f0) : Int) := dt_; have q126 : ((rd_T37 l0 x10_3).f0) < (y122.length : Int) := (by have h_ : (((rd_T37 l0 x10_3).f0) : Int) < ((x7_3.length : Int) : Int) := dt_; first | (have e_ := (Kd.R_reads' HO_7.out).1; omega) | simpa only [Ny122.out, List.length_set] using h_); have ql126 : ((((rd_T37 l0 x10_3).f0) : Int) < ((x7_3.length : Int) : Int)) = True := eq_true (dt_); obtain ⟨ad126, e126, hx126_0⟩ := Kd.at_int (Kd.R_reads' HO_7.out).2.2 ((rd_T37 l0 x10_3).f0) p126 q126; obtain rfl : (⟨go10, 0, none⟩ : Addr) = ad126 := (by injection e126); (first | simp only [add_plain] at hx126_0 | simp only [add_at] at hx126_0 | simp only [Addr.add, Nat.zero_add] at hx126_0 | skip); replace p126 := eq_true p126; replace q126 := eq_true q126; have p43 : 0 ≤ (((rd_T37 l0 x10_3).f0) : Int) := dt_; have q43 : (((rd_T37 l0 x10_3).f0) : Int) < ((x7_3.length : Int) : Int) := dt_; obtain ⟨hx43_0, hf43_0⟩ := Kd.R_celln 0 HO_7.out (((rd_T37 l0 x10_3).f0) : Int) p43 q43; replace p43 := eq_true p43; replace q43 := eq_true q43; obtain ⟨hy46_, hz46_⟩ := Kd.R_celln 0 HO_7.out (((rd_T37 l0 x10_3).f0) : Int) (dt_) (dt_); have HP46 := Kd.R_putg HO_7.out (((rd_T37 l0 x10_3).f0) : Int) (wrap64 ((rd y122 ((rd_T37 l0 x10_3).f1)) + ((rd_T37 l0 x10_3).f2)))) | ((with_reducible refine gate_store (t := 3) (p := 121) rfl ?_); (try (rw [drewN_self w45]; generalize hq_ : World.drewN w45 _ = w45; replace HO_7 := Aside0.mk (Kd.R_at hq_ HO_7.out); replace HB := Aside0.mk (below_at hq_ HB.out); clear hq_; (try (obtain ⟨hy46_, hz46_⟩ := Kd.R_celln 0 HO_7.out (((rd_T37 l0 x10_3).f0) : Int) (dt_) (dt_))); (try (have HP46 := Kd.R_putg HO_7.out (((rd_T37 l0 x10_3).f0) : Int) (wrap64 ((rd y122 ((rd_T37 l0 x10_3).f1)) + ((rd_T37 l0 x10_3).f2))))))); refine store_event (t := 3) (p := 121) (v := ?vo_w47) (w1 := (w45.setCell ⟨go10, (((rd_T37 l0 x10_3).f0) : Int).toNat, none⟩ (.int .i64 (wrap64 ((rd y122 ((rd_T37 l0 x10_3).f1)) + ((rd_T37 l0 x10_3).f2)))))) ?hg ?ho ?hn ?hr ?_; (case ho => rfl); (case hg => rfl); (case hn => rfl); (case hr => first | (go_simp; done) | (go_simp; rfl)); intro w47 hw; have hg : w45.grownBy w47 (some go10) := (by rw [hw]; exact HP46.2); have hp_ : Kd.R (Kd.int .i64) 3 w47 w.heap.size (fun _ => True) (.slice (some ⟨go10, 0, none⟩) x7_3.length co10) y127 := (by rw [hw, Ny127.out]; exact HP46.1); clear HP46; replace HO_7 := Aside0.mk (hp_); replace HB := Aside0.mk ((by rw [hw]; exact below_set (HB.out) GB10.out : Below w.heap.size w w47)); clear hg hw hp_))
                              repeat (go_quiet (first | ((with_reducible refine gate_store (t := 3) (p := 87) rfl ?_); (try (rw [drewN_self wc]; generalize hq_ : World.drewN wc _ = wc; replace HO_7 := Aside0.mk (Kd.R_at hq_ HO_7.out); replace HB := Aside0.mk (below_at hq_ HB.out); clear hq_; (try (have HP44 := Kd.R_putg HO_7.out (((rd_T37 l0 x10_3).f1) : Int) (wrap64 ((rd x7_3 ((rd_T37 l0 x10_3).f0)) + ((rd_T37 l0 x10_3).f2))))))); refine store_event (t := 3) (p := 87) (v := ?vo_w45) (w1 := (wc.setCell ⟨go10, (((rd_T37 l0 x10_3).f1) : Int).toNat, none⟩ (.int .i64 (wrap64 ((rd x7_3 ((rd_T37 l0 x10_3).f0)) + ((rd_T37 l0 x10_3).f2)))))) ?hg ?ho ?hn ?hr ?_; (case ho => rfl); (case hg => rfl); (case hn => rfl); (case hr => first | (go_simp; done) | (go_simp; rfl)); intro w45 hw; have hg : wc.grownBy w45 (some go10) := (by rw [hw]; exact HP44.2); have hp_ : Kd.R (Kd.int .i64) 3 w45 w.heap.size (fun _ => True) (.slice (some ⟨go10, 0, none⟩) x7_3.length co10) y122 := (by rw [hw, Ny122.out]; exact HP44.1); clear HP44; replace HO_7 := Aside0.mk (hp_); replace HB := Aside0.mk ((by rw [hw]; exact below_set (HB.out) GB10.out : Below w.heap.size w w45)); clear hg hw hp_; have p123 : 0 ≤ (((rd_T37 l0 x10_3).f1) : Int) := dt_; have q123 : ((rd_T37 l0 x10_3).f1) < (y122.length : Int) := (by have h_ : (((rd_T37 l0 x10_3).f1) : Int) < ((x7_3.length : Int) : Int) := dt_; first | (have e_ := (Kd.R_reads' HO_7.out).1; omega) | simpa only [Ny122.out, List.length_set] using h_); have ql123 : ((((rd_T37 l0 x10_3).f1) : Int) < ((x7_3.length : Int) : Int)) = True := eq_true (dt_); obtain ⟨ad123, e123, hx123_0⟩ := Kd.at_int (Kd.R_reads' HO_7.out).2.2 ((rd_T37 l0 x10_3).f1) p123 q123; obtain rfl : (⟨go10, 0, none⟩ : Addr) = ad123 := (by injection e123); (first | simp only [add_plain] at hx123_0 | simp only [add_at] at hx123_0 | simp only [Addr.add, Nat.zero_add] at hx123_0 | skip); replace p123 := eq_true p123; replace q123 := eq_true q123; have p124 : 0 ≤ (x10_3 : Int) := dt_; have q124 : x10_3 < (l0.length : Int) := dt_; obtain ⟨ad124, e124, hx124_0, hx124_1, hx124_2, hx124_3, hx124_4⟩ := at_T37 HR0.out x10_3 p124 q124; obtain rfl : ad113 = ad124 := (by injection e124); replace hx124_0 := bc_ HB.out hx124_0; replace hx124_1 := bc_ HB.out hx124_1; replace hx124_2 := bc_ HB.out hx124_2; replace hx124_3 := bc_ HB.out hx124_3; replace hx124_4 := bc_ HB.out hx124_4; replace p124 := eq_true p124; replace q124 := eq_true q124; have p125 : 0 ≤ (((rd_T37 l0 x10_3).f1) : Int) := dt_; have q125 : ((rd_T37 l0 x10_3).f1) < (y122.length : Int) := (by have h_ : (((rd_T37 l0 x10_3).f1) : Int) < ((x7_3.length : Int) : Int) := dt_; first | (have e_ := (Kd.R_reads' HO_7.out).1; omega) | simpa only [Ny122.out, List.length_set] using h_); have ql125 : ((((rd_T37 l0 x10_3).f1) : Int) < ((x7_3.length : Int) : Int)) = True := eq_true (dt_); obtain ⟨ad125, e125, hx125_0⟩ := Kd.at_int (Kd.R_reads' HO_7.out).2.2 ((rd_T37 l0 x10_3).f1) p125 q125; obtain rfl : (⟨go10, 0, none⟩ : Addr) = ad125 := (by injection e125); (first | simp only [add_plain] at hx125_0 | simp only [add_at] at hx125_0 | simp only [Addr.add, Nat.zero_add] at hx125_0 | skip); replace p125 := eq_true p125; replace q125 := eq_true q125; have p126 : 0 ≤ (((rd_T37 l0 x10_3).f0) : Int) := dt_; have q126 : ((rd_T37 l0 x10_3).f0) < (y122.length : Int) := (by have h_ : (((rd_T37 l0 x10_3).f0) : Int) < ((x7_3.length : Int) : Int) := dt_; first | (have e_ := (Kd.R_reads' HO_7.out).1; omega) | simpa only [Ny122.out, List.length_set] using h_); have ql126 : ((((rd_T37 l0 x10_3).f0) : Int) < ((x7_3.length : Int) : Int)) = True := eq_true (dt_); obtain ⟨ad126, e126, hx126_0⟩ := Kd.at_int (Kd.R_reads' HO_7.out).2.2 ((rd_T37 l0 x10_3).f0) p126 q126; obtain rfl : (⟨go10, 0, none⟩ : Addr) = ad126 := (by injection e126); (first | simp only [add_plain] at hx126_0 | simp only [add_at] at hx126_0 | simp only [Addr.add, Nat.zero_add] at hx126_0 | skip); replace p126 := eq_true p126; replace q126 := eq_true q126; have p43 : 0 ≤ (((rd_T37 l0 x10_3).f0) : Int) := dt_; have q43 : (((rd_T37 l0 x10_3).f0) : Int) < ((x7_3.length : Int) : Int) := dt_; obtain ⟨hx43_0, hf43_0⟩ := Kd.R_celln 0 HO_7.out (((rd_T37 l0 x10_3).f0) : Int) p43 q43; replace p43 := eq_true p43; replace q43 := eq_true q43; obtain ⟨hy46_, hz46_⟩ := Kd.R_celln 0 HO_7.out (((rd_T37 l0 x10_3).f0) : Int) (dt_) (dt_); have HP46 := Kd.R_putg HO_7.out (((rd_T37 l0 x10_3).f0) : Int) (wrap64 ((rd y122 ((rd_T37 l0 x10_3).f1)) + ((rd_T37 l0 x10_3).f2)))) | ((with_reducible refine gate_store (t := 3) (p := 121) rfl ?_); (try (rw [drewN_self w45]; generalize hq_ : World.drewN w45 _ = w45; replace HO_7 := Aside0.mk (Kd.R_at hq_ HO_7.out); replace HB := Aside0.mk (below_at hq_ HB.out); clear hq_; (try (obtain ⟨hy46_, hz46_⟩ := Kd.R_celln 0 HO_7.out (((rd_T37 l0 x10_3).f0) : Int) (dt_) (dt_))); (try (have HP46 := Kd.R_putg HO_7.out (((rd_T37 l0 x10_3).f0) : Int) (wrap64 ((rd y122 ((rd_T37 l0 x10_3).f1)) + ((rd_T37 l0 x10_3).f2))))))); refine store_event (t := 3) (p := 121) (v := ?vo_w47) (w1 := (w45.setCell ⟨go10, (((rd_T37 l0 x10_3).f0) : Int).toNat, none⟩ (.int .i64 (wrap64 ((rd y122 ((rd_T37 l0 x10_3).f1)) + ((rd_T37 l0 x10_3).f2)))))) ?hg ?ho ?hn ?hr ?_; (case ho => rfl); (case hg => rfl); (case hn => rfl); (case hr => first | (go_simp; done) | (go_simp; rfl)); intro w47 hw; have hg : w45.grownBy w47 (some go10) := (by rw [hw]; exact HP46.2); have hp_ : Kd.R (Kd.int .i64) 3 w47 w.heap.size (fun _ => True) (.slice (some ⟨go10, 0, none⟩) x7_3.length co10) y127 := (by rw [hw, Ny127.out]; exact HP46.1); clear HP46; replace HO_7 := Aside0.mk (hp_); replace HB := Aside0.mk ((by rw [hw]; exact below_set (HB.out) GB10.out : Below w.heap.size w w47)); clear hg hw hp_)); try go_wp2_with (first | ((with_reducible refine gate_store (t := 3) (p := 87) rfl ?_); (try (rw [drewN_self wc]; generalize hq_ : World.drewN wc _ = wc; replace HO_7 := Aside0.mk (Kd.R_at hq_ HO_7.out); replace HB := Aside0.mk (below_at hq_ HB.out); clear hq_; (try (have HP44 := Kd.R_putg HO_7.out (((rd_T37 l0 x10_3).f1) : Int) (wrap64 ((rd x7_3 ((rd_T37 l0 x10_3).f0)) + ((rd_T37 l0 x10_3).f2))))))); refine store_event (t := 3) (p := 87) (v := ?vo_w45) (w1 := (wc.setCell ⟨go10, (((rd_T37 l0 x10_3).f1) : Int).toNat, none⟩ (.int .i64 (wrap64 ((rd x7_3 ((rd_T37 l0 x10_3).f0)) + ((rd_T37 l0 x10_3).f2)))))) ?hg ?ho ?hn ?hr ?_; (case ho => rfl); (case hg => rfl); (case hn => rfl); (case hr => first | (go_simp; done) | (go_simp; rfl)); intro w45 hw; have hg : wc.grownBy w45 (some go10) := (by rw [hw]; exact HP44.2); have hp_ : Kd.R (Kd.int .i64) 3 w45 w.heap.size (fun _ => True) (.slice (some ⟨go10, 0, none⟩) x7_3.length co10) y122 := (by rw [hw, Ny122.out]; exact HP44.1); clear HP44; replace HO_7 := Aside0.mk (hp_); replace HB := Aside0.mk ((by rw [hw]; exact below_set (HB.out) GB10.out : Below w.heap.size w w45)); clear hg hw hp_; have p123 : 0 ≤ (((rd_T37 l0 x10_3).f1) : Int) := dt_; have q123 : ((rd_T37 l0 x10_3).f1) < (y122.length : Int) := (by have h_ : (((rd_T37 l0 x10_3).f1) : Int) < ((x7_3.length : Int) : Int) := dt_; first | (have e_ := (Kd.R_reads' HO_7.out).1; omega) | simpa only [Ny122.out, List.length_set] using h_); have ql123 : ((((rd_T37 l0 x10_3).f1) : Int) < ((x7_3.length : Int) : Int)) = True := eq_true (dt_); obtain ⟨ad123, e123, hx123_0⟩ := Kd.at_int (Kd.R_reads' HO_7.out).2.2 ((rd_T37 l0 x10_3).f1) p123 q123; obtain rfl : (⟨go10, 0, none⟩ : Addr) = ad123 := (by injection e123); (first | simp only [add_plain] at hx123_0 | simp only [add_at] at hx123_0 | simp only [Addr.add, Nat.zero_add] at hx123_0 | skip); replace p123 := eq_true p123; replace q123 := eq_true q123; have p124 : 0 ≤ (x10_3 : Int) := dt_; have q124 : x10_3 < (l0.length : Int) := dt_; obtain ⟨ad124, e124, hx124_0, hx124_1, hx124_2, hx124_3, hx124_4⟩ := at_T37 HR0.out x10_3 p124 q124; obtain rfl : ad113 = ad124 := (by injection e124); replace hx124_0 := bc_ HB.out hx124_0; replace hx124_1 := bc_ HB.out hx124_1; replace hx124_2 := bc_ HB.out hx124_2; replace hx124_3 := bc_ HB.out hx124_3; replace hx124_4 := bc_ HB.out hx124_4; replace p124 := eq_true p124; replace q124 := eq_true q124; have p125 : 0 ≤ (((rd_T37 l0 x10_3).f1) : Int) := dt_; have q125 : ((rd_T37 l0 x10_3).f1) < (y122.length : Int) := (by have h_ : (((rd_T37 l0 x10_3).f1) : Int) < ((x7_3.length : Int) : Int) := dt_; first | (have e_ := (Kd.R_reads' HO_7.out).1; omega) | simpa only [Ny122.out, List.length_set] using h_); have ql125 : ((((rd_T37 l0 x10_3).f1) : Int) < ((x7_3.length : Int) : Int)) = True := eq_true (dt_); obtain ⟨ad125, e125, hx125_0⟩ := Kd.at_int (Kd.R_reads' HO_7.out).2.2 ((rd_T37 l0 x10_3).f1) p125 q125; obtain rfl : (⟨go10, 0, none⟩ : Addr) = ad125 := (by injection e125); (first | simp only [add_plain] at hx125_0 | simp only [add_at] at hx125_0 | simp only [Addr.add, Nat.zero_add] at hx125_0 | skip); replace p125 := eq_true p125; replace q125 := eq_true q125; have p126 : 0 ≤ (((rd_T37 l0 x10_3).f0) : Int) := dt_; have q126 : ((rd_T37 l0 x10_3).f0) < (y122.length : Int) := (by have h_ : (((rd_T37 l0 x10_3).f0) : Int) < ((x7_3.length : Int) : Int) := dt_; first | (have e_ := (Kd.R_reads' HO_7.out).1; omega) | simpa only [Ny122.out, List.length_set] using h_); have ql126 : ((((rd_T37 l0 x10_3).f0) : Int) < ((x7_3.length : Int) : Int)) = True := eq_true (dt_); obtain ⟨ad126, e126, hx126_0⟩ := Kd.at_int (Kd.R_reads' HO_7.out).2.2 ((rd_T37 l0 x10_3).f0) p126 q126; obtain rfl : (⟨go10, 0, none⟩ : Addr) = ad126 := (by injection e126); (first | simp only [add_plain] at hx126_0 | simp only [add_at] at hx126_0 | simp only [Addr.add, Nat.zero_add] at hx126_0 | skip); replace p126 := eq_true p126; replace q126 := eq_true q126; have p43 : 0 ≤ (((rd_T37 l0 x10_3).f0) : Int) := dt_; have q43 : (((rd_T37 l0 x10_3).f0) : Int) < ((x7_3.length : Int) : Int) := dt_; obtain ⟨hx43_0, hf43_0⟩ := Kd.R_celln 0 HO_7.out (((rd_T37 l0 x10_3).f0) : Int) p43 q43; replace p43 := eq_true p43; replace q43 := eq_true q43; obtain ⟨hy46_, hz46_⟩ := Kd.R_celln 0 HO_7.out (((rd_T37 l0 x10_3).f0) : Int) (dt_) (dt_); have HP46 := Kd.R_putg HO_7.out (((rd_T37 l0 x10_3).f0) : Int) (wrap64 ((rd y122 ((rd_T37 l0 x10_3).f1)) + ((rd_T37 l0 x10_3).f2)))) | ((with_reducible refine gate_store (t := 3) (p := 121) rfl ?_); (try (rw [drewN_self w45]; generalize hq_ : World.drewN w45 _ = w45; replace HO_7 := Aside0.mk (Kd.R_at hq_ HO_7.out); replace HB := Aside0.mk (below_at hq_ HB.out); clear hq_; (try (obtain ⟨hy46_, hz46_⟩ := Kd.R_celln 0 HO_7.out (((rd_T37 l0 x10_3).f0) : Int) (dt_) (dt_))); (try (have HP46 := Kd.R_putg HO_7.out (((rd_T37 l0 x10_3).f0) : Int) (wrap64 ((rd y122 ((rd_T37 l0 x10_3).f1)) + ((rd_T37 l0 x10_3).f2))))))); refine store_event (t := 3) (p := 121) (v := ?vo_w47) (w1 := (w45.setCell ⟨go10, (((rd_T37 l0 x10_3).f0) : Int).toNat, none⟩ (.int .i64 (wrap64 ((rd y122 ((rd_T37 l0 x10_3).f1)) + ((rd_T37 l0 x10_3).f2)))))) ?hg ?ho ?hn ?hr ?_; (case ho => rfl); (case hg => rfl); (case hn => rfl); (case hr => first | (go_simp; done) | (go_simp; rfl)); intro w47 hw; have hg : w45.grownBy w47 (some go10) := (by rw [hw]; exact HP46.2); have hp_ : Kd.R (Kd.int .i64) 3 w47 w.heap.size (fun _ => True) (.slice (some ⟨go10, 0, none⟩) x7_3.length co10) y127 := (by rw [hw, Ny127.out]; exact HP46.1); clear HP46; replace HO_7 := Aside0.mk (hp_); replace HB := Aside0.mk ((by rw [hw]; exact below_set (HB.out) GB10.out : Below w.heap.size w w47)); clear hg hw hp_)))
                              (try simp only [← hl7_3])
                              go_roundg kj27
                              case measure => have := HK1.out; have := HK2.out; have := HK3.out; have := HJ15.out; have := HJ27.out; omega
                              case rel => exact ⟨(y127), (true), (wrap64 (x10_3 + 1)), (by first | rfl | (simp; done) | (simp [*]; done)), (by first | rfl | (simp; done) | (simp [*]; done)), H', ⟨by have := HK1.out; have := HK2.out; have := HK3.out; have := HJ15.out; have := HJ27.out; omega⟩, ⟨by (try simp only [hl7_2]); (try simp only [hl7_3]); (with_reducible repeat (first | apply Kd.R_alloc | apply Kd.R_drewN | apply Kd.R_drew)); first | exact HO_7.out | (rw [Ny127.out]; exact (Kd.R_putg (Kd.R_drewN HO_7.out _) _ _).1) | (rw [Ny127.out]; exact (Kd.R_putg HO_7.out _ _).1)⟩, ⟨by repeat (first | (with_reducible first | exact HB.out | apply below_alloc | apply pw_below_drewN | apply below_drew1) | exact HB.out | (first | exact below_set (pw_below_drewN HB.out _) GB10.out | exact below_set HB.out GB10.out))⟩⟩
                             ·
                              rw [if_neg c42] at H
                              have c42b0 : decide ((rd y122 ((rd_T37 l0 x10_3).f0)) < 0) = false := decide_eq_false c42; clear c42
                              by_cases c48 : (wrap64 ((rd y122 ((rd_T37 l0 x10_3).f1)) + ((rd_T37 l0 x10_3).f2))) < (rd y122 ((rd_T37 l0 x10_3).f0))
                              ·
                               rw [if_pos c48] at H
                               have c48b0 : decide ((wrap64 ((rd y122 ((rd_T37 l0 x10_3).f1)) + ((rd_T37 l0 x10_3).f2))) < (rd y122 ((rd_T37 l0 x10_3).f0))) = true := decide_eq_true c48; clear c48
                               obtain ⟨y129, hy129⟩ : ∃ y_ : List Int, y_ = (y122.set (((rd_T37 l0 x10_3).f0) : Int).toNat (wrap64 ((rd y122 ((rd_T37 l0 x10_3).f1)) + ((rd_T37 l0 x10_3).f2)))) := ⟨_, rfl⟩
                               replace H : (spec_l25Out.l2 kj27 l0 l1 a2 y129 true (wrap64 (x10_3 + 1))) = some r := by first | (rw [hy129]; with_reducible exact H) | (have H2_ := (Option.bind_some _ _).symm.trans H; rw [hy129]; with_reducible exact H2_) | (have H2_ := (Option.bind_some _ _).symm.trans H; with_reducible exact H2_) | with_reducible exact H | (rw [hy129]; exact H) | exact H
                               have Ny129 := Aside0.mk hy129; clear hy129; have H' := Aside0.mk H; clear H; have p36 : 0 ≤ (((rd_T37 l0 x10_3).f1) : Int) := dt_; have q36 : (((rd_T37 l0 x10_3).f1) : Int) < ((x7_3.length : Int) : Int) := dt_; obtain ⟨hx36_0, hf36_0⟩ := Kd.R_celln 0 HO_7.out (((rd_T37 l0 x10_3).f1) : Int) p36 q36; replace p36 := eq_true p36; replace q36 := eq_true q36; have HP50 := Kd.R_putg HO_7.out (((rd_T37 l0 x10_3).f1) : Int) (wrap64 ((rd x7_3 ((rd_T37 l0 x10_3).f0)) + ((rd_T37 l0 x10_3).f2)))
                               go_wp2_with (first | ((with_reducible refine gate_store (t := 3) (p := 87) rfl ?_); (try (rw [drewN_self wc]; generalize hq_ : World.drewN wc _ = wc; replace HO_7 := Aside0.mk (Kd.R_at hq_ HO_7.out); replace HB := Aside0.mk (below_at hq_ HB.out); clear hq_; (try (have HP50 := Kd.R_putg HO_7.out (((rd_T37 l0 x10_3).f1) : Int) (wrap64 ((rd x7_3 ((rd_T37 l0 x10_3).f0)) + ((rd_T37 l0 x10_3).f2))))))); refine store_event (t := 3) (p := 87) (v := ?vo_w51) (w1 := (wc.setCell ⟨go10, (((rd_T37 l0 x10_3).f1) : Int).toNat, none⟩ (.int .i64 (wrap64 ((rd x7_3 ((rd_T37 l0 x10_3).f0)) + ((rd_T37 l0 x10_3).f2)))))) ?hg ?ho ?hn ?hr ?_; (case ho => rfl); (case hg => rfl); (case hn => rfl); (case hr => first | (go_simp; done) | (go_simp; rfl)); intro w51 hw; have hg : wc.grownBy w51 (some go10) := (by rw [hw]; exact HP50.2); have hp_ : Kd.R (Kd.int .i64) 3 w51 w.heap.size (fun _ => True) (.slice (some ⟨go10, 0, none⟩) x7_3.length co10) y122 := (by rw [hw, Ny122.out]; exact HP50.1); clear HP50; replace HO_7 := Aside0.mk (hp_); replace HB := Aside0.mk ((by rw [hw]; exact below_set (HB.out) GB10.out : Below w.heap.size w w51)); clear hg hw hp_; have p123 : 0 ≤ (((rd_T37 l0 x10_3).f1) : Int) := dt_; have q123 : ((rd_T37 l0 x10_3).f1) < (y122.length : Int) := (by have h_ : (((rd_T37 l0 x10_3).f1) : Int) < ((x7_3.length : Int) : Int) := dt_; first | (have e_ := (Kd.R_reads' HO_7.out).1; omega) | simpa only [Ny122.out, List.length_set] using h_); have ql123 : ((((rd_T37 l0 x10_3).f1) : Int) < ((x7_3.length : Int) : Int)) = True := eq_true (dt_); obtain ⟨ad123, e123, hx123_0⟩ := Kd.at_int (Kd.R_reads' HO_7.out).2.2 ((rd_T37 l0 x10_3).f1) p123 q123; obtain rfl : (⟨go10, 0, none⟩ : Addr) = ad123 := (by injection e123); (first | simp only [add_plain] at hx123_0 | simp only [add_at] at hx123_0 | simp only [Addr.add, Nat.zero_add] at hx123_0 | skip); replace p123 := eq_true p123; replace q123 := eq_true q123; have p124 : 0 ≤ (x10_3 : Int) := dt_; have q124 : x10_3 < (l0.length : Int) := dt_; obtain ⟨ad124, e124, hx124_0, hx124_1, hx124_2, hx124_3, hx124_4⟩ := at_T37 HR0.out x10_3 p124 q124; obtain rfl : ad113 = ad124 := (by injection e124); replace hx124_0 := bc_ HB.out hx124_0; replace hx124_1 := bc_ HB.out hx124_1; replace hx124_2 := bc_ HB.out hx124_2; replace hx124_3 := bc_ HB.out hx124_3; replace hx124_4 := bc_ HB.out hx124_4; replace p124 := eq_true p124; replace q124 := eq_true q124; have p125 : 0 ≤ (((rd_T37 l0 x10_3).f1) : Int) := dt_; have q125 : ((rd_T37 l0 x10_3).f1) < (y122.length : Int) := (by have h_ : (((rd_T37 l0 x10_3).f1) : Int) < ((x7_3.length : Int) : Int) := dt_; first | (have e_ := (Kd.R_reads' HO_7.out).1; omega) | simpa only [Ny122.out, List.length_set] using h_); have ql125 : ((((rd_T37 l0 x10_3).f1) : Int) < ((x7_3.length : Int) : Int)) = True := eq_true (dt_); obtain ⟨ad125, e125, hx125_0⟩ := Kd.at_int (Kd.R_reads' HO_7.out).2.2 ((rd_T37 l0 x10_3).f1) p125 q125; obtain rfl : (⟨go10, 0, none⟩ : Addr) = ad125 := (by injection e125); (first | simp only [add_plain] at hx125_0 | simp only [add_at] at hx125_0 | simp only [Addr.add, Nat.zero_add] at hx125_0 | skip); replace p125 := eq_true p125; replace q125 := eq_true q125; have p126 : 0 ≤ (((rd_T37 l0 x10_3).f0) : Int) := dt_; have q126 : ((rd_T37 l0 x10_3).f0) < (y122.length : Int) := (by have h_ : (((rd_T37 l0 x10_3).f0) : Int) < ((x7_3.length : Int) : Int) := dt_; first | (have e_ := (Kd.R_reads' HO_7.out).1; omega) | simpa only [Ny122.out, List.length_set] using h_); have ql126 : ((((rd_T37 l0 x10_3).f0) : Int) < ((x7_3.length : Int) : Int)) = True := eq_true (dt_); obtain ⟨ad126, e126, hx126_0⟩ := Kd.at_int (Kd.R_reads' HO_7.out).2.2 ((rd_T37 l0 x10_3).f0) p126 q126; obtain rfl : (⟨go10, 0, none⟩ : Addr) = ad126 := (by injection e126); (first | simp only [add_plain] at hx126_0 | simp only [add_at] at hx126_0 | simp only [Addr.add, Nat.zero_add] at hx126_0 | skip); replace p126 := eq_true p126; replace q126 := eq_true q126; have p128 : 0 ≤ (((rd_T37 l0 x10_3).f0) : Int) := dt_; have q128 : ((rd_T37 l0 x10_3).f0) < (y122.length : Int) := (by have h_ : (((rd_T37 l0 x10_3).f0) : Int) < ((x7_3.length : Int) : Int) := dt_; first | (have e_ := (Kd.R_reads' HO_7.out).1; omega) | simpa only [Ny122.out, List.length_set] using h_); have ql128 : ((((rd_T37 l0 x10_3).f0) : Int) < ((x7_3.length : Int) : Int)) = True := eq_true (dt_); obtain ⟨ad128, e128, hx128_0⟩ := Kd.at_int (Kd.R_reads' HO_7.out).2.2 ((rd_T37 l0 x10_3).f0) p128 q128; obtain rfl : (⟨go10, 0, none⟩ : Addr) = ad128 := (by injection e128); (first | simp only [add_plain] at hx128_0 | simp only [add_at] at hx128_0 | simp only [Addr.add, Nat.zero_add] at hx128_0 | skip); replace p128 := eq_true p128; replace q128 := eq_true q128; have p49 : 0 ≤ (((rd_T37 l0 x10_3).f0) : Int) := dt_; have q49 : (((rd_T37 l0 x10_3).f0) : Int) < ((x7_3.length : Int) : Int) := dt_; obtain ⟨hx49_0, hf49_0⟩ := Kd.R_celln 0 HO_7.out (((rd_T37 l0 x10_3).f0) : Int) p49 q49; replace p49 := eq_true p49; replace q49 := eq_true q49; obtain ⟨hy52_, hz52_⟩ := Kd.R_celln 0 HO_7.out (((rd_T37 l0 x10_3).f0) : Int) (dt_) (dt_); have HP52 := Kd.R_putg HO_7.out (((rd_T37 l0 x10_3).f0) : Int) (wrap64 ((rd y122 ((rd_T37 l0 x10_3).f1)) + ((rd_T37 l0 x10_3).f2)))) | ((with_reducible refine gate_store (t := 3) (p := 121) rfl ?_); (try (rw [drewN_self w51]; generalize hq_ : World.drewN w51 _ = w51; replace HO_7 := Aside0.mk (Kd.R_at hq_ HO_7.out); replace HB := Aside0.mk (below_at hq_ HB.out); clear hq_; (try (obtain ⟨hy52_, hz52_⟩ := Kd.R_celln 0 HO_7.out (((rd_T37 l0 x10_3).f0) : Int) (dt_) (dt_))); (try (have HP52 := Kd.R_putg HO_7.out (((rd_T37 l0 x10_3).f0) : Int) (wrap64 ((rd y122 ((rd_T37 l0 x10_3).f1)) + ((rd_T37 l0 x10_3).f2))))))); refine store_event (t := 3) (p := 121) (v := ?vo_w53) (w1 := (w51.setCell ⟨go10, (((rd_T37 l0 x10_3).f0) : Int).toNat, none⟩ (.int .i64 (wrap64 ((rd y122 ((rd_T37 l0 x10_3).f1)) + ((rd_T37 l0 x10_3).f2)))))) ?hg ?ho ?hn ?hr ?_; (case ho => rfl); (case hg => rfl); (case hn => rfl); (case hr => first | (go_simp; done) | (go_simp; rfl)); intro w53 hw; have hg : w51.grownBy w53 (some go10) := (by rw [hw]; exact HP52.2); have hp_ : Kd.R (Kd.int .i64) 3 w53 w.heap.size (fun _ => True) (.slice (some ⟨go10, 0, none⟩) x7_3.length co10) y129 := (by rw [hw, Ny129.out]; exact HP52.1); clear HP52; replace HO_7 := Aside0.mk (hp_); replace HB := Aside0.mk ((by rw [hw]; exact below_set (HB.out) GB10.out : Below w.heap.size w w53)); clear hg hw hp_))
                               repeat (go_quiet (first | ((with_reducible refine gate_store (t := 3) (p := 87) rfl ?_); (try (rw [drewN_self wc]; generalize hq_ : World.drewN wc _ = wc; replace HO_7 := Aside0.mk (Kd.R_at hq_ HO_7.out); replace HB := Aside0.mk (below_at hq_ HB.out); clear hq_; (try (have HP50 := Kd.R_putg HO_7.out (((rd_T37 l0 x10_3).f1) : Int) (wrap64 ((rd x7_3 ((rd_T37 l0 x10_3).f0)) + ((rd_T37 l0 x10_3).f2))))))); refine store_event (t := 3) (p := 87) (v := ?vo_w51) (w1 := (wc.setCell ⟨go10, (((rd_T37 l0 x10_3).f1) : Int).toNat, none⟩ (.int .i64 (wrap64 ((rd x7_3 ((rd_T37 l0 x10_3).f0)) + ((rd_T37 l0 x10_3).f2)))))) ?hg ?ho ?hn ?hr ?_; (case ho => rfl); (case hg => rfl); (case hn => rfl); (case hr => first | (go_simp; done) | (go_simp; rfl)); intro w51 hw; have hg : wc.grownBy w51 (some go10) := (by rw [hw]; exact HP50.2); have hp_ : Kd.R (Kd.int .i64) 3 w51 w.heap.size (fun _ => True) (.slice (some ⟨go10, 0, none⟩) x7_3.length co10) y122 := (by rw [hw, Ny122.out]; exact HP50.1); clear HP50; replace HO_7 := Aside0.mk (hp_); replace HB := Aside0.mk ((by rw [hw]; exact below_set (HB.out) GB10.out : Below w.heap.size w w51)); clear hg hw hp_; have p123 : 0 ≤ (((rd_T37 l0 x10_3).f1) : Int) := dt_; have q123 : ((rd_T37 l0 x10_3).f1) < (y122.length : Int) := (by have h_ : (((rd_T37 l0 x10_3).f1) : Int) < ((x7_3.length : Int) : Int) := dt_; first | (have e_ := (Kd.R_reads' HO_7.out).1; omega) | simpa only [Ny122.out, List.length_set] using h_); have ql123 : ((((rd_T37 l0 x10_3).f1) : Int) < ((x7_3.length : Int) : Int)) = True := eq_true (dt_); obtain ⟨ad123, e123, hx123_0⟩ := Kd.at_int (Kd.R_reads' HO_7.out).2.2 ((rd_T37 l0 x10_3).f1) p123 q123; obtain rfl : (⟨go10, 0, none⟩ : Addr) = ad123 := (by injection e123); (first | simp only [add_plain] at hx123_0 | simp only [add_at] at hx123_0 | simp only [Addr.add, Nat.zero_add] at hx123_0 | skip); replace p123 := eq_true p123; replace q123 := eq_true q123; have p124 : 0 ≤ (x10_3 : Int) := dt_; have q124 : x10_3 < (l0.length : Int) := dt_; obtain ⟨ad124, e124, hx124_0, hx124_1, hx124_2, hx124_3, hx124_4⟩ := at_T37 HR0.out x10_3 p124 q124; obtain rfl : ad113 = ad124 := (by injection e124); replace hx124_0 := bc_ HB.out hx124_0; replace hx124_1 := bc_ HB.out hx124_1; replace hx124_2 := bc_ HB.out hx124_2; replace hx124_3 := bc_ HB.out hx124_3; replace hx124_4 := bc_ HB.out hx124_4; replace p124 := eq_true p124; replace q124 := eq_true q124; have p125 : 0 ≤ (((rd_T37 l0 x10_3).f1) : Int) := dt_; have q125 : ((rd_T37 l0 x10_3).f1) < (y122.length : Int) := (by have h_ : (((rd_T37 l0 x10_3).f1) : Int) < ((x7_3.length : Int) : Int) := dt_; first | (have e_ := (Kd.R_reads' HO_7.out).1; omega) | simpa only [Ny122.out, List.length_set] using h_); have ql125 : ((((rd_T37 l0 x10_3).f1) : Int) < ((x7_3.length : Int) : Int)) = True := eq_true (dt_); obtain ⟨ad125, e125, hx125_0⟩ := Kd.at_int (Kd.R_reads' HO_7.out).2.2 ((rd_T37 l0 x10_3).f1) p125 q125; obtain rfl : (⟨go10, 0, none⟩ : Addr) = ad125 := (by injection e125); (first | simp only [add_plain] at hx125_0 | simp only [add_at] at hx125_0 | simp only [Addr.add, Nat.zero_add] at hx125_0 | skip); replace p125 := eq_true p125; replace q125 := eq_true q125; have p126 : 0 ≤ (((rd_T37 l0 x10_3).f0) : Int) := dt_; have q126 : ((rd_T37 l0 x10_3).f0) < (y122.length : Int) := (by have h_ : (((rd_T37 l0 x10_3).f0) : Int) < ((x7_3.length : Int) : Int) := dt_; first | (have e_ := (Kd.R_reads' HO_7.out).1; omega) | simpa only [Ny122.out, List.length_set] using h_); have ql126 : ((((rd_T37 l0 x10_3).f0) : Int) < ((x7_3.length : Int) : Int)) = True := eq_true (dt_); obtain ⟨ad126, e126, hx126_0⟩ := Kd.at_int (Kd.R_reads' HO_7.out).2.2 ((rd_T37 l0 x10_3).f0) p126 q126; obtain rfl : (⟨go10, 0, none⟩ : Addr) = ad126 := (by injection e126); (first | simp only [add_plain] at hx126_0 | simp only [add_at] at hx126_0 | simp only [Addr.add, Nat.zero_add] at hx126_0 | skip); replace p126 := eq_true p126; replace q126 := eq_true q126; have p128 : 0 ≤ (((rd_T37 l0 x10_3).f0) : Int) := dt_; have q128 : ((rd_T37 l0 x10_3).f0) < (y122.length : Int) := (by have h_ : (((rd_T37 l0 x10_3).f0) : Int) < ((x7_3.length : Int) : Int) := dt_; first | (have e_ := (Kd.R_reads' HO_7.out).1; omega) | simpa only [Ny122.out, List.length_set] using h_); have ql128 : ((((rd_T37 l0 x10_3).f0) : Int) < ((x7_3.length : Int) : Int)) = True := eq_true (dt_); obtain ⟨ad128, e128, hx128_0⟩ := Kd.at_int (Kd.R_reads' HO_7.out).2.2 ((rd_T37 l0 x10_3).f0) p128 q128; obtain rfl : (⟨go10, 0, none⟩ : Addr) = ad128 := (by injection e128); (first | simp only [add_plain] at hx128_0 | simp only [add_at] at hx128_0 | simp only [Addr.add, Nat.zero_add] at hx128_0 | skip); replace p128 := eq_true p128; replace q128 := eq_true q128; have p49 : 0 ≤ (((rd_T37 l0 x10_3).f0) : Int) := dt_; have q49 : (((rd_T37 l0 x10_3).f0) : Int) < ((x7_3.length : Int) : Int) := dt_; obtain ⟨hx49_0, hf49_0⟩ := Kd.R_celln 0 HO_7.out (((rd_T37 l0 x10_3).f0) : Int) p49 q49; replace p49 := eq_true p49; replace q49 := eq_true q49; obtain ⟨hy52_, hz52_⟩ := Kd.R_celln 0 HO_7.out (((rd_T37 l0 x10_3).f0) : Int) (dt_) (dt_); have HP52 := Kd.R_putg HO_7.out (((rd_T37 l0 x10_3).f0) : Int) (wrap64 ((rd y122 ((rd_T37 l0 x10_3).f1)) + ((rd_T37 l0 x10_3).f2)))) | ((with_reducible refine gate_store (t := 3) (p := 121) rfl ?_); (try (rw [drewN_self w51]; generalize hq_ : World.drewN w51 _ = w51; replace HO_7 := Aside0.mk (Kd.R_at hq_ HO_7.out); replace HB := Aside0.mk (below_at hq_ HB.out); clear hq_; (try (obtain ⟨hy52_, hz52_⟩ := Kd.R_celln 0 HO_7.out (((rd_T37 l0 x10_3).f0) : Int) (dt_) (dt_))); (try (have HP52 := Kd.R_putg HO_7.out (((rd_T37 l0 x10_3).f0) : Int) (wrap64 ((rd y122 ((rd_T37 l0 x10_3).f1)) + ((rd_T37 l0 x10_3).f2))))))); refine store_event (t := 3) (p := 121) (v := ?vo_w53) (w1 := (w51.setCell ⟨go10, (((rd_T37 l0 x10_3).f0) : Int).toNat, none⟩ (.int .i64 (wrap64 ((rd y122 ((rd_T37 l0 x10_3).f1)) + ((rd_T37 l0 x10_3).f2)))))) ?hg ?ho ?hn ?hr ?_; (case ho => rfl); (case hg => rfl); (case hn => rfl); (case hr => first | (go_simp; done) | (go_simp; rfl)); intro w53 hw; have hg : w51.grownBy w53 (some go10) := (by rw [hw]; exact HP52.2); have hp_ : Kd.R (Kd.int .i64) 3 w53 w.heap.size (fun _ => True) (.slice (some ⟨go10, 0, none⟩) x7_3.length co10) y129 := (by rw [hw, Ny129.out]; exact HP52.1); clear HP52; replace HO_7 := Aside0.mk (hp_); replace HB := Aside0.mk ((by rw [hw]; exact below_set (HB.out) GB10.out : Below w.heap.size w w53)); clear hg hw hp_)); try go_wp2_with (first | ((with_reducible refine gate_store (t := 3) (p := 87) rfl ?_); (try (rw [drewN_self wc]; generalize hq_ : World.drewN wc _ = wc; replace HO_7 := Aside0.mk (Kd.R_at hq_ HO_7.out); replace HB := Aside0.mk (below_at hq_ HB.out); clear hq_; (try (have HP50 := Kd.R_putg HO_7.out (((rd_T37 l0 x10_3).f1) : Int) (wrap64 ((rd x7_3 ((rd_T37 l0 x10_3).f0)) + ((rd_T37 l0 x10_3).f2))))))); refine store_event (t := 3) (p := 87) (v := ?vo_w51) (w1 := (wc.setCell ⟨go10, (((rd_T37 l0 x10_3).f1) : Int).toNat, none⟩ (.int .i64 (wrap64 ((rd x7_3 ((rd_T37 l0 x10_3).f0)) + ((rd_T37 l0 x10_3).f2)))))) ?hg ?ho ?hn ?hr ?_; (case ho => rfl); (case hg => rfl); (case hn => rfl); (case hr => first | (go_simp; done) | (go_simp; rfl)); intro w51 hw; have hg : wc.grownBy w51 (some go10) := (by rw [hw]; exact HP50.2); have hp_ : Kd.R (Kd.int .i64) 3 w51 w.heap.size (fun _ => True) (.slice (some ⟨go10, 0, none⟩) x7_3.length co10) y122 := (by rw [hw, Ny122.out]; exact HP50.1); clear HP50; replace HO_7 := Aside0.mk (hp_); replace HB := Aside0.mk ((by rw [hw]; exact below_set (HB.out) GB10.out : Below w.heap.size w w51)); clear hg hw hp_; have p123 : 0 ≤ (((rd_T37 l0 x10_3).f1) : Int) := dt_; have q123 : ((rd_T37 l0 x10_3).f1) < (y122.length : Int) := (by have h_ : (((rd_T37 l0 x10_3).f1) : Int) < ((x7_3.length : Int) : Int) := dt_; first | (have e_ := (Kd.R_reads' HO_7.out).1; omega) | simpa only [Ny122.out, List.length_set] using h_); have ql123 : ((((rd_T37 l0 x10_3).f1) : Int) < ((x7_3.length : Int) : Int)) = True := eq_true (dt_); obtain ⟨ad123, e123, hx123_0⟩ := Kd.at_int (Kd.R_reads' HO_7.out).2.2 ((rd_T37 l0 x10_3).f1) p123 q123; obtain rfl : (⟨go10, 0, none⟩ : Addr) = ad123 := (by injection e123); (first | simp only [add_plain] at hx123_0 | simp only [add_at] at hx123_0 | simp only [Addr.add, Nat.zero_add] at hx123_0 | skip); replace p123 := eq_true p123; replace q123 := eq_true q123; have p124 : 0 ≤ (x10_3 : Int) := dt_; have q124 : x10_3 < (l0.length : Int) := dt_; obtain ⟨ad124, e124, hx124_0, hx124_1, hx124_2, hx124_3, hx124_4⟩ := at_T37 HR0.out x10_3 p124 q124; obtain rfl : ad113 = ad124 := (by injection e124); replace hx124_0 := bc_ HB.out hx124_0; replace hx124_1 := bc_ HB.out hx124_1; replace hx124_2 := bc_ HB.out hx124_2; replace hx124_3 := bc_ HB.out hx124_3; replace hx124_4 := bc_ HB.out hx124_4; replace p124 := eq_true p124; replace q124 := eq_true q124; have p125 : 0 ≤ (((rd_T37 l0 x10_3).f1) : Int) := dt_; have q125 : ((rd_T37 l0 x10_3).f1) < (y122.length : Int) := (by have h_ : (((rd_T37 l0 x10_3).f1) : Int) < ((x7_3.length : Int) : Int) := dt_; first | (have e_ := (Kd.R_reads' HO_7.out).1; omega) | simpa only [Ny122.out, List.length_set] using h_); have ql125 : ((((rd_T37 l0 x10_3).f1) : Int) < ((x7_3.length : Int) : Int)) = True := eq_true (dt_); obtain ⟨ad125, e125, hx125_0⟩ := Kd.at_int (Kd.R_reads' HO_7.out).2.2 ((rd_T37 l0 x10_3).f1) p125 q125; obtain rfl : (⟨go10, 0, none⟩ : Addr) = ad125 := (by injection e125); (first | simp only [add_plain] at hx125_0 | simp only [add_at] at hx125_0 | simp only [Addr.add, Nat.zero_add] at hx125_0 | skip); replace p125 := eq_true p125; replace q125 := eq_true q125; have p126 : 0 ≤ (((rd_T37 l0 x10_3).f0) : Int) := dt_; have q126 : ((rd_T37 l0 x10_3).f0) < (y122.length : Int) := (by have h_ : (((rd_T37 l0 x10_3).f0) : Int) < ((x7_3.length : Int) : Int) := dt_; first | (have e_ := (Kd.R_reads' HO_7.out).1; omega) | simpa only [Ny122.out, List.length_set] using h_); have ql126 : ((((rd_T37 l0 x10_3).f0) : Int) < ((x7_3.length : Int) : Int)) = True := eq_true (dt_); obtain ⟨ad126, e126, hx126_0⟩ := Kd.at_int (Kd.R_reads' HO_7.out).2.2 ((rd_T37 l0 x10_3).f0) p126 q126; obtain rfl : (⟨go10, 0, none⟩ : Addr) = ad126 := (by injection e126); (first | simp only [add_plain] at hx126_0 | simp only [add_at] at hx126_0 | simp only [Addr.add, Nat.zero_add] at hx126_0 | skip); replace p126 := eq_true p126; replace q126 := eq_true q126; have p128 : 0 ≤ (((rd_T37 l0 x10_3).f0) : Int) := dt_; have q128 : ((rd_T37 l0 x10_3).f0) < (y122.length : Int) := (by have h_ : (((rd_T37 l0 x10_3).f0) : Int) < ((x7_3.length : Int) : Int) := dt_; first | (have e_ := (Kd.R_reads' HO_7.out).1; omega) | simpa only [Ny122.out, List.length_set] using h_); have ql128 : ((((rd_T37 l0 x10_3).f0) : Int) < ((x7_3.length : Int) : Int)) = True := eq_true (dt_); obtain ⟨ad128, e128, hx128_0⟩ := Kd.at_int (Kd.R_reads' HO_7.out).2.2 ((rd_T37 l0 x10_3).f0) p128 q128; obtain rfl : (⟨go10, 0, none⟩ : Addr) = ad128 := (by injection e128); (first | simp only [add_plain] at hx128_0 | simp only [add_at] at hx128_0 | simp only [Addr.add, Nat.zero_add] at hx128_0 | skip); replace p128 := eq_true p128; replace q128 := eq_true q128; have p49 : 0 ≤ (((rd_T37 l0 x10_3).f0) : Int) := dt_; have q49 : (((rd_T37 l0 x10_3).f0) : Int) < ((x7_3.length : Int) : Int) := dt_; obtain ⟨hx49_0, hf49_0⟩ := Kd.R_celln 0 HO_7.out (((rd_T37 l0 x10_3).f0) : Int) p49 q49; replace p49 := eq_true p49; replace q49 := eq_true q49; obtain ⟨hy52_, hz52_⟩ := Kd.R_celln 0 HO_7.out (((rd_T37 l0 x10_3).f0) : Int) (dt_) (dt_); have HP52 := Kd.R_putg HO_7.out (((rd_T37 l0 x10_3).f0) : Int) (wrap64 ((rd y122 ((rd_T37 l0 x10_3).f1)) + ((rd_T37 l0 x10_3).f2)))) | ((with_reducible refine gate_store (t := 3) (p := 121) rfl ?_); (try (rw [drewN_self w51]; generalize hq_ : World.drewN w51 _ = w51; replace HO_7 := Aside0.mk (Kd.R_at hq_ HO_7.out); replace HB := Aside0.mk (below_at hq_ HB.out); clear hq_; (try (obtain ⟨hy52_, hz52_⟩ := Kd.R_celln 0 HO_7.out (((rd_T37 l0 x10_3).f0) : Int) (dt_) (dt_))); (try (have HP52 := Kd.R_putg HO_7.out (((rd_T37 l0 x10_3).f0) : Int) (wrap64 ((rd y122 ((rd_T37 l0 x10_3).f1)) + ((rd_T37 l0 x10_3).f2))))))); refine store_event (t := 3) (p := 121) (v := ?vo_w53) (w1 := (w51.setCell ⟨go10, (((rd_T37 l0 x10_3).f0) : Int).toNat, none⟩ (.int .i64 (wrap64 ((rd y122 ((rd_T37 l0 x10_3).f1)) + ((rd_T37 l0 x10_3).f2)))))) ?hg ?ho ?hn ?hr ?_; (case ho => rfl); (case hg => rfl); (case hn => rfl); (case hr => first | (go_simp; done) | (go_simp; rfl)); intro w53 hw; have hg : w51.grownBy w53 (some go10) := (by rw [hw]; exact HP52.2); have hp_ : Kd.R (Kd.int .i64) 3 w53 w.heap.size (fun _ => True) (.slice (some ⟨go10, 0, none⟩) x7_3.length co10) y129 := (by rw [hw, Ny129.out]; exact HP52.1); clear HP52; replace HO_7 := Aside0.mk (hp_); replace HB := Aside0.mk ((by rw [hw]; exact below_set (HB.out) GB10.out : Below w.heap.size w w53)); clear hg hw hp_)))
                               (try simp only [← hl7_3])
                               go_roundg kj27
                               case measure => have := HK1.out; have := HK2.out; have := HK3.out; have := HJ15.out; have := HJ27.out; omega
                               case rel => exact ⟨(y129), (true), (wrap64 (x10_3 + 1)), (by first | rfl | (simp; done) | (simp [*]; done)), (by first | rfl | (simp; done) | (simp [*]; done)), H', ⟨by have := HK1.out; have := HK2.out; have := HK3.out; have := HJ15.out; have := HJ27.out; omega⟩, ⟨by (try simp only [hl7_2]); (try simp only [hl7_3]); (with_reducible repeat (first | apply Kd.R_alloc | apply Kd.R_drewN | apply Kd.R_drew)); first | exact HO_7.out | (rw [Ny129.out]; exact (Kd.R_putg (Kd.R_drewN HO_7.out _) _ _).1) | (rw [Ny129.out]; exact (Kd.R_putg HO_7.out _ _).1)⟩, ⟨by repeat (first | (with_reducible first | exact HB.out | apply below_alloc | apply pw_below_drewN | apply below_drew1) | exact HB.out | (first | exact below_set (pw_below_drewN HB.out _) GB10.out | exact below_set HB.out GB10.out))⟩⟩
                              ·
                               rw [if_neg c48] at H
                               have c48b0 : decide ((wrap64 ((rd y122 ((rd_T37 l0 x10_3).f1)) + ((rd_T37 l0 x10_3).f2))) < (rd y122 ((rd_T37 l0 x10_3).f0))) = false := decide_eq_false c48; clear c48; have H' := Aside0.mk H; clear H; have p36 : 0 ≤ (((rd_T37 l0 x10_3).f1) : Int) := dt_; have q36 : (((rd_T37 l0 x10_3).f1) : Int) < ((x7_3.length : Int) : Int) := dt_; obtain ⟨hx36_0, hf36_0⟩ := Kd.R_celln 0 HO_7.out (((rd_T37 l0 x10_3).f1) : Int) p36 q36; replace p36 := eq_true p36; replace q36 := eq_true q36; have HP54 := Kd.R_putg HO_7.out (((rd_T37 l0 x10_3).f1) : Int) (wrap64 ((rd x7_3 ((rd_T37 l0 x10_3).f0)) + ((rd_T37 l0 x10_3).f2)))
                               go_wp2_with (first | ((with_reducible refine gate_store (t := 3) (p := 87) rfl ?_); (try (rw [drewN_self wc]; generalize hq_ : World.drewN wc _ = wc; replace HO_7 := Aside0.mk (Kd.R_at hq_ HO_7.out); replace HB := Aside0.mk (below_at hq_ HB.out); clear hq_; (try (have HP54 := Kd.R_putg HO_7.out (((rd_T37 l0 x10_3).f1) : Int) (wrap64 ((rd x7_3 ((rd_T37 l0 x10_3).f0)) + ((rd_T37 l0 x10_3).f2))))))); refine store_event (t := 3) (p := 87) (v := ?vo_w55) (w1 := (wc.setCell ⟨go10, (((rd_T37 l0 x10_3).f1) : Int).toNat, none⟩ (.int .i64 (wrap64 ((rd x7_3 ((rd_T37 l0 x10_3).f0)) + ((rd_T37 l0 x10_3).f2)))))) ?hg ?ho ?hn ?hr ?_; (case ho => rfl); (case hg => rfl); (case hn => rfl); (case hr => first | (go_simp; done) | (go_simp; rfl)); intro w55 hw; have hg : wc.grownBy w55 (some go10) := (by rw [hw]; exact HP54.2); have hp_ : Kd.R (Kd.int .i64) 3 w55 w.heap.size (fun _ => True) (.slice (some ⟨go10, 0, none⟩) x7_3.length co10) y122 := (by rw [hw, Ny122.out]; exact HP54.1); clear HP54; replace HO_7 := Aside0.mk (hp_); replace HB := Aside0.mk ((by rw [hw]; exact below_set (HB.out) GB10.out : Below w.heap.size w w55)); clear hg hw hp_; have p123 : 0 ≤ (((rd_T37 l0 x10_3).f1) : Int) := dt_; have q123 : ((rd_T37 l0 x10_3).f1) < (y122.length : Int) := (by have h_ : (((rd_T37 l0 x10_3).f1) : Int) < ((x7_3.length : Int) : Int) := dt_; first | (have e_ := (Kd.R_reads' HO_7.out).1; omega) | simpa only [Ny122.out, List.length_set] using h_); have ql123 : ((((rd_T37 l0 x10_3).f1) : Int) < ((x7_3.length : Int) : Int)) = True := eq_true (dt_); obtain ⟨ad123, e123, hx123_0⟩ := Kd.at_int (Kd.R_reads' HO_7.out).2.2 ((rd_T37 l0 x10_3).f1) p123 q123; obtain rfl : (⟨go10, 0, none⟩ : Addr) = ad123 := (by injection e123); (first | simp only [add_plain] at hx123_0 | simp only [add_at] at hx123_0 | simp only [Addr.add, Nat.zero_add] at hx123_0 | skip); replace p123 := eq_true p123; replace q123 := eq_true q123; have p124 : 0 ≤ (x10_3 : Int) := dt_; have q124 : x10_3 < (l0.length : Int) := dt_; obtain ⟨ad124, e124, hx124_0, hx124_1, hx124_2, hx124_3, hx124_4⟩ := at_T37 HR0.out x10_3 p124 q124; obtain rfl : ad113 = ad124 := (by injection e124); replace hx124_0 := bc_ HB.out hx124_0; replace hx124_1 := bc_ HB.out hx124_1; replace hx124_2 := bc_ HB.out hx124_2; replace hx124_3 := bc_ HB.out hx124_3; replace hx124_4 := bc_ HB.out hx124_4; replace p124 := eq_true p124; replace q124 := eq_true q124; have p125 : 0 ≤ (((rd_T37 l0 x10_3).f1) : Int) := dt_; have q125 : ((rd_T37 l0 x10_3).f1) < (y122.length : Int) := (by have h_ : (((rd_T37 l0 x10_3).f1) : Int) < ((x7_3.length : Int) : Int) := dt_; first | (have e_ := (Kd.R_reads' HO_7.out).1; omega) | simpa only [Ny122.out, List.length_set] using h_); have ql125 : ((((rd_T37 l0 x10_3).f1) : Int) < ((x7_3.length : Int) : Int)) = True := eq_true (dt_); obtain ⟨ad125, e125, hx125_0⟩ := Kd.at_int (Kd.R_reads' HO_7.out).2.2 ((rd_T37 l0 x10_3).f1) p125 q125; obtain rfl : (⟨go10, 0, none⟩ : Addr) = ad125 := (by injection e125); (first | simp only [add_plain] at hx125_0 | simp only [add_at] at hx125_0 | simp only [Addr.add, Nat.zero_add] at hx125_0 | skip); replace p125 := eq_true p125; replace q125 := eq_true q125; have p126 : 0 ≤ (((rd_T37 l0 x10_3).f0) : Int) := dt_; have q126 : ((rd_T37 l0 x10_3).f0) < (y122.length : Int) := (by have h_ : (((rd_T37 l0 x10_3).f0) : Int) < ((x7_3.length : Int) : Int) := dt_; first | (have e_ := (Kd.R_reads' HO_7.out).1; omega) | simpa only [Ny122.out, List.length_set] using h_); have ql126 : ((((rd_T37 l0 x10_3).f0) : Int) < ((x7_3.length : Int) : Int)) = True := eq_true (dt_); obtain ⟨ad126, e126, hx126_0⟩ := Kd.at_int (Kd.R_reads' HO_7.out).2.2 ((rd_T37 l0 x10_3).f0) p126 q126; obtain rfl : (⟨go10, 0, none⟩ : Addr) = ad126 := (by injection e126); (first | simp only [add_plain] at hx126_0 | simp only [add_at] at hx126_0 | simp only [Addr.add, Nat.zero_add] at hx126_0 | skip); replace p126 := eq_true p126; replace q126 := eq_true q126; have p128 : 0 ≤ (((rd_T37 l0 x10_3).f0) : Int) := dt_; have q128 : ((rd_T37 l0 x10_3).f0) < (y122.length : Int) := (by have h_ : (((rd_T37 l0 x10_3).f0) : Int) < ((x7_3.length : Int) : Int) := dt_; first | (have e_ := (Kd.R_reads' HO_7.out).1; omega) | simpa only [Ny122.out, List.length_set] using h_); have ql128 : ((((rd_T37 l0 x10_3).f0) : Int) < ((x7_3.length : Int) : Int)) = True := eq_true (dt_); obtain ⟨ad128, e128, hx128_0⟩ := Kd.at_int (Kd.R_reads' HO_7.out).2.2 ((rd_T37 l0 x10_3).f0) p128 q128; obtain rfl : (⟨go10, 0, none⟩ : Addr) = ad128 := (by injection e128); (first | simp only [add_plain] at hx128_0 | simp only [add_at] at hx128_0 | simp only [Addr.add, Nat.zero_add] at hx128_0 | skip); replace p128 := eq_true p128; replace q128 := eq_true q128))
                               repeat (go_quiet (first | ((with_reducible refine gate_store (t := 3) (p := 87) rfl ?_); (try (rw [drewN_self wc]; generalize hq_ : World.drewN wc _ = wc; replace HO_7 := Aside0.mk (Kd.R_at hq_ HO_7.out); replace HB := Aside0.mk (below_at hq_ HB.out); clear hq_; (try (have HP54 := Kd.R_putg HO_7.out (((rd_T37 l0 x10_3).f1) : Int) (wrap64 ((rd x7_3 ((rd_T37 l0 x10_3).f0)) + ((rd_T37 l0 x10_3).f2))))))); refine store_event (t := 3) (p := 87) (v := ?vo_w55) (w1 := (wc.setCell ⟨go10, (((rd_T37 l0 x10_3).f1) : Int).toNat, none⟩ (.int .i64 (wrap64 ((rd x7_3 ((rd_T37 l0 x10_3).f0)) + ((rd_T37 l0 x10_3).f2)))))) ?hg ?ho ?hn ?hr ?_; (case ho => rfl); (case hg => rfl); (case hn => rfl); (case hr => first | (go_simp; done) | (go_simp; rfl)); intro w55 hw; have hg : wc.grownBy w55 (some go10) := (by rw [hw]; exact HP54.2); have hp_ : Kd.R (Kd.int .i64) 3 w55 w.heap.size (fun _ => True) (.slice (some ⟨go10, 0, none⟩) x7_3.length co10) y122 := (by rw [hw, Ny122.out]; exact HP54.1); clear HP54; replace HO_7 := Aside0.mk (hp_); replace HB := Aside0.mk ((by rw [hw]; exact below_set (HB.out) GB10.out : Below w.heap.size w w55)); clear hg hw hp_; have p123 : 0 ≤ (((rd_T37 l0 x10_3).f1) : Int) := dt_; have q123 : ((rd_T37 l0 x10_3).f1) < (y122.length : Int) := (by have h_ : (((rd_T37 l0 x10_3).f1) : Int) < ((x7_3.length : Int) : Int) := dt_; first | (have e_ := (Kd.R_reads' HO_7.out).1; omega) | simpa only [Ny122.out, List.length_set] using h_); have ql123 : ((((rd_T37 l0 x10_3).f1) : Int) < ((x7_3.length : Int) : Int)) = True := eq_true (dt_); obtain ⟨ad123, e123, hx123_0⟩ := Kd.at_int (Kd.R_reads' HO_7.out).2.2 ((rd_T37 l0 x10_3).f1) p123 q123; obtain rfl : (⟨go10, 0, none⟩ : Addr) = ad123 := (by injection e123); (first | simp only [add_plain] at hx123_0 | simp only [add_at] at hx123_0 | simp only [Addr.add, Nat.zero_add] at hx123_0 | skip); replace p123 := eq_true p123; replace q123 := eq_true q123; have p124 : 0 ≤ (x10_3 : Int) := dt_; have q124 : x10_3 < (l0.length : Int) := dt_; obtain ⟨ad124, e124, hx124_0, hx124_1, hx124_2, hx124_3, hx124_4⟩ := at_T37 HR0.out x10_3 p124 q124; obtain rfl : ad113 = ad124 := (by injection e124); replace hx124_0 := bc_ HB.out hx124_0; replace hx124_1 := bc_ HB.out hx124_1; replace hx124_2 := bc_ HB.out hx124_2; replace hx124_3 := bc_ HB.out hx124_3; replace hx124_4 := bc_ HB.out hx124_4; replace p124 := eq_true p124; replace q124 := eq_true q124; have p125 : 0 ≤ (((rd_T37 l0 x10_3).f1) : Int) := dt_; have q125 : ((rd_T37 l0 x10_3).f1) < (y122.length : Int) := (by have h_ : (((rd_T37 l0 x10_3).f1) : Int) < ((x7_3.length : Int) : Int) := dt_; first | (have e_ := (Kd.R_reads' HO_7.out).1; omega) | simpa only [Ny122.out, List.length_set] using h_); have ql125 : ((((rd_T37 l0 x10_3).f1) : Int) < ((x7_3.length : Int) : Int)) = True := eq_true (dt_); obtain ⟨ad125, e125, hx125_0⟩ := Kd.at_int (Kd.R_reads' HO_7.out).2.2 ((rd_T37 l0 x10_3).f1) p125 q125; obtain rfl : (⟨go10, 0, none⟩ : Addr) = ad125 := (by injection e125); (first | simp only [add_plain] at hx125_0 | simp only [add_at] at hx125_0 | simp only [Addr.add, Nat.zero_add] at hx125_0 | skip); replace p125 := eq_true p125; replace q125 := eq_true q125; have p126 : 0 ≤ (((rd_T37 l0 x10_3).f0) : Int) := dt_; have q126 : ((rd_T37 l0 x10_3).f0) < (y122.length : Int) := (by have h_ : (((rd_T37 l0 x10_3).f0) : Int) < ((x7_3.length : Int) : Int) := dt_; first | (have e_ := (Kd.R_reads' HO_7.out).1; omega) | simpa only [Ny122.out, List.length_set] using h_); have ql126 : ((((rd_T37 l0 x10_3).f0) : Int) < ((x7_3.length : Int) : Int)) = True := eq_true (dt_); obtain ⟨ad126, e126, hx126_0⟩ := Kd.at_int (Kd.R_reads' HO_7.out).2.2 ((rd_T37 l0 x10_3).f0) p126 q126; obtain rfl : (⟨go10, 0, none⟩ : Addr) = ad126 := (by injection e126); (first | simp only [add_plain] at hx126_0 | simp only [add_at] at hx126_0 | simp only [Addr.add, Nat.zero_add] at hx126_0 | skip); replace p126 := eq_true p126; replace q126 := eq_true q126; have p128 : 0 ≤ (((rd_T37 l0 x10_3).f0) : Int) := dt_; have q128 : ((rd_T37 l0 x10_3).f0) < (y122.length : Int) := (by have h_ : (((rd_T37 l0 x10_3).f0) : Int) < ((x7_3.length : Int) : Int) := dt_; first | (have e_ := (Kd.R_reads' HO_7.out).1; omega) | simpa only [Ny122.out, List.length_set] using h_); have ql128 : ((((rd_T37 l0 x10_3).f0) : Int) < ((x7_3.length : Int) : Int)) = True := eq_true (dt_); obtain ⟨ad128, e128, hx128_0⟩ := Kd.at_int (Kd.R_reads' HO_7.out).2.2 ((rd_T37 l0 x10_3).f0) p128 q128; obtain rfl : (⟨go10, 0, none⟩ : Addr) = ad128 := (by injection e128); (first | simp only [add_plain] at hx128_0 | simp only [add_at] at hx128_0 | simp only [Addr.add, Nat.zero_add] at hx128_0 | skip); replace p128 := eq_true p128; replace q128 := eq_true q128)); try go_wp2_with (first | ((with_reducible refine gate_store (t := 3) (p := 87) rfl ?_); (try (rw [drewN_self wc]; generalize hq_ : World.drewN wc _ = wc; replace HO_7 := Aside0.mk (Kd.R_at hq_ HO_7.out); replace HB := Aside0.mk (below_at hq_ HB.out); clear hq_; (try (have HP54 := Kd.R_putg HO_7.out (((rd_T37 l0 x10_3).f1) : Int) (wrap64 ((rd x7_3 ((rd_T37 l0 x10_3).f0)) + ((rd_T37 l0 x10_3).f2))))))); refine store_event (t := 3) (p := 87) (v := ?vo_w55) (w1 := (wc.setCell ⟨go10, (((rd_T37 l0 x10_3).f1) : Int).toNat, none⟩ (.int .i64 (wrap64 ((rd x7_3 ((rd_T37 l0 x10_3).f0)) + ((rd_T37 l0 x10_3).f2)))))) ?hg ?ho ?hn ?hr ?_; (case ho => rfl); (case hg => rfl); (case hn => rfl); (case hr => first | (go_simp; done) | (go_simp; rfl)); intro w55 hw; have hg : wc.grownBy w55 (some go10) := (by rw [hw]; exact HP54.2); have hp_ : Kd.R (Kd.int .i64) 3 w55 w.heap.size (fun _ => True) (.slice (some ⟨go10, 0, none⟩) x7_3.length co10) y122 := (by rw [hw, Ny122.out]; exact HP54.1); clear HP54; replace HO_7 := Aside0.mk (hp_); replace HB := Aside0.mk ((by rw [hw]; exact below_set (HB.out) GB10.out : Below w.heap.size w w55)); clear hg hw hp_; have p123 : 0 ≤ (((rd_T37 l0 x10_3).f1) : Int) := dt_; have q123 : ((rd_T37 l0 x10_3).f1) < (y122.length : Int) := (by have h_ : (((rd_T37 l0 x10_3).f1) : Int) < ((x7_3.length : Int) : Int) := dt_; first | (have e_ := (Kd.R_reads' HO_7.out).1; omega) | simpa only [Ny122.out, List.length_set] using h_); have ql123 : ((((rd_T37 l0 x10_3).f1) : Int) < ((x7_3.length : Int) : Int)) = True := eq_true (dt_); obtain ⟨ad123, e123, hx123_0⟩ := Kd.at_int (Kd.R_reads' HO_7.out).2.2 ((rd_T37 l0 x10_3).f1) p123 q123; obtain rfl : (⟨go10, 0, none⟩ : Addr) = ad123 := (by injection e123); (first | simp only [add_plain] at hx123_0 | simp only [add_at] at hx123_0 | simp only [Addr.add, Nat.zero_add] at hx123_0 | skip); replace p123 := eq_true p123; replace q123 := eq_true q123; have p124 : 0 ≤ (x10_3 : Int) := dt_; have q124 : x10_3 < (l0.length : Int) := dt_; obtain ⟨ad124, e124, hx124_0, hx124_1, hx124_2, hx124_3, hx124_4⟩ := at_T37 HR0.out x10_3 p124 q124; obtain rfl : ad113 = ad124 := (by injection e124); replace hx124_0 := bc_ HB.out hx124_0; replace hx124_1 := bc_ HB.out hx124_1; replace hx124_2 := bc_ HB.out hx124_2; replace hx124_3 := bc_ HB.out hx124_3; replace hx124_4 := bc_ HB.out hx124_4; replace p124 := eq_true p124; replace q124 := eq_true q124; have p125 : 0 ≤ (((rd_T37 l0 x10_3).f1) : Int) := dt_; have q125 : ((rd_T37 l0 x10_3).f1) < (y122.length : Int) := (by have h_ : (((rd_T37 l0 x10_3).f1) : Int) < ((x7_3.length : Int) : Int) := dt_; first | (have e_ := (Kd.R_reads' HO_7.out).1; omega) | simpa only [Ny122.out, List.length_set] using h_); have ql125 : ((((rd_T37 l0 x10_3).f1) : Int) < ((x7_3.length : Int) : Int)) = True := eq_true (dt_); obtain ⟨ad125, e125, hx125_0⟩ := Kd.at_int (Kd.R_reads' HO_7.out).2.2 ((rd_T37 l0 x10_3).f1) p125 q125; obtain rfl : (⟨go10, 0, none⟩ : Addr) = ad125 := (by injection e125); (first | simp only [add_plain] at hx125_0 | simp only [add_at] at hx125_0 | simp only [Addr.add, Nat.zero_add] at hx125_0 | skip); replace p125 := eq_true p125; replace q125 := eq_true q125; have p126 : 0 ≤ (((rd_T37 l0 x10_3).f0) : Int) := dt_; have q126 : ((rd_T37 l0 x10_3).f0) < (y122.length : Int) := (by have h_ : (((rd_T37 l0 x10_3).f0) : Int) < ((x7_3.length : Int) : Int) := dt_; first | (have e_ := (Kd.R_reads' HO_7.out).1; omega) | simpa only [Ny122.out, List.length_set] using h_); have ql126 : ((((rd_T37 l0 x10_3).f0) : Int) < ((x7_3.length : Int) : Int)) = True := eq_true (dt_); obtain ⟨ad126, e126, hx126_0⟩ := Kd.at_int (Kd.R_reads' HO_7.out).2.2 ((rd_T37 l0 x10_3).f0) p126 q126; obtain rfl : (⟨go10, 0, none⟩ : Addr) = ad126 := (by injection e126); (first | simp only [add_plain] at hx126_0 | simp only [add_at] at hx126_0 | simp only [Addr.add, Nat.zero_add] at hx126_0 | skip); replace p126 := eq_true p126; replace q126 := eq_true q126; have p128 : 0 ≤ (((rd_T37 l0 x10_3).f0) : Int) := dt_; have q128 : ((rd_T37 l0 x10_3).f0) < (y122.length : Int) := (by have h_ : (((rd_T37 l0 x10_3).f0) : Int) < ((x7_3.length : Int) : Int) := dt_; first | (have e_ := (Kd.R_reads' HO_7.out).1; omega) | simpa only [Ny122.out, List.length_set] using h_); have ql128 : ((((rd_T37 l0 x10_3).f0) : Int) < ((x7_3.length : Int) : Int)) = True := eq_true (dt_); obtain ⟨ad128, e128, hx128_0⟩ := Kd.at_int (Kd.R_reads' HO_7.out).2.2 ((rd_T37 l0 x10_3).f0) p128 q128; obtain rfl : (⟨go10, 0, none⟩ : Addr) = ad128 := (by injection e128); (first | simp only [add_plain] at hx128_0 | simp only [add_at] at hx128_0 | simp only [Addr.add, Nat.zero_add] at hx128_0 | skip); replace p128 := eq_true p128; replace q128 := eq_true q128)))
                               (try simp only [← hl7_3])
                               go_roundg kj27
                               case measure => have := HK1.out; have := HK2.out; have := HK3.out; have := HJ15.out; have := HJ27.out; omega
                               case rel => exact ⟨(y122), (true), (wrap64 (x10_3 + 1)), (by first | rfl | (simp; done) | (simp [*]; done)), (by first | rfl | (simp; done) | (simp [*]; done)), H', ⟨by have := HK1.out; have := HK2.out; have := HK3.out; have := HJ15.out; have := HJ27.out; omega⟩, ⟨by (try simp only [hl7_2]); (try simp only [hl7_3]); (with_reducible repeat (first | apply Kd.R_alloc | apply Kd.R_drewN | apply Kd.R_drew)); first | exact HO_7.out | (rw [Ny122.out]; exact (Kd.R_putg (Kd.R_drewN HO_7.out _) _ _).1) | (rw [Ny122.out]; exact (Kd.R_putg HO_7.out _ _).1)⟩, ⟨by repeat (first | (with_reducible first | exact HB.out | apply below_alloc | apply pw_below_drewN | apply below_drew1) | exact HB.out | (first | exact below_set (pw_below_drewN HB.out _) GB10.out | exact below_set HB.out GB10.out))⟩⟩
                            ·
                             rw [if_neg c41] at H
                             exact absurd H (by simp)
                           ·
                            rw [if_neg c40] at H
                            exact absurd H (by simp)
                          ·
                           rw [if_neg c39] at H
                           have c39b0 : decide (0 ≤ (rd y122 ((rd_T37 l0 x10_3).f1))) = false := decide_eq_false c39; clear c39; have H' := Aside0.mk H; clear H; have p36 : 0 ≤ (((rd_T37 l0 x10_3).f1) : Int) := dt_; have q36 : (((rd_T37 l0 x10_3).f1) : Int) < ((x7_3.length : Int) : Int) := dt_; obtain ⟨hx36_0, hf36_0⟩ := Kd.R_celln 0 HO_7.out (((rd_T37 l0 x10_3).f1) : Int) p36 q36; replace p36 := eq_true p36; replace q36 := eq_true q36; have HP56 := Kd.R_putg HO_7.out (((rd_T37 l0 x10_3).f1) : Int) (wrap64 ((rd x7_3 ((rd_T37 l0 x10_3).f0)) + ((rd_T37 l0 x10_3).f2)))
                           go_wp2_with (first | ((with_reducible refine gate_store (t := 3) (p := 87) rfl ?_); (try (rw [drewN_self wc]; generalize hq_ : World.drewN wc _ = wc; replace HO_7 := Aside0.mk (Kd.R_at hq_ HO_7.out); replace HB := Aside0.mk (below_at hq_ HB.out); clear hq_; (try (have HP56 := Kd.R_putg HO_7.out (((rd_T37 l0 x10_3).f1) : Int) (wrap64 ((rd x7_3 ((rd_T37 l0 x10_3).f0)) + ((rd_T37 l0 x10_3).f2))))))); refine store_event (t := 3) (p := 87) (v := ?vo_w57) (w1 := (wc.setCell ⟨go10, (((rd_T37 l0 x10_3).f1) : Int).toNat, none⟩ (.int .i64 (wrap64 ((rd x7_3 ((rd_T37 l0 x10_3).f0)) + ((rd_T37 l0 x10_3).f2)))))) ?hg ?ho ?hn ?hr ?_; (case ho => rfl); (case hg => rfl); (case hn => rfl); (case hr => first | (go_simp; done) | (go_simp; rfl)); intro w57 hw; have hg : wc.grownBy w57 (some go10) := (by rw [hw]; exact HP56.2); have hp_ : Kd.R (Kd.int .i64) 3 w57 w.heap.size (fun _ => True) (.slice (some ⟨go10, 0, none⟩) x7_3.length co10) y122 := (by rw [hw, Ny122.out]; exact HP56.1); clear HP56; replace HO_7 := Aside0.mk (hp_); replace HB := Aside0.mk ((by rw [hw]; exact below_set (HB.out) GB10.out : Below w.heap.size w w57)); clear hg hw hp_; have p123 : 0 ≤ (((rd_T37 l0 x10_3).f1) : Int) := dt_; have q123 : ((rd_T37 l0 x10_3).f1) < (y122.length : Int) := (by have h_ : (((rd_T37 l0 x10_3).f1) : Int) < ((x7_3.length : Int) : Int) := dt_; first | (have e_ := (Kd.R_reads' HO_7.out).1; omega) | simpa only [Ny122.out, List.length_set] using h_); have ql123 : ((((rd_T37 l0 x10_3).f1) : Int) < ((x7_3.length : Int) : Int)) = True := eq_true (dt_); obtain ⟨ad123, e123, hx123_0⟩ := Kd.at_int (Kd.R_reads' HO_7.out).2.2 ((rd_T37 l0 x10_3).f1) p123 q123; obtain rfl : (⟨go10, 0, none⟩ : Addr) = ad123 := (by injection e123); (first | simp only [add_plain] at hx123_0 | simp only [add_at] at hx123_0 | simp only [Addr.add, Nat.zero_add] at hx123_0 | skip); replace p123 := eq_true p123; replace q123 := eq_true q123; have p124 : 0 ≤ (x10_3 : Int) := dt_; have q124 : x10_3 < (l0.length : Int) := dt_; obtain ⟨ad124, e124, hx124_0, hx124_1, hx124_2, hx124_3, hx124_4⟩ := at_T37 HR0.out x10_3 p124 q124; obtain rfl : ad113 = ad124 := (by injection e124); replace hx124_0 := bc_ HB.out hx124_0; replace hx124_1 := bc_ HB.out hx124_1; replace hx124_2 := bc_ HB.out hx124_2; replace hx124_3 := bc_ HB.out hx124_3; replace hx124_4 := bc_ HB.out hx124_4; replace p124 := eq_true p124; replace q124 := eq_true q124; have p125 : 0 ≤ (((rd_T37 l0 x10_3).f1) : Int) := dt_; have q125 : ((rd_T37 l0 x10_3).f1) < (y122.length : Int) := (by have h_ : (((rd_T37 l0 x10_3).f1) : Int) < ((x7_3.length : Int) : Int) := dt_; first | (have e_ := (Kd.R_reads' HO_7.out).1; omega) | simpa only [Ny122.out, List.length_set] using h_); have ql125 : ((((rd_T37 l0 x10_3).f1) : Int) < ((x7_3.length : Int) : Int)) = True := eq_true (dt_); obtain ⟨ad125, e125, hx125_0⟩ := Kd.at_int (Kd.R_reads' HO_7.out).2.2 ((rd_T37 l0 x10_3).f1) p125 q125; obtain rfl : (⟨go10, 0, none⟩ : Addr) = ad125 := (by injection e125); (first | simp only [add_plain] at hx125_0 | simp only [add_at] at hx125_0 | simp only [Addr.add, Nat.zero_add] at hx125_0 | skip); replace p125 := eq_true p125; replace q125 := eq_true q125))
                           repeat (go_quiet (first | ((with_reducible refine gate_store (t := 3) (p := 87) rfl ?_); (try (rw [drewN_self wc]; generalize hq_ : World.drewN wc _ = wc; replace HO_7 := Aside0.mk (Kd.R_at hq_ HO_7.out); replace HB := Aside0.mk (below_at hq_ HB.out); clear hq_; (try (have HP56 := Kd.R_putg HO_7.out (((rd_T37 l0 x10_3).f1) : Int) (wrap64 ((rd x7_3 ((rd_T37 l0 x10_3).f0)) + ((rd_T37 l0 x10_3).f2))))))); refine store_event (t := 3) (p := 87) (v := ?vo_w57) (w1 := (wc.setCell ⟨go10, (((rd_T37 l0 x10_3).f1) : Int).toNat, none⟩ (.int .i64 (wrap64 ((rd x7_3 ((rd_T37 l0 x10_3).f0)) + ((rd_T37 l0 x10_3).f2)))))) ?hg ?ho ?hn ?hr ?_; (case ho => rfl); (case hg => rfl); (case hn => rfl); (case hr => first | (go_simp; done) | (go_simp; rfl)); intro w57 hw; have hg : wc.grownBy w57 (some go10) := (by rw [hw]; exact HP56.2); have hp_ : Kd.R (Kd.int .i64) 3 w57 w.heap.size (fun _ => True) (.slice (some ⟨go10, 0, none⟩) x7_3.length co10) y122 := (by rw [hw, Ny122.out]; exact HP56.1); clear HP56; replace HO_7 := Aside0.mk (hp_); replace HB := Aside0.mk ((by rw [hw]; exact below_set (HB.out) GB10.out : Below w.heap.size w w57)); clear hg hw hp_; have p123 : 0 ≤ (((rd_T37 l0 x10_3).f1) : Int) := dt_; have q123 : ((rd_T37 l0 x10_3).f1) < (y122.length : Int) := (by have h_ : (((rd_T37 l0 x10_3).f1) : Int) < ((x7_3.length : Int) : Int) := dt_; first | (have e_ := (Kd.R_reads' HO_7.out).1; omega) | simpa only [Ny122.out, List.length_set] using h_); have ql123 : ((((rd_T37 l0 x10_3).f1) : Int) < ((x7_3.length : Int) : Int)) = True := eq_true (dt_); obtain ⟨ad123, e123, hx123_0⟩ := Kd.at_int (Kd.R_reads' HO_7.out).2.2 ((rd_T37 l0 x10_3).f1) p123 q123; obtain rfl : (⟨go10, 0, none⟩ : Addr) = ad123 := (by injection e123); (first | simp only [add_plain] at hx123_0 | simp only [add_at] at hx123_0 | simp only [Addr.add, Nat.zero_add] at hx123_0 | skip); replace p123 := eq_true p123; replace q123 := eq_true q123; have p124 : 0 ≤ (x10_3 : Int) := dt_; have q124 : x10_3 < (l0.length : Int) := dt_; obtain ⟨ad124, e124, hx124_0, hx124_1, hx124_2, hx124_3, hx124_4⟩ := at_T37 HR0.out x10_3 p124 q124; obtain rfl : ad113 = ad124 := (by injection e124); replace hx124_0 := bc_ HB.out hx124_0; replace hx124_1 := bc_ HB.out hx124_1; replace hx124_2 := bc_ HB.out hx124_2; replace hx124_3 := bc_ HB.out hx124_3; replace hx124_4 := bc_ HB.out hx124_4; replace p124 := eq_true p124; replace q124 := eq_true q124; have p125 : 0 ≤ (((rd_T37 l0 x10_3).f1) : Int) := dt_; have q125 : ((rd_T37 l0 x10_3).f1) < (y122.length : Int) := (by have h_ : (((rd_T37 l0 x10_3).f1) : Int) < ((x7_3.length : Int) : Int) := dt_; first | (have e_ := (Kd.R_reads' HO_7.out).1; omega) | simpa only [Ny122.out, List.length_set] using h_); have ql125 : ((((rd_T37 l0 x10_3).f1) : Int) < ((x7_3.length : Int) : Int)) = True := eq_true (dt_); obtain ⟨ad125, e125, hx125_0⟩ := Kd.at_int (Kd.R_reads' HO_7.out).2.2 ((rd_T37 l0 x10_3).f1) p125 q125; obtain rfl : (⟨go10, 0, none⟩ : Addr) = ad125 := (by injection e125); (first | simp only [add_plain] at hx125_0 | simp only [add_at] at hx125_0 | simp only [Addr.add, Nat.zero_add] at hx125_0 | skip); replace p125 := eq_true p125; replace q125 := eq_true q125)); try go_wp2_with (first | ((with_reducible refine gate_store (t := 3) (p := 87) rfl ?_); (try (rw [drewN_self wc]; generalize hq_ : World.drewN wc _ = wc; replace HO_7 := Aside0.mk (Kd.R_at hq_ HO_7.out); replace HB := Aside0.mk (below_at hq_ HB.out); clear hq_; (try (have HP56 := Kd.R_putg HO_7.out (((rd_T37 l0 x10_3).f1) : Int) (wrap64 ((rd x7_3 ((rd_T37 l0 x10_3).f0)) + ((rd_T37 l0 x10_3).f2))))))); refine store_event (t := 3) (p := 87) (v := ?vo_w57) (w1 := (wc.setCell ⟨go10, (((rd_T37 l0 x10_3).f1) : Int).toNat, none⟩ (.int .i64 (wrap64 ((rd x7_3 ((rd_T37 l0 x10_3).f0)) + ((rd_T37 l0 x10_3).f2)))))) ?hg ?ho ?hn ?hr ?_; (case ho => rfl); (case hg => rfl); (case hn => rfl); (case hr => first | (go_simp; done) | (go_simp; rfl)); intro w57 hw; have hg : wc.grownBy w57 (some go10) := (by rw [hw]; exact HP56.2); have hp_ : Kd.R (Kd.int .i64) 3 w57 w.heap.size (fun _ => True) (.slice (some ⟨go10, 0, none⟩) x7_3.length co10) y122 := (by rw [hw, Ny122.out]; exact HP56.1); clear HP56; replace HO_7 := Aside0.mk (hp_); replace HB := Aside0.mk ((by rw [hw]; exact below_set (HB.out) GB10.out : Below w.heap.size w w57)); clear hg hw hp_; have p123 : 0 ≤ (((rd_T37 l0 x10_3).f1) : Int) := dt_; have q123 : ((rd_T37 l0 x10_3).f1) < (y122.length : Int) := (by have h_ : (((rd_T37 l0 x10_3).f1) : Int) < ((x7_3.length : Int) : Int) := dt_; first | (have e_ := (Kd.R_reads' HO_7.out).1; omega) | simpa only [Ny122.out, List.length_set] using h_); have ql123 : ((((rd_T37 l0 x10_3).f1) : Int) < ((x7_3.length : Int) : Int)) = True := eq_true (dt_); obtain ⟨ad123, e123, hx123_0⟩ := Kd.at_int (Kd.R_reads' HO_7.out).2.2 ((rd_T37 l0 x10_3).f1) p123 q123; obtain rfl : (⟨go10, 0, none⟩ : Addr) = ad123 := (by injection e123); (first | simp only [add_plain] at hx123_0 | simp only [add_at] at hx123_0 | simp only [Addr.add, Nat.zero_add] at hx123_0 | skip); replace p123 := eq_true p123; replace q123 := eq_true q123; have p124 : 0 ≤ (x10_3 : Int) := dt_; have q124 : x10_3 < (l0.length : Int) := dt_; obtain ⟨ad124, e124, hx124_0, hx124_1, hx124_2, hx124_3, hx124_4⟩ := at_T37 HR0.out x10_3 p124 q124; obtain rfl : ad113 = ad124 := (by injection e124); replace hx124_0 := bc_ HB.out hx124_0; replace hx124_1 := bc_ HB.out hx124_1; replace hx124_2 := bc_ HB.out hx124_2; replace hx124_3 := bc_ HB.out hx124_3; replace hx124_4 := bc_ HB.out hx124_4; replace p124 := eq_true p124; replace q124 := eq_true q124; have p125 : 0 ≤ (((rd_T37 l0 x10_3).f1) : Int) := dt_; have q125 : ((rd_T37 l0 x10_3).f1) < (y122.length : Int) := (by have h_ : (((rd_T37 l0 x10_3).f1) : Int) < ((x7_3.length : Int) : Int) := dt_; first | (have e_ := (Kd.R_reads' HO_7.out).1; omega) | simpa only [Ny122.out, List.length_set] using h_); have ql125 : ((((rd_T37 l0 x10_3).f1) : Int) < ((x7_3.length : Int) : Int)) = True := eq_true (dt_); obtain ⟨ad125, e125, hx125_0⟩ := Kd.at_int (Kd.R_reads' HO_7.out).2.2 ((rd_T37 l0 x10_3).f1) p125 q125; obtain rfl : (⟨go10, 0, none⟩ : Addr) = ad125 := (by injection e125); (first | simp only [add_plain] at hx125_0 | simp only [add_at] at hx125_0 | simp only [Addr.add, Nat.zero_add] at hx125_0 | skip); replace p125 := eq_true p125; replace q125 := eq_true q125)))
                           (try simp only [← hl7_3])
                           go_roundg kj27
                           case measure => have := HK1.out; have := HK2.out; have := HK3.out; have := HJ15.out; have := HJ27.out; omega
                           case rel => exact ⟨(y122), (true), (wrap64 (x10_3 + 1)), (by first | rfl | (simp; done) | (simp [*]; done)), (by first | rfl | (simp; done) | (simp [*]; done)), H', ⟨by have := HK1.out; have := HK2.out; have := HK3.out; have := HJ15.out; have := HJ27.out; omega⟩, ⟨by (try simp only [hl7_2]); (try simp only [hl7_3]); (with_reducible repeat (first | apply Kd.R_alloc | apply Kd.R_drewN | apply Kd.R_drew)); first | exact HO_7.out | (rw [Ny122.out]; exact (Kd.R_putg (Kd.R_drewN HO_7.out _) _ _).1) | (rw [Ny122.out]; exact (Kd.R_putg HO_7.out _ _).1)⟩, ⟨by repeat (first | (with_reducible first | exact HB.out | apply below_alloc | apply pw_below_drewN | apply below_drew1) | exact HB.out | (first | exact below_set (pw_below_drewN HB.out _) GB10.out | exact below_set HB.out GB10.out))⟩⟩
                         ·
                          rw [if_neg c38] at H
                          exact absurd H (by simp)
                        ·
                         rw [if_neg c37] at H
                         exact absurd H (by simp)
                       ·
                        rw [if_neg c35] at H
                        exact absurd H (by simp)
                      ·
                       rw [if_neg c34] at H
                       exact absurd H (by simp)
                     ·
                      replace c33 := Bool.eq_false_iff.mpr c33; subst c33
                      have H1 : (if 0 ≤ ((rd_T37 l0 x10_3).f1) then (if ((rd_T37 l0 x10_3).f1) < (x7_3.length : Int) then (if 0 ≤ x10_3 then (if x10_3 < (l0.length : Int) then (if (rd x7_3 ((rd_T37 l0 x10_3).f1)) ≥ 0 then (if 0 ≤ ((rd_T37 l0 x10_3).f0) then (if ((rd_T37 l0 x10_3).f0) < (x7_3.length : Int) then (if (rd x7_3 ((rd_T37 l0 x10_3).f0)) < 0 then (spec_l25Out.l2 kj27 l0 l1 a2 (x7_3.set (((rd_T37 l0 x10_3).f0) : Int).toNat (wrap64 ((rd x7_3 ((rd_T37 l0 x10_3).f1)) + ((rd_T37 l0 x10_3).f2)))) true (wrap64 (x10_3 + 1))) else (if (wrap64 ((rd x7_3 ((rd_T37 l0 x10_3).f1)) + ((rd_T37 l0 x10_3).f2))) < (rd x7_3 ((rd_T37 l0 x10_3).f0)) then (spec_l25Out.l2 kj27 l0 l1 a2 (x7_3.set (((rd_T37 l0 x10_3).f0) : Int).toNat (wrap64 ((rd x7_3 ((rd_T37 l0 x10_3).f1)) + ((rd_T37 l0 x10_3).f2)))) true (wrap64 (x10_3 + 1))) else (spec_l25Out.l2 kj27 l0 l1 a2 x7_3 x9_3 (wrap64 (x10_3 + 1))))) else (none)) else (none)) else (spec_l25Out.l2 kj27 l0 l1 a2 x7_3 x9_3 (wrap64 (x10_3 + 1)))) else (none)) else (none)) else (none)) else (none)) = some r := by rw [if_neg (show ¬ (false = true) by decide)] at H; exact H
                      clear H; have H := H1; clear H1
                      by_cases c58 : 0 ≤ ((rd_T37 l0 x10_3).f1)
                      ·
                       rw [if_pos c58] at H
                       have c58b0 : decide (0 ≤ ((rd_T37 l0 x10_3).f1)) = true := decide_eq_true c58; clear c58
                       by_cases c59 : ((rd_T37 l0 x10_3).f1) < (x7_3.length : Int)
                       ·
                        rw [if_pos c59] at H
                        have c59b0 : decide (((rd_T37 l0 x10_3).f1) < (x7_3.length : Int)) = true := decide_eq_true c59; clear c59
                        by_cases c60 : 0 ≤ x10_3
                        ·
                         rw [if_pos c60] at H
                         have c60b0 : decide (0 ≤ x10_3) = true := decide_eq_true c60; clear c60
                         by_cases c61 : x10_3 < (l0.length : Int)
                         ·
                          rw [if_pos c61] at H
                          have c61b0 : decide (x10_3 < (l0.length : Int)) = true := decide_eq_true c61; clear c61
                          by_cases c62 : (rd x7_3 ((rd_T37 l0 x10_3).f1)) ≥ 0
                          ·
                           rw [if_pos c62] at H
                           have c62b0 : decide (0 ≤ (rd x7_3 ((rd_T37 l0 x10_3).f1))) = true := decide_eq_true c62; clear c62
                           by_cases c63 : 0 ≤ ((rd_T37 l0 x10_3).f0)
                           ·
                            rw [if_pos c63] at H
                            have c63b0 : decide (0 ≤ ((rd_T37 l0 x10_3).f0)) = true := decide_eq_true c63; clear c63
                            by_cases c64 : ((rd_T37 l0 x10_3).f0) < (x7_3.length : Int)
                            ·
                             rw [if_pos c64] at H
                             have c64b0 : decide (((rd_T37 l0 x10_3).f0) < (x7_3.length : Int)) = true := decide_eq_true c64; clear c64
                             by_cases c65 : (rd x7_3 ((rd_T37 l0 x10_3).f0)) < 0
                             ·
                              rw [if_pos c65] at H
                              have c65b0 : decide ((rd x7_3 ((rd_T37 l0 x10_3).f0)) < 0) = true := decide_eq_true c65; clear c65
                              obtain ⟨y134, hy134⟩ : ∃ y_ : List Int, y_ = (x7_3.set (((rd_T37 l0 x10_3).f0) : Int).toNat (wrap64 ((rd x7_3 ((rd_T37 l0 x10_3).f1)) + ((rd_T37 l0 x10_3).f2)))) := ⟨_, rfl⟩
                              replace H : (spec_l25Out.l2 kj27 l0 l1 a2 y134 true (wrap64 (x10_3 + 1))) = some r := by first | (rw [hy134]; with_reducible exact H) | (have H2_ := (Option.bind_some _ _).symm.trans H; rw [hy134]; with_reducible exact H2_) | (have H2_ := (Option.bind_some _ _).symm.trans H; with_reducible exact H2_) | with_reducible exact H | (rw [hy134]; exact H) | exact H
                              have Ny134 := Aside0.mk hy134; clear hy134; have H' := Aside0.mk H; clear H; have p130 : 0 ≤ (((rd_T37 l0 x10_3).f1) : Int) := dt_; have q130 : ((rd_T37 l0 x10_3).f1) < (x7_3.length : Int) := dt_; obtain ⟨ad130, e130, hx130_0⟩ := Kd.at_int (Kd.R_reads' HO_7.out).2.2 ((rd_T37 l0 x10_3).f1) p130 q130
                              obtain rfl : (⟨go10, 0, none⟩ : Addr) = ad130 := (by injection e130)
                              (first | simp only [add_plain] at hx130_0 | simp only [add_at] at hx130_0 | simp only [Addr.add, Nat.zero_add] at hx130_0 | skip)
                              replace p130 := eq_true p130; replace q130 := eq_true q130; have p131 : 0 ≤ (x10_3 : Int) := dt_; have q131 : x10_3 < (l0.length : Int) := dt_; obtain ⟨ad131, e131, hx131_0, hx131_1, hx131_2, hx131_3, hx131_4⟩ := at_T37 HR0.out x10_3 p131 q131
                              obtain rfl : ad113 = ad131 := (by injection e131)
                              replace hx131_0 := bc_ HB.out hx131_0; replace hx131_1 := bc_ HB.out hx131_1; replace hx131_2 := bc_ HB.out hx131_2; replace hx131_3 := bc_ HB.out hx131_3; replace hx131_4 := bc_ HB.out hx131_4; replace p131 := eq_true p131; replace q131 := eq_true q131; have p132 : 0 ≤ (((rd_T37 l0 x10_3).f1) : Int) := dt_; have q132 : ((rd_T37 l0 x10_3).f1) < (x7_3.length : Int) := dt_; obtain ⟨ad132, e132, hx132_0⟩ := Kd.at_int (Kd.R_reads' HO_7.out).2.2 ((rd_T37 l0 x10_3).f1) p132 q132
                              obtain rfl : (⟨go10, 0, none⟩ : Addr) = ad132 := (by injection e132)
                              (first | simp only [add_plain] at hx132_0 | simp only [add_at] at hx132_0 | simp only [Addr.add, Nat.zero_add] at hx132_0 | skip)
                              replace p132 := eq_true p132; replace q132 := eq_true q132; have p133 : 0 ≤ (((rd_T37 l0 x10_3).f0) : Int) := dt_; have q133 : ((rd_T37 l0 x10_3).f0) < (x7_3.length : Int) := dt_; obtain ⟨ad133, e133, hx133_0⟩ := Kd.at_int (Kd.R_reads' HO_7.out).2.2 ((rd_T37 l0 x10_3).f0) p133 q133
                              obtain rfl : (⟨go10, 0, none⟩ : Addr) = ad133 := (by injection e133)
                              (first | simp only [add_plain] at hx133_0 | simp only [add_at] at hx133_0 | simp only [Addr.add, Nat.zero_add] at hx133_0 | skip)
                              replace p133 := eq_true p133; replace q133 := eq_true q133; have p66 : 0 ≤ (((rd_T37 l0 x10_3).f0) : Int) := dt_; have q66 : (((rd_T37 l0 x10_3).f0) : Int) < ((x7_3.length : Int) : Int) := dt_; obtain ⟨hx66_0, hf66_0⟩ := Kd.R_celln 0 HO_7.out (((rd_T37 l0 x10_3).f0) : Int) p66 q66; replace p66 := eq_true p66; replace q66 := eq_true q66; have HP67 := Kd.R_putg HO_7.out (((rd_T37 l0 x10_3).f0) : Int) (wrap64 ((rd x7_3 ((rd_T37 l0 x10_3).f1)) + ((rd_T37 l0 x10_3).f2)))
                              go_wp2_with (first | ((with_reducible refine gate_store (t := 3) (p := 121) rfl ?_); (try (rw [drewN_self wc]; generalize hq_ : World.drewN wc _ = wc; replace HO_7 := Aside0.mk (Kd.R_at hq_ HO_7.out); replace HB := Aside0.mk (below_at hq_ HB.out); clear hq_; (try (have HP67 := Kd.R_putg HO_7.out (((rd_T37 l0 x10_3).f0) : Int) (wrap64 ((rd x7_3 ((rd_T37 l0 x10_3).f1)) + ((rd_T37 l0 x10_3).f2))))))); refine store_event (t := 3) (p := 121) (v := ?vo_w68) (w1 := (wc.setCell ⟨go10, (((rd_T37 l0 x10_3).f0) : Int).toNat, none⟩ (.int .i64 (wrap64 ((rd x7_3 ((rd_T37 l0 x10_3).f1)) + ((rd_T37 l0 x10_3).f2)))))) ?hg ?ho ?hn ?hr ?_; (case ho => rfl); (case hg => rfl); (case hn => rfl); (case hr => first | (go_simp; done) | (go_simp; rfl)); intro w68 hw; have hg : wc.grownBy w68 (some go10) := (by rw [hw]; exact HP67.2); have hp_ : Kd.R (Kd.int .i64) 3 w68 w.heap.size (fun _ => True) (.slice (some ⟨go10, 0, none⟩) x7_3.length co10) y134 := (by rw [hw, Ny134.out]; exact HP67.1); clear HP67; replace HO_7 := Aside0.mk (hp_); replace HB := Aside0.mk ((by rw [hw]; exact below_set (HB.out) GB10.out : Below w.heap.size w w68)); clear hg hw hp_))
                              repeat (go_quiet (first | ((with_reducible refine gate_store (t := 3) (p := 121) rfl ?_); (try (rw [drewN_self wc]; generalize hq_ : World.drewN wc _ = wc; replace HO_7 := Aside0.mk (Kd.R_at hq_ HO_7.out); replace HB := Aside0.mk (below_at hq_ HB.out); clear hq_; (try (have HP67 := Kd.R_putg HO_7.out (((rd_T37 l0 x10_3).f0) : Int) (wrap64 ((rd x7_3 ((rd_T37 l0 x10_3).f1)) + ((rd_T37 l0 x10_3).f2))))))); refine store_event (t := 3) (p := 121) (v := ?vo_w68) (w1 := (wc.setCell ⟨go10, (((rd_T37 l0 x10_3).f0) : Int).toNat, none⟩ (.int .i64 (wrap64 ((rd x7_3 ((rd_T37 l0 x10_3).f1)) + ((rd_T37 l0 x10_3).f2)))))) ?hg ?ho ?hn ?hr ?_; (case ho => rfl); (case hg => rfl); (case hn => rfl); (case hr => first | (go_simp; done) | (go_simp; rfl)); intro w68 hw; have hg : wc.grownBy w68 (some go10) := (by rw [hw]; exact HP67.2); have hp_ : Kd.R (Kd.int .i64) 3 w68 w.heap.size (fun _ => True) (.slice (some ⟨go10, 0, none⟩) x7_3.length co10) y134 := (by rw [hw, Ny134.out]; exact HP67.1); clear HP67; replace HO_7 := Aside0.mk (hp_); replace HB := Aside0.mk ((by rw [hw]; exact below_set (HB.out) GB10.out : Below w.heap.size w w68)); clear hg hw hp_)); try go_wp2_with (first | ((with_reducible refine gate_store (t := 3) (p := 121) rfl ?_); (try (rw [drewN_self wc]; generalize hq_ : World.drewN wc _ = wc; replace HO_7 := Aside0.mk (Kd.R_at hq_ HO_7.out); replace HB := Aside0.mk (below_at hq_ HB.out); clear hq_; (try (have HP67 := Kd.R_putg HO_7.out (((rd_T37 l0 x10_3).f0) : Int) (wrap64 ((rd x7_3 ((rd_T37 l0 x10_3).f1)) + ((rd_T37 l0 x10_3).f2))))))); refine store_event (t := 3) (p := 121) (v := ?vo_w68) (w1 := (wc.setCell ⟨go10, (((rd_T37 l0 x10_3).f0) : Int).toNat, none⟩ (.int .i64 (wrap64 ((rd x7_3 ((rd_T37 l0 x10_3).f1)) + ((rd_T37 l0 x10_3).f2)))))) ?hg ?ho ?hn ?hr ?_; (case ho => rfl); (case hg => rfl); (case hn => rfl); (case hr => first | (go_simp; done) | (go_simp; rfl)); intro w68 hw; have hg : wc.grownBy w68 (some go10) := (by rw [hw]; exact HP67.2); have hp_ : Kd.R (Kd.int .i64) 3 w68 w.heap.size (fun _ => True) (.slice (some ⟨go10, 0, none⟩) x7_3.length co10) y134 := (by rw [hw, Ny134.out]; exact HP67.1); clear HP67; replace HO_7 := Aside0.mk (hp_); replace HB := Aside0.mk ((by rw [hw]; exact below_set (HB.out) GB10.out : Below w.heap.size w w68)); clear hg hw hp_)))
                              (try simp only [← hl7_3])
                              go_roundg kj27
                              case measure => have := HK1.out; have := HK2.out; have := HK3.out; have := HJ15.out; have := HJ27.out; omega
                              case rel => exact ⟨(y134), (true), (wrap64 (x10_3 + 1)), (by first | rfl | (simp; done) | (simp [*]; done)), (by first | rfl | (simp; done) | (simp [*]; done)), H', ⟨by have := HK1.out; have := HK2.out; have := HK3.out; have := HJ15.out; have := HJ27.out; omega⟩, ⟨by (try simp only [hl7_2]); (try simp only [hl7_3]); (with_reducible repeat (first | apply Kd.R_alloc | apply Kd.R_drewN | apply Kd.R_drew)); first | exact HO_7.out | (rw [Ny134.out]; exact (Kd.R_putg (Kd.R_drewN HO_7.out _) _ _).1) | (rw [Ny134.out]; exact (Kd.R_putg HO_7.out _ _).1)⟩, ⟨by repeat (first | (with_reducible first | exact HB.out | apply below_alloc | apply pw_below_drewN | apply below_drew1) | exact HB.out | (first | exact below_set (pw_below_drewN HB.out _) GB10.out | exact below_set HB.out GB10.out))⟩⟩
                             ·
                              rw [if_neg c65] at H
                              have c65b0 : decide ((rd x7_3 ((rd_T37 l0 x10_3).f0)) < 0) = false := decide_eq_false c65; clear c65
                              by_cases c69 : (wrap64 ((rd x7_3 ((rd_T37 l0 x10_3).f1)) + ((rd_T37 l0 x10_3).f2))) < (rd x7_3 ((rd_T37 l0 x10_3).f0))
                              ·
                               rw [if_pos c69] at H
                               have c69b0 : decide ((wrap64 ((rd x7_3 ((rd_T37 l0 x10_3).f1)) + ((rd_T37 l0 x10_3).f2))) < (rd x7_3 ((rd_T37 l0 x10_3).f0))) = true := decide_eq_true c69; clear c69
                               obtain ⟨y136, hy136⟩ : ∃ y_ : List Int, y_ = (x7_3.set (((rd_T37 l0 x10_3).f0) : Int).toNat (wrap64 ((rd x7_3 ((rd_T37 l0 x10_3).f1)) + ((rd_T37 l0 x10_3).f2)))) := ⟨_, rfl⟩
                               replace H : (spec_l25Out.l2 kj27 l0 l1 a2 y136 true (wrap64 (x10_3 + 1))) = some r := by first | (rw [hy136]; with_reducible exact H) | (have H2_ := (Option.bind_some _ _).symm.trans H; rw [hy136]; with_reducible exact H2_) | (have H2_ := (Option.bind_some _ _).symm.trans H; with_reducible exact H2_) | with_reducible exact H | (rw [hy136]; exact H) | exact H
                               have Ny136 := Aside0.mk hy136; clear hy136; have H' := Aside0.mk H; clear H; have p130 : 0 ≤ (((rd_T37 l0 x10_3).f1) : Int) := dt_; have q130 : ((rd_T37 l0 x10_3).f1) < (x7_3.length : Int) := dt_; obtain ⟨ad130, e130, hx130_0⟩ := Kd.at_int (Kd.R_reads' HO_7.out).2.2 ((rd_T37 l0 x10_3).f1) p130 q130
                               obtain rfl : (⟨go10, 0, none⟩ : Addr) = ad130 := (by injection e130)
                               (first | simp only [add_plain] at hx130_0 | simp only [add_at] at hx130_0 | simp only [Addr.add, Nat.zero_add] at hx130_0 | skip)
                               replace p130 := eq_true p130; replace q130 := eq_true q130; have p131 : 0 ≤ (x10_3 : Int) := dt_; have q131 : x10_3 < (l0.length : Int) := dt_; obtain ⟨ad131, e131, hx131_0, hx131_1, hx131_2, hx131_3, hx131_4⟩ := at_T37 HR0.out x10_3 p131 q131
                               obtain rfl : ad113 = ad131 := (by injection e131)
                               replace hx131_0 := bc_ HB.out hx131_0; replace hx131_1 := bc_ HB.out hx131_1; replace hx131_2 := bc_ HB.out hx131_2; replace hx131_3 := bc_ HB.out hx131_3; replace hx131_4 := bc_ HB.out hx131_4; replace p131 := eq_true p131; replace q131 := eq_true q131; have p132 : 0 ≤ (((rd_T37 l0 x10_3).f1) : Int) := dt_; have q132 : ((rd_T37 l0 x10_3).f1) < (x7_3.length : Int) := dt_; obtain ⟨ad132, e132, hx132_0⟩ := Kd.at_int (Kd.R_reads' HO_7.out).2.2 ((rd_T37 l0 x10_3).f1) p132 q132
                               obtain rfl : (⟨go10, 0, none⟩ : Addr) = ad132 := (by injection e132)
                               (first | simp only [add_plain] at hx132_0 | simp only [add_at] at hx132_0 | simp only [Addr.add, Nat.zero_add] at hx132_0 | skip)
                               replace p132 := eq_true p132; replace q132 := eq_true q132; have p133 : 0 ≤ (((rd_T37 l0 x10_3).f0) : Int) := dt_; have q133 : ((rd_T37 l0 x10_3).f0) < (x7_3.length : Int) := dt_; obtain ⟨ad133, e133, hx133_0⟩ := Kd.at_int (Kd.R_reads' HO_7.out).2.2 ((rd_T37 l0 x10_3).f0) p133 q133
                               obtain rfl : (⟨go10, 0, none⟩ : Addr) = ad133 := (by injection e133)
                               (first | simp only [add_plain] at hx133_0 | simp only [add_at] at hx133_0 | simp only [Addr.add, Nat.zero_add] at hx133_0 | skip)
                               replace p133 := eq_true p133; replace q133 := eq_true q133; have p135 : 0 ≤ (((rd_T37 l0 x10_3).f0) : Int) := dt_; have q135 : ((rd_T37 l0 x10_3).f0) < (x7_3.length : Int) := dt_; obtain ⟨ad135, e135, hx135_0⟩ := Kd.at_int (Kd.R_reads' HO_7.out).2.2 ((rd_T37 l0 x10_3).f0) p135 q135
                               obtain rfl : (⟨go10, 0, none⟩ : Addr) = ad135 := (by injection e135)
                               (first | simp only [add_plain] at hx135_0 | simp only [add_at] at hx135_0 | simp only [Addr.add, Nat.zero_add] at hx135_0 | skip)
                               replace p135 := eq_true p135; replace q135 := eq_true q135; have p70 : 0 ≤ (((rd_T37 l0 x10_3).f0) : Int) := dt_; have q70 : (((rd_T37 l0 x10_3).f0) : Int) < ((x7_3.length : Int) : Int) := dt_; obtain ⟨hx70_0, hf70_0⟩ := Kd.R_celln 0 HO_7.out (((rd_T37 l0 x10_3).f0) : Int) p70 q70; replace p70 := eq_true p70; replace q70 := eq_true q70; have HP71 := Kd.R_putg HO_7.out (((rd_T37 l0 x10_3).f0) : Int) (wrap64 ((rd x7_3 ((rd_T37 l0 x10_3).f1)) + ((rd_T37 l0 x10_3).f2)))
                               go_wp2_with (first | ((with_reducible refine gate_store (t := 3) (p := 121) rfl ?_); (try (rw [drewN_self wc]; generalize hq_ : World.drewN wc _ = wc; replace HO_7 := Aside0.mk (Kd.R_at hq_ HO_7.out); replace HB := Aside0.mk (below_at hq_ HB.out); clear hq_; (try (have HP71 := Kd.R_putg HO_7.out (((rd_T37 l0 x10_3).f0) : Int) (wrap64 ((rd x7_3 ((rd_T37 l0 x10_3).f1)) + ((rd_T37 l0 x10_3).f2))))))); refine store_event (t := 3) (p := 121) (v := ?vo_w72) (w1 := (wc.setCell ⟨go10, (((rd_T37 l0 x10_3).f0) : Int).toNat, none⟩ (.int .i64 (wrap64 ((rd x7_3 ((rd_T37 l0 x10_3).f1)) + ((rd_T37 l0 x10_3).f2)))))) ?hg ?ho ?hn ?hr ?_; (case ho => rfl); (case hg => rfl); (case hn => rfl); (case hr => first | (go_simp; done) | (go_simp; rfl)); intro w72 hw; have hg : wc.grownBy w72 (some go10) := (by rw [hw]; exact HP71.2); have hp_ : Kd.R (Kd.int .i64) 3 w72 w.heap.size (fun _ => True) (.slice (some ⟨go10, 0, none⟩) x7_3.length co10) y136 := (by rw [hw, Ny136.out]; exact HP71.1); clear HP71; replace HO_7 := Aside0.mk (hp_); replace HB := Aside0.mk ((by rw [hw]; exact below_set (HB.out) GB10.out : Below w.heap.size w w72)); clear hg hw hp_))
                               repeat (go_quiet (first | ((with_reducible refine gate_store (t := 3) (p := 121) rfl ?_); (try (rw [drewN_self wc]; generalize hq_ : World.drewN wc _ = wc; replace HO_7 := Aside0.mk (Kd.R_at hq_ HO_7.out); replace HB := Aside0.mk (below_at hq_ HB.out); clear hq_; (try (have HP71 := Kd.R_putg HO_7.out (((rd_T37 l0 x10_3).f0) : Int) (wrap64 ((rd x7_3 ((rd_T37 l0 x10_3).f1)) + ((rd_T37 l0 x10_3).f2))))))); refine store_event (t := 3) (p := 121) (v := ?vo_w72) (w1 := (wc.setCell ⟨go10, (((rd_T37 l0 x10_3).f0) : Int).toNat, none⟩ (.int .i64 (wrap64 ((rd x7_3 ((rd_T37 l0 x10_3).f1)) + ((rd_T37 l0 x10_3).f2)))))) ?hg ?ho ?hn ?hr ?_; (case ho => rfl); (case hg => rfl); (case hn => rfl); (case hr => first | (go_simp; done) | (go_simp; rfl)); intro w72 hw; have hg : wc.grownBy w72 (some go10) := (by rw [hw]; exact HP71.2); have hp_ : Kd.R (Kd.int .i64) 3 w72 w.heap.size (fun _ => True) (.slice (some ⟨go10, 0, none⟩) x7_3.length co10) y136 := (by rw [hw, Ny136.out]; exact HP71.1); clear HP71; replace HO_7 := Aside0.mk (hp_); replace HB := Aside0.mk ((by rw [hw]; exact below_set (HB.out) GB10.out : Below w.heap.size w w72)); clear hg hw hp_)); try go_wp2_with (first | ((with_reducible refine gate_store (t := 3) (p := 121) rfl ?_); (try (rw [drewN_self wc]; generalize hq_ : World.drewN wc _ = wc; replace HO_7 := Aside0.mk (Kd.R_at hq_ HO_7.out); replace HB := Aside0.mk (below_at hq_ HB.out); clear hq_; (try (have HP71 := Kd.R_putg HO_7.out (((rd_T37 l0 x10_3).f0) : Int) (wrap64 ((rd x7_3 ((rd_T37 l0 x10_3).f1)) + ((rd_T37 l0 x10_3).f2))))))); refine store_event (t := 3) (p := 121) (v := ?vo_w72) (w1 := (wc.setCell ⟨go10, (((rd_T37 l0 x10_3).f0) : Int).toNat, none⟩ (.int .i64 (wrap64 ((rd x7_3 ((rd_T37 l0 x10_3).f1)) + ((rd_T37 l0 x10_3).f2)))))) ?hg ?ho ?hn ?hr ?_; (case ho => rfl); (case hg => rfl); (case hn => rfl); (case hr => first | (go_simp; done) | (go_simp; rfl)); intro w72 hw; have hg : wc.grownBy w72 (some go10) := (by rw [hw]; exact HP71.2); have hp_ : Kd.R (Kd.int .i64) 3 w72 w.heap.size (fun _ => True) (.slice (some ⟨go10, 0, none⟩) x7_3.length co10) y136 := (by rw [hw, Ny136.out]; exact HP71.1); clear HP71; replace HO_7 := Aside0.mk (hp_); replace HB := Aside0.mk ((by rw [hw]; exact below_set (HB.out) GB10.out : Below w.heap.size w w72)); clear hg hw hp_)))
                               (try simp only [← hl7_3])
                               go_roundg kj27
                               case measure => have := HK1.out; have := HK2.out; have := HK3.out; have := HJ15.out; have := HJ27.out; omega
                               case rel => exact ⟨(y136), (true), (wrap64 (x10_3 + 1)), (by first | rfl | (simp; done) | (simp [*]; done)), (by first | rfl | (simp; done) | (simp [*]; done)), H', ⟨by have := HK1.out; have := HK2.out; have := HK3.out; have := HJ15.out; have := HJ27.out; omega⟩, ⟨by (try simp only [hl7_2]); (try simp only [hl7_3]); (with_reducible repeat (first | apply Kd.R_alloc | apply Kd.R_drewN | apply Kd.R_drew)); first | exact HO_7.out | (rw [Ny136.out]; exact (Kd.R_putg (Kd.R_drewN HO_7.out _) _ _).1) | (rw [Ny136.out]; exact (Kd.R_putg HO_7.out _ _).1)⟩, ⟨by repeat (first | (with_reducible first | exact HB.out | apply below_alloc | apply pw_below_drewN | apply below_drew1) | exact HB.out | (first | exact below_set (pw_below_drewN HB.out _) GB10.out | exact below_set HB.out GB10.out))⟩⟩
                              ·
                               rw [if_neg c69] at H
                               have c69b0 : decide ((wrap64 ((rd x7_3 ((rd_T37 l0 x10_3).f1)) + ((rd_T37 l0 x10_3).f2))) < (rd x7_3 ((rd_T37 l0 x10_3).f0))) = false := decide_eq_false c69; clear c69; have H' := Aside0.mk H; clear H; have p130 : 0 ≤ (((rd_T37 l0 x10_3).f1) : Int) := dt_; have q130 : ((rd_T37 l0 x10_3).f1) < (x7_3.length : Int) := dt_; obtain ⟨ad130, e130, hx130_0⟩ := Kd.at_int (Kd.R_reads' HO_7.out).2.2 ((rd_T37 l0 x10_3).f1) p130 q130
                               obtain rfl : (⟨go10, 0, none⟩ : Addr) = ad130 := (by injection e130)
                               (first | simp only [add_plain] at hx130_0 | simp only [add_at] at hx130_0 | simp only [Addr.add, Nat.zero_add] at hx130_0 | skip)
                               replace p130 := eq_true p130; replace q130 := eq_true q130; have p131 : 0 ≤ (x10_3 : Int) := dt_; have q131 : x10_3 < (l0.length : Int) := dt_; obtain ⟨ad131, e131, hx131_0, hx131_1, hx131_2, hx131_3, hx131_4⟩ := at_T37 HR0.out x10_3 p131 q131
                               obtain rfl : ad113 = ad131 := (by injection e131)
                               replace hx131_0 := bc_ HB.out hx131_0; replace hx131_1 := bc_ HB.out hx131_1; replace hx131_2 := bc_ HB.out hx131_2; replace hx131_3 := bc_ HB.out hx131_3; replace hx131_4 := bc_ HB.out hx131_4; replace p131 := eq_true p131; replace q131 := eq_true q131; have p132 : 0 ≤ (((rd_T37 l0 x10_3).f1) : Int) := dt_; have q132 : ((rd_T37 l0 x10_3).f1) < (x7_3.length : Int) := dt_; obtain ⟨ad132, e132, hx132_0⟩ := Kd.at_int (Kd.R_reads' HO_7.out).2.2 ((rd_T37 l0 x10_3).f1) p132 q132
                               obtain rfl : (⟨go10, 0, none⟩ : Addr) = ad132 := (by injection e132)
                               (first | simp only [add_plain] at hx132_0 | simp only [add_at] at hx132_0 | simp only [Addr.add, Nat.zero_add] at hx132_0 | skip)
                               replace p132 := eq_true p132; replace q132 := eq_true q132; have p133 : 0 ≤ (((rd_T37 l0 x10_3).f0) : Int) := dt_; have q133 : ((rd_T37 l0 x10_3).f0) < (x7_3.length : Int) := dt_; obtain ⟨ad133, e133, hx133_0⟩ := Kd.at_int (Kd.R_reads' HO_7.out).2.2 ((rd_T37 l0 x10_3).f0) p133 q133
                               obtain rfl : (⟨go10, 0, none⟩ : Addr) = ad133 := (by injection e133)
                               (first | simp only [add_plain] at hx133_0 | simp only [add_at] at hx133_0 | simp only [Addr.add, Nat.zero_add] at hx133_0 | skip)
                               replace p133 := eq_true p133; replace q133 := eq_true q133; have p135 : 0 ≤ (((rd_T37 l0 x10_3).f0) : Int) := dt_; have q135 : ((rd_T37 l0 x10_3).f0) < (x7_3.length : Int) := dt_; obtain ⟨ad135, e135, hx135_0⟩ := Kd.at_int (Kd.R_reads' HO_7.out).2.2 ((rd_T37 l0 x10_3).f0) p135 q135
                               obtain rfl : (⟨go10, 0, none⟩ : Addr) = ad135 := (by injection e135)
                               (first | simp only [add_plain] at hx135_0 | simp only [add_at] at hx135_0 | simp only [Addr.add, Nat.zero_add] at hx135_0 | skip)
                               replace p135 := eq_true p135; replace q135 := eq_true q135
                               go_wp2
                               repeat (go_quiet (fail); try go_wp2)
                               (try simp only [← hl7_3])
                               go_roundg kj27
                               case measure => have := HK1.out; have := HK2.out; have := HK3.out; have := HJ15.out; have := HJ27.out; omega
                               case rel => exact ⟨(x7_3), (x9_3), (wrap64 (x10_3 + 1)), (by first | rfl | (simp; done) | (simp [*]; done)), (by first | rfl | (simp; done) | (simp [*]; done)), H', ⟨by have := HK1.out; have := HK2.out; have := HK3.out; have := HJ15.out; have := HJ27.out; omega⟩, ⟨by (try simp only [hl7_2]); (try simp only [hl7_3]); (with_reducible repeat (first | apply Kd.R_alloc | apply Kd.R_drewN | apply Kd.R_drew)); exact HO_7.out⟩, ⟨lb0_ HB.out⟩⟩
                            ·
                             rw [if_neg c64] at H
                             exact absurd H (by simp)
                           ·
                            rw [if_neg c63] at H
                            exact absurd H (by simp)
                          ·
                           rw [if_neg c62] at H
                           have c62b0 : decide (0 ≤ (rd x7_3 ((rd_T37 l0 x10_3).f1))) = false := decide_eq_false c62; clear c62; have H' := Aside0.mk H; clear H; have p130 : 0 ≤ (((rd_T37 l0 x10_3).f1) : Int) := dt_; have q130 : ((rd_T37 l0 x10_3).f1) < (x7_3.length : Int) := dt_; obtain ⟨ad130, e130, hx130_0⟩ := Kd.at_int (Kd.R_reads' HO_7.out).2.2 ((rd_T37 l0 x10_3).f1) p130 q130
                           obtain rfl : (⟨go10, 0, none⟩ : Addr) = ad130 := (by injection e130)
                           (first | simp only [add_plain] at hx130_0 | simp only [add_at] at hx130_0 | simp only [Addr.add, Nat.zero_add] at hx130_0 | skip)
                           replace p130 := eq_true p130; replace q130 := eq_true q130; have p131 : 0 ≤ (x10_3 : Int) := dt_; have q131 : x10_3 < (l0.length : Int) := dt_; obtain ⟨ad131, e131, hx131_0, hx131_1, hx131_2, hx131_3, hx131_4⟩ := at_T37 HR0.out x10_3 p131 q131
                           obtain rfl : ad113 = ad131 := (by injection e131)
                           replace hx131_0 := bc_ HB.out hx131_0; replace hx131_1 := bc_ HB.out hx131_1; replace hx131_2 := bc_ HB.out hx131_2; replace hx131_3 := bc_ HB.out hx131_3; replace hx131_4 := bc_ HB.out hx131_4; replace p131 := eq_true p131; replace q131 := eq_true q131; have p132 : 0 ≤ (((rd_T37 l0 x10_3).f1) : Int) := dt_; have q132 : ((rd_T37 l0 x10_3).f1) < (x7_3.length : Int) := dt_; obtain ⟨ad132, e132, hx132_0⟩ := Kd.at_int (Kd.R_reads' HO_7.out).2.2 ((rd_T37 l0 x10_3).f1) p132 q132
                           obtain rfl : (⟨go10, 0, none⟩ : Addr) = ad132 := (by injection e132)
                           (first | simp only [add_plain] at hx132_0 | simp only [add_at] at hx132_0 | simp only [Addr.add, Nat.zero_add] at hx132_0 | skip)
                           replace p132 := eq_true p132; replace q132 := eq_true q132
                           go_wp2
                           repeat (go_quiet (fail); try go_wp2)
                           (try simp only [← hl7_3])
                           go_roundg kj27
                           case measure => have := HK1.out; have := HK2.out; have := HK3.out; have := HJ15.out; have := HJ27.out; omega
                           case rel => exact ⟨(x7_3), (x9_3), (wrap64 (x10_3 + 1)), (by first | rfl | (simp; done) | (simp [*]; done)), (by first | rfl | (simp; done) | (simp [*]; done)), H', ⟨by have := HK1.out; have := HK2.out; have := HK3.out; have := HJ15.out; have := HJ27.out; omega⟩, ⟨by (try simp only [hl7_2]); (try simp only [hl7_3]); (with_reducible repeat (first | apply Kd.R_alloc | apply Kd.R_drewN | apply Kd.R_drew)); exact HO_7.out⟩, ⟨lb0_ HB.out⟩⟩
                         ·
                          rw [if_neg c61] at H
                          exact absurd H (by simp)
                        ·
                         rw [if_neg c60] at H
                         exact absurd H (by simp)
                       ·
                        rw [if_neg c59] at H
                        exact absurd H (by simp)
                      ·
                       rw [if_neg c58] at H
                       exact absurd H (by simp)
                  ·
                   rw [if_neg c27] at H
                   exact absurd H (by simp)
                 ·
                  rw [if_neg c26] at H
                  exact absurd H (by simp)
                ·
                 rw [if_neg c25] at H
                 exact absurd H (by simp)
               ·
                rw [if_neg c24] at H
                exact absurd H (by simp)
           ·
            rw [if_neg c15] at H
            exact absurd H (by simp)
          ·
           rw [if_neg c14] at H
           have c14b0 : decide (x10_3 < (l0.length : Int)) = false := decide_eq_false c14; clear c14; have H' := Aside0.mk H; clear H
           go_wp2
           repeat (go_quiet (fail); try go_wp2)
           (try simp only [← hl7_2, ← hl7_3])
           go_roundg k3
           case measure => have := HK1.out; have := HK2.out; have := HK3.out; omega
           case rel => exact ⟨(x7_3), (x9_3), (by first | rfl | (simp; done) | (simp [*]; done)), H', ⟨by have := HK1.out; have := HK2.out; have := HK3.out; omega⟩, ⟨by (try simp only [hl7_2]); (try simp only [hl7_3]); (with_reducible repeat (first | apply Kd.R_alloc | apply Kd.R_drewN | apply Kd.R_drew)); exact HO_7.out⟩, ⟨lb0_ HB.out⟩⟩
       ·
        replace c13 := Bool.eq_false_iff.mpr c13; subst c13
        have H1 : (if 0 ≤ a2 then (if a2 < (x7_2.length : Int) then (some (rd x7_2 a2)) else (none)) else (none)) = some r := by rw [if_neg (show ¬ (false = true) by decide)] at H; exact H
        clear H; have H := H1; clear H1
        by_cases c73 : 0 ≤ a2
        ·
         rw [if_pos c73] at H
         have c73b0 : decide (0 ≤ a2) = true := decide_eq_true c73; clear c73
         by_cases c74 : a2 < (x7_2.length : Int)
         ·
          rw [if_pos c74] at H
          have c74b0 : decide (a2 < (x7_2.length : Int)) = true := decide_eq_true c74; clear c74; obtain rfl := Option.some.inj H; have p112 : 0 ≤ (a2 : Int) := dt_; have q112 : a2 < (x7_2.length : Int) := dt_; obtain ⟨ad112, e112, hx112_0⟩ := Kd.at_int (Kd.R_reads' HO_7.out).2.2 a2 p112 q112
          obtain rfl : (⟨go10, 0, none⟩ : Addr) = ad112 := (by injection e112)
          (first | simp only [add_plain] at hx112_0 | simp only [add_at] at hx112_0 | simp only [Addr.add, Nat.zero_add] at hx112_0 | skip)
          replace p112 := eq_true p112; replace q112 := eq_true q112
          go_wp2
          repeat (go_quiet (fail); try go_wp2)
          go_ret
          exact ⟨rr_, lb0_ HB.out⟩
         ·
          rw [if_neg c74] at H
          exact absurd H (by simp)
        ·
         rw [if_neg c73] at H
         exact absurd H (by simp)
    ·
     rw [if_neg c9] at H
     exact absurd H (by simp)
def spec_l1In.f (a0 : Int) (a1 : Int) (a2 : Int) : Option (Bool) := if a0 ≥ a1 then (some (decide (a0 ≤ a2))) else (some false)
theorem spec_l1In.calls (a0 : Int) (a1 : Int) (a2 : Int) (r : Bool) (w : World) (h : spec_l1In.f a0 a1 a2 = some r) :
  Calls Try.prog 101 #[.int .i64 a0, .int .i64 a1, .int .i64 a2] w fun e w' => e = .returned (.bool r) ∧ Drawn0 w w' := by
 have H : (if a0 ≥ a1 then (some (decide (a0 ≤ a2))) else (some false)) = some r := h
 clear h
 by_cases c4 : a0 ≥ a1
 ·
  rw [if_pos c4] at H
  have c4b0 : decide (a1 ≤ a0) = true := decide_eq_true c4
  clear c4
  obtain rfl := Option.some.inj H
  go_enter Try.func101, Try.ntmps101
  go_wp2
  go_ret
  exact ⟨by first | rfl | (simp; done) | (simp [*]; done), by repeat (first | exact Drawn0.refl _ | apply Drawn0.step)⟩
 ·
  rw [if_neg c4] at H
  have c4b0 : decide (a1 ≤ a0) = false := decide_eq_false c4
  clear c4
  obtain rfl := Option.some.inj H
  go_enter Try.func101, Try.ntmps101
  go_wp2
  go_ret
  exact ⟨by first | rfl | (simp; done) | (simp [*]; done), by repeat (first | exact Drawn0.refl _ | apply Drawn0.step)⟩
def spec_l4Station.f (a0 : Int) : Option (Bool) := (spec_l1In.f a0 0 7).bind fun t137 => (some t137)
theorem spec_l4Station.calls (a0 : Int) (r : Bool) (w : World) (h : spec_l4Station.f a0 = some r) :
  Calls Try.prog 100 #[.int .i64 a0] w fun e w' => e = .returned (.bool r) ∧ Drawn0 w w' := by
 have H : ((spec_l1In.f a0 0 7).bind fun t137 => (some t137)) = some r := h
 clear h
 replace H := Option.bind_eq_some_iff.mp H
 obtain ⟨t137, A20, H⟩ := H
 replace H : (some t137) = some r := H
 have A2 := Aside0.mk A20
 clear A20
 obtain rfl := Option.some.inj H
 go_enter Try.func100, Try.ntmps100
 go_wp2_with (first | ((with_reducible refine gate_callee (f := 101) rfl ?_); refine ga_ (some 4) Try.func101 #[.int .i64 a0, .int .i64 0, .int .i64 7] ?_; (with_reducible refine (spec_l1In.calls a0 0 7 t137 _ A2.out).mono ?_); rintro e w' ⟨rfl, ⟨nd, rfl⟩⟩; refine ⟨_, rfl, ?_⟩))
 go_ret
 exact ⟨by first | rfl | (simp; done) | (simp [*]; done), by repeat (first | exact Drawn0.refl _ | apply Drawn0.step)⟩
def spec_l2Bearing.f (a0 : Int) : Option (Bool) := (spec_l1In.f a0 0 359).bind fun t138 => (some t138)
theorem spec_l2Bearing.calls (a0 : Int) (r : Bool) (w : World) (h : spec_l2Bearing.f a0 = some r) :
  Calls Try.prog 120 #[.int .i64 a0] w fun e w' => e = .returned (.bool r) ∧ Drawn0 w w' := by
 have H : ((spec_l1In.f a0 0 359).bind fun t138 => (some t138)) = some r := h
 clear h
 replace H := Option.bind_eq_some_iff.mp H
 obtain ⟨t138, A20, H⟩ := H
 replace H : (some t138) = some r := H
 have A2 := Aside0.mk A20
 clear A20
 obtain rfl := Option.some.inj H
 go_enter Try.func120, Try.ntmps120
 go_wp2_with (first | ((with_reducible refine gate_callee (f := 101) rfl ?_); refine ga_ (some 4) Try.func101 #[.int .i64 a0, .int .i64 0, .int .i64 359] ?_; (with_reducible refine (spec_l1In.calls a0 0 359 t138 _ A2.out).mono ?_); rintro e w' ⟨rfl, ⟨nd, rfl⟩⟩; refine ⟨_, rfl, ?_⟩))
 go_ret
 exact ⟨by first | rfl | (simp; done) | (simp [*]; done), by repeat (first | exact Drawn0.refl _ | apply Drawn0.step)⟩
def spec_l4Leg.f (a0_0 : Int) (a0_1 : Int) (a0_2 : Int) (a0_3 : Int) (a0_4 : Int) : Option (Bool) := (spec_l4Station.f a0_0).bind fun t140 => (if t140 = true then ((spec_l4Station.f a0_1).bind fun t141 => (if t141 = true then (if a0_0 = a0_1 then (some false) else ((spec_l1In.f a0_2 1 500).bind fun t142 => (if t142 = true then ((spec_l2Bearing.f a0_3).bind fun t143 => (if t143 = true then ((spec_l1In.f a0_4 (-90) 90).bind fun t144 => (some t144)) else (some false))) else (some false)))) else (some false))) else (some false))
theorem spec_l4Leg.calls (a0_0 : Int) (a0_1 : Int) (a0_2 : Int) (a0_3 : Int) (a0_4 : Int) (r : Bool) (w : World) (h : spec_l4Leg.f a0_0 a0_1 a0_2 a0_3 a0_4 = some r) :
  Calls Try.prog 106 #[.agg #[.int .i64 a0_0, .int .i64 a0_1, .int .i64 a0_2, .int .i64 a0_3, .int .i64 a0_4]] w fun e w' => e = .returned (.bool r) ∧ Below w.heap.size w w' := by
 have hu37 := Try.underlying37
 have HB := Aside0.mk (Below.refl w.heap.size w)
 have H : ((spec_l4Station.f a0_0).bind fun t140 => (if t140 = true then ((spec_l4Station.f a0_1).bind fun t141 => (if t141 = true then (if a0_0 = a0_1 then (some false) else ((spec_l1In.f a0_2 1 500).bind fun t142 => (if t142 = true then ((spec_l2Bearing.f a0_3).bind fun t143 => (if t143 = true then ((spec_l1In.f a0_4 (-90) 90).bind fun t144 => (some t144)) else (some false))) else (some false)))) else (some false))) else (some false))) = some r := h
 clear h
 replace H := Option.bind_eq_some_iff.mp H
 obtain ⟨t140, A20, H⟩ := H
 replace H : (if t140 = true then ((spec_l4Station.f a0_1).bind fun t141 => (if t141 = true then (if a0_0 = a0_1 then (some false) else ((spec_l1In.f a0_2 1 500).bind fun t142 => (if t142 = true then ((spec_l2Bearing.f a0_3).bind fun t143 => (if t143 = true then ((spec_l1In.f a0_4 (-90) 90).bind fun t144 => (some t144)) else (some false))) else (some false)))) else (some false))) else (some false)) = some r := H
 have A2 := Aside0.mk A20
 clear A20
 by_cases c3 : t140 = true
 ·
  subst c3
  have H1 : ((spec_l4Station.f a0_1).bind fun t141 => (if t141 = true then (if a0_0 = a0_1 then (some false) else ((spec_l1In.f a0_2 1 500).bind fun t142 => (if t142 = true then ((spec_l2Bearing.f a0_3).bind fun t143 => (if t143 = true then ((spec_l1In.f a0_4 (-90) 90).bind fun t144 => (some t144)) else (some false))) else (some false)))) else (some false))) = some r := by rw [if_pos rfl] at H; exact H
  clear H
  have H := H1
  clear H1
  replace H := Option.bind_eq_some_iff.mp H
  obtain ⟨t141, A40, H⟩ := H
  replace H : (if t141 = true then (if a0_0 = a0_1 then (some false) else ((spec_l1In.f a0_2 1 500).bind fun t142 => (if t142 = true then ((spec_l2Bearing.f a0_3).bind fun t143 => (if t143 = true then ((spec_l1In.f a0_4 (-90) 90).bind fun t144 => (some t144)) else (some false))) else (some false)))) else (some false)) = some r := H
  have A4 := Aside0.mk A40
  clear A40
  by_cases c5 : t141 = true
  ·
   subst c5
   have H1 : (if a0_0 = a0_1 then (some false) else ((spec_l1In.f a0_2 1 500).bind fun t142 => (if t142 = true then ((spec_l2Bearing.f a0_3).bind fun t143 => (if t143 = true then ((spec_l1In.f a0_4 (-90) 90).bind fun t144 => (some t144)) else (some false))) else (some false)))) = some r := by rw [if_pos rfl] at H; exact H
   clear H
   have H := H1
   clear H1
   by_cases c6 : a0_0 = a0_1
   ·
    rw [if_pos c6] at H
    have c6b0 : (a0_0 == a0_1) = true := beq_iff_eq.mpr c6
    have c6b1 : (a0_0 != a0_1) = false := bne_eq_false_iff_eq.mpr c6
    clear c6
    obtain rfl := Option.some.inj H
    go_enter Try.func106, Try.ntmps106
    go_wp2_with (first | ((with_reducible refine gate_dst (N := 1) rfl ?_); refine box_event ?hg (N := 1) ?hd (cs := #[.int .i64 a0_0, .int .i64 a0_1, .int .i64 a0_2, .int .i64 a0_3, .int .i64 a0_4]) (t := 37) ?hr ?_; (case hd => rfl); (case hg => rfl); (case hr => first | (go_simp; done) | (go_simp; rfl)); intro gb139 hg w7 hbox hb; have BK139 := Aside0.mk (hbox); have GW139 := Aside0.mk ((bz_ hg (lb0_ HB.out))); have GE139 := Aside0.mk ((bz_ hg (lb0_ HB.out))); replace HB := Aside0.mk (below_step (lb0_ HB.out) hb); clear hb hbox hg; obtain ⟨hcz8_0, hcz8_1, hcz8_2, hcz8_3, hcz8_4⟩ := cz5_ BK139.out; obtain ⟨hfz8_0, hfz8_1, hfz8_2, hfz8_3, hfz8_4⟩ := fz5_ BK139.out) | ((with_reducible refine gate_callee (f := 100) rfl ?_); refine ga_ (some 5) Try.func100 #[.int .i64 a0_0] ?_; (with_reducible refine (spec_l4Station.calls a0_0 true _ A2.out).mono ?_); rintro e w' ⟨rfl, ⟨nd, rfl⟩⟩; refine ⟨_, rfl, ?_⟩) | (go_at_call 100; (with_reducible refine (spec_l4Station.calls a0_1 true _ A4.out).mono ?_); rintro e w' ⟨rfl, ⟨nd, rfl⟩⟩))
    go_ret
    exact ⟨rr_, lb1_ HB.out GE139.out⟩
   ·
    rw [if_neg c6] at H
    have c6b0 : (a0_0 == a0_1) = false := beq_eq_false_iff_ne.mpr c6
    have c6b1 : (a0_0 != a0_1) = true := bne_iff_ne.mpr c6
    replace H := Option.bind_eq_some_iff.mp H
    obtain ⟨t142, A90, H⟩ := H
    replace H : (if t142 = true then ((spec_l2Bearing.f a0_3).bind fun t143 => (if t143 = true then ((spec_l1In.f a0_4 (-90) 90).bind fun t144 => (some t144)) else (some false))) else (some false)) = some r := H
    have A9 := Aside0.mk A90
    clear A90
    by_cases c10 : t142 = true
    ·
     subst c10
     have H1 : ((spec_l2Bearing.f a0_3).bind fun t143 => (if t143 = true then ((spec_l1In.f a0_4 (-90) 90).bind fun t144 => (some t144)) else (some false))) = some r := by rw [if_pos rfl] at H; exact H
     clear H
     have H := H1
     clear H1
     replace H := Option.bind_eq_some_iff.mp H
     obtain ⟨t143, A110, H⟩ := H
     replace H : (if t143 = true then ((spec_l1In.f a0_4 (-90) 90).bind fun t144 => (some t144)) else (some false)) = some r := H
     have A11 := Aside0.mk A110
     clear A110
     by_cases c12 : t143 = true
     ·
      subst c12
      have H1 : ((spec_l1In.f a0_4 (-90) 90).bind fun t144 => (some t144)) = some r := by rw [if_pos rfl] at H; exact H
      clear H
      have H := H1
      clear H1
      replace H := Option.bind_eq_some_iff.mp H
      obtain ⟨t144, A130, H⟩ := H
      replace H : (some t144) = some r := H
      have A13 := Aside0.mk A130
      clear A130
      obtain rfl := Option.some.inj H
      go_enter Try.func106, Try.ntmps106
      go_wp2_with (first | ((with_reducible refine gate_dst (N := 1) rfl ?_); refine box_event ?hg (N := 1) ?hd (cs := #[.int .i64 a0_0, .int .i64 a0_1, .int .i64 a0_2, .int .i64 a0_3, .int .i64 a0_4]) (t := 37) ?hr ?_; (case hd => rfl); (case hg => rfl); (case hr => first | (go_simp; done) | (go_simp; rfl)); intro gb139 hg w14 hbox hb; have BK139 := Aside0.mk (hbox); have GW139 := Aside0.mk ((bz_ hg (lb0_ HB.out))); have GE139 := Aside0.mk ((bz_ hg (lb0_ HB.out))); replace HB := Aside0.mk (below_step (lb0_ HB.out) hb); clear hb hbox hg; obtain ⟨hcz15_0, hcz15_1, hcz15_2, hcz15_3, hcz15_4⟩ := cz5_ BK139.out; obtain ⟨hfz15_0, hfz15_1, hfz15_2, hfz15_3, hfz15_4⟩ := fz5_ BK139.out) | ((with_reducible refine gate_callee (f := 100) rfl ?_); refine ga_ (some 5) Try.func100 #[.int .i64 a0_0] ?_; (with_reducible refine (spec_l4Station.calls a0_0 true _ A2.out).mono ?_); rintro e w' ⟨rfl, ⟨nd, rfl⟩⟩; refine ⟨_, rfl, ?_⟩) | (go_at_call 100; (with_reducible refine (spec_l4Station.calls a0_1 true _ A4.out).mono ?_); rintro e w' ⟨rfl, ⟨nd, rfl⟩⟩) | (go_at_call 101; (with_reducible refine (spec_l1In.calls a0_2 1 500 true _ A9.out).mono ?_); rintro e w' ⟨rfl, ⟨nd, rfl⟩⟩) | (go_at_call 120; (with_reducible refine (spec_l2Bearing.calls a0_3 true _ A11.out).mono ?_); rintro e w' ⟨rfl, ⟨nd, rfl⟩⟩) | (go_at_call 101; (with_reducible refine (spec_l1In.calls a0_4 (-90) 90 t144 _ A13.out).mono ?_); rintro e w' ⟨rfl, ⟨nd, rfl⟩⟩))
      go_ret
      exact ⟨rr_, lb1_ HB.out GE139.out⟩
     ·
      replace c12 := Bool.eq_false_iff.mpr c12
      subst c12
      have H1 : (some false) = some r := by rw [if_neg (show ¬ (false = true) by decide)] at H; exact H
      clear H
      have H := H1
      clear H1
      obtain rfl := Option.some.inj H
      go_enter Try.func106, Try.ntmps106
      go_wp2_with (first | ((with_reducible refine gate_dst (N := 1) rfl ?_); refine box_event ?hg (N := 1) ?hd (cs := #[.int .i64 a0_0, .int .i64 a0_1, .int .i64 a0_2, .int .i64 a0_3, .int .i64 a0_4]) (t := 37) ?hr ?_; (case hd => rfl); (case hg => rfl); (case hr => first | (go_simp; done) | (go_simp; rfl)); intro gb139 hg w16 hbox hb; have BK139 := Aside0.mk (hbox); have GW139 := Aside0.mk ((bz_ hg (lb0_ HB.out))); have GE139 := Aside0.mk ((bz_ hg (lb0_ HB.out))); replace HB := Aside0.mk (below_step (lb0_ HB.out) hb); clear hb hbox hg; obtain ⟨hcz17_0, hcz17_1, hcz17_2, hcz17_3, hcz17_4⟩ := cz5_ BK139.out; obtain ⟨hfz17_0, hfz17_1, hfz17_2, hfz17_3, hfz17_4⟩ := fz5_ BK139.out) | ((with_reducible refine gate_callee (f := 100) rfl ?_); refine ga_ (some 5) Try.func100 #[.int .i64 a0_0] ?_; (with_reducible refine (spec_l4Station.calls a0_0 true _ A2.out).mono ?_); rintro e w' ⟨rfl, ⟨nd, rfl⟩⟩; refine ⟨_, rfl, ?_⟩) | (go_at_call 100; (with_reducible refine (spec_l4Station.calls a0_1 true _ A4.out).mono ?_); rintro e w' ⟨rfl, ⟨nd, rfl⟩⟩) | (go_at_call 101; (with_reducible refine (spec_l1In.calls a0_2 1 500 true _ A9.out).mono ?_); rintro e w' ⟨rfl, ⟨nd, rfl⟩⟩) | (go_at_call 120; (with_reducible refine (spec_l2Bearing.calls a0_3 false _ A11.out).mono ?_); rintro e w' ⟨rfl, ⟨nd, rfl⟩⟩))
      go_ret
      exact ⟨rr_, lb1_ HB.out GE139.out⟩
    ·
     replace c10 := Bool.eq_false_iff.mpr c10
     subst c10
     have H1 : (some false) = some r := by rw [if_neg (show ¬ (false = true) by decide)] at H; exact H
     clear H
     have H := H1
     clear H1
     obtain rfl := Option.some.inj H
     go_enter Try.func106, Try.ntmps106
     go_wp2_with (first | ((with_reducible refine gate_dst (N := 1) rfl ?_); refine box_event ?hg (N := 1) ?hd (cs := #[.int .i64 a0_0, .int .i64 a0_1, .int .i64 a0_2, .int .i64 a0_3, .int .i64 a0_4]) (t := 37) ?hr ?_; (case hd => rfl); (case hg => rfl); (case hr => first | (go_simp; done) | (go_simp; rfl)); intro gb139 hg w18 hbox hb; have BK139 := Aside0.mk (hbox); have GW139 := Aside0.mk ((bz_ hg (lb0_ HB.out))); have GE139 := Aside0.mk ((bz_ hg (lb0_ HB.out))); replace HB := Aside0.mk (below_step (lb0_ HB.out) hb); clear hb hbox hg; obtain ⟨hcz19_0, hcz19_1, hcz19_2, hcz19_3, hcz19_4⟩ := cz5_ BK139.out; obtain ⟨hfz19_0, hfz19_1, hfz19_2, hfz19_3, hfz19_4⟩ := fz5_ BK139.out) | ((with_reducible refine gate_callee (f := 100) rfl ?_); refine ga_ (some 5) Try.func100 #[.int .i64 a0_0] ?_; (with_reducible refine (spec_l4Station.calls a0_0 true _ A2.out).mono ?_); rintro e w' ⟨rfl, ⟨nd, rfl⟩⟩; refine ⟨_, rfl, ?_⟩) | (go_at_call 100; (with_reducible refine (spec_l4Station.calls a0_1 true _ A4.out).mono ?_); rintro e w' ⟨rfl, ⟨nd, rfl⟩⟩) | (go_at_call 101; (with_reducible refine (spec_l1In.calls a0_2 1 500 false _ A9.out).mono ?_); rintro e w' ⟨rfl, ⟨nd, rfl⟩⟩))
     go_ret
     exact ⟨rr_, lb1_ HB.out GE139.out⟩
  ·
   replace c5 := Bool.eq_false_iff.mpr c5
   subst c5
   have H1 : (some false) = some r := by rw [if_neg (show ¬ (false = true) by decide)] at H; exact H
   clear H
   have H := H1
   clear H1
   obtain rfl := Option.some.inj H
   go_enter Try.func106, Try.ntmps106
   go_wp2_with (first | ((with_reducible refine gate_dst (N := 1) rfl ?_); refine box_event ?hg (N := 1) ?hd (cs := #[.int .i64 a0_0, .int .i64 a0_1, .int .i64 a0_2, .int .i64 a0_3, .int .i64 a0_4]) (t := 37) ?hr ?_; (case hd => rfl); (case hg => rfl); (case hr => first | (go_simp; done) | (go_simp; rfl)); intro gb139 hg w20 hbox hb; have BK139 := Aside0.mk (hbox); have GW139 := Aside0.mk ((bz_ hg (lb0_ HB.out))); have GE139 := Aside0.mk ((bz_ hg (lb0_ HB.out))); replace HB := Aside0.mk (below_step (lb0_ HB.out) hb); clear hb hbox hg; obtain ⟨hcz21_0, hcz21_1, hcz21_2, hcz21_3, hcz21_4⟩ := cz5_ BK139.out; obtain ⟨hfz21_0, hfz21_1, hfz21_2, hfz21_3, hfz21_4⟩ := fz5_ BK139.out) | ((with_reducible refine gate_callee (f := 100) rfl ?_); refine ga_ (some 5) Try.func100 #[.int .i64 a0_0] ?_; (with_reducible refine (spec_l4Station.calls a0_0 true _ A2.out).mono ?_); rintro e w' ⟨rfl, ⟨nd, rfl⟩⟩; refine ⟨_, rfl, ?_⟩) | (go_at_call 100; (with_reducible refine (spec_l4Station.calls a0_1 false _ A4.out).mono ?_); rintro e w' ⟨rfl, ⟨nd, rfl⟩⟩))
   go_ret
   exact ⟨rr_, lb1_ HB.out GE139.out⟩
 ·
  replace c3 := Bool.eq_false_iff.mpr c3
  subst c3
  have H1 : (some false) = some r := by rw [if_neg (show ¬ (false = true) by decide)] at H; exact H
  clear H
  have H := H1
  clear H1
  obtain rfl := Option.some.inj H
  go_enter Try.func106, Try.ntmps106
  go_wp2_with (first | ((with_reducible refine gate_dst (N := 1) rfl ?_); refine box_event ?hg (N := 1) ?hd (cs := #[.int .i64 a0_0, .int .i64 a0_1, .int .i64 a0_2, .int .i64 a0_3, .int .i64 a0_4]) (t := 37) ?hr ?_; (case hd => rfl); (case hg => rfl); (case hr => first | (go_simp; done) | (go_simp; rfl)); intro gb139 hg w22 hbox hb; have BK139 := Aside0.mk (hbox); have GW139 := Aside0.mk ((bz_ hg (lb0_ HB.out))); have GE139 := Aside0.mk ((bz_ hg (lb0_ HB.out))); replace HB := Aside0.mk (below_step (lb0_ HB.out) hb); clear hb hbox hg; obtain ⟨hcz23_0, hcz23_1, hcz23_2, hcz23_3, hcz23_4⟩ := cz5_ BK139.out; obtain ⟨hfz23_0, hfz23_1, hfz23_2, hfz23_3, hfz23_4⟩ := fz5_ BK139.out) | ((with_reducible refine gate_callee (f := 100) rfl ?_); refine ga_ (some 5) Try.func100 #[.int .i64 a0_0] ?_; (with_reducible refine (spec_l4Station.calls a0_0 false _ A2.out).mono ?_); rintro e w' ⟨rfl, ⟨nd, rfl⟩⟩; refine ⟨_, rfl, ?_⟩))
  go_ret
  exact ⟨rr_, lb1_ HB.out GE139.out⟩
def spec_l4Legs.l0 : Nat → List (S37) → Int → Option (Bool)
 | 0, _, _ => none
 | k + 1, x0, x3 => if x3 < (x0.length : Int) then (if 0 ≤ x3 then ((spec_l4Leg.f ((rd_T37 x0 x3).f0) ((rd_T37 x0 x3).f1) ((rd_T37 x0 x3).f2) ((rd_T37 x0 x3).f3) ((rd_T37 x0 x3).f4)).bind fun t146 => (if t146 = true then (spec_l4Legs.l0 k x0 (wrap64 (x3 + 1))) else (some false))) else (none)) else (some (decide ((x0.length : Int) ≤ 12)))
def spec_l4Legs.f (k : Nat) (l0 : List (S37)) : Option (Bool) := spec_l4Legs.l0 k l0 0
theorem spec_l4Legs.calls (k : Nat) (A0 : Option Addr) (c0 : Nat) (l0 : List (S37)) (r : Bool) (w : World) (hr0 : Kd.C k37 w A0 l0.length l0) (hc0 : l0.length ≤ c0) (h : spec_l4Legs.f k l0 = some r) :
  Calls Try.prog 99 #[.slice A0 l0.length c0] w fun e w' => e = .returned (.bool r) ∧ Below w.heap.size w w' := by
 have hu37 := Try.underlying37
 have HR0 := Aside0.mk hr0
 have HC0 := Aside0.mk hc0
 clear hr0 hc0
 have HB := Aside0.mk (Below.refl w.heap.size w)
 have H : (spec_l4Legs.l0 k l0 0) = some r := h
 clear h
 have H' := Aside0.mk H
 clear H
 go_enter Try.func99, Try.ntmps99
 go_wp2
 go_loopg [3] k (fun kq v3 w' => ∃ (x3_1 : Int), v3 = .int .i64 x3_1 ∧ Aside0 (spec_l4Legs.l0 kq l0 x3_1 = some r) ∧ Aside0 (kq ≤ k) ∧ Aside0 (Below w.heap.size w w'))
 case atStart => exact ⟨(0), (by first | rfl | (simp; done) | (simp [*]; done)), H', ⟨Nat.le_refl _⟩, ⟨lb0_ HB.out⟩⟩
 case round =>
  clear H'
  obtain ⟨x3_1, rfl, HA, HK1, HB⟩ := hrel
  cases gk with
  | zero => exact absurd HA.out (by simp [spec_l4Legs.l0])
  | succ k1 =>
   have H := HA.out
   clear HA
   simp only [spec_l4Legs.l0] at H
   by_cases c2 : x3_1 < (l0.length : Int)
   ·
    rw [if_pos c2] at H
    have c2b0 : decide (x3_1 < (l0.length : Int)) = true := decide_eq_true c2
    clear c2
    by_cases c3 : 0 ≤ x3_1
    ·
     rw [if_pos c3] at H
     have c3b0 : decide (0 ≤ x3_1) = true := decide_eq_true c3
     clear c3
     replace H := Option.bind_eq_some_iff.mp H
     obtain ⟨t146, A40, H⟩ := H
     replace H : (if t146 = true then (spec_l4Legs.l0 k1 l0 (wrap64 (x3_1 + 1))) else (some false)) = some r := H
     have A4 := Aside0.mk A40
     clear A40
     by_cases c5 : t146 = true
     ·
      subst c5
      have H1 : (spec_l4Legs.l0 k1 l0 (wrap64 (x3_1 + 1))) = some r := by rw [if_pos rfl] at H; exact H
      clear H
      have H := H1
      clear H1
      have H' := Aside0.mk H
      clear H
      have p145 : 0 ≤ (x3_1 : Int) := dt_
      have q145 : x3_1 < (l0.length : Int) := dt_
      obtain ⟨ad145, e145, hx145_0, hx145_1, hx145_2, hx145_3, hx145_4⟩ := at_T37 HR0.out x3_1 p145 q145
      cases e145
      replace hx145_0 := bc_ HB.out hx145_0
      replace hx145_1 := bc_ HB.out hx145_1
      replace hx145_2 := bc_ HB.out hx145_2
      replace hx145_3 := bc_ HB.out hx145_3
      replace hx145_4 := bc_ HB.out hx145_4
      replace p145 := eq_true p145
      replace q145 := eq_true q145
      go_wp2_with (first | ((with_reducible refine gate_callee (f := 106) rfl ?_); refine ga_ (some 14) Try.func106 #[.agg #[.int .i64 ((rd_T37 l0 x3_1).f0), .int .i64 ((rd_T37 l0 x3_1).f1), .int .i64 ((rd_T37 l0 x3_1).f2), .int .i64 ((rd_T37 l0 x3_1).f3), .int .i64 ((rd_T37 l0 x3_1).f4)]] ?_; (with_reducible refine (spec_l4Leg.calls ((rd_T37 l0 x3_1).f0) ((rd_T37 l0 x3_1).f1) ((rd_T37 l0 x3_1).f2) ((rd_T37 l0 x3_1).f3) ((rd_T37 l0 x3_1).f4) true _ A4.out).mono ?_); rintro e w6 ⟨rfl, hb⟩; refine ⟨_, rfl, ?_⟩; replace HB := Aside0.mk (below_step (lb0_ HB.out) hb); (try clear hb); (try clear hb2); (try clear hk); (try clear hi)))
      go_roundg k1
      case measure => have := HK1.out; omega
      case rel => exact ⟨(wrap64 (x3_1 + 1)), (by first | rfl | (simp; done) | (simp [*]; done)), H', ⟨by have := HK1.out; omega⟩, ⟨lb0_ HB.out⟩⟩
     ·
      replace c5 := Bool.eq_false_iff.mpr c5
      subst c5
      have H1 : (some false) = some r := by rw [if_neg (show ¬ (false = true) by decide)] at H; exact H
      clear H
      have H := H1
      clear H1
      obtain rfl := Option.some.inj H
      have p145 : 0 ≤ (x3_1 : Int) := dt_
      have q145 : x3_1 < (l0.length : Int) := dt_
      obtain ⟨ad145, e145, hx145_0, hx145_1, hx145_2, hx145_3, hx145_4⟩ := at_T37 HR0.out x3_1 p145 q145
      cases e145
      replace hx145_0 := bc_ HB.out hx145_0
      replace hx145_1 := bc_ HB.out hx145_1
      replace hx145_2 := bc_ HB.out hx145_2
      replace hx145_3 := bc_ HB.out hx145_3
      replace hx145_4 := bc_ HB.out hx145_4
      replace p145 := eq_true p145
      replace q145 := eq_true q145
      go_wp2_with (first | ((with_reducible refine gate_callee (f := 106) rfl ?_); refine ga_ (some 14) Try.func106 #[.agg #[.int .i64 ((rd_T37 l0 x3_1).f0), .int .i64 ((rd_T37 l0 x3_1).f1), .int .i64 ((rd_T37 l0 x3_1).f2), .int .i64 ((rd_T37 l0 x3_1).f3), .int .i64 ((rd_T37 l0 x3_1).f4)]] ?_; (with_reducible refine (spec_l4Leg.calls ((rd_T37 l0 x3_1).f0) ((rd_T37 l0 x3_1).f1) ((rd_T37 l0 x3_1).f2) ((rd_T37 l0 x3_1).f3) ((rd_T37 l0 x3_1).f4) false _ A4.out).mono ?_); rintro e w7 ⟨rfl, hb⟩; refine ⟨_, rfl, ?_⟩; replace HB := Aside0.mk (below_step (lb0_ HB.out) hb); (try clear hb); (try clear hb2); (try clear hk); (try clear hi)))
      go_ret
      exact ⟨rr_, lb0_ HB.out⟩
    ·
     rw [if_neg c3] at H
     exact absurd H (by simp)
   ·
    rw [if_neg c2] at H
    have c2b0 : decide (x3_1 < (l0.length : Int)) = false := decide_eq_false c2
    clear c2
    obtain rfl := Option.some.inj H
    go_wp2
    go_ret
    exact ⟨rr_, lb0_ HB.out⟩
def spec_l25Good.j0 : Nat → Bool → List (S37) → List Bool → List Bool → Int → Int → Option (Bool)
 | 0, _, _, _, _, _, _ => none
 | k + 1, x31, x148000, x148001, x148002, x148003, x148004 => if x31 = true then (some false) else (if 0 < (x148001.length : Int) then (if rdOf false x148001 0 = true then (if 0 ≤ x148003 then (if x148003 < (x148001.length : Int) then (if rdOf false x148001 x148003 = true then ((spec_l25Out.f k x148000 x148001 x148003).bind fun t153 => (if t153 ≥ 0 then (some (decide (t153 ≤ x148004))) else (some false))) else (some false)) else (none)) else (none)) else (some false)) else (none))
def spec_l25Good.f (k : Nat) (l0_0 : List (S37)) (l0_1 : List Bool) (l0_2 : List Bool) (a0_3 : Int) (a0_4 : Int) : Option (Bool) := (spec_l4Legs.f k l0_0).bind fun t148 => (if t148 = true then (if (l0_1.length : Int) = 8 then (if (l0_2.length : Int) = 8 then ((spec_l4Station.f a0_3).bind fun t149 => (if t149 = true then ((spec_l1In.f a0_4 0 100000).bind fun t150 => (spec_l25Good.j0 k (!t150) l0_0 l0_1 l0_2 a0_3 a0_4)) else (spec_l25Good.j0 k true l0_0 l0_1 l0_2 a0_3 a0_4))) else (spec_l25Good.j0 k true l0_0 l0_1 l0_2 a0_3 a0_4)) else (spec_l25Good.j0 k true l0_0 l0_1 l0_2 a0_3 a0_4)) else (spec_l25Good.j0 k true l0_0 l0_1 l0_2 a0_3 a0_4))
theorem spec_l25Good.calls (k : Nat) (A0_0 : Option Addr) (c0_0 : Nat) (l0_0 : List (S37)) (A0_1 : Option Addr) (c0_1 : Nat) (l0_1 : List Bool) (A0_2 : Option Addr) (c0_2 : Nat) (l0_2 : List Bool) (a0_3 : Int) (a0_4 : Int) (r : Bool) (w : World) (hr0_0 : Kd.C k37 w A0_0 l0_0.length l0_0) (hc0_0 : l0_0.length ≤ c0_0) (hr0_1 : Kd.C Kd.bool w A0_1 l0_1.length l0_1) (hc0_1 : l0_1.length ≤ c0_1) (hr0_2 : Kd.C Kd.bool w A0_2 l0_2.length l0_2) (hc0_2 : l0_2.length ≤ c0_2) (h : spec_l25Good.f k l0_0 l0_1 l0_2 a0_3 a0_4 = some r) :
  Calls Try.prog 67 #[.agg #[.slice A0_0 l0_0.length c0_0, .slice A0_1 l0_1.length c0_1, .slice A0_2 l0_2.length c0_2, .int .i64 a0_3, .int .i64 a0_4]] w fun e w' => e = .returned (.bool r) ∧ Below w.heap.size w w' := by
 have hu30 := Try.underlying30
 have HR0_0 := Aside0.mk hr0_0
 have HC0_0 := Aside0.mk hc0_0
 clear hr0_0 hc0_0
 have HR0_1 := Aside0.mk hr0_1
 have HC0_1 := Aside0.mk hc0_1
 clear hr0_1 hc0_1
 have HR0_2 := Aside0.mk hr0_2
 have HC0_2 := Aside0.mk hc0_2
 clear hr0_2 hc0_2
 have HB := Aside0.mk (Below.refl w.heap.size w)
 have H : ((spec_l4Legs.f k l0_0).bind fun t148 => (if t148 = true then (if (l0_1.length : Int) = 8 then (if (l0_2.length : Int) = 8 then ((spec_l4Station.f a0_3).bind fun t149 => (if t149 = true then ((spec_l1In.f a0_4 0 100000).bind fun t150 => (spec_l25Good.j0 k (!t150) l0_0 l0_1 l0_2 a0_3 a0_4)) else (spec_l25Good.j0 k true l0_0 l0_1 l0_2 a0_3 a0_4))) else (spec_l25Good.j0 k true l0_0 l0_1 l0_2 a0_3 a0_4)) else (spec_l25Good.j0 k true l0_0 l0_1 l0_2 a0_3 a0_4)) else (spec_l25Good.j0 k true l0_0 l0_1 l0_2 a0_3 a0_4))) = some r := h
 clear h
 have HC2 := Aside0.mk H
 clear H
 go_enter Try.func67, Try.ntmps67
 go_upto_region 1 with (first | ((with_reducible refine gate_dst (N := 1) rfl ?_); (try (refine gate_guard (by rfl) ?_; dsimp only)); refine box_event ?hg (N := 1) ?hd (cs := #[.slice A0_0 l0_0.length c0_0, .slice A0_1 l0_1.length c0_1, .slice A0_2 l0_2.length c0_2, .int .i64 a0_3, .int .i64 a0_4]) (t := 30) ?hr ?_; (case hd => rfl); (case hg => rfl); (case hr => first | (go_simp; done) | (go_simp; rfl)); intro gb147 hg w3 hbox hb; have BK147 := Aside0.mk (hbox); have GW147 := Aside0.mk ((bz_ hg (lb0_ HB.out))); have GE147 := Aside0.mk ((bz_ hg (lb0_ HB.out))); replace HB := Aside0.mk (below_step (lb0_ HB.out) hb); clear hb hbox hg))
 (try simp only [Act.put, List.setIfInBounds_toArray, List.set_cons_zero, List.set_cons_succ])
 go_cut [31] (fun v31 wc => ∃ (kq : Nat) (x31_1 : Bool), v31 = .bool x31_1 ∧ Aside0 (spec_l25Good.j0 kq x31_1 l0_0 l0_1 l0_2 a0_3 a0_4 = some r) ∧ Aside0 (kq ≤ k) ∧ Aside0 (wc.heap[gb147]? = some (.cells #[(.slice A0_0 l0_0.length c0_0), (.slice A0_1 l0_1.length c0_1), (.slice A0_2 l0_2.length c0_2), .int .i64 a0_3, .int .i64 a0_4] 30 (0, 0))) ∧ Aside0 (Below w.heap.size w wc))
 case first =>
  have H := HC2.out
  clear HC2
  replace H := Option.bind_eq_some_iff.mp H
  obtain ⟨t148, A40, H⟩ := H
  replace H : (if t148 = true then (if (l0_1.length : Int) = 8 then (if (l0_2.length : Int) = 8 then ((spec_l4Station.f a0_3).bind fun t149 => (if t149 = true then ((spec_l1In.f a0_4 0 100000).bind fun t150 => (spec_l25Good.j0 k (!t150) l0_0 l0_1 l0_2 a0_3 a0_4)) else (spec_l25Good.j0 k true l0_0 l0_1 l0_2 a0_3 a0_4))) else (spec_l25Good.j0 k true l0_0 l0_1 l0_2 a0_3 a0_4)) else (spec_l25Good.j0 k true l0_0 l0_1 l0_2 a0_3 a0_4)) else (spec_l25Good.j0 k true l0_0 l0_1 l0_2 a0_3 a0_4)) = some r := H
  have A4 := Aside0.mk A40
  clear A40
  by_cases c5 : t148 = true
  ·
   subst c5
   have H1 : (if (l0_1.length : Int) = 8 then (if (l0_2.length : Int) = 8 then ((spec_l4Station.f a0_3).bind fun t149 => (if t149 = true then ((spec_l1In.f a0_4 0 100000).bind fun t150 => (spec_l25Good.j0 k (!t150) l0_0 l0_1 l0_2 a0_3 a0_4)) else (spec_l25Good.j0 k true l0_0 l0_1 l0_2 a0_3 a0_4))) else (spec_l25Good.j0 k true l0_0 l0_1 l0_2 a0_3 a0_4)) else (spec_l25Good.j0 k true l0_0 l0_1 l0_2 a0_3 a0_4)) = some r := by rw [if_pos rfl] at H; exact H
   clear H
   have H := H1
   clear H1
   by_cases c6 : (l0_1.length : Int) = 8
   ·
    rw [if_pos c6] at H
    have c6b0 : ((l0_1.length : Int) == 8) = true := beq_iff_eq.mpr c6
    have c6b1 : ((l0_1.length : Int) != 8) = false := bne_eq_false_iff_eq.mpr c6
    clear c6
    (first | rw [c6b0] | (simp only [i64_w, i32_w]; rw [c6b0]) | skip)
    by_cases c7 : (l0_2.length : Int) = 8
    ·
     rw [if_pos c7] at H
     have c7b0 : ((l0_2.length : Int) == 8) = true := beq_iff_eq.mpr c7
     have c7b1 : ((l0_2.length : Int) != 8) = false := bne_eq_false_iff_eq.mpr c7
     clear c7
     replace H := Option.bind_eq_some_iff.mp H
     obtain ⟨t149, A80, H⟩ := H
     replace H : (if t149 = true then ((spec_l1In.f a0_4 0 100000).bind fun t150 => (spec_l25Good.j0 k (!t150) l0_0 l0_1 l0_2 a0_3 a0_4)) else (spec_l25Good.j0 k true l0_0 l0_1 l0_2 a0_3 a0_4)) = some r := H
     have A8 := Aside0.mk A80
     clear A80
     by_cases c9 : t149 = true
     ·
      subst c9
      have H1 : ((spec_l1In.f a0_4 0 100000).bind fun t150 => (spec_l25Good.j0 k (!t150) l0_0 l0_1 l0_2 a0_3 a0_4)) = some r := by rw [if_pos rfl] at H; exact H
      clear H
      have H := H1
      clear H1
      replace H := Option.bind_eq_some_iff.mp H
      obtain ⟨t150, A100, H⟩ := H
      replace H : (spec_l25Good.j0 k (!t150) l0_0 l0_1 l0_2 a0_3 a0_4) = some r := H
      have A10 := Aside0.mk A100
      clear A100
      have H' := Aside0.mk H
      clear H
      obtain ⟨hcz11_0, hcz11_1, hcz11_2, hcz11_3, hcz11_4⟩ := cz5_ BK147.out
      obtain ⟨hfz11_0, hfz11_1, hfz11_2, hfz11_3, hfz11_4⟩ := fz5_ BK147.out
      go_wp2_with (first | ((with_reducible refine gate_callee (f := 99) rfl ?_); refine ga_ (some 6) Try.func99 #[.slice A0_0 l0_0.length c0_0] ?_; (with_reducible refine (spec_l4Legs.calls k _ _ l0_0 true _ ?side1 ?side2 A4.out).mono ?_); (case side1 => exact kc_ (Kd.C_below HR0_0.out HB.out)); (case side2 => exact HC0_0.out); rintro e w12 ⟨rfl, hb⟩; refine ⟨_, rfl, ?_⟩; replace BK147 := Aside0.mk (bb_ (bk_ BK147.out) hb); replace HB := Aside0.mk (below_step (lb1_ HB.out GE147.out) hb); (try clear hb); (try clear hb2); (try clear hk); (try clear hi); obtain ⟨hcz13_0, hcz13_1, hcz13_2, hcz13_3, hcz13_4⟩ := cz5_ BK147.out; obtain ⟨hfz13_0, hfz13_1, hfz13_2, hfz13_3, hfz13_4⟩ := fz5_ BK147.out) | (go_at_call 100; (with_reducible refine (spec_l4Station.calls a0_3 true _ A8.out).mono ?_); rintro e w' ⟨rfl, ⟨nd, rfl⟩⟩) | (go_at_call 101; (with_reducible refine (spec_l1In.calls a0_4 0 100000 t150 _ A10.out).mono ?_); rintro e w' ⟨rfl, ⟨nd, rfl⟩⟩))
      go_meet
      case rel => exact ⟨_, (!t150), (by first | rfl | (simp; done) | (simp [*]; done)), H', ⟨by first | omega | exact Nat.le_refl _⟩, ⟨bk_ BK147.out⟩, ⟨lb1_ HB.out GE147.out⟩⟩
     ·
      replace c9 := Bool.eq_false_iff.mpr c9
      subst c9
      have H1 : (spec_l25Good.j0 k true l0_0 l0_1 l0_2 a0_3 a0_4) = some r := by rw [if_neg (show ¬ (false = true) by decide)] at H; exact H
      clear H
      have H := H1
      clear H1
      have H' := Aside0.mk H
      clear H
      obtain ⟨hcz14_0, hcz14_1, hcz14_2, hcz14_3, hcz14_4⟩ := cz5_ BK147.out
      obtain ⟨hfz14_0, hfz14_1, hfz14_2, hfz14_3, hfz14_4⟩ := fz5_ BK147.out
      go_wp2_with (first | ((with_reducible refine gate_callee (f := 99) rfl ?_); refine ga_ (some 6) Try.func99 #[.slice A0_0 l0_0.length c0_0] ?_; (with_reducible refine (spec_l4Legs.calls k _ _ l0_0 true _ ?side1 ?side2 A4.out).mono ?_); (case side1 => exact kc_ (Kd.C_below HR0_0.out HB.out)); (case side2 => exact HC0_0.out); rintro e w15 ⟨rfl, hb⟩; refine ⟨_, rfl, ?_⟩; replace BK147 := Aside0.mk (bb_ (bk_ BK147.out) hb); replace HB := Aside0.mk (below_step (lb1_ HB.out GE147.out) hb); (try clear hb); (try clear hb2); (try clear hk); (try clear hi); obtain ⟨hcz16_0, hcz16_1, hcz16_2, hcz16_3, hcz16_4⟩ := cz5_ BK147.out; obtain ⟨hfz16_0, hfz16_1, hfz16_2, hfz16_3, hfz16_4⟩ := fz5_ BK147.out) | (go_at_call 100; (with_reducible refine (spec_l4Station.calls a0_3 false _ A8.out).mono ?_); rintro e w' ⟨rfl, ⟨nd, rfl⟩⟩))
      go_meet
      case rel => exact ⟨_, (true), (by first | rfl | (simp; done) | (simp [*]; done)), H', ⟨by first | omega | exact Nat.le_refl _⟩, ⟨bk_ BK147.out⟩, ⟨lb1_ HB.out GE147.out⟩⟩
    ·
     rw [if_neg c7] at H
     have c7b0 : ((l0_2.length : Int) == 8) = false := beq_eq_false_iff_ne.mpr c7
     have c7b1 : ((l0_2.length : Int) != 8) = true := bne_iff_ne.mpr c7
     have H' := Aside0.mk H
     clear H
     obtain ⟨hcz17_0, hcz17_1, hcz17_2, hcz17_3, hcz17_4⟩ := cz5_ BK147.out
     obtain ⟨hfz17_0, hfz17_1, hfz17_2, hfz17_3, hfz17_4⟩ := fz5_ BK147.out
     go_wp2_with (first | ((with_reducible refine gate_callee (f := 99) rfl ?_); refine ga_ (some 6) Try.func99 #[.slice A0_0 l0_0.length c0_0] ?_; (with_reducible refine (spec_l4Legs.calls k _ _ l0_0 true _ ?side1 ?side2 A4.out).mono ?_); (case side1 => exact kc_ (Kd.C_below HR0_0.out HB.out)); (case side2 => exact HC0_0.out); rintro e w18 ⟨rfl, hb⟩; refine ⟨_, rfl, ?_⟩; replace BK147 := Aside0.mk (bb_ (bk_ BK147.out) hb); replace HB := Aside0.mk (below_step (lb1_ HB.out GE147.out) hb); (try clear hb); (try clear hb2); (try clear hk); (try clear hi); obtain ⟨hcz19_0, hcz19_1, hcz19_2, hcz19_3, hcz19_4⟩ := cz5_ BK147.out; obtain ⟨hfz19_0, hfz19_1, hfz19_2, hfz19_3, hfz19_4⟩ := fz5_ BK147.out))
     go_meet
     case rel => exact ⟨_, (true), (by first | rfl | (simp; done) | (simp [*]; done)), H', ⟨by first | omega | exact Nat.le_refl _⟩, ⟨bk_ BK147.out⟩, ⟨lb1_ HB.out GE147.out⟩⟩
   ·
    rw [if_neg c6] at H
    have c6b0 : ((l0_1.length : Int) == 8) = false := beq_eq_false_iff_ne.mpr c6
    have c6b1 : ((l0_1.length : Int) != 8) = true := bne_iff_ne.mpr c6
    (first | rw [c6b0] | (simp only [i64_w, i32_w]; rw [c6b0]) | skip)
    have H' := Aside0.mk H
    clear H
    obtain ⟨hcz20_0, hcz20_1, hcz20_2, hcz20_3, hcz20_4⟩ := cz5_ BK147.out
    obtain ⟨hfz20_0, hfz20_1, hfz20_2, hfz20_3, hfz20_4⟩ := fz5_ BK147.out
    go_wp2_with (first | ((with_reducible refine gate_callee (f := 99) rfl ?_); refine ga_ (some 6) Try.func99 #[.slice A0_0 l0_0.length c0_0] ?_; (with_reducible refine (spec_l4Legs.calls k _ _ l0_0 true _ ?side1 ?side2 A4.out).mono ?_); (case side1 => exact kc_ (Kd.C_below HR0_0.out HB.out)); (case side2 => exact HC0_0.out); rintro e w21 ⟨rfl, hb⟩; refine ⟨_, rfl, ?_⟩; replace BK147 := Aside0.mk (bb_ (bk_ BK147.out) hb); replace HB := Aside0.mk (below_step (lb1_ HB.out GE147.out) hb); (try clear hb); (try clear hb2); (try clear hk); (try clear hi); obtain ⟨hcz22_0, hcz22_1, hcz22_2, hcz22_3, hcz22_4⟩ := cz5_ BK147.out; obtain ⟨hfz22_0, hfz22_1, hfz22_2, hfz22_3, hfz22_4⟩ := fz5_ BK147.out))
    go_meet
    case rel => exact ⟨_, (true), (by first | rfl | (simp; done) | (simp [*]; done)), H', ⟨by first | omega | exact Nat.le_refl _⟩, ⟨bk_ BK147.out⟩, ⟨lb1_ HB.out GE147.out⟩⟩
  ·
   replace c5 := Bool.eq_false_iff.mpr c5
   subst c5
   have H1 : (spec_l25Good.j0 k true l0_0 l0_1 l0_2 a0_3 a0_4) = some r := by rw [if_neg (show ¬ (false = true) by decide)] at H; exact H
   clear H
   have H := H1
   clear H1
   have H' := Aside0.mk H
   clear H
   obtain ⟨hcz23_0, hcz23_1, hcz23_2, hcz23_3, hcz23_4⟩ := cz5_ BK147.out
   obtain ⟨hfz23_0, hfz23_1, hfz23_2, hfz23_3, hfz23_4⟩ := fz5_ BK147.out
   go_wp2_with (first | ((with_reducible refine gate_callee (f := 99) rfl ?_); refine ga_ (some 6) Try.func99 #[.slice A0_0 l0_0.length c0_0] ?_; (with_reducible refine (spec_l4Legs.calls k _ _ l0_0 false _ ?side1 ?side2 A4.out).mono ?_); (case side1 => exact kc_ (Kd.C_below HR0_0.out HB.out)); (case side2 => exact HC0_0.out); rintro e w24 ⟨rfl, hb⟩; refine ⟨_, rfl, ?_⟩; replace BK147 := Aside0.mk (bb_ (bk_ BK147.out) hb); replace HB := Aside0.mk (below_step (lb1_ HB.out GE147.out) hb); (try clear hb); (try clear hb2); (try clear hk); (try clear hi)))
   go_meet
   case rel => exact ⟨_, (true), (by first | rfl | (simp; done) | (simp [*]; done)), H', ⟨by first | omega | exact Nat.le_refl _⟩, ⟨bk_ BK147.out⟩, ⟨lb1_ HB.out GE147.out⟩⟩
 case rest =>
  clear HC2
  try clear p2
  try clear c5
  try clear c6
  try clear c6b0
  try clear c6b1
  try clear c7
  try clear c7b0
  try clear c7b1
  try clear c9
  try clear hcz11_0 hcz11_1 hcz11_2 hcz11_3 hcz11_4
  try clear hcz13_0 hcz13_1 hcz13_2 hcz13_3 hcz13_4
  try clear hcz14_0 hcz14_1 hcz14_2 hcz14_3 hcz14_4
  try clear hcz16_0 hcz16_1 hcz16_2 hcz16_3 hcz16_4
  try clear hcz17_0 hcz17_1 hcz17_2 hcz17_3 hcz17_4
  try clear hcz19_0 hcz19_1 hcz19_2 hcz19_3 hcz19_4
  try clear hcz20_0 hcz20_1 hcz20_2 hcz20_3 hcz20_4
  try clear hcz22_0 hcz22_1 hcz22_2 hcz22_3 hcz22_4
  try clear hcz23_0 hcz23_1 hcz23_2 hcz23_3 hcz23_4
  try clear hfz11_0 hfz11_1 hfz11_2 hfz11_3 hfz11_4
  try clear hfz13_0 hfz13_1 hfz13_2 hfz13_3 hfz13_4
  try clear hfz14_0 hfz14_1 hfz14_2 hfz14_3 hfz14_4
  try clear hfz16_0 hfz16_1 hfz16_2 hfz16_3 hfz16_4
  try clear hfz17_0 hfz17_1 hfz17_2 hfz17_3 hfz17_4
  try clear hfz19_0 hfz19_1 hfz19_2 hfz19_3 hfz19_4
  try clear hfz20_0 hfz20_1 hfz20_2 hfz20_3 hfz20_4
  try clear hfz22_0 hfz22_1 hfz22_2 hfz22_3 hfz22_4
  try clear hfz23_0 hfz23_1 hfz23_2 hfz23_3 hfz23_4
  obtain ⟨kq, x31_1, rfl, HA, HJ1, BK147, HB⟩ := hcut
  cases kq with
  | zero => exact absurd HA.out (by simp [spec_l25Good.j0])
  | succ kj1 =>
   have H := HA.out
   clear HA
   simp only [spec_l25Good.j0] at H
   by_cases c25 : x31_1 = true
   ·
    subst c25
    have H1 : (some false) = some r := by rw [if_pos rfl] at H; exact H
    clear H
    have H := H1
    clear H1
    obtain rfl := Option.some.inj H
    go_wp2
    go_ret
    exact ⟨rr_, lb1_ HB.out GE147.out⟩
   ·
    replace c25 := Bool.eq_false_iff.mpr c25
    subst c25
    have H1 : (if 0 < (l0_1.length : Int) then (if rdOf false l0_1 0 = true then (if 0 ≤ a0_3 then (if a0_3 < (l0_1.length : Int) then (if rdOf false l0_1 a0_3 = true then ((spec_l25Out.f kj1 l0_0 l0_1 a0_3).bind fun t153 => (if t153 ≥ 0 then (some (decide (t153 ≤ a0_4))) else (some false))) else (some false)) else (none)) else (none)) else (some false)) else (none)) = some r := by rw [if_neg (show ¬ (false = true) by decide)] at H; exact H
    clear H
    have H := H1
    clear H1
    by_cases c26 : 0 < (l0_1.length : Int)
    ·
     rw [if_pos c26] at H
     have c26b0 : decide (0 < (l0_1.length : Int)) = true := decide_eq_true c26
     have c26b1 : decide (0 < l0_1.length) = true := decide_eq_true (by omega)
     clear c26
     obtain ⟨bq27, hbq27⟩ : ∃ b_ : Bool, b_ = (rdOf false l0_1 0) := ⟨_, rfl⟩
     replace H : (if bq27 = true then (if 0 ≤ a0_3 then (if a0_3 < (l0_1.length : Int) then (if rdOf false l0_1 a0_3 = true then ((spec_l25Out.f kj1 l0_0 l0_1 a0_3).bind fun t153 => (if t153 ≥ 0 then (some (decide (t153 ≤ a0_4))) else (some false))) else (some false)) else (none)) else (none)) else (some false)) = some r := by rw [← hbq27] at H; exact H
     have Nbq27 := Aside0.mk hbq27
     clear hbq27
     by_cases c28 : bq27 = true
     ·
      subst c28
      have H1 : (if 0 ≤ a0_3 then (if a0_3 < (l0_1.length : Int) then (if rdOf false l0_1 a0_3 = true then ((spec_l25Out.f kj1 l0_0 l0_1 a0_3).bind fun t153 => (if t153 ≥ 0 then (some (decide (t153 ≤ a0_4))) else (some false))) else (some false)) else (none)) else (none)) = some r := by rw [if_pos rfl] at H; exact H
      clear H
      have H := H1
      clear H1
      by_cases c29 : 0 ≤ a0_3
      ·
       rw [if_pos c29] at H
       have c29b0 : decide (0 ≤ a0_3) = true := decide_eq_true c29
       clear c29
       by_cases c30 : a0_3 < (l0_1.length : Int)
       ·
        rw [if_pos c30] at H
        have c30b0 : decide (a0_3 < (l0_1.length : Int)) = true := decide_eq_true c30; clear c30
        obtain ⟨bq31, hbq31⟩ : ∃ b_ : Bool, b_ = (rdOf false l0_1 a0_3) := ⟨_, rfl⟩
        replace H : (if bq31 = true then ((spec_l25Out.f kj1 l0_0 l0_1 a0_3).bind fun t153 => (if t153 ≥ 0 then (some (decide (t153 ≤ a0_4))) else (some false))) else (some false)) = some r := by rw [← hbq31] at H; exact H
        have Nbq31 := Aside0.mk hbq31; clear hbq31
        by_cases c32 : bq31 = true
        ·
         subst c32
         have H1 : ((spec_l25Out.f kj1 l0_0 l0_1 a0_3).bind fun t153 => (if t153 ≥ 0 then (some (decide (t153 ≤ a0_4))) else (some false))) = some r := by rw [if_pos rfl] at H; exact H
         clear H; have H := H1; clear H1; replace H := Option.bind_eq_some_iff.mp H; obtain ⟨t153, A330, H⟩ := H; replace H : (if t153 ≥ 0 then (some (decide (t153 ≤ a0_4))) else (some false)) = some r := H; have A33 := Aside0.mk A330; clear A330
         by_cases c34 : t153 ≥ 0
         ·
          rw [if_pos c34] at H
          have c34b0 : decide (0 ≤ t153) = true := decide_eq_true c34; clear c34; obtain rfl := Option.some.inj H; obtain ⟨hcz35_0, hcz35_1, hcz35_2, hcz35_3, hcz35_4⟩ := cz5_ BK147.out; obtain ⟨hfz35_0, hfz35_1, hfz35_2, hfz35_3, hfz35_4⟩ := fz5_ BK147.out
          have p151 : 0 ≤ (0 : Int) := (by omega)
          have q151 : 0 < (l0_1.length : Int) := dt_; obtain ⟨ad151, e151, hx151_0⟩ := Kd.at_bool HR0_1.out 0 p151 q151; (try rw [← Nbq27.out] at hx151_0); (try rw [← Nbq31.out] at hx151_0)
          cases e151
          have qi151 : (0 < l0_1.length) = True := eq_true (by omega); (try rw [show ((0 : Int)).toNat = 0 from rfl] at hx151_0); (try rw [Addr.add_zero'] at hx151_0); replace hx151_0 := bc_ HB.out hx151_0; replace p151 := eq_true p151; replace q151 := eq_true q151; have p152 : 0 ≤ (a0_3 : Int) := dt_; have q152 : a0_3 < (l0_1.length : Int) := dt_; obtain ⟨ad152, e152, hx152_0⟩ := Kd.at_bool HR0_1.out a0_3 p152 q152; (try rw [← Nbq27.out] at hx152_0); (try rw [← Nbq31.out] at hx152_0)
          obtain rfl : ad151 = ad152 := (by injection e152)
          replace hx152_0 := bc_ HB.out hx152_0; replace p152 := eq_true p152; replace q152 := eq_true q152
          go_wp2_with (first | ((with_reducible refine gate_callee (f := 88) rfl ?_); refine ga_ (some 52) Try.func88 #[.slice A0_0 l0_0.length c0_0, .slice (some ad151) l0_1.length c0_1, .int .i64 a0_3] ?_; (with_reducible refine (spec_l25Out.calls kj1 _ _ l0_0 _ _ l0_1 a0_3 t153 _ ?side1 ?side2 ?side3 ?side4 A33.out).mono ?_); (case side1 => exact kc_ (Kd.C_below HR0_0.out HB.out)); (case side2 => exact HC0_0.out); (case side3 => exact kc_ (Kd.C_below HR0_1.out HB.out)); (case side4 => exact HC0_1.out); rintro e w36 ⟨rfl, hb⟩; refine ⟨_, rfl, ?_⟩; replace BK147 := Aside0.mk (bb_ (bk_ BK147.out) hb); replace HB := Aside0.mk (below_step (lb1_ HB.out GE147.out) hb); (try clear hb); (try clear hb2); (try clear hk); (try clear hi); obtain ⟨hcz37_0, hcz37_1, hcz37_2, hcz37_3, hcz37_4⟩ := cz5_ BK147.out; obtain ⟨hfz37_0, hfz37_1, hfz37_2, hfz37_3, hfz37_4⟩ := fz5_ BK147.out))
          go_ret
          exact ⟨rr_, lb1_ HB.out GE147.out⟩
         ·
          rw [if_neg c34] at H
          have c34b0 : decide (0 ≤ t153) = false := decide_eq_false c34; clear c34; obtain rfl := Option.some.inj H; obtain ⟨hcz38_0, hcz38_1, hcz38_2, hcz38_3, hcz38_4⟩ := cz5_ BK147.out; obtain ⟨hfz38_0, hfz38_1, hfz38_2, hfz38_3, hfz38_4⟩ := fz5_ BK147.out
          have p151 : 0 ≤ (0 : Int) := (by omega)
          have q151 : 0 < (l0_1.length : Int) := dt_; obtain ⟨ad151, e151, hx151_0⟩ := Kd.at_bool HR0_1.out 0 p151 q151; (try rw [← Nbq27.out] at hx151_0); (try rw [← Nbq31.out] at hx151_0)
          cases e151
          have qi151 : (0 < l0_1.length) = True := eq_true (by omega); (try rw [show ((0 : Int)).toNat = 0 from rfl] at hx151_0); (try rw [Addr.add_zero'] at hx151_0); replace hx151_0 := bc_ HB.out hx151_0; replace p151 := eq_true p151; replace q151 := eq_true q151; have p152 : 0 ≤ (a0_3 : Int) := dt_; have q152 : a0_3 < (l0_1.length : Int) := dt_; obtain ⟨ad152, e152, hx152_0⟩ := Kd.at_bool HR0_1.out a0_3 p152 q152; (try rw [← Nbq27.out] at hx152_0); (try rw [← Nbq31.out] at hx152_0)
          obtain rfl : ad151 = ad152 := (by injection e152)
          replace hx152_0 := bc_ HB.out hx152_0; replace p152 := eq_true p152; replace q152 := eq_true q152
          go_wp2_with (first | ((with_reducible refine gate_callee (f := 88) rfl ?_); refine ga_ (some 52) Try.func88 #[.slice A0_0 l0_0.length c0_0, .slice (some ad151) l0_1.length c0_1, .int .i64 a0_3] ?_; (with_reducible refine (spec_l25Out.calls kj1 _ _ l0_0 _ _ l0_1 a0_3 t153 _ ?side1 ?side2 ?side3 ?side4 A33.out).mono ?_); (case side1 => exact kc_ (Kd.C_below HR0_0.out HB.out)); (case side2 => exact HC0_0.out); (case side3 => exact kc_ (Kd.C_below HR0_1.out HB.out)); (case side4 => exact HC0_1.out); rintro e w39 ⟨rfl, hb⟩; refine ⟨_, rfl, ?_⟩; replace BK147 := Aside0.mk (bb_ (bk_ BK147.out) hb); replace HB := Aside0.mk (below_step (lb1_ HB.out GE147.out) hb); (try clear hb); (try clear hb2); (try clear hk); (try clear hi)))
          go_ret
          exact ⟨rr_, lb1_ HB.out GE147.out⟩
        ·
         replace c32 := Bool.eq_false_iff.mpr c32; subst c32
         have H1 : (some false) = some r := by rw [if_neg (show ¬ (false = true) by decide)] at H; exact H
         clear H; have H := H1; clear H1; obtain rfl := Option.some.inj H; obtain ⟨hcz40_0, hcz40_1, hcz40_2, hcz40_3, hcz40_4⟩ := cz5_ BK147.out; obtain ⟨hfz40_0, hfz40_1, hfz40_2, hfz40_3, hfz40_4⟩ := fz5_ BK147.out
         have p151 : 0 ≤ (0 : Int) := (by omega)
         have q151 : 0 < (l0_1.length : Int) := dt_; obtain ⟨ad151, e151, hx151_0⟩ := Kd.at_bool HR0_1.out 0 p151 q151; (try rw [← Nbq27.out] at hx151_0); (try rw [← Nbq31.out] at hx151_0)
         cases e151
         have qi151 : (0 < l0_1.length) = True := eq_true (by omega); (try rw [show ((0 : Int)).toNat = 0 from rfl] at hx151_0); (try rw [Addr.add_zero'] at hx151_0); replace hx151_0 := bc_ HB.out hx151_0; replace p151 := eq_true p151; replace q151 := eq_true q151; have p152 : 0 ≤ (a0_3 : Int) := dt_; have q152 : a0_3 < (l0_1.length : Int) := dt_; obtain ⟨ad152, e152, hx152_0⟩ := Kd.at_bool HR0_1.out a0_3 p152 q152; (try rw [← Nbq27.out] at hx152_0); (try rw [← Nbq31.out] at hx152_0)
         obtain rfl : ad151 = ad152 := (by injection e152)
         replace hx152_0 := bc_ HB.out hx152_0; replace p152 := eq_true p152; replace q152 := eq_true q152
         go_wp2
         go_ret
         exact ⟨rr_, lb1_ HB.out GE147.out⟩
       ·
        rw [if_neg c30] at H
        exact absurd H (by simp)
      ·
       rw [if_neg c29] at H
       exact absurd H (by simp)
     ·
      replace c28 := Bool.eq_false_iff.mpr c28
      subst c28
      have H1 : (some false) = some r := by rw [if_neg (show ¬ (false = true) by decide)] at H; exact H
      clear H
      have H := H1
      clear H1
      obtain rfl := Option.some.inj H
      obtain ⟨hcz41_0, hcz41_1, hcz41_2, hcz41_3, hcz41_4⟩ := cz5_ BK147.out
      obtain ⟨hfz41_0, hfz41_1, hfz41_2, hfz41_3, hfz41_4⟩ := fz5_ BK147.out
      have p151 : 0 ≤ (0 : Int) := (by omega)
      have q151 : 0 < (l0_1.length : Int) := dt_
      obtain ⟨ad151, e151, hx151_0⟩ := Kd.at_bool HR0_1.out 0 p151 q151
      (try rw [← Nbq27.out] at hx151_0)
      cases e151
      have qi151 : (0 < l0_1.length) = True := eq_true (by omega)
      (try rw [show ((0 : Int)).toNat = 0 from rfl] at hx151_0)
      (try rw [Addr.add_zero'] at hx151_0)
      replace hx151_0 := bc_ HB.out hx151_0
      replace p151 := eq_true p151
      replace q151 := eq_true q151
      go_wp2
      go_ret
      exact ⟨rr_, lb1_ HB.out GE147.out⟩
    ·
     rw [if_neg c26] at H
     exact absurd H (by simp)
theorem eqA37 (d : Nat) (w : World) (x0 y0 : Int) (x1 y1 : Int) (x2 y2 : Int) (x3 y3 : Int) (x4 y4 : Int) :
  (Op.equalIn (d + 2) 37 (.agg #[.int .i64 x0, .int .i64 x1, .int .i64 x2, .int .i64 x3, .int .i64 x4]) (.agg #[.int .i64 y0, .int .i64 y1, .int .i64 y2, .int .i64 y3, .int .i64 y4])).run Try.prog w = .ok (x0 == y0 && (x1 == y1 && (x2 == y2 && (x3 == y3 && (x4 == y4))))) w := by
 refine eqA_of Try.underlying37 (by kernel_rfl) ?_
 refine eqf_cons (by rfl) (by go_simp; rfl) (by go_simp; rfl) (by go_simp) ?_
 refine eqf_cons (by rfl) (by go_simp; rfl) (by go_simp; rfl) (by go_simp) ?_
 refine eqf_cons (by rfl) (by go_simp; rfl) (by go_simp; rfl) (by go_simp) ?_
 refine eqf_cons (by rfl) (by go_simp; rfl) (by go_simp; rfl) (by go_simp) ?_
 exact eqf_last (by rfl) (by go_simp; rfl) (by go_simp; rfl) (by go_simp)
end Go.Proofs.Ythmjimboajmhmaa.Pr

namespace Go.Proofs.Ythmjimboajmhmaa.Pr
open Go.RowKit Go.Proofs.YthmjimboajmhmaaW.PrintWords Go.Proofs.YthmjimboajmhmaaW.PrintLast Go.Proofs.YthmjimboajmhmaaW.PrintMore
attribute [local go_sem] max2_int min2_int max_two min_two max_three min_three max_four min_four   -- for this text's walks alone
set_option linter.unusedVariables false
set_option linter.unusedSimpArgs false
attribute [local go_sem high] eqA37
def spec_l25Walk.f (l0_0 : List (S37)) (l0_1 : List Bool) (l0_2 : List Bool) (a0_3 : Int) (a0_4 : Int) (a1_0 : Int) (a1_1 : Int) (a1_2 : Int) (a1_3 : Int) (a1_4 : Int) (a1_5 : Int) (a1_6 : Int) : Option (Bool) := if a1_0 = 1 then ((spec_l1In.f a1_1 0 (wrap64 ((l0_0.length : Int) - 1))).bind fun t281 => (if t281 = true then (some (a1_2 == 0 && (a1_3 == 0 && (a1_4 == 0 && (a1_5 == 0 && (a1_6 == 0)))))) else (some false))) else (if a1_0 = 2 then (if a1_1 = 0 then ((spec_l4Leg.f a1_2 a1_3 a1_4 a1_5 a1_6).bind fun t282 => (some t282)) else (some false)) else (if a1_0 = 3 then (if a1_1 = 0 then (some (a1_2 == 0 && (a1_3 == 0 && (a1_4 == 0 && (a1_5 == 0 && (a1_6 == 0)))))) else (some false)) else (if a1_0 = 4 then ((spec_l1In.f a1_1 1 1000).bind fun t283 => (if t283 = true then (some (a1_2 == 0 && (a1_3 == 0 && (a1_4 == 0 && (a1_5 == 0 && (a1_6 == 0)))))) else (some false))) else (some false))))
theorem spec_l25Walk.calls (A0_0 : Option Addr) (c0_0 : Nat) (l0_0 : List (S37)) (A0_1 : Option Addr) (c0_1 : Nat) (l0_1 : List Bool) (A0_2 : Option Addr) (c0_2 : Nat) (l0_2 : List Bool) (a0_3 : Int) (a0_4 : Int) (a1_0 : Int) (a1_1 : Int) (a1_2 : Int) (a1_3 : Int) (a1_4 : Int) (a1_5 : Int) (a1_6 : Int) (r : Bool) (w : World) (hr0_0 : Kd.C k37 w A0_0 l0_0.length l0_0) (hc0_0 : l0_0.length ≤ c0_0) (hr0_1 : Kd.C Kd.bool w A0_1 l0_1.length l0_1) (hc0_1 : l0_1.length ≤ c0_1) (hr0_2 : Kd.C Kd.bool w A0_2 l0_2.length l0_2) (hc0_2 : l0_2.length ≤ c0_2) (h : spec_l25Walk.f l0_0 l0_1 l0_2 a0_3 a0_4 a1_0 a1_1 a1_2 a1_3 a1_4 a1_5 a1_6 = some r) :
  Calls Try.prog 77 #[.agg #[.slice A0_0 l0_0.length c0_0, .slice A0_1 l0_1.length c0_1, .slice A0_2 l0_2.length c0_2, .int .i64 a0_3, .int .i64 a0_4], .agg #[.int .i64 a1_0, .int .i64 a1_1, .int .i64 a1_2, .int .i64 a1_3, .int .i64 a1_4, .int .i64 a1_5, .int .i64 a1_6]] w fun e w' => e = .returned (.bool r) ∧ Below w.heap.size w w' := by
 have hu30 := Try.underlying30
 have hu39 := Try.underlying39
 have hu37 := Try.underlying37
 have HR0_0 := Aside0.mk hr0_0
 have HC0_0 := Aside0.mk hc0_0
 clear hr0_0 hc0_0
 have HR0_1 := Aside0.mk hr0_1
 have HC0_1 := Aside0.mk hc0_1
 clear hr0_1 hc0_1
 have HR0_2 := Aside0.mk hr0_2
 have HC0_2 := Aside0.mk hc0_2
 clear hr0_2 hc0_2
 have HB := Aside0.mk (Below.refl w.heap.size w)
 have H : (if a1_0 = 1 then ((spec_l1In.f a1_1 0 (wrap64 ((l0_0.length : Int) - 1))).bind fun t281 => (if t281 = true then (some (a1_2 == 0 && (a1_3 == 0 && (a1_4 == 0 && (a1_5 == 0 && (a1_6 == 0)))))) else (some false))) else (if a1_0 = 2 then (if a1_1 = 0 then ((spec_l4Leg.f a1_2 a1_3 a1_4 a1_5 a1_6).bind fun t282 => (some t282)) else (some false)) else (if a1_0 = 3 then (if a1_1 = 0 then (some (a1_2 == 0 && (a1_3 == 0 && (a1_4 == 0 && (a1_5 == 0 && (a1_6 == 0)))))) else (some false)) else (if a1_0 = 4 then ((spec_l1In.f a1_1 1 1000).bind fun t283 => (if t283 = true then (some (a1_2 == 0 && (a1_3 == 0 && (a1_4 == 0 && (a1_5 == 0 && (a1_6 == 0)))))) else (some false))) else (some false))))) = some r := h
 clear h
 by_cases c3 : a1_0 = 1
 ·
  rw [if_pos c3] at H
  have c3b0 : (a1_0 == 1) = true := beq_iff_eq.mpr c3
  have c3b1 : (a1_0 != 1) = false := bne_eq_false_iff_eq.mpr c3
  clear c3
  replace H := Option.bind_eq_some_iff.mp H
  obtain ⟨t281, A40, H⟩ := H
  replace H : (if t281 = true then (some (a1_2 == 0 && (a1_3 == 0 && (a1_4 == 0 && (a1_5 == 0 && (a1_6 == 0)))))) else (some false)) = some r := H
  have A4 := Aside0.mk A40
  clear A40
  by_cases c5 : t281 = true
  ·
   subst c5
   have H1 : (some (a1_2 == 0 && (a1_3 == 0 && (a1_4 == 0 && (a1_5 == 0 && (a1_6 == 0)))))) = some r := by rw [if_pos rfl] at H; exact H
   clear H
   have H := H1
   clear H1
   obtain rfl := Option.some.inj H
   go_enter Try.func77, Try.ntmps77
   go_wp2_with (first | ((with_reducible refine gate_dst (N := 2) rfl ?_); refine box_event ?hg (N := 2) ?hd (cs := #[.slice A0_0 l0_0.length c0_0, .slice A0_1 l0_1.length c0_1, .slice A0_2 l0_2.length c0_2, .int .i64 a0_3, .int .i64 a0_4]) (t := 30) ?hr ?_; (case hd => rfl); (case hg => rfl); (case hr => first | (go_simp; done) | (go_simp; rfl)); intro gb278 hg w6 hbox hb; have BK278 := Aside0.mk (hbox); have GW278 := Aside0.mk ((bz_ hg (lb0_ HB.out))); have GE278 := Aside0.mk ((bz_ hg (lb0_ HB.out))); replace HB := Aside0.mk (below_step (lb0_ HB.out) hb); clear hb hbox hg) | ((with_reducible refine gate_dst (N := 3) rfl ?_); refine box_event ?hg (N := 3) ?hd (cs := #[.int .i64 a1_0, .int .i64 a1_1, .int .i64 a1_2, .int .i64 a1_3, .int .i64 a1_4, .int .i64 a1_5, .int .i64 a1_6]) (t := 39) ?hr ?_; (case hd => rfl); (case hg => rfl); (case hr => first | (go_simp; done) | (go_simp; rfl)); intro gb279 hg w7 hbox hb; have BK279 := Aside0.mk (hbox); have GW279 := Aside0.mk ((bz_ hg (lb1_ HB.out GE278.out))); have GE279 := Aside0.mk ((bz_ hg (lb1_ HB.out GE278.out))); replace HB := Aside0.mk (below_step (lb1_ HB.out GE278.out) hb); have NB278_279 := Aside0.mk (nl_ hg BK278.out); have NB279_278 := Aside0.mk (ng_ hg BK278.out); replace BK278 := Aside0.mk (bb_ (bk_ BK278.out) hb); clear hb hbox hg) | ((with_reducible refine gate_dst (N := 5) rfl ?_); refine box_event ?hg (N := 5) ?hd (cs := #[.int .i64 0, .int .i64 0, .int .i64 0, .int .i64 0, .int .i64 0]) (t := 37) ?hr ?_; (case hd => rfl); (case hg => rfl); (case hr => first | (go_simp; done) | (go_simp; rfl)); intro gb280 hg w8 hbox hb; have BK280 := Aside0.mk (hbox); have GW280 := Aside0.mk ((bz_ hg (lb2_ HB.out GE278.out GE279.out))); have GE280 := Aside0.mk ((bz_ hg (lb2_ HB.out GE278.out GE279.out))); replace HB := Aside0.mk (below_step (lb2_ HB.out GE278.out GE279.out) hb); have NB278_280 := Aside0.mk (nl_ hg BK278.out); have NB280_278 := Aside0.mk (ng_ hg BK278.out); replace BK278 := Aside0.mk (bb_ (bk_ BK278.out) hb); have NB279_280 := Aside0.mk (nl_ hg BK279.out); have NB280_279 := Aside0.mk (ng_ hg BK279.out); replace BK279 := Aside0.mk (bb_ (bk_ BK279.out) hb); clear hb hbox hg; have hnb9 := NB280_278.out; have hnc9 := NB278_280.out; have hnb10 := NB280_279.out; have hnc10 := NB279_280.out; obtain ⟨hcz11_0, hcz11_1, hcz11_2, hcz11_3, hcz11_4⟩ := cz5_ BK280.out; obtain ⟨hfz11_0, hfz11_1, hfz11_2, hfz11_3, hfz11_4⟩ := fz5_ BK280.out; have hnb12 := NB279_278.out; have hnc12 := NB278_279.out; obtain ⟨hcz13_0, hcz13_1, hcz13_2, hcz13_3, hcz13_4, hcz13_5, hcz13_6⟩ := cz7_ BK279.out; obtain ⟨hfz13_0, hfz13_1, hfz13_2, hfz13_3, hfz13_4, hfz13_5, hfz13_6⟩ := fz7_ BK279.out; obtain ⟨hcz14_0, hcz14_1, hcz14_2, hcz14_3, hcz14_4⟩ := cz5_ BK278.out; obtain ⟨hfz14_0, hfz14_1, hfz14_2, hfz14_3, hfz14_4⟩ := fz5_ BK278.out) | ((with_reducible refine gate_callee (f := 101) rfl ?_); refine ga_ (some 17) Try.func101 #[.int .i64 a1_1, .int .i64 0, .int .i64 (wrap64 ((l0_0.length : Int) - 1))] ?_; (with_reducible refine (spec_l1In.calls a1_1 0 (wrap64 ((l0_0.length : Int) - 1)) true _ A4.out).mono ?_); rintro e w' ⟨rfl, ⟨nd, rfl⟩⟩; refine ⟨_, rfl, ?_⟩))
   go_ret
   exact ⟨rr_, lb3_ HB.out GE278.out GE279.out GE280.out⟩
  ·
   replace c5 := Bool.eq_false_iff.mpr c5
   subst c5
   have H1 : (some false) = some r := by rw [if_neg (show ¬ (false = true) by decide)] at H; exact H
   clear H
   have H := H1
   clear H1
   obtain rfl := Option.some.inj H
   go_enter Try.func77, Try.ntmps77
   go_wp2_with (first | ((with_reducible refine gate_dst (N := 2) rfl ?_); refine box_event ?hg (N := 2) ?hd (cs := #[.slice A0_0 l0_0.length c0_0, .slice A0_1 l0_1.length c0_1, .slice A0_2 l0_2.length c0_2, .int .i64 a0_3, .int .i64 a0_4]) (t := 30) ?hr ?_; (case hd => rfl); (case hg => rfl); (case hr => first | (go_simp; done) | (go_simp; rfl)); intro gb278 hg w15 hbox hb; have BK278 := Aside0.mk (hbox); have GW278 := Aside0.mk ((bz_ hg (lb0_ HB.out))); have GE278 := Aside0.mk ((bz_ hg (lb0_ HB.out))); replace HB := Aside0.mk (below_step (lb0_ HB.out) hb); clear hb hbox hg) | ((with_reducible refine gate_dst (N := 3) rfl ?_); refine box_event ?hg (N := 3) ?hd (cs := #[.int .i64 a1_0, .int .i64 a1_1, .int .i64 a1_2, .int .i64 a1_3, .int .i64 a1_4, .int .i64 a1_5, .int .i64 a1_6]) (t := 39) ?hr ?_; (case hd => rfl); (case hg => rfl); (case hr => first | (go_simp; done) | (go_simp; rfl)); intro gb279 hg w16 hbox hb; have BK279 := Aside0.mk (hbox); have GW279 := Aside0.mk ((bz_ hg (lb1_ HB.out GE278.out))); have GE279 := Aside0.mk ((bz_ hg (lb1_ HB.out GE278.out))); replace HB := Aside0.mk (below_step (lb1_ HB.out GE278.out) hb); have NB278_279 := Aside0.mk (nl_ hg BK278.out); have NB279_278 := Aside0.mk (ng_ hg BK278.out); replace BK278 := Aside0.mk (bb_ (bk_ BK278.out) hb); clear hb hbox hg) | ((with_reducible refine gate_dst (N := 5) rfl ?_); refine box_event ?hg (N := 5) ?hd (cs := #[.int .i64 0, .int .i64 0, .int .i64 0, .int .i64 0, .int .i64 0]) (t := 37) ?hr ?_; (case hd => rfl); (case hg => rfl); (case hr => first | (go_simp; done) | (go_simp; rfl)); intro gb280 hg w17 hbox hb; have BK280 := Aside0.mk (hbox); have GW280 := Aside0.mk ((bz_ hg (lb2_ HB.out GE278.out GE279.out))); have GE280 := Aside0.mk ((bz_ hg (lb2_ HB.out GE278.out GE279.out))); replace HB := Aside0.mk (below_step (lb2_ HB.out GE278.out GE279.out) hb); have NB278_280 := Aside0.mk (nl_ hg BK278.out); have NB280_278 := Aside0.mk (ng_ hg BK278.out); replace BK278 := Aside0.mk (bb_ (bk_ BK278.out) hb); have NB279_280 := Aside0.mk (nl_ hg BK279.out); have NB280_279 := Aside0.mk (ng_ hg BK279.out); replace BK279 := Aside0.mk (bb_ (bk_ BK279.out) hb); clear hb hbox hg; have hnb18 := NB280_278.out; have hnc18 := NB278_280.out; have hnb19 := NB280_279.out; have hnc19 := NB279_280.out; obtain ⟨hcz20_0, hcz20_1, hcz20_2, hcz20_3, hcz20_4⟩ := cz5_ BK280.out; obtain ⟨hfz20_0, hfz20_1, hfz20_2, hfz20_3, hfz20_4⟩ := fz5_ BK280.out; have hnb21 := NB279_278.out; have hnc21 := NB278_279.out; obtain ⟨hcz22_0, hcz22_1, hcz22_2, hcz22_3, hcz22_4, hcz22_5, hcz22_6⟩ := cz7_ BK279.out; obtain ⟨hfz22_0, hfz22_1, hfz22_2, hfz22_3, hfz22_4, hfz22_5, hfz22_6⟩ := fz7_ BK279.out; obtain ⟨hcz23_0, hcz23_1, hcz23_2, hcz23_3, hcz23_4⟩ := cz5_ BK278.out; obtain ⟨hfz23_0, hfz23_1, hfz23_2, hfz23_3, hfz23_4⟩ := fz5_ BK278.out) | ((with_reducible refine gate_callee (f := 101) rfl ?_); refine ga_ (some 17) Try.func101 #[.int .i64 a1_1, .int .i64 0, .int .i64 (wrap64 ((l0_0.length : Int) - 1))] ?_; (with_reducible refine (spec_l1In.calls a1_1 0 (wrap64 ((l0_0.length : Int) - 1)) false _ A4.out).mono ?_); rintro e w' ⟨rfl, ⟨nd, rfl⟩⟩; refine ⟨_, rfl, ?_⟩))
   go_ret
   exact ⟨rr_, lb3_ HB.out GE278.out GE279.out GE280.out⟩
 ·
  rw [if_neg c3] at H
  have c3b0 : (a1_0 == 1) = false := beq_eq_false_iff_ne.mpr c3
  have c3b1 : (a1_0 != 1) = true := bne_iff_ne.mpr c3
  by_cases c24 : a1_0 = 2
  ·
   rw [if_pos c24] at H
   have c24b0 : (a1_0 == 2) = true := beq_iff_eq.mpr c24
   have c24b1 : (a1_0 != 2) = false := bne_eq_false_iff_eq.mpr c24
   clear c24
   by_cases c25 : a1_1 = 0
   ·
    rw [if_pos c25] at H
    have c25b0 : (a1_1 == 0) = true := beq_iff_eq.mpr c25
    have c25b1 : (a1_1 != 0) = false := bne_eq_false_iff_eq.mpr c25
    clear c25
    replace H := Option.bind_eq_some_iff.mp H
    obtain ⟨t282, A260, H⟩ := H
    replace H : (some t282) = some r := H
    have A26 := Aside0.mk A260
    clear A260
    obtain rfl := Option.some.inj H
    go_enter Try.func77, Try.ntmps77
    go_wp2_with (first | ((with_reducible refine gate_dst (N := 2) rfl ?_); refine box_event ?hg (N := 2) ?hd (cs := #[.slice A0_0 l0_0.length c0_0, .slice A0_1 l0_1.length c0_1, .slice A0_2 l0_2.length c0_2, .int .i64 a0_3, .int .i64 a0_4]) (t := 30) ?hr ?_; (case hd => rfl); (case hg => rfl); (case hr => first | (go_simp; done) | (go_simp; rfl)); intro gb278 hg w27 hbox hb; have BK278 := Aside0.mk (hbox); have GW278 := Aside0.mk ((bz_ hg (lb0_ HB.out))); have GE278 := Aside0.mk ((bz_ hg (lb0_ HB.out))); replace HB := Aside0.mk (below_step (lb0_ HB.out) hb); clear hb hbox hg) | ((with_reducible refine gate_dst (N := 3) rfl ?_); refine box_event ?hg (N := 3) ?hd (cs := #[.int .i64 a1_0, .int .i64 a1_1, .int .i64 a1_2, .int .i64 a1_3, .int .i64 a1_4, .int .i64 a1_5, .int .i64 a1_6]) (t := 39) ?hr ?_; (case hd => rfl); (case hg => rfl); (case hr => first | (go_simp; done) | (go_simp; rfl)); intro gb279 hg w28 hbox hb; have BK279 := Aside0.mk (hbox); have GW279 := Aside0.mk ((bz_ hg (lb1_ HB.out GE278.out))); have GE279 := Aside0.mk ((bz_ hg (lb1_ HB.out GE278.out))); replace HB := Aside0.mk (below_step (lb1_ HB.out GE278.out) hb); have NB278_279 := Aside0.mk (nl_ hg BK278.out); have NB279_278 := Aside0.mk (ng_ hg BK278.out); replace BK278 := Aside0.mk (bb_ (bk_ BK278.out) hb); clear hb hbox hg) | ((with_reducible refine gate_dst (N := 5) rfl ?_); refine box_event ?hg (N := 5) ?hd (cs := #[.int .i64 0, .int .i64 0, .int .i64 0, .int .i64 0, .int .i64 0]) (t := 37) ?hr ?_; (case hd => rfl); (case hg => rfl); (case hr => first | (go_simp; done) | (go_simp; rfl)); intro gb280 hg w29 hbox hb; have BK280 := Aside0.mk (hbox); have GW280 := Aside0.mk ((bz_ hg (lb2_ HB.out GE278.out GE279.out))); have GE280 := Aside0.mk ((bz_ hg (lb2_ HB.out GE278.out GE279.out))); replace HB := Aside0.mk (below_step (lb2_ HB.out GE278.out GE279.out) hb); have NB278_280 := Aside0.mk (nl_ hg BK278.out); have NB280_278 := Aside0.mk (ng_ hg BK278.out); replace BK278 := Aside0.mk (bb_ (bk_ BK278.out) hb); have NB279_280 := Aside0.mk (nl_ hg BK279.out); have NB280_279 := Aside0.mk (ng_ hg BK279.out); replace BK279 := Aside0.mk (bb_ (bk_ BK279.out) hb); clear hb hbox hg; have hnb30 := NB280_278.out; have hnc30 := NB278_280.out; have hnb31 := NB280_279.out; have hnc31 := NB279_280.out; obtain ⟨hcz32_0, hcz32_1, hcz32_2, hcz32_3, hcz32_4⟩ := cz5_ BK280.out; obtain ⟨hfz32_0, hfz32_1, hfz32_2, hfz32_3, hfz32_4⟩ := fz5_ BK280.out; have hnb33 := NB279_278.out; have hnc33 := NB278_279.out; obtain ⟨hcz34_0, hcz34_1, hcz34_2, hcz34_3, hcz34_4, hcz34_5, hcz34_6⟩ := cz7_ BK279.out; obtain ⟨hfz34_0, hfz34_1, hfz34_2, hfz34_3, hfz34_4, hfz34_5, hfz34_6⟩ := fz7_ BK279.out) | (go_at_call 106; (with_reducible refine (spec_l4Leg.calls a1_2 a1_3 a1_4 a1_5 a1_6 t282 _ A26.out).mono ?_); rintro e w35 ⟨rfl, hb⟩; replace BK278 := Aside0.mk (blk_below (g := gb278) (o := .cells #[.slice A0_0 l0_0.length c0_0, .slice A0_1 l0_1.length c0_1, .slice A0_2 l0_2.length c0_2, .int .i64 a0_3, .int .i64 a0_4] 30 (0, 0)) (by (with_reducible repeat (first | refine blk_drewN ?_ _ | refine blk_drew ?_ | refine blk_alloc ?_ _)); exact (f5_ BK278.out NB278_280.out _ _ _ _ _)) hb); replace BK279 := Aside0.mk (blk_below (g := gb279) (o := .cells #[.int .i64 a1_0, .int .i64 a1_1, .int .i64 a1_2, .int .i64 a1_3, .int .i64 a1_4, .int .i64 a1_5, .int .i64 a1_6] 39 (0, 0)) (by (with_reducible repeat (first | refine blk_drewN ?_ _ | refine blk_drew ?_ | refine blk_alloc ?_ _)); exact (f5_ BK279.out NB279_280.out _ _ _ _ _)) hb); replace BK280 := Aside0.mk (blk_below (g := gb280) (o := .cells #[.int .i64 0, .int .i64 0, .int .i64 0, .int .i64 0, .int .i64 0] 37 (0, 0)) (by (with_reducible repeat (first | refine blk_drewN ?_ _ | refine blk_drew ?_ | refine blk_alloc ?_ _)); exact (p5_ BK280.out _ _ _ _ _)) hb); replace HB := Aside0.mk (below_step (lb3_ HB.out GE278.out GE279.out GE280.out) hb); (try clear hb); (try clear hb2); (try clear hk); (try clear hi)))
    go_ret
    exact ⟨rr_, lb3_ HB.out GE278.out GE279.out GE280.out⟩
   ·
    rw [if_neg c25] at H
    have c25b0 : (a1_1 == 0) = false := beq_eq_false_iff_ne.mpr c25
    have c25b1 : (a1_1 != 0) = true := bne_iff_ne.mpr c25
    obtain rfl := Option.some.inj H
    go_enter Try.func77, Try.ntmps77
    go_wp2_with (first | ((with_reducible refine gate_dst (N := 2) rfl ?_); refine box_event ?hg (N := 2) ?hd (cs := #[.slice A0_0 l0_0.length c0_0, .slice A0_1 l0_1.length c0_1, .slice A0_2 l0_2.length c0_2, .int .i64 a0_3, .int .i64 a0_4]) (t := 30) ?hr ?_; (case hd => rfl); (case hg => rfl); (case hr => first | (go_simp; done) | (go_simp; rfl)); intro gb278 hg w36 hbox hb; have BK278 := Aside0.mk (hbox); have GW278 := Aside0.mk ((bz_ hg (lb0_ HB.out))); have GE278 := Aside0.mk ((bz_ hg (lb0_ HB.out))); replace HB := Aside0.mk (below_step (lb0_ HB.out) hb); clear hb hbox hg) | ((with_reducible refine gate_dst (N := 3) rfl ?_); refine box_event ?hg (N := 3) ?hd (cs := #[.int .i64 a1_0, .int .i64 a1_1, .int .i64 a1_2, .int .i64 a1_3, .int .i64 a1_4, .int .i64 a1_5, .int .i64 a1_6]) (t := 39) ?hr ?_; (case hd => rfl); (case hg => rfl); (case hr => first | (go_simp; done) | (go_simp; rfl)); intro gb279 hg w37 hbox hb; have BK279 := Aside0.mk (hbox); have GW279 := Aside0.mk ((bz_ hg (lb1_ HB.out GE278.out))); have GE279 := Aside0.mk ((bz_ hg (lb1_ HB.out GE278.out))); replace HB := Aside0.mk (below_step (lb1_ HB.out GE278.out) hb); have NB278_279 := Aside0.mk (nl_ hg BK278.out); have NB279_278 := Aside0.mk (ng_ hg BK278.out); replace BK278 := Aside0.mk (bb_ (bk_ BK278.out) hb); clear hb hbox hg) | ((with_reducible refine gate_dst (N := 5) rfl ?_); refine box_event ?hg (N := 5) ?hd (cs := #[.int .i64 0, .int .i64 0, .int .i64 0, .int .i64 0, .int .i64 0]) (t := 37) ?hr ?_; (case hd => rfl); (case hg => rfl); (case hr => first | (go_simp; done) | (go_simp; rfl)); intro gb280 hg w38 hbox hb; have BK280 := Aside0.mk (hbox); have GW280 := Aside0.mk ((bz_ hg (lb2_ HB.out GE278.out GE279.out))); have GE280 := Aside0.mk ((bz_ hg (lb2_ HB.out GE278.out GE279.out))); replace HB := Aside0.mk (below_step (lb2_ HB.out GE278.out GE279.out) hb); have NB278_280 := Aside0.mk (nl_ hg BK278.out); have NB280_278 := Aside0.mk (ng_ hg BK278.out); replace BK278 := Aside0.mk (bb_ (bk_ BK278.out) hb); have NB279_280 := Aside0.mk (nl_ hg BK279.out); have NB280_279 := Aside0.mk (ng_ hg BK279.out); replace BK279 := Aside0.mk (bb_ (bk_ BK279.out) hb); clear hb hbox hg; have hnb39 := NB280_278.out; have hnc39 := NB278_280.out; have hnb40 := NB280_279.out; have hnc40 := NB279_280.out; obtain ⟨hcz41_0, hcz41_1, hcz41_2, hcz41_3, hcz41_4⟩ := cz5_ BK280.out; obtain ⟨hfz41_0, hfz41_1, hfz41_2, hfz41_3, hfz41_4⟩ := fz5_ BK280.out; have hnb42 := NB279_278.out; have hnc42 := NB278_279.out; obtain ⟨hcz43_0, hcz43_1, hcz43_2, hcz43_3, hcz43_4, hcz43_5, hcz43_6⟩ := cz7_ BK279.out; obtain ⟨hfz43_0, hfz43_1, hfz43_2, hfz43_3, hfz43_4, hfz43_5, hfz43_6⟩ := fz7_ BK279.out))
    go_ret
    exact ⟨rr_, lb3_ HB.out GE278.out GE279.out GE280.out⟩
  ·
   rw [if_neg c24] at H
   have c24b0 : (a1_0 == 2) = false := beq_eq_false_iff_ne.mpr c24
   have c24b1 : (a1_0 != 2) = true := bne_iff_ne.mpr c24
   by_cases c44 : a1_0 = 3
   ·
    rw [if_pos c44] at H
    have c44b0 : (a1_0 == 3) = true := beq_iff_eq.mpr c44
    have c44b1 : (a1_0 != 3) = false := bne_eq_false_iff_eq.mpr c44
    clear c44
    by_cases c45 : a1_1 = 0
    ·
     rw [if_pos c45] at H
     have c45b0 : (a1_1 == 0) = true := beq_iff_eq.mpr c45
     have c45b1 : (a1_1 != 0) = false := bne_eq_false_iff_eq.mpr c45
     clear c45
     obtain rfl := Option.some.inj H
     go_enter Try.func77, Try.ntmps77
     go_wp2_with (first | ((with_reducible refine gate_dst (N := 2) rfl ?_); refine box_event ?hg (N := 2) ?hd (cs := #[.slice A0_0 l0_0.length c0_0, .slice A0_1 l0_1.length c0_1, .slice A0_2 l0_2.length c0_2, .int .i64 a0_3, .int .i64 a0_4]) (t := 30) ?hr ?_; (case hd => rfl); (case hg => rfl); (case hr => first | (go_simp; done) | (go_simp; rfl)); intro gb278 hg w46 hbox hb; have BK278 := Aside0.mk (hbox); have GW278 := Aside0.mk ((bz_ hg (lb0_ HB.out))); have GE278 := Aside0.mk ((bz_ hg (lb0_ HB.out))); replace HB := Aside0.mk (below_step (lb0_ HB.out) hb); clear hb hbox hg) | ((with_reducible refine gate_dst (N := 3) rfl ?_); refine box_event ?hg (N := 3) ?hd (cs := #[.int .i64 a1_0, .int .i64 a1_1, .int .i64 a1_2, .int .i64 a1_3, .int .i64 a1_4, .int .i64 a1_5, .int .i64 a1_6]) (t := 39) ?hr ?_; (case hd => rfl); (case hg => rfl); (case hr => first | (go_simp; done) | (go_simp; rfl)); intro gb279 hg w47 hbox hb; have BK279 := Aside0.mk (hbox); have GW279 := Aside0.mk ((bz_ hg (lb1_ HB.out GE278.out))); have GE279 := Aside0.mk ((bz_ hg (lb1_ HB.out GE278.out))); replace HB := Aside0.mk (below_step (lb1_ HB.out GE278.out) hb); have NB278_279 := Aside0.mk (nl_ hg BK278.out); have NB279_278 := Aside0.mk (ng_ hg BK278.out); replace BK278 := Aside0.mk (bb_ (bk_ BK278.out) hb); clear hb hbox hg) | ((with_reducible refine gate_dst (N := 5) rfl ?_); refine box_event ?hg (N := 5) ?hd (cs := #[.int .i64 0, .int .i64 0, .int .i64 0, .int .i64 0, .int .i64 0]) (t := 37) ?hr ?_; (case hd => rfl); (case hg => rfl); (case hr => first | (go_simp; done) | (go_simp; rfl)); intro gb280 hg w48 hbox hb; have BK280 := Aside0.mk (hbox); have GW280 := Aside0.mk ((bz_ hg (lb2_ HB.out GE278.out GE279.out))); have GE280 := Aside0.mk ((bz_ hg (lb2_ HB.out GE278.out GE279.out))); replace HB := Aside0.mk (below_step (lb2_ HB.out GE278.out GE279.out) hb); have NB278_280 := Aside0.mk (nl_ hg BK278.out); have NB280_278 := Aside0.mk (ng_ hg BK278.out); replace BK278 := Aside0.mk (bb_ (bk_ BK278.out) hb); have NB279_280 := Aside0.mk (nl_ hg BK279.out); have NB280_279 := Aside0.mk (ng_ hg BK279.out); replace BK279 := Aside0.mk (bb_ (bk_ BK279.out) hb); clear hb hbox hg; have hnb49 := NB280_278.out; have hnc49 := NB278_280.out; have hnb50 := NB280_279.out; have hnc50 := NB279_280.out; obtain ⟨hcz51_0, hcz51_1, hcz51_2, hcz51_3, hcz51_4⟩ := cz5_ BK280.out; obtain ⟨hfz51_0, hfz51_1, hfz51_2, hfz51_3, hfz51_4⟩ := fz5_ BK280.out; have hnb52 := NB279_278.out; have hnc52 := NB278_279.out; obtain ⟨hcz53_0, hcz53_1, hcz53_2, hcz53_3, hcz53_4, hcz53_5, hcz53_6⟩ := cz7_ BK279.out; obtain ⟨hfz53_0, hfz53_1, hfz53_2, hfz53_3, hfz53_4, hfz53_5, hfz53_6⟩ := fz7_ BK279.out))
     go_ret
     exact ⟨rr_, lb3_ HB.out GE278.out GE279.out GE280.out⟩
    ·
     rw [if_neg c45] at H
     have c45b0 : (a1_1 == 0) = false := beq_eq_false_iff_ne.mpr c45
     have c45b1 : (a1_1 != 0) = true := bne_iff_ne.mpr c45
     obtain rfl := Option.some.inj H
     go_enter Try.func77, Try.ntmps77
     go_wp2_with (first | ((with_reducible refine gate_dst (N := 2) rfl ?_); refine box_event ?hg (N := 2) ?hd (cs := #[.slice A0_0 l0_0.length c0_0, .slice A0_1 l0_1.length c0_1, .slice A0_2 l0_2.length c0_2, .int .i64 a0_3, .int .i64 a0_4]) (t := 30) ?hr ?_; (case hd => rfl); (case hg => rfl); (case hr => first | (go_simp; done) | (go_simp; rfl)); intro gb278 hg w54 hbox hb; have BK278 := Aside0.mk (hbox); have GW278 := Aside0.mk ((bz_ hg (lb0_ HB.out))); have GE278 := Aside0.mk ((bz_ hg (lb0_ HB.out))); replace HB := Aside0.mk (below_step (lb0_ HB.out) hb); clear hb hbox hg) | ((with_reducible refine gate_dst (N := 3) rfl ?_); refine box_event ?hg (N := 3) ?hd (cs := #[.int .i64 a1_0, .int .i64 a1_1, .int .i64 a1_2, .int .i64 a1_3, .int .i64 a1_4, .int .i64 a1_5, .int .i64 a1_6]) (t := 39) ?hr ?_; (case hd => rfl); (case hg => rfl); (case hr => first | (go_simp; done) | (go_simp; rfl)); intro gb279 hg w55 hbox hb; have BK279 := Aside0.mk (hbox); have GW279 := Aside0.mk ((bz_ hg (lb1_ HB.out GE278.out))); have GE279 := Aside0.mk ((bz_ hg (lb1_ HB.out GE278.out))); replace HB := Aside0.mk (below_step (lb1_ HB.out GE278.out) hb); have NB278_279 := Aside0.mk (nl_ hg BK278.out); have NB279_278 := Aside0.mk (ng_ hg BK278.out); replace BK278 := Aside0.mk (bb_ (bk_ BK278.out) hb); clear hb hbox hg) | ((with_reducible refine gate_dst (N := 5) rfl ?_); refine box_event ?hg (N := 5) ?hd (cs := #[.int .i64 0, .int .i64 0, .int .i64 0, .int .i64 0, .int .i64 0]) (t := 37) ?hr ?_; (case hd => rfl); (case hg => rfl); (case hr => first | (go_simp; done) | (go_simp; rfl)); intro gb280 hg w56 hbox hb; have BK280 := Aside0.mk (hbox); have GW280 := Aside0.mk ((bz_ hg (lb2_ HB.out GE278.out GE279.out))); have GE280 := Aside0.mk ((bz_ hg (lb2_ HB.out GE278.out GE279.out))); replace HB := Aside0.mk (below_step (lb2_ HB.out GE278.out GE279.out) hb); have NB278_280 := Aside0.mk (nl_ hg BK278.out); have NB280_278 := Aside0.mk (ng_ hg BK278.out); replace BK278 := Aside0.mk (bb_ (bk_ BK278.out) hb); have NB279_280 := Aside0.mk (nl_ hg BK279.out); have NB280_279 := Aside0.mk (ng_ hg BK279.out); replace BK279 := Aside0.mk (bb_ (bk_ BK279.out) hb); clear hb hbox hg; have hnb57 := NB280_278.out; have hnc57 := NB278_280.out; have hnb58 := NB280_279.out; have hnc58 := NB279_280.out; obtain ⟨hcz59_0, hcz59_1, hcz59_2, hcz59_3, hcz59_4⟩ := cz5_ BK280.out; obtain ⟨hfz59_0, hfz59_1, hfz59_2, hfz59_3, hfz59_4⟩ := fz5_ BK280.out; have hnb60 := NB279_278.out; have hnc60 := NB278_279.out; obtain ⟨hcz61_0, hcz61_1, hcz61_2, hcz61_3, hcz61_4, hcz61_5, hcz61_6⟩ := cz7_ BK279.out; obtain ⟨hfz61_0, hfz61_1, hfz61_2, hfz61_3, hfz61_4, hfz61_5, hfz61_6⟩ := fz7_ BK279.out))
     go_ret
     exact ⟨rr_, lb3_ HB.out GE278.out GE279.out GE280.out⟩
   ·
    rw [if_neg c44] at H
    have c44b0 : (a1_0 == 3) = false := beq_eq_false_iff_ne.mpr c44
    have c44b1 : (a1_0 != 3) = true := bne_iff_ne.mpr c44
    by_cases c62 : a1_0 = 4
    ·
     rw [if_pos c62] at H
     have c62b0 : (a1_0 == 4) = true := beq_iff_eq.mpr c62
     have c62b1 : (a1_0 != 4) = false := bne_eq_false_iff_eq.mpr c62
     clear c62
     replace H := Option.bind_eq_some_iff.mp H
     obtain ⟨t283, A630, H⟩ := H
     replace H : (if t283 = true then (some (a1_2 == 0 && (a1_3 == 0 && (a1_4 == 0 && (a1_5 == 0 && (a1_6 == 0)))))) else (some false)) = some r := H
     have A63 := Aside0.mk A630
     clear A630
     by_cases c64 : t283 = true
     ·
      subst c64
      have H1 : (some (a1_2 == 0 && (a1_3 == 0 && (a1_4 == 0 && (a1_5 == 0 && (a1_6 == 0)))))) = some r := by rw [if_pos rfl] at H; exact H
      clear H
      have H := H1
      clear H1
      obtain rfl := Option.some.inj H
      go_enter Try.func77, Try.ntmps77
      go_wp2_with (first | ((with_reducible refine gate_dst (N := 2) rfl ?_); refine box_event ?hg (N := 2) ?hd (cs := #[.slice A0_0 l0_0.length c0_0, .slice A0_1 l0_1.length c0_1, .slice A0_2 l0_2.length c0_2, .int .i64 a0_3, .int .i64 a0_4]) (t := 30) ?hr ?_; (case hd => rfl); (case hg => rfl); (case hr => first | (go_simp; done) | (go_simp; rfl)); intro gb278 hg w65 hbox hb; have BK278 := Aside0.mk (hbox); have GW278 := Aside0.mk ((bz_ hg (lb0_ HB.out))); have GE278 := Aside0.mk ((bz_ hg (lb0_ HB.out))); replace HB := Aside0.mk (below_step (lb0_ HB.out) hb); clear hb hbox hg) | ((with_reducible refine gate_dst (N := 3) rfl ?_); refine box_event ?hg (N := 3) ?hd (cs := #[.int .i64 a1_0, .int .i64 a1_1, .int .i64 a1_2, .int .i64 a1_3, .int .i64 a1_4, .int .i64 a1_5, .int .i64 a1_6]) (t := 39) ?hr ?_; (case hd => rfl); (case hg => rfl); (case hr => first | (go_simp; done) | (go_simp; rfl)); intro gb279 hg w66 hbox hb; have BK279 := Aside0.mk (hbox); have GW279 := Aside0.mk ((bz_ hg (lb1_ HB.out GE278.out))); have GE279 := Aside0.mk ((bz_ hg (lb1_ HB.out GE278.out))); replace HB := Aside0.mk (below_step (lb1_ HB.out GE278.out) hb); have NB278_279 := Aside0.mk (nl_ hg BK278.out); have NB279_278 := Aside0.mk (ng_ hg BK278.out); replace BK278 := Aside0.mk (bb_ (bk_ BK278.out) hb); clear hb hbox hg) | ((with_reducible refine gate_dst (N := 5) rfl ?_); refine box_event ?hg (N := 5) ?hd (cs := #[.int .i64 0, .int .i64 0, .int .i64 0, .int .i64 0, .int .i64 0]) (t := 37) ?hr ?_; (case hd => rfl); (case hg => rfl); (case hr => first | (go_simp; done) | (go_simp; rfl)); intro gb280 hg w67 hbox hb; have BK280 := Aside0.mk (hbox); have GW280 := Aside0.mk ((bz_ hg (lb2_ HB.out GE278.out GE279.out))); have GE280 := Aside0.mk ((bz_ hg (lb2_ HB.out GE278.out GE279.out))); replace HB := Aside0.mk (below_step (lb2_ HB.out GE278.out GE279.out) hb); have NB278_280 := Aside0.mk (nl_ hg BK278.out); have NB280_278 := Aside0.mk (ng_ hg BK278.out); replace BK278 := Aside0.mk (bb_ (bk_ BK278.out) hb); have NB279_280 := Aside0.mk (nl_ hg BK279.out); have NB280_279 := Aside0.mk (ng_ hg BK279.out); replace BK279 := Aside0.mk (bb_ (bk_ BK279.out) hb); clear hb hbox hg; have hnb68 := NB280_278.out; have hnc68 := NB278_280.out; have hnb69 := NB280_279.out; have hnc69 := NB279_280.out; obtain ⟨hcz70_0, hcz70_1, hcz70_2, hcz70_3, hcz70_4⟩ := cz5_ BK280.out; obtain ⟨hfz70_0, hfz70_1, hfz70_2, hfz70_3, hfz70_4⟩ := fz5_ BK280.out; have hnb71 := NB279_278.out; have hnc71 := NB278_279.out; obtain ⟨hcz72_0, hcz72_1, hcz72_2, hcz72_3, hcz72_4, hcz72_5, hcz72_6⟩ := cz7_ BK279.out; obtain ⟨hfz72_0, hfz72_1, hfz72_2, hfz72_3, hfz72_4, hfz72_5, hfz72_6⟩ := fz7_ BK279.out) | (go_at_call 101; (with_reducible refine (spec_l1In.calls a1_1 1 1000 true _ A63.out).mono ?_); rintro e w' ⟨rfl, ⟨nd, rfl⟩⟩))
      go_ret
      exact ⟨rr_, lb3_ HB.out GE278.out GE279.out GE280.out⟩
     ·
      replace c64 := Bool.eq_false_iff.mpr c64
      subst c64
      have H1 : (some false) = some r := by rw [if_neg (show ¬ (false = true) by decide)] at H; exact H
      clear H
      have H := H1
      clear H1
      obtain rfl := Option.some.inj H
      go_enter Try.func77, Try.ntmps77
      go_wp2_with (first | ((with_reducible refine gate_dst (N := 2) rfl ?_); refine box_event ?hg (N := 2) ?hd (cs := #[.slice A0_0 l0_0.length c0_0, .slice A0_1 l0_1.length c0_1, .slice A0_2 l0_2.length c0_2, .int .i64 a0_3, .int .i64 a0_4]) (t := 30) ?hr ?_; (case hd => rfl); (case hg => rfl); (case hr => first | (go_simp; done) | (go_simp; rfl)); intro gb278 hg w73 hbox hb; have BK278 := Aside0.mk (hbox); have GW278 := Aside0.mk ((bz_ hg (lb0_ HB.out))); have GE278 := Aside0.mk ((bz_ hg (lb0_ HB.out))); replace HB := Aside0.mk (below_step (lb0_ HB.out) hb); clear hb hbox hg) | ((with_reducible refine gate_dst (N := 3) rfl ?_); refine box_event ?hg (N := 3) ?hd (cs := #[.int .i64 a1_0, .int .i64 a1_1, .int .i64 a1_2, .int .i64 a1_3, .int .i64 a1_4, .int .i64 a1_5, .int .i64 a1_6]) (t := 39) ?hr ?_; (case hd => rfl); (case hg => rfl); (case hr => first | (go_simp; done) | (go_simp; rfl)); intro gb279 hg w74 hbox hb; have BK279 := Aside0.mk (hbox); have GW279 := Aside0.mk ((bz_ hg (lb1_ HB.out GE278.out))); have GE279 := Aside0.mk ((bz_ hg (lb1_ HB.out GE278.out))); replace HB := Aside0.mk (below_step (lb1_ HB.out GE278.out) hb); have NB278_279 := Aside0.mk (nl_ hg BK278.out); have NB279_278 := Aside0.mk (ng_ hg BK278.out); replace BK278 := Aside0.mk (bb_ (bk_ BK278.out) hb); clear hb hbox hg) | ((with_reducible refine gate_dst (N := 5) rfl ?_); refine box_event ?hg (N := 5) ?hd (cs := #[.int .i64 0, .int .i64 0, .int .i64 0, .int .i64 0, .int .i64 0]) (t := 37) ?hr ?_; (case hd => rfl); (case hg => rfl); (case hr => first | (go_simp; done) | (go_simp; rfl)); intro gb280 hg w75 hbox hb; have BK280 := Aside0.mk (hbox); have GW280 := Aside0.mk ((bz_ hg (lb2_ HB.out GE278.out GE279.out))); have GE280 := Aside0.mk ((bz_ hg (lb2_ HB.out GE278.out GE279.out))); replace HB := Aside0.mk (below_step (lb2_ HB.out GE278.out GE279.out) hb); have NB278_280 := Aside0.mk (nl_ hg BK278.out); have NB280_278 := Aside0.mk (ng_ hg BK278.out); replace BK278 := Aside0.mk (bb_ (bk_ BK278.out) hb); have NB279_280 := Aside0.mk (nl_ hg BK279.out); have NB280_279 := Aside0.mk (ng_ hg BK279.out); replace BK279 := Aside0.mk (bb_ (bk_ BK279.out) hb); clear hb hbox hg; have hnb76 := NB280_278.out; have hnc76 := NB278_280.out; have hnb77 := NB280_279.out; have hnc77 := NB279_280.out; obtain ⟨hcz78_0, hcz78_1, hcz78_2, hcz78_3, hcz78_4⟩ := cz5_ BK280.out; obtain ⟨hfz78_0, hfz78_1, hfz78_2, hfz78_3, hfz78_4⟩ := fz5_ BK280.out; have hnb79 := NB279_278.out; have hnc79 := NB278_279.out; obtain ⟨hcz80_0, hcz80_1, hcz80_2, hcz80_3, hcz80_4, hcz80_5, hcz80_6⟩ := cz7_ BK279.out; obtain ⟨hfz80_0, hfz80_1, hfz80_2, hfz80_3, hfz80_4, hfz80_5, hfz80_6⟩ := fz7_ BK279.out) | (go_at_call 101; (with_reducible refine (spec_l1In.calls a1_1 1 1000 false _ A63.out).mono ?_); rintro e w' ⟨rfl, ⟨nd, rfl⟩⟩))
      go_ret
      exact ⟨rr_, lb3_ HB.out GE278.out GE279.out GE280.out⟩
    ·
     rw [if_neg c62] at H
     have c62b0 : (a1_0 == 4) = false := beq_eq_false_iff_ne.mpr c62
     have c62b1 : (a1_0 != 4) = true := bne_iff_ne.mpr c62
     obtain rfl := Option.some.inj H
     go_enter Try.func77, Try.ntmps77
     go_wp2_with (first | ((with_reducible refine gate_dst (N := 2) rfl ?_); refine box_event ?hg (N := 2) ?hd (cs := #[.slice A0_0 l0_0.length c0_0, .slice A0_1 l0_1.length c0_1, .slice A0_2 l0_2.length c0_2, .int .i64 a0_3, .int .i64 a0_4]) (t := 30) ?hr ?_; (case hd => rfl); (case hg => rfl); (case hr => first | (go_simp; done) | (go_simp; rfl)); intro gb278 hg w81 hbox hb; have BK278 := Aside0.mk (hbox); have GW278 := Aside0.mk ((bz_ hg (lb0_ HB.out))); have GE278 := Aside0.mk ((bz_ hg (lb0_ HB.out))); replace HB := Aside0.mk (below_step (lb0_ HB.out) hb); clear hb hbox hg) | ((with_reducible refine gate_dst (N := 3) rfl ?_); refine box_event ?hg (N := 3) ?hd (cs := #[.int .i64 a1_0, .int .i64 a1_1, .int .i64 a1_2, .int .i64 a1_3, .int .i64 a1_4, .int .i64 a1_5, .int .i64 a1_6]) (t := 39) ?hr ?_; (case hd => rfl); (case hg => rfl); (case hr => first | (go_simp; done) | (go_simp; rfl)); intro gb279 hg w82 hbox hb; have BK279 := Aside0.mk (hbox); have GW279 := Aside0.mk ((bz_ hg (lb1_ HB.out GE278.out))); have GE279 := Aside0.mk ((bz_ hg (lb1_ HB.out GE278.out))); replace HB := Aside0.mk (below_step (lb1_ HB.out GE278.out) hb); have NB278_279 := Aside0.mk (nl_ hg BK278.out); have NB279_278 := Aside0.mk (ng_ hg BK278.out); replace BK278 := Aside0.mk (bb_ (bk_ BK278.out) hb); clear hb hbox hg) | ((with_reducible refine gate_dst (N := 5) rfl ?_); refine box_event ?hg (N := 5) ?hd (cs := #[.int .i64 0, .int .i64 0, .int .i64 0, .int .i64 0, .int .i64 0]) (t := 37) ?hr ?_; (case hd => rfl); (case hg => rfl); (case hr => first | (go_simp; done) | (go_simp; rfl)); intro gb280 hg w83 hbox hb; have BK280 := Aside0.mk (hbox); have GW280 := Aside0.mk ((bz_ hg (lb2_ HB.out GE278.out GE279.out))); have GE280 := Aside0.mk ((bz_ hg (lb2_ HB.out GE278.out GE279.out))); replace HB := Aside0.mk (below_step (lb2_ HB.out GE278.out GE279.out) hb); have NB278_280 := Aside0.mk (nl_ hg BK278.out); have NB280_278 := Aside0.mk (ng_ hg BK278.out); replace BK278 := Aside0.mk (bb_ (bk_ BK278.out) hb); have NB279_280 := Aside0.mk (nl_ hg BK279.out); have NB280_279 := Aside0.mk (ng_ hg BK279.out); replace BK279 := Aside0.mk (bb_ (bk_ BK279.out) hb); clear hb hbox hg; have hnb84 := NB280_278.out; have hnc84 := NB278_280.out; have hnb85 := NB280_279.out; have hnc85 := NB279_280.out; obtain ⟨hcz86_0, hcz86_1, hcz86_2, hcz86_3, hcz86_4⟩ := cz5_ BK280.out; obtain ⟨hfz86_0, hfz86_1, hfz86_2, hfz86_3, hfz86_4⟩ := fz5_ BK280.out; have hnb87 := NB279_278.out; have hnc87 := NB278_279.out; obtain ⟨hcz88_0, hcz88_1, hcz88_2, hcz88_3, hcz88_4, hcz88_5, hcz88_6⟩ := cz7_ BK279.out; obtain ⟨hfz88_0, hfz88_1, hfz88_2, hfz88_3, hfz88_4, hfz88_5, hfz88_6⟩ := fz7_ BK279.out))
     go_ret
     exact ⟨rr_, lb3_ HB.out GE278.out GE279.out GE280.out⟩
end Go.Proofs.Ythmjimboajmhmaa.Pr

namespace Go.Proofs.Ythmjimboajmhmaa.Pr
open Go.RowKit Go.Proofs.YthmjimboajmhmaaW.PrintWords Go.Proofs.YthmjimboajmhmaaW.PrintLast Go.Proofs.YthmjimboajmhmaaW.PrintMore
attribute [local go_sem] max2_int min2_int max_two min_two max_three min_three max_four min_four   -- for this text's walks alone
set_option linter.unusedVariables false
set_option linter.unusedSimpArgs false
section
variable {w w0 : World} {g base : Nat} {t : TypeId}
theorem own_R5 {α : Type} {d : Kd α} {e : Nat} {ok : Nat → Prop} {v : Value} {xs : List α} {cs : Array Value} (h : d.R e w base ok v xs) (hb : w.heap[g]? = some (.cells cs t (0, 0))) (ht : ∀ q, q ∈ e :: d.E → q ≠ t) (a0 a1 a2 a3 a4 : Value) :
  d.R e (((((w.setCell ⟨g, 0, none⟩ a0).setCell ⟨g, 1, none⟩ a1).setCell ⟨g, 2, none⟩ a2).setCell ⟨g, 3, none⟩ a3).setCell ⟨g, 4, none⟩ a4) base ok v xs :=
 Kd.R_mono (Kd.R_far (p := ⟨g, 4, none⟩) (Kd.R_far (p := ⟨g, 3, none⟩) (Kd.R_far (p := ⟨g, 2, none⟩) (Kd.R_far (p := ⟨g, 1, none⟩) (Kd.R_far (p := ⟨g, 0, none⟩) (Kd.R_types h hb ht) (fun _ hk => hk.2) a0) (fun _ hk => hk.2) a1) (fun _ hk => hk.2) a2) (fun _ hk => hk.2) a3) (fun _ hk => hk.2) a4) (fun _ hk => hk.1)
theorem own_blk5 {b0 b1 b2 b3 b4 : Value} (h : w.heap[g]? = some (.cells #[b0, b1, b2, b3, b4] t (0, 0))) (a0 a1 a2 a3 a4 : Value) :
  (((((w.setCell ⟨g, 0, none⟩ a0).setCell ⟨g, 1, none⟩ a1).setCell ⟨g, 2, none⟩ a2).setCell ⟨g, 3, none⟩ a3).setCell ⟨g, 4, none⟩ a4).heap[g]? = some (.cells #[a0, a1, a2, a3, a4] t (0, 0)) :=
 blk_put (cs := #[a0, a1, a2, a3, b4]) (blk_put (cs := #[a0, a1, a2, b3, b4]) (blk_put (cs := #[a0, a1, b2, b3, b4]) (blk_put (cs := #[a0, b1, b2, b3, b4]) (blk_put (cs := #[b0, b1, b2, b3, b4]) h 0 _ rfl) 1 _ rfl) 2 _ rfl) 3 _ rfl) 4 _ rfl
end
abbrev RLeg (W : World) (B : Nat) (v : Value) (xs : List S37) : Prop := Kd.R k37 37 W B (fun _ => True) v xs
abbrev RBool (W : World) (B : Nat) (v : Value) (xs : List Bool) : Prop := Kd.R Kd.bool 4 W B (fun _ => True) v xs
def Ap (x y : Value) : Prop := ∀ k, x.ownBlock = some k → some k ≠ y.ownBlock
theorem Ap.symm {x y : Value} (h : Ap x y) : Ap y x := fun k hk e => h k e.symm hk.symm
theorem Ap.types {α β : Type} {d : Kd α} {d' : Kd β} {e e' : Nat} {W : World} {B B' : Nat} {ok ok' : Nat → Prop} {v v' : Value} {xs : List α} {ys : List β} (h : d.R e W B ok v xs) (h' : d'.R e' W B' ok' v' ys) (hne : e ≠ e') : Ap v v' := fun k hk he => by
 obtain ⟨q, hx⟩ := Kd.R_typed h k hk
 obtain ⟨q', hx'⟩ := Kd.R_typed h' k he.symm
 rw [hx] at hx'
 injection hx' with hx'
 injection hx' with _ hx'
 exact hne hx'
theorem Ap.fresh {α : Type} {d : Kd α} {e B : Nat} {W : World} {ok : Nat → Prop} {v v' : Value} {xs : List α} (h : d.R e W B ok v xs) (hn : ∃ b, v'.ownBlock = some b ∧ W.heap.size ≤ b) : Ap v v' := fun k hk he => by
 obtain ⟨b, h1, h2⟩ := hn
 have h3 := ((Kd.R_bound h).1 k hk).2.2.1
 rw [h1] at he
 injection he with he
 omega
theorem Ap.grown {α : Type} {d : Kd α} {e B : Nat} {W : World} {ok : Nat → Prop} {x v v' : Value} {xs : List α} (h : d.R e W B ok x xs) (hp : Ap x v) (hn : v'.ownBlock = v.ownBlock ∨ ∃ b, v'.ownBlock = some b ∧ W.heap.size ≤ b) : Ap x v' := by
 rcases hn with e | hn
 ·
  exact fun k hk => by rw [e]; exact hp k hk
 ·
  exact Ap.fresh h hn
theorem Kd.R_ap {α : Type} {d : Kd α} {e B : Nat} {W W1 : World} {ok : Nat → Prop} {x v : Value} {xs : List α} (h : d.R e W B ok x xs) (hE : d.E = []) (hp : Ap x v) (hg : W.grownBy W1 v.ownBlock) : d.R e W1 B ok x xs := Kd.R_grown2 h hE hg (fun k hk he => hp k he.symm hk.symm)
theorem blk_ap {α : Type} {d : Kd α} {e B : Nat} {W W1 : World} {ok : Nat → Prop} {v : Value} {xs : List α} {g t : Nat} {cs : Array Value} (h : d.R e W B ok v xs) (hb : W.heap[g]? = some (.cells cs t (0, 0))) (ht : e ≠ t) (hg : W.grownBy W1 v.ownBlock) : W1.heap[g]? = some (.cells cs t (0, 0)) := by
 refine (hg.block g (blk_lt hb) (fun e => ?_)).trans hb
 obtain ⟨q, hx⟩ := Kd.R_typed h g e.symm
 rw [hb] at hx
 injection hx with hx
 injection hx with _ hx
 exact ht hx.symm
structure OwJ (w : World) (g1 g2 : Nat) (ar : Array Value) (L : List S37) (V D : List Bool) (a3 a4 : Int) (W : World) (c0 c3 c4 c7 c8 c11 c17 : Bool) (e0 e1 e2 v0 v1 v2 : Value) : Prop where
 hB : Below w.heap.size w W
 k1 : W.heap[g1]? = some (.cells ar 30 (0, 0))
 k2 : W.heap[g2]? = some (.cells (bif c17 then #[v0, v1, v2, .int .i64 a3, .int .i64 a4] else #[.slice none 0 0, .slice none 0 0, .slice none 0 0, .int .i64 0, .int .i64 0]) 30 (0, 0))
 h0 : c0 = true → c3 = false → RLeg W w.heap.size e0 []
 h3 : c3 = true → RLeg W w.heap.size v0 L
 h4 : c4 = true → c7 = false → RBool W w.heap.size e1 []
 h7 : c7 = true → RBool W w.heap.size v1 V
 h8 : c8 = true → c11 = false → RBool W w.heap.size e2 []
 h11 : c11 = true → RBool W w.heap.size v2 D
 p48 : c4 = true → c8 = true → c7 = false → c11 = false → Ap e1 e2
 p78 : c7 = true → c8 = true → c11 = false → Ap v1 e2
 p7b : c7 = true → c11 = true → Ap v1 v2
section
variable {w W W' : World} {g1 g2 : Nat} {ar : Array Value} {L : List S37} {V D : List Bool} {a3 a4 : Int} {c0 c3 c4 c7 c8 c11 c17 c : Bool} {e0 e1 e2 v0 v1 v2 z : Value}
theorem OwJ.below (h : OwJ w g1 g2 ar L V D a3 a4 W c0 c3 c4 c7 c8 c11 c17 e0 e1 e2 v0 v1 v2) (hb : Below W.heap.size W W') : OwJ w g1 g2 ar L V D a3 a4 W' c0 c3 c4 c7 c8 c11 c17 e0 e1 e2 v0 v1 v2 :=
 ⟨below_step h.hB hb, bb_ h.k1 hb, bb_ h.k2 hb, fun a b => Kd.R_below (h.h0 a b) hb, fun a => Kd.R_below (h.h3 a) hb, fun a b => Kd.R_below (h.h4 a b) hb, fun a => Kd.R_below (h.h7 a) hb, fun a b => Kd.R_below (h.h8 a b) hb, fun a => Kd.R_below (h.h11 a) hb, h.p48, h.p78, h.p7b⟩
theorem OwJ.lit0 (h : OwJ w g1 g2 ar L V D a3 a4 W c0 c3 c4 c7 c8 c11 c17 e0 e1 e2 v0 v1 v2) (hb : Below W.heap.size W W') (hr : RLeg W' w.heap.size z []) : OwJ w g1 g2 ar L V D a3 a4 W' c c3 c4 c7 c8 c11 c17 z e1 e2 v0 v1 v2 := by
 have q := h.below hb
 exact ⟨q.hB, q.k1, q.k2, fun _ _ => hr, q.h3, q.h4, q.h7, q.h8, q.h11, q.p48, q.p78, q.p7b⟩
theorem OwJ.lit4 (h : OwJ w g1 g2 ar L V D a3 a4 W c0 c3 c4 c7 c8 c11 c17 e0 e1 e2 v0 v1 v2) (h7 : c7 = false) (hb : Below W.heap.size W W') (hr : RBool W' w.heap.size z []) (hn : ∃ b, z.ownBlock = some b ∧ W.heap.size ≤ b) : OwJ w g1 g2 ar L V D a3 a4 W' c0 c3 c c7 c8 c11 c17 e0 z e2 v0 v1 v2 := by
 have q := h.below hb
 exact ⟨q.hB, q.k1, q.k2, q.h0, q.h3, fun _ _ => hr, q.h7, q.h8, q.h11, fun _ a _ b => (Ap.fresh (h.h8 a b) hn).symm, q.p78, q.p7b⟩
theorem OwJ.lit8 (h : OwJ w g1 g2 ar L V D a3 a4 W c0 c3 c4 c7 c8 c11 c17 e0 e1 e2 v0 v1 v2) (hb : Below W.heap.size W W') (hr : RBool W' w.heap.size z []) (hn : ∃ b, z.ownBlock = some b ∧ W.heap.size ≤ b) : OwJ w g1 g2 ar L V D a3 a4 W' c0 c3 c4 c7 c c11 c17 e0 e1 z v0 v1 v2 := by
 have q := h.below hb
 exact ⟨q.hB, q.k1, q.k2, q.h0, q.h3, q.h4, q.h7, fun _ _ => hr, q.h11, fun a _ b _ => Ap.fresh (h.h4 a b) hn, fun a _ _ => Ap.fresh (h.h7 a) hn, q.p7b⟩
theorem OwJ.app3 (h : OwJ w g1 g2 ar L V D a3 a4 W c0 c3 c4 c7 c8 c11 c17 e0 e1 e2 v0 v1 v2) (h0 : RLeg W w.heap.size e0 []) (h17 : c17 = false) (hB : Below w.heap.size w W') (hr : RLeg W' w.heap.size z L) (hg : W.grownBy W' e0.ownBlock) : OwJ w g1 g2 ar L V D a3 a4 W' c0 true c4 c7 c8 c11 c17 e0 e1 e2 z v1 v2 := by
 subst h17
 exact ⟨hB, blk_ap h0 h.k1 (by decide) hg, blk_ap h0 h.k2 (by decide) hg, fun _ b => absurd b (by decide), fun _ => hr, fun a b => Kd.R_ap (h.h4 a b) rfl (Ap.types (h.h4 a b) h0 (by decide)) hg, fun a => Kd.R_ap (h.h7 a) rfl (Ap.types (h.h7 a) h0 (by decide)) hg, fun a b => Kd.R_ap (h.h8 a b) rfl (Ap.types (h.h8 a b) h0 (by decide)) hg, fun a => Kd.R_ap (h.h11 a) rfl (Ap.types (h.h11 a) h0 (by decide)) hg, h.p48, h.p78, h.p7b⟩
theorem OwJ.app7 (h : OwJ w g1 g2 ar L V D a3 a4 W c0 c3 c4 c7 c8 c11 c17 e0 e1 e2 v0 v1 v2) (h4 : c4 = true) (h7 : c7 = false) (h11 : c11 = false) (h17 : c17 = false) (hB : Below w.heap.size w W') (hr : RBool W' w.heap.size z V) (hg : W.grownBy W' e1.ownBlock) (hn : z.ownBlock = e1.ownBlock ∨ ∃ b, z.ownBlock = some b ∧ W.heap.size ≤ b) : OwJ w g1 g2 ar L V D a3 a4 W' c0 c3 c4 true c8 c11 c17 e0 e1 e2 v0 z v2 := by
 subst h17
 have q := h.h4 h4 h7
 exact ⟨hB, blk_ap q h.k1 (by decide) hg, blk_ap q h.k2 (by decide) hg, fun a b => Kd.R_ap (h.h0 a b) rfl (Ap.types (h.h0 a b) q (by decide)) hg, fun a => Kd.R_ap (h.h3 a) rfl (Ap.types (h.h3 a) q (by decide)) hg, fun _ b => absurd b (by decide), fun _ => hr, fun a b => Kd.R_ap (h.h8 a b) rfl (h.p48 h4 a h7 b).symm hg, fun a => absurd (h11.symm.trans a) (by decide), fun _ _ b => absurd b (by decide), fun _ a b => (Ap.grown (h.h8 a b) (h.p48 h4 a h7 b).symm hn).symm, fun _ a => absurd (h11.symm.trans a) (by decide)⟩
theorem OwJ.app11 (h : OwJ w g1 g2 ar L V D a3 a4 W c0 c3 c4 c7 c8 c11 c17 e0 e1 e2 v0 v1 v2) (h7 : c7 = true) (h8 : c8 = true) (h11 : c11 = false) (h17 : c17 = false) (hB : Below w.heap.size w W') (hr : RBool W' w.heap.size z D) (hg : W.grownBy W' e2.ownBlock) (hn : z.ownBlock = e2.ownBlock ∨ ∃ b, z.ownBlock = some b ∧ W.heap.size ≤ b) : OwJ w g1 g2 ar L V D a3 a4 W' c0 c3 c4 c7 c8 true c17 e0 e1 e2 v0 v1 z := by
 subst h17
 have q := h.h8 h8 h11
 exact ⟨hB, blk_ap q h.k1 (by decide) hg, blk_ap q h.k2 (by decide) hg, fun a b => Kd.R_ap (h.h0 a b) rfl (Ap.types (h.h0 a b) q (by decide)) hg, fun a => Kd.R_ap (h.h3 a) rfl (Ap.types (h.h3 a) q (by decide)) hg, fun _ b => absurd (h7.symm.trans b) (by decide), fun a => Kd.R_ap (h.h7 a) rfl (h.p78 h7 h8 h11) hg, fun _ b => absurd b (by decide), fun _ => hr, fun _ _ b => absurd (h7.symm.trans b) (by decide), fun _ _ b => absurd b (by decide), fun _ _ => Ap.grown (h.h7 h7) (h.p78 h7 h8 h11) hn⟩
theorem OwJ.store (h : OwJ w g1 g2 ar L V D a3 a4 W c0 c3 c4 c7 c8 c11 c17 e0 e1 e2 v0 v1 v2) (h17 : c17 = false) (hg : w.heap.size ≤ g2) (hne : g1 ≠ g2) (h3 : c3 = true) (h7 : c7 = true) (h11 : c11 = true) : OwJ w g1 g2 ar L V D a3 a4 (((((W.setCell ⟨g2, 0, none⟩ v0).setCell ⟨g2, 1, none⟩ v1).setCell ⟨g2, 2, none⟩ v2).setCell ⟨g2, 3, none⟩ (.int .i64 a3)).setCell ⟨g2, 4, none⟩ (.int .i64 a4)) c0 c3 c4 c7 c8 c11 true e0 e1 e2 v0 v1 v2 := by
 subst h17
 have k := h.k2
 exact ⟨below_set (below_set (below_set (below_set (below_set h.hB hg) hg) hg) hg) hg, blk_far (p := ⟨g2, 4, none⟩) (blk_far (p := ⟨g2, 3, none⟩) (blk_far (p := ⟨g2, 2, none⟩) (blk_far (p := ⟨g2, 1, none⟩) (blk_far (p := ⟨g2, 0, none⟩) h.k1 hne _) hne _) hne _) hne _) hne _, own_blk5 k _ _ _ _ _, fun _ b => absurd (h3.symm.trans b) (by decide), fun a => own_R5 (h.h3 a) k (by decide) _ _ _ _ _, fun _ b => absurd (h7.symm.trans b) (by decide), fun a => own_R5 (h.h7 a) k (by decide) _ _ _ _ _, fun _ b => absurd (h11.symm.trans b) (by decide), fun a => own_R5 (h.h11 a) k (by decide) _ _ _ _ _, h.p48, h.p78, h.p7b⟩
end
def spec_l25Own.f (l0_0 : List (S37)) (l0_1 : List Bool) (l0_2 : List Bool) (a0_3 : Int) (a0_4 : Int) : Option ((List (S37)) × List Bool × List Bool × Int × Int) := (some (([] : List (S37)) : List (S37))).bind fun y286 => (if y286.length + l0_0.length < 3518437208883 then ((some (([] : List Bool) : List Bool)).bind fun y292 => (if y292.length + l0_1.length < 140737488355328 then ((some (([] : List Bool) : List Bool)).bind fun y298 => (if y298.length + l0_2.length < 140737488355328 then (some ((y286 ++ l0_0), (y292 ++ l0_1), (y298 ++ l0_2), a0_3, a0_4)) else (none))) else (none))) else (none))
def own1.T : Bool × List (List Nat × List Nat) := (true, [([], []), ([], []), ([1], [1]), ([0, 2], [0, 2]), ([], []), ([], []), ([5], [5]), ([4, 6, 3], [4, 6]), ([], []), ([], []), ([9], [9]), ([8, 10, 7], [8, 10]), ([], []), ([12], [12]), ([], []), ([14], [14]), ([3, 7, 11, 13, 15], [3, 7, 11, 13, 15]), ([16, 11, 0, 1, 2, 3, 4, 5, 6, 7, 8, 9, 10, 11, 12, 13, 14, 15, 16], [16])])
def own1.B : List Nat := [0, 0, 2, 7, 0, 0, 32, 127, 0, 0, 512, 2047, 0, 4096, 0, 16384, 65535, 131071]
theorem own1.tab : rtab .any (opsOf Try.f84 1) = own1.T := by kernel_rfl
theorem own1.bits : waitsOk own1.T.2 own1.B = true := by kernel_rfl
abbrev own1.mkE : Array Bool := #[fF,fF,fF,fF,fF,fF,fF,fF,fF,fF,fF,fF,fF,fF,fF,fF,fF,fF]
abbrev own1.mk1 : Array Bool := #[fF,tT,fF,fF,fF,fF,fF,fF,fF,fF,fF,fF,fF,fF,fF,fF,fF,fF]
abbrev own1.mk1_5 : Array Bool := #[fF,tT,fF,fF,fF,tT,fF,fF,fF,fF,fF,fF,fF,fF,fF,fF,fF,fF]
abbrev own1.mk1_5_9 : Array Bool := #[fF,tT,fF,fF,fF,tT,fF,fF,fF,tT,fF,fF,fF,fF,fF,fF,fF,fF]
abbrev own1.mk1_5_9_12 : Array Bool := #[fF,tT,fF,fF,fF,tT,fF,fF,fF,tT,fF,fF,tT,fF,fF,fF,fF,fF]
abbrev own1.mk1_5_9_12_14 : Array Bool := #[fF,tT,fF,fF,fF,tT,fF,fF,fF,tT,fF,fF,tT,fF,tT,fF,fF,fF]
set_option maxHeartbeats 64000000 in
set_option maxRecDepth 100000 in
theorem spec_l25Own.calls (A0_0 : Option Addr) (c0_0 : Nat) (l0_0 : List (S37)) (A0_1 : Option Addr) (c0_1 : Nat) (l0_1 : List Bool) (A0_2 : Option Addr) (c0_2 : Nat) (l0_2 : List Bool) (a0_3 : Int) (a0_4 : Int) (r1 : List (S37)) (r2 : List Bool) (r3 : List Bool) (r4 : Int) (r5 : Int) (w : World) (hr0_0 : Kd.C k37 w A0_0 l0_0.length l0_0) (hc0_0 : l0_0.length ≤ c0_0) (hr0_1 : Kd.C Kd.bool w A0_1 l0_1.length l0_1) (hc0_1 : l0_1.length ≤ c0_1) (hr0_2 : Kd.C Kd.bool w A0_2 l0_2.length l0_2) (hc0_2 : l0_2.length ≤ c0_2) (h : spec_l25Own.f l0_0 l0_1 l0_2 a0_3 a0_4 = some (r1, r2, r3, r4, r5)) :
  Calls Try.prog 84 #[.agg #[.slice A0_0 l0_0.length c0_0, .slice A0_1 l0_1.length c0_1, .slice A0_2 l0_2.length c0_2, .int .i64 a0_3, .int .i64 a0_4]] w fun e w' => ∃ v0_ v1_ v2_ : Value, e = .returned (.agg #[v0_, v1_, v2_, .int .i64 r4, .int .i64 r5]) ∧ Kd.R k37 37 w' w.heap.size (fun _ => True) v0_ r1 ∧ Kd.R Kd.bool 4 w' w.heap.size (fun k_ => some k_ ≠ (v2_ : Value).ownBlock) v1_ r2 ∧ Kd.R Kd.bool 4 w' w.heap.size (fun k_ => some k_ ≠ (v1_ : Value).ownBlock) v2_ r3 ∧ Below w.heap.size w w' := by
 have hu30 := Try.underlying30
 have HR0 := Aside0.mk hr0_0
 have HC0 := Aside0.mk hc0_0
 have HR1 := Aside0.mk hr0_1
 have HC1 := Aside0.mk hc0_1
 have HR2 := Aside0.mk hr0_2
 have HC2 := Aside0.mk hc0_2
 clear hr0_0 hc0_0 hr0_1 hc0_1 hr0_2 hc0_2
 have HB := Aside0.mk (Below.refl w.heap.size w)
 unfold spec_l25Own.f at h
 simp only [Option.bind_some, List.length_nil, Nat.zero_add, List.nil_append] at h
 by_cases q0 : l0_0.length < 3518437208883
 rotate_left
 ·
  rw [if_neg q0] at h
  cases h
 by_cases q1 : l0_1.length < 140737488355328
 rotate_left
 ·
  rw [if_pos q0, if_neg q1] at h
  cases h
 by_cases q2 : l0_2.length < 140737488355328
 rotate_left
 ·
  rw [if_pos q0, if_pos q1, if_neg q2] at h
  cases h
 rw [if_pos q0, if_pos q1, if_pos q2] at h
 simp only [Option.some.injEq, Prod.mk.injEq] at h
 obtain ⟨rfl, rfl, rfl, rfl, rfl⟩ := h
 have Q0 := Aside0.mk q0
 have Q1 := Aside0.mk q1
 have Q2 := Aside0.mk q2
 clear q0 q1 q2
 go_enter Try.func84, Try.ntmps84
 try go_wp2_with (first | ((with_reducible refine gate_dst (N := 1) rfl ?_); refine box_event ?hg (N := 1) ?hd (cs := #[.slice A0_0 l0_0.length c0_0, .slice A0_1 l0_1.length c0_1, .slice A0_2 l0_2.length c0_2, .int .i64 a0_3, .int .i64 a0_4]) (t := 30) ?hr ?_; (case hd => rfl); (case hg => rfl); (case hr => first | (go_simp; done) | (go_simp; rfl)); intro g1 hg w5 hbox hb; have BK1 := Aside0.mk hbox; replace HB := Aside0.mk (below_step HB.out hb); clear hb hbox hg) | ((with_reducible refine gate_dst (N := 2) rfl ?_); refine box_event ?hg (N := 2) ?hd (cs := #[.slice none 0 0, .slice none 0 0, .slice none 0 0, .int .i64 0, .int .i64 0]) (t := 30) ?hr ?_; (case hd => rfl); (case hg => rfl); (case hr => first | (go_simp; done) | (go_simp; rfl)); intro g2 hg w6 hbox hb; have G2 := Aside0.mk (bz_ hg HB.out); have N12 := Aside0.mk (nl_ hg BK1.out); have BK2 := Aside0.mk hbox; replace BK1 := Aside0.mk (bb_ BK1.out hb); replace HB := Aside0.mk (below_step HB.out hb); clear hb hbox hg))
 have HJ := Aside0.mk (show OwJ w g1 g2 #[.slice A0_0 l0_0.length c0_0, .slice A0_1 l0_1.length c0_1, .slice A0_2 l0_2.length c0_2, .int .i64 a0_3, .int .i64 a0_4] l0_0 l0_1 l0_2 a0_3 a0_4 w6.drew false false false false false false false (.bool false) (.bool false) (.bool false) (.bool false) (.bool false) (.bool false) from ⟨below_drew HB.out, blk_drew BK1.out, blk_drew BK2.out, fun h_ => absurd h_ (by decide), fun h_ => absurd h_ (by decide), fun h_ => absurd h_ (by decide), fun h_ => absurd h_ (by decide), fun h_ => absurd h_ (by decide), fun h_ => absurd h_ (by decide), fun h_ => absurd h_ (by decide), fun h_ => absurd h_ (by decide), fun h_ => absurd h_ (by decide)⟩)
 clear HB BK1 BK2
 refine start_ (n := 18) (S := fun w' => True) (ds := []) own1.mkE (by kernel_rfl) rfl rfl trivial (fun hHeld => ?_); refine with_tabW own1.tab own1.bits (fun HT_ HW_ => ?_)
 clear hHeld
 generalize w6.drew = wd at HJ ⊢
 refine pz_ HT_ 1 (some 4) own1.mk1 ?_
 refine pz_ HT_ 5 (some 8) own1.mk1_5 ?_
 refine pz_ HT_ 9 (some 12) own1.mk1_5_9 ?_
 refine pz_ HT_ 12 (some 15) own1.mk1_5_9_12 ?_
 refine pz_ HT_ 14 (some 17) own1.mk1_5_9_12_14 ?_
 refine inv_at [0, 2, 3, 4, 6, 7, 8, 10, 11, 13, 15, 16, 17] (fun a0_ b a w' => ∃ (e0 e1 e2 v0 v1 v2 m : Value), a = putSel a0_ b [(0, 3, e0), (2, 5, .slice A0_0 l0_0.length c0_0), (3, 6, v0), (4, 7, e1), (6, 9, .slice A0_1 l0_1.length c0_1), (7, 10, v1), (8, 11, e2), (10, 13, .slice A0_2 l0_2.length c0_2), (11, 14, v2), (13, 16, .int .i64 a0_3), (15, 18, .int .i64 a0_4), (16, 19, m)] ∧ (b 16 = true → m = .agg #[v0, v1, v2, .int .i64 a0_3, .int .i64 a0_4]) ∧ OwJ w g1 g2 #[.slice A0_0 l0_0.length c0_0, .slice A0_1 l0_1.length c0_1, .slice A0_2 l0_2.length c0_2, .int .i64 a0_3, .int .i64 a0_4] l0_0 l0_1 l0_2 a0_3 a0_4 w' (b 0) (b 3) (b 4) (b 7) (b 8) (b 11) (b 17) e0 e1 e2 v0 v1 v2) HT_.out HW_.out (by kernel_rfl) (by kernel_rfl) ?_ ?_ ?_
 ·
  exact ⟨.bool false, .bool false, .bool false, .bool false, .bool false, .bool false, .bool false, by simp only [putSel, Bool.false_eq_true, if_false], fun h_ => absurd h_ (by decide), HJ.out⟩
 ·
  clear HJ
  refine steps_cons ?_ ?_
  ·
   rintro b a w' ⟨e0, e1, e2, v0, v1, v2, m, ha, E_, J⟩ hb_ hon hoff
   refine ⟨_, rfl, fun K hK => ?_⟩
   replace ha := Aside0.mk ha
   refine Kd.R_lit_step k37 _ 37 ?hg (N := 3) ?hd (xs := ([] : List S37)) (inner := []) (ok := fun _ => True) (okp := fun _ => True) ?hr ?hp (fun _ hk => hk) trivial (Below.refl _ _) (Nat.le_refl _) (by simp) ?_; (case hd => rfl); (case hg => rfl); (case hr => first | (go_simp; done) | (go_simp; rfl)); (case hp => exact (Reps.none _ _))
   intro z w7 ho hb hg_ hn_
   refine hK.out _ _ ⟨z, e1, e2, v0, v1, v2, m, (by rw [ha.out]; exact putSel_upk 0 hb_ rfl rfl rfl), E_, J.lit0 hb (Kd.R_lower ho (below_size J.hB))⟩
  refine steps_cons ?_ ?_
  ·
   rintro b a w' ⟨e0, e1, e2, v0, v1, v2, m, ha, E_, J⟩ hb_ hon hoff
   refine ⟨_, rfl, fun K hK => ?_⟩
   have e4_ : a.tmps[4]? = some (.pointer (some ⟨g1, 0, none⟩)) := by rw [ha]; exact (putSel_off rfl).trans rfl
   replace ha := Aside0.mk ha
   have hs_ : w'.cell? ⟨g1, 0, none⟩ = some (.slice A0_0 l0_0.length c0_0) := (blk_cell J.k1 0).trans rfl
   refine value_ (w1 := w') (v := .slice A0_0 l0_0.length c0_0) (by rfl) rfl ?_ ?_
   ·
    go_simp
    all_goals first | rfl | assumption
   refine hK.out _ _ ⟨e0, e1, e2, v0, v1, v2, m, (by rw [ha.out]; exact putSel_upk 1 hb_ rfl rfl rfl), E_, J⟩
  refine steps_cons ?_ ?_
  ·
   rintro b a w' ⟨e0, e1, e2, v0, v1, v2, m, ha, E_, J⟩ hb_ hon hoff
   refine ⟨_, rfl, fun K hK => ?_⟩
   have e3_ : a.tmps[3]? = some (e0) := by rw [ha]; exact putSel_on (e := (0, 3, e0)) 0 rfl rfl (hon 0 (by kernel_rfl)) rfl
   have e5_ : a.tmps[5]? = some (.slice A0_0 l0_0.length c0_0) := by rw [ha]; exact putSel_on (e := (2, 5, .slice A0_0 l0_0.length c0_0)) 1 rfl rfl (hon 2 (by kernel_rfl)) rfl
   replace ha := Aside0.mk ha
   have hq_ := J.h0 (hon 0 (by kernel_rfl)) hb_
   refine Kd.R_append_rows_step k37 (w0 := w) w.heap.size (by rfl) (.tmp 3) (.tmp 5) 28 37 (.agg #[.int .i64 0, .int .i64 0, .int .i64 0, .int .i64 0, .int .i64 0]) 40 rfl Try.underlying28 info37 rfl (by decide) (by omega) e0 [] l0_0 A0_0 l0_0.length c0_0 (fun _ => True) (fun _ => False) (by simp only [Act.eval, Array.getD_eq_getD_getElem?, e3_, Option.getD_some]) (by simp only [Act.eval, Array.getD_eq_getD_getElem?, e5_, Option.getD_some]) hq_ (Kd.C_below HR0.out J.hB) (fun _ _ h => h) (fun _ h => h.elim) (fun _ _ => trivial) J.hB (below_size J.hB) (by have := Q0.out; simp only [List.length_nil]; omega) ?_
   intro z w7 ho hb hg_ hn_
   rw [List.nil_append] at ho
   refine hK.out _ _ ⟨e0, e1, e2, z, v1, v2, m, (by rw [ha.out]; exact putSel_upk 2 hb_ rfl rfl rfl), (fun h_ => absurd ((hoff 16 (by kernel_rfl)).symm.trans h_) (by decide)), J.app3 hq_ (hoff 17 (by kernel_rfl)) hb ho hg_⟩
  refine steps_cons ?_ ?_
  ·
   rintro b a w' ⟨e0, e1, e2, v0, v1, v2, m, ha, E_, J⟩ hb_ hon hoff
   refine ⟨_, rfl, fun K hK => ?_⟩
   replace ha := Aside0.mk ha
   refine Kd.R_lit_step Kd.bool _ 4 ?hg (N := 7) ?hd (xs := ([] : List Bool)) (inner := []) (ok := fun _ => True) (okp := fun _ => True) ?hr ?hp (fun _ hk => hk) trivial (Below.refl _ _) (Nat.le_refl _) (by simp) ?_; (case hd => rfl); (case hg => rfl); (case hr => first | (go_simp; done) | (go_simp; rfl)); (case hp => exact (Reps.none _ _))
   intro z w7 ho hb hg_ hn_
   refine hK.out _ _ ⟨e0, z, e2, v0, v1, v2, m, (by rw [ha.out]; exact putSel_upk 3 hb_ rfl rfl rfl), E_, J.lit4 (hoff 7 (by kernel_rfl)) hb (Kd.R_lower ho (below_size J.hB)) hn_⟩
  refine steps_cons ?_ ?_
  ·
   rintro b a w' ⟨e0, e1, e2, v0, v1, v2, m, ha, E_, J⟩ hb_ hon hoff
   refine ⟨_, rfl, fun K hK => ?_⟩
   have e8_ : a.tmps[8]? = some (.pointer (some ⟨g1, 1, none⟩)) := by rw [ha]; exact (putSel_off rfl).trans rfl
   replace ha := Aside0.mk ha
   have hs_ : w'.cell? ⟨g1, 1, none⟩ = some (.slice A0_1 l0_1.length c0_1) := (blk_cell J.k1 1).trans rfl
   refine value_ (w1 := w') (v := .slice A0_1 l0_1.length c0_1) (by rfl) rfl ?_ ?_
   ·
    go_simp
    all_goals first | rfl | assumption
   refine hK.out _ _ ⟨e0, e1, e2, v0, v1, v2, m, (by rw [ha.out]; exact putSel_upk 4 hb_ rfl rfl rfl), E_, J⟩
  refine steps_cons ?_ ?_
  ·
   rintro b a w' ⟨e0, e1, e2, v0, v1, v2, m, ha, E_, J⟩ hb_ hon hoff
   refine ⟨_, rfl, fun K hK => ?_⟩
   have e7_ : a.tmps[7]? = some (e1) := by rw [ha]; exact putSel_on (e := (4, 7, e1)) 3 rfl rfl (hon 4 (by kernel_rfl)) rfl
   have e9_ : a.tmps[9]? = some (.slice A0_1 l0_1.length c0_1) := by rw [ha]; exact putSel_on (e := (6, 9, .slice A0_1 l0_1.length c0_1)) 4 rfl rfl (hon 6 (by kernel_rfl)) rfl
   replace ha := Aside0.mk ha
   have hq_ := J.h4 (hon 4 (by kernel_rfl)) hb_
   refine Kd.R_append_rows_step Kd.bool (w0 := w) w.heap.size (by rfl) (.tmp 7) (.tmp 9) 23 4 (.bool false) 1 rfl Try.underlying23 info4 rfl (by decide) (by omega) e1 [] l0_1 A0_1 l0_1.length c0_1 (fun _ => True) (fun _ => False) (by simp only [Act.eval, Array.getD_eq_getD_getElem?, e7_, Option.getD_some]) (by simp only [Act.eval, Array.getD_eq_getD_getElem?, e9_, Option.getD_some]) hq_ (Kd.C_below HR1.out J.hB) (fun _ _ h => h) (fun _ h => h.elim) (fun _ _ => trivial) J.hB (below_size J.hB) (by have := Q1.out; simp only [List.length_nil]; omega) ?_
   intro z w7 ho hb hg_ hn_
   rw [List.nil_append] at ho
   refine hK.out _ _ ⟨e0, e1, e2, v0, z, v2, m, (by rw [ha.out]; exact putSel_upk 5 hb_ rfl rfl rfl), (fun h_ => absurd ((hoff 16 (by kernel_rfl)).symm.trans h_) (by decide)), J.app7 (hon 4 (by kernel_rfl)) hb_ (hoff 11 (by kernel_rfl)) (hoff 17 (by kernel_rfl)) hb ho hg_ hn_⟩
  refine steps_cons ?_ ?_
  ·
   rintro b a w' ⟨e0, e1, e2, v0, v1, v2, m, ha, E_, J⟩ hb_ hon hoff
   refine ⟨_, rfl, fun K hK => ?_⟩
   replace ha := Aside0.mk ha
   refine Kd.R_lit_step Kd.bool _ 4 ?hg (N := 11) ?hd (xs := ([] : List Bool)) (inner := []) (ok := fun _ => True) (okp := fun _ => True) ?hr ?hp (fun _ hk => hk) trivial (Below.refl _ _) (Nat.le_refl _) (by simp) ?_; (case hd => rfl); (case hg => rfl); (case hr => first | (go_simp; done) | (go_simp; rfl)); (case hp => exact (Reps.none _ _))
   intro z w7 ho hb hg_ hn_
   refine hK.out _ _ ⟨e0, e1, z, v0, v1, v2, m, (by rw [ha.out]; exact putSel_upk 6 hb_ rfl rfl rfl), E_, J.lit8 hb (Kd.R_lower ho (below_size J.hB)) hn_⟩
  refine steps_cons ?_ ?_
  ·
   rintro b a w' ⟨e0, e1, e2, v0, v1, v2, m, ha, E_, J⟩ hb_ hon hoff
   refine ⟨_, rfl, fun K hK => ?_⟩
   have e12_ : a.tmps[12]? = some (.pointer (some ⟨g1, 2, none⟩)) := by rw [ha]; exact (putSel_off rfl).trans rfl
   replace ha := Aside0.mk ha
   have hs_ : w'.cell? ⟨g1, 2, none⟩ = some (.slice A0_2 l0_2.length c0_2) := (blk_cell J.k1 2).trans rfl
   refine value_ (w1 := w') (v := .slice A0_2 l0_2.length c0_2) (by rfl) rfl ?_ ?_
   ·
    go_simp
    all_goals first | rfl | assumption
   refine hK.out _ _ ⟨e0, e1, e2, v0, v1, v2, m, (by rw [ha.out]; exact putSel_upk 7 hb_ rfl rfl rfl), E_, J⟩
  refine steps_cons ?_ ?_
  ·
   rintro b a w' ⟨e0, e1, e2, v0, v1, v2, m, ha, E_, J⟩ hb_ hon hoff
   refine ⟨_, rfl, fun K hK => ?_⟩
   have e11_ : a.tmps[11]? = some (e2) := by rw [ha]; exact putSel_on (e := (8, 11, e2)) 6 rfl rfl (hon 8 (by kernel_rfl)) rfl
   have e13_ : a.tmps[13]? = some (.slice A0_2 l0_2.length c0_2) := by rw [ha]; exact putSel_on (e := (10, 13, .slice A0_2 l0_2.length c0_2)) 7 rfl rfl (hon 10 (by kernel_rfl)) rfl
   replace ha := Aside0.mk ha
   have hq_ := J.h8 (hon 8 (by kernel_rfl)) hb_
   refine Kd.R_append_rows_step Kd.bool (w0 := w) w.heap.size (by rfl) (.tmp 11) (.tmp 13) 23 4 (.bool false) 1 rfl Try.underlying23 info4 rfl (by decide) (by omega) e2 [] l0_2 A0_2 l0_2.length c0_2 (fun _ => True) (fun _ => False) (by simp only [Act.eval, Array.getD_eq_getD_getElem?, e11_, Option.getD_some]) (by simp only [Act.eval, Array.getD_eq_getD_getElem?, e13_, Option.getD_some]) hq_ (Kd.C_below HR2.out J.hB) (fun _ _ h => h) (fun _ h => h.elim) (fun _ _ => trivial) J.hB (below_size J.hB) (by have := Q2.out; simp only [List.length_nil]; omega) ?_
   intro z w7 ho hb hg_ hn_
   rw [List.nil_append] at ho
   refine hK.out _ _ ⟨e0, e1, e2, v0, v1, z, m, (by rw [ha.out]; exact putSel_upk 8 hb_ rfl rfl rfl), (fun h_ => absurd ((hoff 16 (by kernel_rfl)).symm.trans h_) (by decide)), J.app11 (hon 7 (by kernel_rfl)) (hon 8 (by kernel_rfl)) hb_ (hoff 17 (by kernel_rfl)) hb ho hg_ hn_⟩
  refine steps_cons ?_ ?_
  ·
   rintro b a w' ⟨e0, e1, e2, v0, v1, v2, m, ha, E_, J⟩ hb_ hon hoff
   refine ⟨_, rfl, fun K hK => ?_⟩
   have e15_ : a.tmps[15]? = some (.pointer (some ⟨g1, 3, none⟩)) := by rw [ha]; exact (putSel_off rfl).trans rfl
   replace ha := Aside0.mk ha
   have hs_ : w'.cell? ⟨g1, 3, none⟩ = some (.int .i64 a0_3) := (blk_cell J.k1 3).trans rfl
   refine value_ (w1 := w') (v := .int .i64 a0_3) (by rfl) rfl ?_ ?_
   ·
    go_simp
    all_goals first | rfl | assumption
   refine hK.out _ _ ⟨e0, e1, e2, v0, v1, v2, m, (by rw [ha.out]; exact putSel_upk 9 hb_ rfl rfl rfl), E_, J⟩
  refine steps_cons ?_ ?_
  ·
   rintro b a w' ⟨e0, e1, e2, v0, v1, v2, m, ha, E_, J⟩ hb_ hon hoff
   refine ⟨_, rfl, fun K hK => ?_⟩
   have e17_ : a.tmps[17]? = some (.pointer (some ⟨g1, 4, none⟩)) := by rw [ha]; exact (putSel_off rfl).trans rfl
   replace ha := Aside0.mk ha
   have hs_ : w'.cell? ⟨g1, 4, none⟩ = some (.int .i64 a0_4) := (blk_cell J.k1 4).trans rfl
   refine value_ (w1 := w') (v := .int .i64 a0_4) (by rfl) rfl ?_ ?_
   ·
    go_simp
    all_goals first | rfl | assumption
   refine hK.out _ _ ⟨e0, e1, e2, v0, v1, v2, m, (by rw [ha.out]; exact putSel_upk 10 hb_ rfl rfl rfl), E_, J⟩
  refine steps_cons ?_ ?_
  ·
   rintro b a w' ⟨e0, e1, e2, v0, v1, v2, m, ha, E_, J⟩ hb_ hon hoff
   refine ⟨_, rfl, fun K hK => ?_⟩
   have e6_ : a.tmps[6]? = some (v0) := by rw [ha]; exact putSel_on (e := (3, 6, v0)) 2 rfl rfl (hon 3 (by kernel_rfl)) rfl
   have e10_ : a.tmps[10]? = some (v1) := by rw [ha]; exact putSel_on (e := (7, 10, v1)) 5 rfl rfl (hon 7 (by kernel_rfl)) rfl
   have e14_ : a.tmps[14]? = some (v2) := by rw [ha]; exact putSel_on (e := (11, 14, v2)) 8 rfl rfl (hon 11 (by kernel_rfl)) rfl
   have e16_ : a.tmps[16]? = some (.int .i64 a0_3) := by rw [ha]; exact putSel_on (e := (13, 16, .int .i64 a0_3)) 9 rfl rfl (hon 13 (by kernel_rfl)) rfl
   have e18_ : a.tmps[18]? = some (.int .i64 a0_4) := by rw [ha]; exact putSel_on (e := (15, 18, .int .i64 a0_4)) 10 rfl rfl (hon 15 (by kernel_rfl)) rfl
   replace ha := Aside0.mk ha
   obtain ⟨q0, z0, ee⟩ := Kd.R_slice (J.h3 (hon 3 (by kernel_rfl)))
   subst ee
   obtain ⟨q1, z1, ee⟩ := Kd.R_slice (J.h7 (hon 7 (by kernel_rfl)))
   subst ee
   obtain ⟨q2, z2, ee⟩ := Kd.R_slice (J.h11 (hon 11 (by kernel_rfl)))
   subst ee
   refine value_ (w1 := w') (v := .agg #[.slice q0 l0_0.length z0, .slice q1 l0_1.length z1, .slice q2 l0_2.length z2, .int .i64 a0_3, .int .i64 a0_4]) (by rfl) rfl ?_ ?_
   ·
    go_simp
    all_goals first | rfl | assumption
   refine hK.out _ _ ⟨e0, e1, e2, .slice q0 l0_0.length z0, .slice q1 l0_1.length z1, .slice q2 l0_2.length z2, .agg #[.slice q0 l0_0.length z0, .slice q1 l0_1.length z1, .slice q2 l0_2.length z2, .int .i64 a0_3, .int .i64 a0_4], (by rw [ha.out]; exact putSel_upk 11 hb_ rfl rfl rfl), (fun _ => rfl), J⟩
  refine steps_cons ?_ ?_
  ·
   rintro b a w' ⟨e0, e1, e2, v0, v1, v2, m, ha, E_, J⟩ hb_ hon hoff
   refine ⟨_, rfl, fun K hK => ?_⟩
   have hm_ := E_ (hon 16 (by kernel_rfl))
   subst hm_
   obtain ⟨q0, z0, ee⟩ := Kd.R_slice (J.h3 (hon 3 (by kernel_rfl)))
   subst ee
   obtain ⟨q1, z1, ee⟩ := Kd.R_slice (J.h7 (hon 7 (by kernel_rfl)))
   subst ee
   obtain ⟨q2, z2, ee⟩ := Kd.R_slice (J.h11 (hon 11 (by kernel_rfl)))
   subst ee
   have e19_ : a.tmps[19]? = some (.agg #[.slice q0 l0_0.length z0, .slice q1 l0_1.length z1, .slice q2 l0_2.length z2, .int .i64 a0_3, .int .i64 a0_4]) := by rw [ha]; exact putSel_on (e := (16, 19, .agg #[.slice q0 l0_0.length z0, .slice q1 l0_1.length z1, .slice q2 l0_2.length z2, .int .i64 a0_3, .int .i64 a0_4])) 11 rfl rfl (hon 16 (by kernel_rfl)) rfl
   have e2_ : a.tmps[2]? = some (.pointer (some ⟨g2, 0, none⟩)) := by rw [ha]; exact (putSel_off rfl).trans rfl
   replace ha := Aside0.mk ha
   have k2_ := J.k2
   rw [show b 17 = false from hb_] at k2_
   replace k2_ : w'.heap[g2]? = some (.cells #[.slice none 0 0, .slice none 0 0, .slice none 0 0, .int .i64 0, .int .i64 0] 30 (0, 0)) := k2_
   obtain ⟨hcz0, hcz1, hcz2, hcz3, hcz4⟩ := cz5_ k2_
   obtain ⟨hfz0, hfz1, hfz2, hfz3, hfz4⟩ := fz5_ k2_
   refine skip_ (w1 := ?_) (by rfl) rfl ?_ ?_
   rotate_left
   ·
    go_simp
    rfl
   refine hK.out _ _ ⟨e0, e1, e2, .slice q0 l0_0.length z0, .slice q1 l0_1.length z1, .slice q2 l0_2.length z2, .agg #[.slice q0 l0_0.length z0, .slice q1 l0_1.length z1, .slice q2 l0_2.length z2, .int .i64 a0_3, .int .i64 a0_4], (by rw [ha.out]; exact (putSel_same rfl).symm), (fun _ => rfl), J.store hb_ G2.out N12.out (hon 3 (by kernel_rfl)) (hon 7 (by kernel_rfl)) (hon 11 (by kernel_rfl))⟩
  exact steps_nil
 ·
  skip
  rintro b a wz hall ⟨e0, e1, e2, v0, v1, v2, m, ha, _, J⟩
  clear HJ
  have hb0_ := hall 0 (by kernel_rfl)
  have hb2_ := hall 2 (by kernel_rfl)
  have hb3_ := hall 3 (by kernel_rfl)
  have hb4_ := hall 4 (by kernel_rfl)
  have hb6_ := hall 6 (by kernel_rfl)
  have hb7_ := hall 7 (by kernel_rfl)
  have hb8_ := hall 8 (by kernel_rfl)
  have hb10_ := hall 10 (by kernel_rfl)
  have hb11_ := hall 11 (by kernel_rfl)
  have hb13_ := hall 13 (by kernel_rfl)
  have hb15_ := hall 15 (by kernel_rfl)
  have hb16_ := hall 16 (by kernel_rfl)
  have hb17_ := hall 17 (by kernel_rfl)
  rw [hb0_, hb3_, hb4_, hb7_, hb8_, hb11_, hb17_] at J
  subst ha
  simp only [putSel, hb0_, hb2_, hb3_, hb4_, hb6_, hb7_, hb8_, hb10_, hb11_, hb13_, hb15_, hb16_, hb17_, if_true, Act.put, List.setIfInBounds_toArray, List.set_cons_zero, List.set_cons_succ]
  clear hb0_ hb2_ hb3_ hb4_ hb6_ hb7_ hb8_ hb10_ hb11_ hb13_ hb15_ hb16_ hb17_ hall
  try go_wp2
  refine bodyPost_ret (results_cell_row rfl _ _ g2 30 #[v0, v1, v2, .int .i64 a0_3, .int .i64 a0_4] (0, 0) _ rfl J.k2 Try.underlying30 rfl (by kernel_rfl)) rfl ?_
  exact ⟨v0, v1, v2, rr_, J.h3 rfl, ⟨fun k_ hk_ => J.p7b rfl rfl k_ hk_, (J.h7 rfl).2⟩, ⟨fun k_ hk_ => (J.p7b rfl rfl).symm k_ hk_, (J.h11 rfl).2⟩, J.hB⟩
end Go.Proofs.Ythmjimboajmhmaa.Pr

