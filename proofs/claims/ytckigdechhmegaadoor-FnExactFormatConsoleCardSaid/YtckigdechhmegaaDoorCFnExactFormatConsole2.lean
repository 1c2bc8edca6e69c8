/-
What is proved: parts of the law FnExactFormatConsole: what the functions that it reaches compute, and the plain law.
Conditions: those of each theorem.
-/
import Derived.Test.YtckigdechhmegaaDoorCFnExactFormatConsole1
set_option maxHeartbeats 8000000
set_option maxRecDepth 100000
namespace Go.Proofs.YtckigdechhmegaaDoor.Pr
open Go.RowKit Go.Proofs.YtckigdechhmegaaDoorW.PrintWords Go.Proofs.YtckigdechhmegaaDoorW.PrintLast Go.Proofs.YtckigdechhmegaaDoorW.PrintMore
attribute [local go_sem] max2_int min2_int max_two min_two max_three min_three max_four min_four   -- for this text's walks alone
set_option linter.unusedVariables false
set_option linter.unusedSimpArgs false
mutual
def spec_l25Out.l0 : Nat → List (S53) → List Bool → Int → List Int → Int → Option (Int)
 | 0, _, _, _, _, _ => none
 | k + 1, x0, x1, x2, x7, x8 => if x8 < 8 then (if x7.length < 17592186044416 then (spec_l25Out.l0 k x0 x1 x2 (x7 ++ [(-1)]) (wrap64 (x8 + 1))) else (none)) else (if 0 < (x7.length : Int) then (spec_l25Out.l1 k x0 x1 x2 (x7.set (0 : Int).toNat 0) true) else (none))
def spec_l25Out.l1 : Nat → List (S53) → List Bool → Int → List Int → Bool → Option (Int)
 | 0, _, _, _, _, _ => none
 | k + 1, x0, x1, x2, x7, x9 => if x9 = true then (spec_l25Out.l2 k x0 x1 x2 x7 false 0) else (if 0 ≤ x2 then (if x2 < (x7.length : Int) then (some (rd x7 x2)) else (none)) else (none))
def spec_l25Out.l2 : Nat → List (S53) → List Bool → Int → List Int → Bool → Int → Option (Int)
 | 0, _, _, _, _, _, _ => none
 | k + 1, x0, x1, x2, x7, x9, x10 => if x10 < (x0.length : Int) then (if 0 ≤ x10 then (if 0 ≤ ((rd_T53 x0 x10).f0) then (if ((rd_T53 x0 x10).f0) < (x1.length : Int) then (if (rdOf false x1 ((rd_T53 x0 x10).f0) = true) then (if 0 ≤ ((rd_T53 x0 x10).f1) then (if ((rd_T53 x0 x10).f1) < (x1.length : Int) then (spec_l25Out.j3 k x0 x1 x2 x7 x9 x10 ((rd_T53 x0 x10).f0) ((rd_T53 x0 x10).f1) (!(rdOf false x1 ((rd_T53 x0 x10).f1)))) else (none)) else (none)) else (spec_l25Out.j3 k x0 x1 x2 x7 x9 x10 ((rd_T53 x0 x10).f0) ((rd_T53 x0 x10).f1) true)) else (none)) else (none)) else (none)) else (spec_l25Out.l1 k x0 x1 x2 x7 x9)
def spec_l25Out.j3 : Nat → List (S53) → List Bool → Int → List Int → Bool → Int → Int → Int → Bool → Option (Int)
 | 0, _, _, _, _, _, _, _, _, _ => none
 | k + 1, x0, x1, x2, x7, x9, x10, x11, x12, x53 => if x53 = true then (spec_l25Out.l2 k x0 x1 x2 x7 x9 (wrap64 (x10 + 1))) else (if 0 ≤ x11 then (if x11 < (x7.length : Int) then (if 0 ≤ x10 then (if x10 < (x0.length : Int) then (if (rd x7 x11) ≥ 0 then (if 0 ≤ x12 then (if x12 < (x7.length : Int) then (if (rd x7 x12) < 0 then (spec_l25Out.j4 k x0 x1 x2 x7 x9 x10 x11 x12 (wrap64 ((rd x7 x11) + ((rd_T53 x0 x10).f2))) true) else (spec_l25Out.j4 k x0 x1 x2 x7 x9 x10 x11 x12 (wrap64 ((rd x7 x11) + ((rd_T53 x0 x10).f2))) (decide ((wrap64 ((rd x7 x11) + ((rd_T53 x0 x10).f2))) < (rd x7 x12))))) else (none)) else (none)) else (spec_l25Out.j4 k x0 x1 x2 x7 x9 x10 x11 x12 (wrap64 ((rd x7 x11) + ((rd_T53 x0 x10).f2))) false)) else (none)) else (none)) else (none)) else (none))
def spec_l25Out.j4 : Nat → List (S53) → List Bool → Int → List Int → Bool → Int → Int → Int → Int → Bool → Option (Int)
 | 0, _, _, _, _, _, _, _, _, _, _ => none
 | k + 1, x0, x1, x2, x7, x9, x10, x11, x12, x13, x83 => if x83 = true then (if 0 ≤ x12 then (if x12 < (x7.length : Int) then ((some (x7.set (x12 : Int).toNat x13 : List Int)).bind fun y136 => (if 0 ≤ x10 then (if x10 < (x0.length : Int) then (if (rd y136 x12) ≥ 0 then (if 0 ≤ x11 then (if x11 < (x7.length : Int) then (if (rd y136 x11) < 0 then (spec_l25Out.l2 k x0 x1 x2 (y136.set (x11 : Int).toNat (wrap64 ((rd y136 x12) + ((rd_T53 x0 x10).f2)))) true (wrap64 (x10 + 1))) else (if (wrap64 ((rd y136 x12) + ((rd_T53 x0 x10).f2))) < (rd y136 x11) then (spec_l25Out.l2 k x0 x1 x2 (y136.set (x11 : Int).toNat (wrap64 ((rd y136 x12) + ((rd_T53 x0 x10).f2)))) true (wrap64 (x10 + 1))) else (spec_l25Out.l2 k x0 x1 x2 y136 true (wrap64 (x10 + 1))))) else (none)) else (none)) else (spec_l25Out.l2 k x0 x1 x2 y136 true (wrap64 (x10 + 1)))) else (none)) else (none))) else (none)) else (none)) else (if 0 ≤ x12 then (if x12 < (x7.length : Int) then (if 0 ≤ x10 then (if x10 < (x0.length : Int) then (if (rd x7 x12) ≥ 0 then (if 0 ≤ x11 then (if x11 < (x7.length : Int) then (if (rd x7 x11) < 0 then (spec_l25Out.l2 k x0 x1 x2 (x7.set (x11 : Int).toNat (wrap64 ((rd x7 x12) + ((rd_T53 x0 x10).f2)))) true (wrap64 (x10 + 1))) else (if (wrap64 ((rd x7 x12) + ((rd_T53 x0 x10).f2))) < (rd x7 x11) then (spec_l25Out.l2 k x0 x1 x2 (x7.set (x11 : Int).toNat (wrap64 ((rd x7 x12) + ((rd_T53 x0 x10).f2)))) true (wrap64 (x10 + 1))) else (spec_l25Out.l2 k x0 x1 x2 x7 x9 (wrap64 (x10 + 1))))) else (none)) else (none)) else (spec_l25Out.l2 k x0 x1 x2 x7 x9 (wrap64 (x10 + 1)))) else (none)) else (none)) else (none)) else (none))
end
def spec_l25Out.f (k : Nat) (l0 : List (S53)) (l1 : List Bool) (a2 : Int) : Option (Int) := spec_l25Out.l0 k l0 l1 a2 (([] : List Int)) 0
theorem spec_l25Out.calls (k : Nat) (A0 : Option Addr) (c0 : Nat) (l0 : List (S53)) (A1 : Option Addr) (c1 : Nat) (l1 : List Bool) (a2 : Int) (r : Int) (w : World) (hr0 : Kd.C k53 w A0 l0.length l0) (hc0 : l0.length ≤ c0) (hr1 : Kd.C Kd.bool w A1 l1.length l1) (hc1 : l1.length ≤ c1) (h : spec_l25Out.f k l0 l1 a2 = some r) :
  Calls Tryd.prog 47 #[.slice A0 l0.length c0, .slice A1 l1.length c1, .int .i64 a2] w fun e w' => e = .returned (.int .i64 r) ∧ Below w.heap.size w w' := by
 have HR0 := Aside0.mk hr0
 have HC0 := Aside0.mk hc0
 clear hr0 hc0
 have HR1 := Aside0.mk hr1
 have HC1 := Aside0.mk hc1
 clear hr1 hc1
 have HB := Aside0.mk (Below.refl w.heap.size w)
 have H : (spec_l25Out.l0 k l0 l1 a2 (([] : List Int)) 0) = some r := h
 clear h
 obtain ⟨y119, hy119⟩ : ∃ y_ : List Int, y_ = (([] : List Int)) := ⟨_, rfl⟩
 replace H : (spec_l25Out.l0 k l0 l1 a2 y119 0) = some r := by first | (rw [hy119]; with_reducible exact H) | (have H2_ := (Option.bind_some _ _).symm.trans H; rw [hy119]; with_reducible exact H2_) | (have H2_ := (Option.bind_some _ _).symm.trans H; with_reducible exact H2_) | with_reducible exact H | (rw [hy119]; exact H) | exact H
 have Ny119 := Aside0.mk hy119
 clear hy119
 have H' := Aside0.mk H
 clear H
 go_enter Tryd.func47, Tryd.ntmps47
 go_wp2_with (first | ((with_reducible refine gate_dst (N := 15) rfl ?_); refine Kd.R_lit (Kd.int .i64) _ 3 ?hg (N := 15) ?hd (xs := ([] : List Int)) (inner := []) (ok := fun _ => True) (okp := fun _ => True) ?hr ?hp (fun _ hk => hk) trivial (Below.refl _ _) (Nat.le_refl _) (by simp) ?_; (case hd => rfl); (case hg => rfl); (case hr => first | (go_simp; done) | (go_simp; rfl)); (case hp => exact (Reps.none _ _)); intro v120 w4 ho5 hb hg_ hnew_; clear hg_ hnew_; replace ho5 := ry_ Ny119.out ho5; have HO121 := Aside0.mk (Kd.R_lower ho5 (below_size (lb0_ HB.out))); replace HB := Aside0.mk (below_step (lb0_ HB.out) hb); clear hb ho5))
 repeat (go_quiet (first | ((with_reducible refine gate_dst (N := 15) rfl ?_); refine Kd.R_lit (Kd.int .i64) _ 3 ?hg (N := 15) ?hd (xs := ([] : List Int)) (inner := []) (ok := fun _ => True) (okp := fun _ => True) ?hr ?hp (fun _ hk => hk) trivial (Below.refl _ _) (Nat.le_refl _) (by simp) ?_; (case hd => rfl); (case hg => rfl); (case hr => first | (go_simp; done) | (go_simp; rfl)); (case hp => exact (Reps.none _ _)); intro v120 w4 ho5 hb hg_ hnew_; clear hg_ hnew_; replace ho5 := ry_ Ny119.out ho5; have HO121 := Aside0.mk (Kd.R_lower ho5 (below_size (lb0_ HB.out))); replace HB := Aside0.mk (below_step (lb0_ HB.out) hb); clear hb ho5)); try go_wp2_with (first | ((with_reducible refine gate_dst (N := 15) rfl ?_); refine Kd.R_lit (Kd.int .i64) _ 3 ?hg (N := 15) ?hd (xs := ([] : List Int)) (inner := []) (ok := fun _ => True) (okp := fun _ => True) ?hr ?hp (fun _ hk => hk) trivial (Below.refl _ _) (Nat.le_refl _) (by simp) ?_; (case hd => rfl); (case hg => rfl); (case hr => first | (go_simp; done) | (go_simp; rfl)); (case hp => exact (Reps.none _ _)); intro v120 w4 ho5 hb hg_ hnew_; clear hg_ hnew_; replace ho5 := ry_ Ny119.out ho5; have HO121 := Aside0.mk (Kd.R_lower ho5 (below_size (lb0_ HB.out))); replace HB := Aside0.mk (below_step (lb0_ HB.out) hb); clear hb ho5)))
 go_loopg [7, 8] k (fun kq v7 v8 w' => ∃ (x7_1 : List Int) (x8_1 : Int), v8 = .int .i64 x8_1 ∧ Aside0 (spec_l25Out.l0 kq l0 l1 a2 x7_1 x8_1 = some r) ∧ Aside0 (kq ≤ k) ∧ Aside0 (Kd.R (Kd.int .i64) 3 w' w.heap.size (fun _ => True) v7 x7_1) ∧ Aside0 (Below w.heap.size w w'))
 case atStart => exact ⟨(y119), (0), (by first | rfl | (simp; done) | (simp [*]; done)), H', ⟨Nat.le_refl _⟩, ⟨kr_ HO121.out⟩, ⟨lb0_ HB.out⟩⟩
 case round =>
  clear H'
  try clear c1
  try clear p2
  try clear c4
  obtain ⟨x7_1, x8_1, rfl, HA, HK1, HO_7, HB⟩ := hrel
  cases gk with
  | zero => exact absurd HA.out (by simp [spec_l25Out.l0])
  | succ k1 =>
   have H := HA.out
   clear HA
   simp only [spec_l25Out.l0] at H
   by_cases c6 : x8_1 < 8
   ·
    rw [if_pos c6] at H
    have c6b0 : decide (x8_1 < 8) = true := decide_eq_true c6
    clear c6
    by_cases c7 : x7_1.length < 17592186044416
    ·
     rw [if_pos c7] at H
     have LMc7 := Aside0.mk c7
     clear c7
     obtain ⟨y122, hy122⟩ : ∃ y_ : List Int, y_ = (x7_1 ++ [(-1)]) := ⟨_, rfl⟩
     replace H : (spec_l25Out.l0 k1 l0 l1 a2 y122 (wrap64 (x8_1 + 1))) = some r := by first | (rw [hy122]; with_reducible exact H) | (have H2_ := (Option.bind_some _ _).symm.trans H; rw [hy122]; with_reducible exact H2_) | (have H2_ := (Option.bind_some _ _).symm.trans H; with_reducible exact H2_) | with_reducible exact H | (rw [hy122]; exact H) | exact H
     have Ny122 := Aside0.mk hy122
     clear hy122
     have H' := Aside0.mk H
     clear H
     go_wp2_with (first | ((with_reducible refine gate_builtin (b := .append) (xs := #[.tmp 20, .tmp 21]) rfl ?_); at_builtin; refine Kd.R_append (Kd.int .i64) (w0 := w) w.heap.size rfl (.tmp 20) (.tmp 21) 86 3 (.int .i64 0) 8 rfl Tryd.underlying86 info3 rfl (by decide) (by omega) u7 x7_1 (-1) [.int .i64 (-1)] (fun _ => True) (fun _ => False) rfl rfl ?aP (fun _ hk => hk.elim) ?aF ?aO ?aB ?aS ?aL ?_; (case aP => exact rfl); (case aB => exact (lb0_ HB.out)); (case aF => exact (fun _ _ => trivial)); (case aO => exact (kr_ HO_7.out)); (case aS => exact (below_size (lb0_ HB.out))); (case aL => have := LMc7.out; omega); intro v123 w8 ho hb hg hat; rw [← Ny122.out] at ho; replace HB := Aside0.mk (hb); have HO124 := Aside0.mk (ho); clear HO_7; clear ho hb hg hat))
     repeat (go_quiet (first | ((with_reducible refine gate_builtin (b := .append) (xs := #[.tmp 20, .tmp 21]) rfl ?_); at_builtin; refine Kd.R_append (Kd.int .i64) (w0 := w) w.heap.size rfl (.tmp 20) (.tmp 21) 86 3 (.int .i64 0) 8 rfl Tryd.underlying86 info3 rfl (by decide) (by omega) u7 x7_1 (-1) [.int .i64 (-1)] (fun _ => True) (fun _ => False) rfl rfl ?aP (fun _ hk => hk.elim) ?aF ?aO ?aB ?aS ?aL ?_; (case aP => exact rfl); (case aB => exact (lb0_ HB.out)); (case aF => exact (fun _ _ => trivial)); (case aO => exact (kr_ HO_7.out)); (case aS => exact (below_size (lb0_ HB.out))); (case aL => have := LMc7.out; omega); intro v123 w8 ho hb hg hat; rw [← Ny122.out] at ho; replace HB := Aside0.mk (hb); have HO124 := Aside0.mk (ho); clear HO_7; clear ho hb hg hat)); try go_wp2_with (first | ((with_reducible refine gate_builtin (b := .append) (xs := #[.tmp 20, .tmp 21]) rfl ?_); at_builtin; refine Kd.R_append (Kd.int .i64) (w0 := w) w.heap.size rfl (.tmp 20) (.tmp 21) 86 3 (.int .i64 0) 8 rfl Tryd.underlying86 info3 rfl (by decide) (by omega) u7 x7_1 (-1) [.int .i64 (-1)] (fun _ => True) (fun _ => False) rfl rfl ?aP (fun _ hk => hk.elim) ?aF ?aO ?aB ?aS ?aL ?_; (case aP => exact rfl); (case aB => exact (lb0_ HB.out)); (case aF => exact (fun _ _ => trivial)); (case aO => exact (kr_ HO_7.out)); (case aS => exact (below_size (lb0_ HB.out))); (case aL => have := LMc7.out; omega); intro v123 w8 ho hb hg hat; rw [← Ny122.out] at ho; replace HB := Aside0.mk (hb); have HO124 := Aside0.mk (ho); clear HO_7; clear ho hb hg hat)))
     go_roundg k1
     case measure => have := HK1.out; omega
     case rel => exact ⟨(y122), (wrap64 (x8_1 + 1)), (by first | rfl | (simp; done) | (simp [*]; done)), H', ⟨by have := HK1.out; omega⟩, ⟨kr_ HO124.out⟩, ⟨lb0_ HB.out⟩⟩
    ·
     rw [if_neg c7] at H
     exact absurd H (by simp)
   ·
    rw [if_neg c6] at H
    have c6b0 : decide (x8_1 < 8) = false := decide_eq_false c6
    clear c6
    by_cases c9 : 0 < (x7_1.length : Int)
    ·
     rw [if_pos c9] at H
     have c9b0 : decide (0 < (x7_1.length : Int)) = true := decide_eq_true c9
     have c9b1 : decide (0 < x7_1.length) = true := decide_eq_true (by omega)
     clear c9
     obtain ⟨y125, hy125⟩ : ∃ y_ : List Int, y_ = (x7_1.set (0 : Int).toNat 0) := ⟨_, rfl⟩
     replace H : (spec_l25Out.l1 k1 l0 l1 a2 y125 true) = some r := by first | (rw [hy125]; with_reducible exact H) | (have H2_ := (Option.bind_some _ _).symm.trans H; rw [hy125]; with_reducible exact H2_) | (have H2_ := (Option.bind_some _ _).symm.trans H; with_reducible exact H2_) | with_reducible exact H | (rw [hy125]; exact H) | exact H
     have Ny125 := Aside0.mk hy125
     clear hy125
     have H' := Aside0.mk H
     clear H
     have p10 : 0 ≤ (0 : Int) := (by omega)
     have q10 : (0 : Int) < ((x7_1.length : Int) : Int) := dt_
     have qi10 : (0 < x7_1.length) = True := eq_true (by omega)
     obtain ⟨go10, co10, eo10, gb10, gl10, cl10, HG10⟩ := Kd.R_form HO_7.out (by omega)
     (first | cases eo10 | (injection eo10 with ea_ en_ ec_; (first | subst ea_ | (injection ea_ with ea_; subst ea_)); subst ec_; clear en_))
     have GB10 := Aside0.mk gb10
     have GG10 := Aside0.mk HG10
     clear gb10 gl10 HG10
     obtain ⟨hx10_0, hf10_0⟩ := Kd.R_celln 0 HO_7.out (0 : Int) p10 q10
     (try rw [show ((0 : Int)).toNat = 0 from rfl] at hx10_0)
     (try simp only [Nat.reduceMul, Nat.zero_mul, Nat.zero_add, Nat.reduceAdd] at hx10_0)
     (try rw [show ((0 : Int)).toNat = 0 from rfl] at hf10_0)
     (try simp only [Nat.reduceMul, Nat.zero_mul, Nat.zero_add, Nat.reduceAdd] at hf10_0)
     replace p10 := eq_true p10
     replace q10 := eq_true q10
     have HP11 := Kd.R_putg HO_7.out (0 : Int) 0
     go_wp2_with (first | ((with_reducible refine gate_store (t := 3) (p := 24) rfl ?_); (try (rw [drewN_self wr]; generalize hq_ : World.drewN wr _ = wr; replace HO_7 := Aside0.mk (Kd.R_at hq_ HO_7.out); replace HB := Aside0.mk (below_at hq_ HB.out); clear hq_; (try (have HP11 := Kd.R_putg HO_7.out (0 : Int) 0)))); refine store_event (t := 3) (p := 24) (v := ?vo_w12) (w1 := (wr.setCell ⟨go10, (0 : Int).toNat, none⟩ (.int .i64 0))) ?hg ?ho ?hn ?hr ?_; (case ho => rfl); (case hg => rfl); (case hn => rfl); (case hr => first | (go_simp; done) | (go_simp; rfl)); intro w12 hw; have hg : wr.grownBy w12 (some go10) := (by rw [hw]; exact HP11.2); have hp_ : Kd.R (Kd.int .i64) 3 w12 w.heap.size (fun _ => True) (.slice (some ⟨go10, 0, none⟩) x7_1.length co10) y125 := (by rw [hw, Ny125.out]; exact HP11.1); clear HP11; replace HO_7 := Aside0.mk (hp_); replace HB := Aside0.mk ((by rw [hw]; exact below_set (HB.out) GB10.out : Below w.heap.size w w12)); clear hg hw hp_))
     repeat (go_quiet (first | ((with_reducible refine gate_store (t := 3) (p := 24) rfl ?_); (try (rw [drewN_self wr]; generalize hq_ : World.drewN wr _ = wr; replace HO_7 := Aside0.mk (Kd.R_at hq_ HO_7.out); replace HB := Aside0.mk (below_at hq_ HB.out); clear hq_; (try (have HP11 := Kd.R_putg HO_7.out (0 : Int) 0)))); refine store_event (t := 3) (p := 24) (v := ?vo_w12) (w1 := (wr.setCell ⟨go10, (0 : Int).toNat, none⟩ (.int .i64 0))) ?hg ?ho ?hn ?hr ?_; (case ho => rfl); (case hg => rfl); (case hn => rfl); (case hr => first | (go_simp; done) | (go_simp; rfl)); intro w12 hw; have hg : wr.grownBy w12 (some go10) := (by rw [hw]; exact HP11.2); have hp_ : Kd.R (Kd.int .i64) 3 w12 w.heap.size (fun _ => True) (.slice (some ⟨go10, 0, none⟩) x7_1.length co10) y125 := (by rw [hw, Ny125.out]; exact HP11.1); clear HP11; replace HO_7 := Aside0.mk (hp_); replace HB := Aside0.mk ((by rw [hw]; exact below_set (HB.out) GB10.out : Below w.heap.size w w12)); clear hg hw hp_)); try go_wp2_with (first | ((with_reducible refine gate_store (t := 3) (p := 24) rfl ?_); (try (rw [drewN_self wr]; generalize hq_ : World.drewN wr _ = wr; replace HO_7 := Aside0.mk (Kd.R_at hq_ HO_7.out); replace HB := Aside0.mk (below_at hq_ HB.out); clear hq_; (try (have HP11 := Kd.R_putg HO_7.out (0 : Int) 0)))); refine store_event (t := 3) (p := 24) (v := ?vo_w12) (w1 := (wr.setCell ⟨go10, (0 : Int).toNat, none⟩ (.int .i64 0))) ?hg ?ho ?hn ?hr ?_; (case ho => rfl); (case hg => rfl); (case hn => rfl); (case hr => first | (go_simp; done) | (go_simp; rfl)); intro w12 hw; have hg : wr.grownBy w12 (some go10) := (by rw [hw]; exact HP11.2); have hp_ : Kd.R (Kd.int .i64) 3 w12 w.heap.size (fun _ => True) (.slice (some ⟨go10, 0, none⟩) x7_1.length co10) y125 := (by rw [hw, Ny125.out]; exact HP11.1); clear HP11; replace HO_7 := Aside0.mk (hp_); replace HB := Aside0.mk ((by rw [hw]; exact below_set (HB.out) GB10.out : Below w.heap.size w w12)); clear hg hw hp_)))
     go_loopg [9] k1 (fun kq v9 w' => ∃ (x7_2 : List Int) (x9_2 : Bool), v9 = .bool x9_2 ∧ Aside0 (spec_l25Out.l1 kq l0 l1 a2 x7_2 x9_2 = some r) ∧ Aside0 (kq ≤ k1) ∧ Aside0 (Kd.R (Kd.int .i64) 3 w' w.heap.size (fun _ => True) (.slice (some ⟨go10, 0, none⟩) x7_1.length co10) x7_2) ∧ Aside0 (Below w.heap.size w w'))
     case atStart => exact ⟨(y125), (true), (by first | rfl | (simp; done) | (simp [*]; done)), H', ⟨Nat.le_refl _⟩, ⟨kr_ HO_7.out⟩, ⟨lb0_ HB.out⟩⟩
     case round =>
      clear H'
      try clear c1
      try clear p1
      try clear q1
      try clear hx1
      try clear qi1
      try clear p2
      try clear c4
      try clear c6
      try clear c6b0
      try clear p6
      try clear c7
      try clear c9
      try clear c9b0
      try clear c9b1
      try clear p10
      try clear q10
      try clear hx10
      try clear qi10
      try clear hf10
      try clear hx10_0
      try clear p10
      try clear p2
      try clear q10
      obtain ⟨x7_2, x9_2, rfl, HA, HK2, HO_7, HB⟩ := hrel
      have hl7_2 := (Kd.R_reads' HO_7.out).1
      rw [hl7_2] at HO_7
      (try simp only [hl7_2])
      cases gk with
      | zero => exact absurd HA.out (by simp [spec_l25Out.l1])
      | succ k2 =>
       have H := HA.out
       clear HA
       simp only [spec_l25Out.l1] at H
       by_cases c13 : x9_2 = true
       ·
        subst c13
        have H1 : (spec_l25Out.l2 k2 l0 l1 a2 x7_2 false 0) = some r := by rw [if_pos rfl] at H; exact H
        clear H; have H := H1; clear H1; have H' := Aside0.mk H; clear H
        go_wp2
        repeat (go_quiet (fail); try go_wp2)
        go_loopg [9, 10] k2 (fun kq v9 v10 w' => ∃ (x7_3 : List Int) (x9_3 : Bool) (x10_3 : Int), v9 = .bool x9_3 ∧ v10 = .int .i64 x10_3 ∧ Aside0 (spec_l25Out.l2 kq l0 l1 a2 x7_3 x9_3 x10_3 = some r) ∧ Aside0 (kq ≤ k2) ∧ Aside0 (Kd.R (Kd.int .i64) 3 w' w.heap.size (fun _ => True) (.slice (some ⟨go10, 0, none⟩) x7_2.length co10) x7_3) ∧ Aside0 (Below w.heap.size w w'))
        case atStart => exact ⟨(x7_2), (false), (0), (by first | rfl | (simp; done) | (simp [*]; done)), (by first | rfl | (simp; done) | (simp [*]; done)), H', ⟨Nat.le_refl _⟩, ⟨by (try simp only [hl7_2]); (with_reducible repeat (first | apply Kd.R_alloc | apply Kd.R_drewN | apply Kd.R_drew)); exact HO_7.out⟩, ⟨lb0_ HB.out⟩⟩
        case round =>
         clear H'
         try clear c1
         try clear p1
         try clear q1
         try clear hx1
         try clear qi1
         try clear p2
         try clear c4
         try clear c6
         try clear c6b0
         try clear p6
         try clear c7
         try clear c9
         try clear c9b0
         try clear c9b1
         try clear p10
         try clear q10
         try clear hx10
         try clear qi10
         try clear hf10
         try clear c13
         try clear hx10_0
         try clear p1
         try clear p10
         try clear p2
         try clear p6
         try clear q1
         try clear q10
         obtain ⟨x7_3, x9_3, x10_3, rfl, rfl, HA, HK3, HO_7, HB⟩ := hrel; have hl7_3 := (Kd.R_reads' HO_7.out).1
         rw [hl7_3] at HO_7
         (try simp only [hl7_3])
         cases gk with
         | zero => exact absurd HA.out (by simp [spec_l25Out.l2])
         | succ k3 =>
          have H := HA.out; clear HA; simp only [spec_l25Out.l2] at H
          by_cases c14 : x10_3 < (l0.length : Int)
          ·
           rw [if_pos c14] at H
           have c14b0 : decide (x10_3 < (l0.length : Int)) = true := decide_eq_true c14; clear c14
           by_cases c15 : 0 ≤ x10_3
           ·
            rw [if_pos c15] at H
            have c15b0 : decide (0 ≤ x10_3) = true := decide_eq_true c15; clear c15; have HC16 := Aside0.mk H; clear H; have p127 : 0 ≤ (x10_3 : Int) := dt_; have q127 : x10_3 < (l0.length : Int) := dt_; obtain ⟨ad127, e127, hx127_0, hx127_1, hx127_2, hx127_3, hx127_4⟩ := at_T53 HR0.out x10_3 p127 q127
            cases e127
            replace hx127_0 := bc_ HB.out hx127_0; replace hx127_1 := bc_ HB.out hx127_1; replace hx127_2 := bc_ HB.out hx127_2; replace hx127_3 := bc_ HB.out hx127_3; replace hx127_4 := bc_ HB.out hx127_4; replace p127 := eq_true p127; replace q127 := eq_true q127; have p128 : 0 ≤ (x10_3 : Int) := dt_; have q128 : x10_3 < (l0.length : Int) := dt_; obtain ⟨ad128, e128, hx128_0, hx128_1, hx128_2, hx128_3, hx128_4⟩ := at_T53 HR0.out x10_3 p128 q128
            obtain rfl : ad127 = ad128 := (by injection e128)
            replace hx128_0 := bc_ HB.out hx128_0; replace hx128_1 := bc_ HB.out hx128_1; replace hx128_2 := bc_ HB.out hx128_2; replace hx128_3 := bc_ HB.out hx128_3; replace hx128_4 := bc_ HB.out hx128_4; replace p128 := eq_true p128; replace q128 := eq_true q128
            go_upto_region 14 with (fail)
            repeat (go_quiet (fail); go_upto_region 14 with (fail))
            go_cut [53] (fun v53 wc => ∃ (kq : Nat) (x53_15 : Bool), v53 = .bool x53_15 ∧ Aside0 (spec_l25Out.j3 kq l0 l1 a2 x7_3 x9_3 x10_3 ((rd_T53 l0 x10_3).f0) ((rd_T53 l0 x10_3).f1) x53_15 = some r) ∧ Aside0 (kq ≤ k3) ∧ Aside0 (Kd.R (Kd.int .i64) 3 wc w.heap.size (fun _ => True) (.slice (some ⟨go10, 0, none⟩) x7_3.length co10) x7_3) ∧ Aside0 (Below w.heap.size w wc))
            case first =>
             have H := HC16.out; clear HC16
             by_cases c17 : 0 ≤ ((rd_T53 l0 x10_3).f0)
             ·
              rw [if_pos c17] at H
              have c17b0 : decide (0 ≤ ((rd_T53 l0 x10_3).f0)) = true := decide_eq_true c17; clear c17
              (first | rw [c17b0] | (simp only [i64_w, i32_w]; rw [c17b0]) | skip)
              by_cases c18 : ((rd_T53 l0 x10_3).f0) < (l1.length : Int)
              ·
               rw [if_pos c18] at H
               have c18b0 : decide (((rd_T53 l0 x10_3).f0) < (l1.length : Int)) = true := decide_eq_true c18; clear c18
               obtain ⟨bq19, hbq19⟩ : ∃ b_ : Bool, b_ = (rdOf false l1 ((rd_T53 l0 x10_3).f0)) := ⟨_, rfl⟩
               replace H : (if (bq19 = true) then (if 0 ≤ ((rd_T53 l0 x10_3).f1) then (if ((rd_T53 l0 x10_3).f1) < (l1.length : Int) then (spec_l25Out.j3 k3 l0 l1 a2 x7_3 x9_3 x10_3 ((rd_T53 l0 x10_3).f0) ((rd_T53 l0 x10_3).f1) (!(rdOf false l1 ((rd_T53 l0 x10_3).f1)))) else (none)) else (none)) else (spec_l25Out.j3 k3 l0 l1 a2 x7_3 x9_3 x10_3 ((rd_T53 l0 x10_3).f0) ((rd_T53 l0 x10_3).f1) true)) = some r := by rw [← hbq19] at H; exact H
               have Nbq19 := Aside0.mk hbq19; clear hbq19
               by_cases c20 : (bq19 = true)
               ·
                subst c20
                have H1 : (if 0 ≤ ((rd_T53 l0 x10_3).f1) then (if ((rd_T53 l0 x10_3).f1) < (l1.length : Int) then (spec_l25Out.j3 k3 l0 l1 a2 x7_3 x9_3 x10_3 ((rd_T53 l0 x10_3).f0) ((rd_T53 l0 x10_3).f1) (!(rdOf false l1 ((rd_T53 l0 x10_3).f1)))) else (none)) else (none)) = some r := by rw [if_pos rfl] at H; exact H
                clear H; have H := H1; clear H1
                by_cases c21 : 0 ≤ ((rd_T53 l0 x10_3).f1)
                ·
                 rw [if_pos c21] at H
                 have c21b0 : decide (0 ≤ ((rd_T53 l0 x10_3).f1)) = true := decide_eq_true c21; clear c21
                 by_cases c22 : ((rd_T53 l0 x10_3).f1) < (l1.length : Int)
                 ·
                  rw [if_pos c22] at H
                  have c22b0 : decide (((rd_T53 l0 x10_3).f1) < (l1.length : Int)) = true := decide_eq_true c22; clear c22; have H' := Aside0.mk H; clear H; have p129 : 0 ≤ (((rd_T53 l0 x10_3).f0) : Int) := dt_; have q129 : ((rd_T53 l0 x10_3).f0) < (l1.length : Int) := dt_; obtain ⟨ad129, e129, hx129_0⟩ := Kd.at_bool HR1.out ((rd_T53 l0 x10_3).f0) p129 q129; (try rw [← Nbq19.out] at hx129_0)
                  cases e129
                  replace hx129_0 := bc_ HB.out hx129_0; replace p129 := eq_true p129; replace q129 := eq_true q129; have p130 : 0 ≤ (((rd_T53 l0 x10_3).f1) : Int) := dt_; have q130 : ((rd_T53 l0 x10_3).f1) < (l1.length : Int) := dt_; obtain ⟨ad130, e130, hx130_0⟩ := Kd.at_bool HR1.out ((rd_T53 l0 x10_3).f1) p130 q130; (try rw [← Nbq19.out] at hx130_0)
                  obtain rfl : ad129 = ad130 := (by injection e130)
                  replace hx130_0 := bc_ HB.out hx130_0; replace p130 := eq_true p130; replace q130 := eq_true q130
                  go_wp2
                  repeat (go_quiet (fail); try go_wp2)
                  go_meet
                  case rel => exact ⟨_, (!(rdOf false l1 ((rd_T53 l0 x10_3).f1))), (by first | rfl | (simp; done) | (simp [*]; done)), H', ⟨by have := HK1.out; have := HK2.out; have := HK3.out; first | omega | exact Nat.le_refl _⟩, ⟨by (try simp only [hl7_2]); (try simp only [hl7_3]); (with_reducible repeat (first | apply Kd.R_alloc | apply Kd.R_drewN | apply Kd.R_drew)); exact HO_7.out⟩, ⟨lb0_ HB.out⟩⟩
                 ·
                  rw [if_neg c22] at H
                  exact absurd H (by simp)
                ·
                 rw [if_neg c21] at H
                 exact absurd H (by simp)
               ·
                replace c20 := Bool.eq_false_iff.mpr c20; subst c20
                have H1 : (spec_l25Out.j3 k3 l0 l1 a2 x7_3 x9_3 x10_3 ((rd_T53 l0 x10_3).f0) ((rd_T53 l0 x10_3).f1) true) = some r := by rw [if_neg (show ¬ (false = true) by decide)] at H; exact H
                clear H; have H := H1; clear H1; have H' := Aside0.mk H; clear H; have p129 : 0 ≤ (((rd_T53 l0 x10_3).f0) : Int) := dt_; have q129 : ((rd_T53 l0 x10_3).f0) < (l1.length : Int) := dt_; obtain ⟨ad129, e129, hx129_0⟩ := Kd.at_bool HR1.out ((rd_T53 l0 x10_3).f0) p129 q129; (try rw [← Nbq19.out] at hx129_0)
                cases e129
                replace hx129_0 := bc_ HB.out hx129_0; replace p129 := eq_true p129; replace q129 := eq_true q129
                go_wp2
                repeat (go_quiet (fail); try go_wp2)
                go_meet
                case rel => exact ⟨_, (true), (by first | rfl | (simp; done) | (simp [*]; done)), H', ⟨by have := HK1.out; have := HK2.out; have := HK3.out; first | omega | exact Nat.le_refl _⟩, ⟨by (try simp only [hl7_2]); (try simp only [hl7_3]); (with_reducible repeat (first | apply Kd.R_alloc | apply Kd.R_drewN | apply Kd.R_drew)); exact HO_7.out⟩, ⟨lb0_ HB.out⟩⟩
              ·
               rw [if_neg c18] at H
               exact absurd H (by simp)
             ·
              rw [if_neg c17] at H
              exact absurd H (by simp)
            case rest =>
             clear HC16
             try clear c1
             try clear p1
             try clear q1
             try clear hx1
             try clear qi1
             try clear c2
             try clear p2
             try clear c4
             try clear c6
             try clear c6b0
             try clear p6
             try clear c7
             try clear c9
             try clear c9b0
             try clear c9b1
             try clear p10
             try clear q10
             try clear hx10
             try clear qi10
             try clear hf10
             try clear p12
             try clear q12
             try clear hx12
             try clear c13
             try clear p13
             try clear q13
             try clear hx13
             try clear c14
             try clear c14b0
             try clear c15
             try clear c15b0
             try clear c17
             try clear c17b0
             try clear c18
             try clear c18b0
             try clear q19
             try clear c20
             try clear c21
             try clear c21b0
             try clear c22
             try clear c22b0
             try clear hx10_0
             try clear hx127_0
             try clear hx127_1
             try clear hx127_2
             try clear hx127_3
             try clear hx127_4
             try clear hx128_0
             try clear hx128_1
             try clear hx128_2
             try clear hx128_3
             try clear hx128_4
             try clear hx129_0
             try clear hx130_0
             try clear p1
             try clear p10
             try clear p127
             try clear p128
             try clear p129
             try clear p130
             try clear p2
             try clear p6
             try clear q1
             try clear q10
             try clear q127
             try clear q128
             try clear q129
             try clear q130
             obtain ⟨kq, x53_15, rfl, HA, HJ15, HO_7, HB⟩ := hcut
             cases kq with
             | zero => exact absurd HA.out (by simp [spec_l25Out.j3])
             | succ kj15 =>
              have H := HA.out; clear HA; simp only [spec_l25Out.j3] at H
              by_cases c23 : x53_15 = true
              ·
               subst c23
               have H1 : (spec_l25Out.l2 kj15 l0 l1 a2 x7_3 x9_3 (wrap64 (x10_3 + 1))) = some r := by rw [if_pos rfl] at H; exact H
               clear H; have H := H1; clear H1; have H' := Aside0.mk H; clear H
               go_wp2
               repeat (go_quiet (fail); try go_wp2)
               (try simp only [← hl7_3])
               go_roundg kj15
               case measure => have := HK1.out; have := HK2.out; have := HK3.out; have := HJ15.out; omega
               case rel => exact ⟨(x7_3), (x9_3), (wrap64 (x10_3 + 1)), (by first | rfl | (simp; done) | (simp [*]; done)), (by first | rfl | (simp; done) | (simp [*]; done)), H', ⟨by have := HK1.out; have := HK2.out; have := HK3.out; have := HJ15.out; omega⟩, ⟨by (try simp only [hl7_2]); (try simp only [hl7_3]); (with_reducible repeat (first | apply Kd.R_alloc | apply Kd.R_drewN | apply Kd.R_drew)); exact HO_7.out⟩, ⟨lb0_ HB.out⟩⟩
              ·
               replace c23 := Bool.eq_false_iff.mpr c23; subst c23
               have H1 : (if 0 ≤ ((rd_T53 l0 x10_3).f0) then (if ((rd_T53 l0 x10_3).f0) < (x7_3.length : Int) then (if 0 ≤ x10_3 then (if x10_3 < (l0.length : Int) then (if (rd x7_3 ((rd_T53 l0 x10_3).f0)) ≥ 0 then (if 0 ≤ ((rd_T53 l0 x10_3).f1) then (if ((rd_T53 l0 x10_3).f1) < (x7_3.length : Int) then (if (rd x7_3 ((rd_T53 l0 x10_3).f1)) < 0 then (spec_l25Out.j4 kj15 l0 l1 a2 x7_3 x9_3 x10_3 ((rd_T53 l0 x10_3).f0) ((rd_T53 l0 x10_3).f1) (wrap64 ((rd x7_3 ((rd_T53 l0 x10_3).f0)) + ((rd_T53 l0 x10_3).f2))) true) else (spec_l25Out.j4 kj15 l0 l1 a2 x7_3 x9_3 x10_3 ((rd_T53 l0 x10_3).f0) ((rd_T53 l0 x10_3).f1) (wrap64 ((rd x7_3 ((rd_T53 l0 x10_3).f0)) + ((rd_T53 l0 x10_3).f2))) (decide ((wrap64 ((rd x7_3 ((rd_T53 l0 x10_3).f0)) + ((rd_T53 l0 x10_3).f2))) < (rd x7_3 ((rd_T53 l0 x10_3).f1)))))) else (none)) else (none)) else (spec_l25Out.j4 kj15 l0 l1 a2 x7_3 x9_3 x10_3 ((rd_T53 l0 x10_3).f0) ((rd_T53 l0 x10_3).f1) (wrap64 ((rd x7_3 ((rd_T53 l0 x10_3).f0)) + ((rd_T53 l0 x10_3).f2))) false)) else (none)) else (none)) else (none)) else (none)) = some r := by rw [if_neg (show ¬ (false = true) by decide)] at H; exact H
               clear H; have H := H1; clear H1
               by_cases c24 : 0 ≤ ((rd_T53 l0 x10_3).f0)
               ·
                rw [if_pos c24] at H
                have c24b0 : decide (0 ≤ ((rd_T53 l0 x10_3).f0)) = true := decide_eq_true c24; clear c24
                by_cases c25 : ((rd_T53 l0 x10_3).f0) < (x7_3.length : Int)
                ·
                 rw [if_pos c25] at H
                 have c25b0 : decide (((rd_T53 l0 x10_3).f0) < (x7_3.length : Int)) = true := decide_eq_true c25; clear c25
                 by_cases c26 : 0 ≤ x10_3
                 ·
                  rw [if_pos c26] at H
                  have c26b0 : decide (0 ≤ x10_3) = true := decide_eq_true c26; clear c26
                  by_cases c27 : x10_3 < (l0.length : Int)
                  ·
                   rw [if_pos c27] at H
                   have c27b0 : decide (x10_3 < (l0.length : Int)) = true := decide_eq_true c27; clear c27; have HC28 := Aside0.mk H; clear H; have p131 : 0 ≤ (((rd_T53 l0 x10_3).f0) : Int) := dt_; have q131 : ((rd_T53 l0 x10_3).f0) < (x7_3.length : Int) := dt_; obtain ⟨ad131, e131, hx131_0⟩ := Kd.at_int (Kd.R_reads' HO_7.out).2.2 ((rd_T53 l0 x10_3).f0) p131 q131
                   obtain rfl : (⟨go10, 0, none⟩ : Addr) = ad131 := (by injection e131)
                   (first | simp only [add_plain] at hx131_0 | simp only [add_at] at hx131_0 | simp only [Addr.add, Nat.zero_add] at hx131_0 | skip)
                   replace p131 := eq_true p131; replace q131 := eq_true q131; have p132 : 0 ≤ (x10_3 : Int) := dt_; have q132 : x10_3 < (l0.length : Int) := dt_; obtain ⟨ad132, e132, hx132_0, hx132_1, hx132_2, hx132_3, hx132_4⟩ := at_T53 HR0.out x10_3 p132 q132
                   obtain rfl : ad127 = ad132 := (by injection e132)
                   replace hx132_0 := bc_ HB.out hx132_0; replace hx132_1 := bc_ HB.out hx132_1; replace hx132_2 := bc_ HB.out hx132_2; replace hx132_3 := bc_ HB.out hx132_3; replace hx132_4 := bc_ HB.out hx132_4; replace p132 := eq_true p132; replace q132 := eq_true q132
                   go_upto_region 16 with (fail)
                   repeat (go_quiet (fail); go_upto_region 16 with (fail))
                   go_cut [83] (fun v83 wc => ∃ (kq : Nat) (x83_27 : Bool), v83 = .bool x83_27 ∧ Aside0 (spec_l25Out.j4 kq l0 l1 a2 x7_3 x9_3 x10_3 ((rd_T53 l0 x10_3).f0) ((rd_T53 l0 x10_3).f1) (wrap64 ((rd x7_3 ((rd_T53 l0 x10_3).f0)) + ((rd_T53 l0 x10_3).f2))) x83_27 = some r) ∧ Aside0 (kq ≤ kj15) ∧ Aside0 (Kd.R (Kd.int .i64) 3 wc w.heap.size (fun _ => True) (.slice (some ⟨go10, 0, none⟩) x7_3.length co10) x7_3) ∧ Aside0 (Below w.heap.size w wc))
                   case first =>
                    have H := HC28.out; clear HC28
                    by_cases c29 : (rd x7_3 ((rd_T53 l0 x10_3).f0)) ≥ 0
                    ·
                     rw [if_pos c29] at H
                     have c29b0 : decide (0 ≤ (rd x7_3 ((rd_T53 l0 x10_3).f0))) = true := decide_eq_true c29; clear c29
                     (first | rw [c29b0] | (simp only [i64_w, i32_w]; rw [c29b0]) | skip)
                     by_cases c30 : 0 ≤ ((rd_T53 l0 x10_3).f1)
                     ·
                      rw [if_pos c30] at H
                      have c30b0 : decide (0 ≤ ((rd_T53 l0 x10_3).f1)) = true := decide_eq_true c30; clear c30
                      by_cases c31 : ((rd_T53 l0 x10_3).f1) < (x7_3.length : Int)
                      ·
                       rw [if_pos c31] at H
                       have c31b0 : decide (((rd_T53 l0 x10_3).f1) < (x7_3.length : Int)) = true := decide_eq_true c31; clear c31
                       by_cases c32 : (rd x7_3 ((rd_T53 l0 x10_3).f1)) < 0
                       ·
                        rw [if_pos c32] at H
                        have c32b0 : decide ((rd x7_3 ((rd_T53 l0 x10_3).f1)) < 0) = true := decide_eq_true c32; clear c32; have H' := Aside0.mk H; clear H; have p133 : 0 ≤ (((rd_T53 l0 x10_3).f0) : Int) := dt_; have q133 : ((rd_T53 l0 x10_3).f0) < (x7_3.length : Int) := dt_; obtain ⟨ad133, e133, hx133_0⟩ := Kd.at_int (Kd.R_reads' HO_7.out).2.2 ((rd_T53 l0 x10_3).f0) p133 q133
                        obtain rfl : (⟨go10, 0, none⟩ : Addr) = ad133 := (by injection e133)
                        (first | simp only [add_plain] at hx133_0 | simp only [add_at] at hx133_0 | simp only [Addr.add, Nat.zero_add] at hx133_0 | skip)
                        replace p133 := eq_true p133; replace q133 := eq_true q133; have p134 : 0 ≤ (((rd_T53 l0 x10_3).f1) : Int) := dt_; have q134 : ((rd_T53 l0 x10_3).f1) < (x7_3.length : Int) := dt_; obtain ⟨ad134, e134, hx134_0⟩ := Kd.at_int (Kd.R_reads' HO_7.out).2.2 ((rd_T53 l0 x10_3).f1) p134 q134
                        obtain rfl : (⟨go10, 0, none⟩ : Addr) = ad134 := (by injection e134)
                        (first | simp only [add_plain] at hx134_0 | simp only [add_at] at hx134_0 | simp only [Addr.add, Nat.zero_add] at hx134_0 | skip)
                        replace p134 := eq_true p134; replace q134 := eq_true q134
                        go_wp2
                        repeat (go_quiet (fail); try go_wp2)
                        go_meet
                        case rel => exact ⟨_, (true), (by first | rfl | (simp; done) | (simp [*]; done)), H', ⟨by have := HK1.out; have := HK2.out; have := HK3.out; have := HJ15.out; first | omega | exact Nat.le_refl _⟩, ⟨by (try simp only [hl7_2]); (try simp only [hl7_3]); (with_reducible repeat (first | apply Kd.R_alloc | apply Kd.R_drewN | apply Kd.R_drew)); exact HO_7.out⟩, ⟨lb0_ HB.out⟩⟩
                       ·
                        rw [if_neg c32] at H
                        have c32b0 : decide ((rd x7_3 ((rd_T53 l0 x10_3).f1)) < 0) = false := decide_eq_false c32; clear c32; have H' := Aside0.mk H; clear H; have p133 : 0 ≤ (((rd_T53 l0 x10_3).f0) : Int) := dt_; have q133 : ((rd_T53 l0 x10_3).f0) < (x7_3.length : Int) := dt_; obtain ⟨ad133, e133, hx133_0⟩ := Kd.at_int (Kd.R_reads' HO_7.out).2.2 ((rd_T53 l0 x10_3).f0) p133 q133
                        obtain rfl : (⟨go10, 0, none⟩ : Addr) = ad133 := (by injection e133)
                        (first | simp only [add_plain] at hx133_0 | simp only [add_at] at hx133_0 | simp only [Addr.add, Nat.zero_add] at hx133_0 | skip)
                        replace p133 := eq_true p133; replace q133 := eq_true q133; have p134 : 0 ≤ (((rd_T53 l0 x10_3).f1) : Int) := dt_; have q134 : ((rd_T53 l0 x10_3).f1) < (x7_3.length : Int) := dt_; obtain ⟨ad134, e134, hx134_0⟩ := Kd.at_int (Kd.R_reads' HO_7.out).2.2 ((rd_T53 l0 x10_3).f1) p134 q134
                        obtain rfl : (⟨go10, 0, none⟩ : Addr) = ad134 := (by injection e134)
                        (first | simp only [add_plain] at hx134_0 | simp only [add_at] at hx134_0 | simp only [Addr.add, Nat.zero_add] at hx134_0 | skip)
                        replace p134 := eq_true p134; replace q134 := eq_true q134; have p135 : 0 ≤ (((rd_T53 l0 x10_3).f1) : Int) := dt_; have q135 : ((rd_T53 l0 x10_3).f1) < (x7_3.length : Int) := dt_; obtain ⟨ad135, e135, hx135_0⟩ := Kd.at_int (Kd.R_reads' HO_7.out).2.2 ((rd_T53 l0 x10_3).f1) p135 q135
                        obtain rfl : (⟨go10, 0, none⟩ : Addr) = ad135 := (by injection e135)
                        (first | simp only [add_plain] at hx135_0 | simp only [add_at] at hx135_0 | simp only [Addr.add, Nat.zero_add] at hx135_0 | skip)
                        replace p135 := eq_true p135; replace q135 := eq_true q135
                        go_wp2
                        repeat (go_quiet (fail); try go_wp2)
                        go_meet
                        case rel => exact ⟨_, (decide ((wrap64 ((rd x7_3 ((rd_T53 l0 x10_3).f0)) + ((rd_T53 l0 x10_3).f2))) < (rd x7_3 ((rd_T53 l0 x10_3).f1)))), (by first | rfl | (simp; done) | (simp [*]; done)), H', ⟨by have := HK1.out; have := HK2.out; have := HK3.out; have := HJ15.out; first | omega | exact Nat.le_refl _⟩, ⟨by (try simp only [hl7_2]); (try simp only [hl7_3]); (with_reducible repeat (first | apply Kd.R_alloc | apply Kd.R_drewN | apply Kd.R_drew)); exact HO_7.out⟩, ⟨lb0_ HB.out⟩⟩
                      ·
                       rw [if_neg c31] at H
                       exact absurd H (by simp)
                     ·
                      rw [if_neg c30] at H
                      exact absurd H (by simp)
                    ·
                     rw [if_neg c29] at H
                     have c29b0 : decide (0 ≤ (rd x7_3 ((rd_T53 l0 x10_3).f0))) = false := decide_eq_false c29; clear c29
                     (first | rw [c29b0] | (simp only [i64_w, i32_w]; rw [c29b0]) | skip)
                     have H' := Aside0.mk H; clear H; have p133 : 0 ≤ (((rd_T53 l0 x10_3).f0) : Int) := dt_; have q133 : ((rd_T53 l0 x10_3).f0) < (x7_3.length : Int) := dt_; obtain ⟨ad133, e133, hx133_0⟩ := Kd.at_int (Kd.R_reads' HO_7.out).2.2 ((rd_T53 l0 x10_3).f0) p133 q133
                     obtain rfl : (⟨go10, 0, none⟩ : Addr) = ad133 := (by injection e133)
                     (first | simp only [add_plain] at hx133_0 | simp only [add_at] at hx133_0 | simp only [Addr.add, Nat.zero_add] at hx133_0 | skip)
                     replace p133 := eq_true p133; replace q133 := eq_true q133
                     go_wp2
                     repeat (go_quiet (fail); try go_wp2)
                     go_meet
                     case rel => exact ⟨_, (false), (by first | rfl | (simp; done) | (simp [*]; done)), H', ⟨by have := HK1.out; have := HK2.out; have := HK3.out; have := HJ15.out; first | omega | exact Nat.le_refl _⟩, ⟨by (try simp only [hl7_2]); (try simp only [hl7_3]); (with_reducible repeat (first | apply Kd.R_alloc | apply Kd.R_drewN | apply Kd.R_drew)); exact HO_7.out⟩, ⟨lb0_ HB.out⟩⟩
                   case rest =>
                    clear HC28
                    try clear c1
                    try clear p1
                    try clear q1
                    try clear hx1
                    try clear qi1
                    try clear c2
                    try clear p2
                    try clear c3
                    try clear c4
                    try clear c6
                    try clear c6b0
                    try clear p6
                    try clear c7
                    try clear c9
                    try clear c9b0
                    try clear c9b1
                    try clear p10
                    try clear q10
                    try clear hx10
                    try clear qi10
                    try clear hf10
                    try clear p12
                    try clear q12
                    try clear hx12
                    try clear c13
                    try clear p13
                    try clear q13
                    try clear hx13
                    try clear c14
                    try clear c14b0
                    try clear c15
                    try clear c15b0
                    try clear c17
                    try clear c17b0
                    try clear c18
                    try clear c18b0
                    try clear q19
                    try clear c20
                    try clear c21
                    try clear c21b0
                    try clear c22
                    try clear c22b0
                    try clear c23
                    try clear c24
                    try clear c24b0
                    try clear c25
                    try clear c25b0
                    try clear c26
                    try clear c26b0
                    try clear c27
                    try clear c27b0
                    try clear c29
                    try clear c29b0
                    try clear c30
                    try clear c30b0
                    try clear c31
                    try clear c31b0
                    try clear c32
                    try clear c32b0
                    try clear hx10_0
                    try clear hx127_0
                    try clear hx127_1
                    try clear hx127_2
                    try clear hx127_3
                    try clear hx127_4
                    try clear hx128_0
                    try clear hx128_1
                    try clear hx128_2
                    try clear hx128_3
                    try clear hx128_4
                    try clear hx129_0
                    try clear hx130_0
                    try clear hx131_0
                    try clear hx132_0
                    try clear hx132_1
                    try clear hx132_2
                    try clear hx132_3
                    try clear hx132_4
                    try clear hx133_0
                    try clear hx134_0
                    try clear hx135_0
                    try clear p1
                    try clear p10
                    try clear p12
                    try clear p127
                    try clear p128
                    try clear p129
                    try clear p13
                    try clear p130
                    try clear p131
                    try clear p132
                    try clear p133
                    try clear p134
                    try clear p135
                    try clear p2
                    try clear p6
                    try clear q1
                    try clear q10
                    try clear q12
                    try clear q127
                    try clear q128
                    try clear q129
                    try clear q13
                    try clear q130
                    try clear q131
                    try clear q132
                    try clear q133
                    try clear q134
                    try clear q135
                    try clear q19
                    obtain ⟨kq, x83_27, rfl, HA, HJ27, HO_7, HB⟩ := hcut
                    cases kq with
                    | zero => exact absurd HA.out (by simp [spec_l25Out.j4])
                    | succ kj27 =>
                     have H := HA.out; clear HA; simp only [spec_l25Out.j4] at H
                     by_cases c33 : x83_27 = true
                     ·
                      subst c33
                      have H1 : (if 0 ≤ ((rd_T53 l0 x10_3).f1) then (if ((rd_T53 l0 x10_3).f1) < (x7_3.length : Int) then ((some (x7_3.set (((rd_T53 l0 x10_3).f1) : Int).toNat (wrap64 ((rd x7_3 ((rd_T53 l0 x10_3).f0)) + ((rd_T53 l0 x10_3).f2))) : List Int)).bind fun y136 => (if 0 ≤ x10_3 then (if x10_3 < (l0.length : Int) then (if (rd y136 ((rd_T53 l0 x10_3).f1)) ≥ 0 then (if 0 ≤ ((rd_T53 l0 x10_3).f0) then (if ((rd_T53 l0 x10_3).f0) < (x7_3.length : Int) then (if (rd y136 ((rd_T53 l0 x10_3).f0)) < 0 then (spec_l25Out.l2 kj27 l0 l1 a2 (y136.set (((rd_T53 l0 x10_3).f0) : Int).toNat (wrap64 ((rd y136 ((rd_T53 l0 x10_3).f1)) + ((rd_T53 l0 x10_3).f2)))) true (wrap64 (x10_3 + 1))) else (if (wrap64 ((rd y136 ((rd_T53 l0 x10_3).f1)) + ((rd_T53 l0 x10_3).f2))) < (rd y136 ((rd_T53 l0 x10_3).f0)) then (spec_l25Out.l2 kj27 l0 l1 a2 (y136.set (((rd_T53 l0 x10_3).f0) : Int).toNat (wrap64 ((rd y136 ((rd_T53 l0 x10_3).f1)) + ((rd_T53 l0 x10_3).f2)))) true (wrap64 (x10_3 + 1))) else (spec_l25Out.l2 kj27 l0 l1 a2 y136 true (wrap64 (x10_3 + 1))))) else (none)) else (none)) else (spec_l25Out.l2 kj27 l0 l1 a2 y136 true (wrap64 (x10_3 + 1)))) else (none)) else (none))) else (none)) else (none)) = some r := by rw [if_pos rfl] at H; exact H
                      clear H; have H := H1; clear H1
                      by_cases c34 : 0 ≤ ((rd_T53 l0 x10_3).f1)
                      ·
                       rw [if_pos c34] at H
                       have c34b0 : decide (0 ≤ ((rd_T53 l0 x10_3).f1)) = true := decide_eq_true c34; clear c34
                       by_cases c35 : ((rd_T53 l0 x10_3).f1) < (x7_3.length : Int)
                       ·
                        rw [if_pos c35] at H
                        have c35b0 : decide (((rd_T53 l0 x10_3).f1) < (x7_3.length : Int)) = true := decide_eq_true c35; clear c35
                        obtain ⟨y136, hy136⟩ : ∃ y_ : List Int, y_ = (x7_3.set (((rd_T53 l0 x10_3).f1) : Int).toNat (wrap64 ((rd x7_3 ((rd_T53 l0 x10_3).f0)) + ((rd_T53 l0 x10_3).f2)))) := ⟨_, rfl⟩
                        replace H : (if 0 ≤ x10_3 then (if x10_3 < (l0.length : Int) then (if (rd y136 ((rd_T53 l0 x10_3).f1)) ≥ 0 then (if 0 ≤ ((rd_T53 l0 x10_3).f0) then (if ((rd_T53 l0 x10_3).f0) < (x7_3.length : Int) then (if (rd y136 ((rd_T53 l0 x10_3).f0)) < 0 then (spec_l25Out.l2 kj27 l0 l1 a2 (y136.set (((rd_T53 l0 x10_3).f0) : Int).toNat (wrap64 ((rd y136 ((rd_T53 l0 x10_3).f1)) + ((rd_T53 l0 x10_3).f2)))) true (wrap64 (x10_3 + 1))) else (if (wrap64 ((rd y136 ((rd_T53 l0 x10_3).f1)) + ((rd_T53 l0 x10_3).f2))) < (rd y136 ((rd_T53 l0 x10_3).f0)) then (spec_l25Out.l2 kj27 l0 l1 a2 (y136.set (((rd_T53 l0 x10_3).f0) : Int).toNat (wrap64 ((rd y136 ((rd_T53 l0 x10_3).f1)) + ((rd_T53 l0 x10_3).f2)))) true (wrap64 (x10_3 + 1))) else (spec_l25Out.l2 kj27 l0 l1 a2 y136 true (wrap64 (x10_3 + 1))))) else (none)) else (none)) else (spec_l25Out.l2 kj27 l0 l1 a2 y136 true (wrap64 (x10_3 + 1)))) else (none)) else (none)) = some r := by first | (rw [hy136]; with_reducible exact H) | (have H2_ := (Option.bind_some _ _).symm.trans H; rw [hy136]; with_reducible exact H2_) | (have H2_ := (Option.bind_some _ _).symm.trans H; with_reducible exact H2_) | with_reducible exact H | (rw [hy136]; exact H) | exact H
                        have Ny136 := Aside0.mk hy136; clear hy136
                        by_cases c37 : 0 ≤ x10_3
                        ·
                         rw [if_pos c37] at H
                         have c37b0 : decide (0 ≤ x10_3) = true := decide_eq_true c37; clear c37
                         by_cases c38 : x10_3 < (l0.length : Int)
                         ·
                          rw [if_pos c38] at H
                          have c38b0 : decide (x10_3 < (l0.length : Int)) = true := decide_eq_true c38; clear c38
                          by_cases c39 : (rd y136 ((rd_T53 l0 x10_3).f1)) ≥ 0
                          ·
                           rw [if_pos c39] at H
                           have c39b0 : decide (0 ≤ (rd y136 ((rd_T53 l0 x10_3).f1))) = true := decide_eq_true c39; clear c39
                           by_cases c40 : 0 ≤ ((rd_T53 l0 x10_3).f0)
                           ·
                            rw [if_pos c40] at H
                            have c40b0 : decide (0 ≤ ((rd_T53 l0 x10_3).f0)) = true := decide_eq_true c40; clear c40
                            by_cases c41 : ((rd_T53 l0 x10_3).f0) < (x7_3.length : Int)
                            ·
                             rw [if_pos c41] at H
                             have c41b0 : decide (((rd_T53 l0 x10_3).f0) < (x7_3.length : Int)) = true := decide_eq_true c41; clear c41
                             by_cases c42 : (rd y136 ((rd_T53 l0 x10_3).f0)) < 0
                             ·
                              rw [if_pos c42] at H
                              have c42b0 : decide ((rd y136 ((rd_T53 l0 x10_3).f0)) < 0) = true := decide_eq_true c42; clear c42
                              obtain ⟨y141, hy141⟩ : ∃ y_ : List Int, y_ = (y136.set (((rd_T53 l0 x10_3).f0) : Int).toNat (wrap64 ((rd y136 ((rd_T53 l0 x10_3).f1)) + ((rd_T53 l0 x10_3).f2)))) := ⟨_, rfl⟩
                              replace H : (spec_l25Out.l2 kj27 l0 l1 a2 y141 true (wrap64 (x10_3 + 1))) = some r := by first | (rw [hy141]; with_reducible exact H) | (have H2_ := (Option.bind_some _ _).symm.trans H; rw [hy141]; with_reducible exact H2_) | (have H2_ := (Option.bind_some _ _).symm.trans H; with_reducible exact H2_) | with_reducible exact H | (rw [hy141]; exact H) | exact H
                              have Ny141 := Aside0.mk hy141; clear hy141; have H' := Aside0.mk H; clear H; have p36 : 0 ≤ (((rd_T53 l0 x10_3).f1) : Int) := dt_; have q36 : (((rd_T53 l0 x10_3).f1) : Int) < ((x7_3.length : Int) : Int) := dt_; obtain ⟨hx36_0, hf36_0⟩ := Kd.R_celln 0 HO_7.out (((rd_T53 l0 x10_3).f1) : Int) p36 q36; replace p36 := eq_true p36; replace q36 := eq_true q36; have HP44 := Kd.R_putg HO_7.out (((rd_T53 l0 x10_3).f1) : Int) (wrap64 ((rd x7_3 ((rd_T53 l0 x10_3).f0)) + ((rd_T53 l0 x10_3).f2)))
                              go_wp2_with (first | ((with_reducible refine gate_store (t := 3) (p := 87) rfl ?_); (try (rw [drewN_self wc]; generalize hq_ : World.drewN wc _ = wc; replace HO_7 := Aside0.mk (Kd.R_at hq_ HO_7.out); replace HB := Aside0.mk (below_at hq_ HB.out); clear hq_; (try (have HP44 := Kd.R_putg HO_7.out (((rd_T53 l0 x10_3).f1) : Int) (wrap64 ((rd x7_3 ((rd_T53 l0 x10_3).f0)) + ((rd_T53 l0 x10_3).f2))))))); refine store_event (t := 3) (p := 87) (v := ?vo_w45) (w1 := (wc.setCell ⟨go10, (((rd_T53 l0 x10_3).f1) : Int).toNat, none⟩ (.int .i64 (wrap64 ((rd x7_3 ((rd_T53 l0 x10_3).f0)) + ((rd_T53 l0 x10_3).f2)))))) ?hg ?ho ?hn ?hr ?_; (case ho => rfl); (case hg => rfl); (case hn => rfl); (case hr => first | (go_simp; done) | (go_simp; rfl)); intro w45 hw; have hg : wc.grownBy w45 (some go10) := (by rw [hw]; exact HP44.2); have hp_ : Kd.R (Kd.int .i64) 3 w45 w.heap.size (fun _ => True) (.slice (some ⟨go10, 0, none⟩) x7_3.length co10) y136 := (by rw [hw, Ny136.out]; exact HP44.1); clear HP44; replace HO_7 := Aside0.mk (hp_); replace HB := Aside0.mk ((by rw [hw]; exact below_set (HB.out) GB10.out : Below w.heap.size w w45)); clear hg hw hp_; have p137 : 0 ≤ (((rd_T53 l0 x10_3).f1) : Int) := dt_; have q137 : ((rd_T53 l0 x10_3).f1) < (y136.length : Int) := (by have h_ : (((rd_T53 l0 x10_3).f1) : Int) < ((x7_3.length : Int) : Int) := dt_; first | (have e_ := (Kd.R_reads' HO_7.out).1; omega) | simpa only [Ny136.out, List.length_set] using h_); have ql137 : ((((rd_T53 l0 x10_3).f1) : Int) < ((x7_3.length : Int) : Int)) = True := eq_true (dt_); obtain ⟨ad137, e137, hx137_0⟩ := Kd.at_int (Kd.R_reads' HO_7.out).2.2 ((rd_T53 l0 x10_3).f1) p137 q137; obtain rfl : (⟨go10, 0, none⟩ : Addr) = ad137 := (by injection e137); (first | simp only [add_plain] at hx137_0 | simp only [add_at] at hx137_0 | simp only [Addr.add, Nat.zero_add] at hx137_0 | skip); replace p137 := eq_true p137; replace q137 := eq_true q137; have p138 : 0 ≤ (x10_3 : Int) := dt_; have q138 : x10_3 < (l0.length : Int) := dt_; obtain ⟨ad138, e138, hx138_0, hx138_1, hx138_2, hx138_3, hx138_4⟩ := at_T53 HR0.out x10_3 p138 q138; obtain rfl : ad127 = ad138 := (by injection e138); replace hx138_0 := bc_ HB.out hx138_0; replace hx138_1 := bc_ HB.out hx138_1; replace hx138_2 := bc_ HB.out hx138_2; replace hx138_3 := bc_ HB.out hx138_3; replace hx138_4 := bc_ HB.out hx138_4; replace p138 := eq_true p138; replace q138 := eq_true q138; have p139 : 0 ≤ (((rd_T53 l0 x10_3).f1) : Int) := dt_; have q139 : ((rd_T53 l0 x10_3).f1) < (y136.length : Int) := (by have h_ : (((rd_T53 l0 x10_3).f1) : Int) < ((x7_3.length : Int) : Int) := dt_; first | (have e_ := (Kd.R_reads' HO_7.out).1; omega) | simpa only [Ny136.out, List.length_set] using h_); have ql139 : ((((rd_T53 l0 x10_3).f1) : Int) < ((x7_3.length : Int) : Int)) = True := eq_true (dt_); obtain ⟨ad139, e139, hx139_0⟩ := Kd.at_int (Kd.R_reads' HO_7.out).2.2 ((rd_T53 l0 x10_3).f1) p139 q139; obtain rfl : (⟨go10, 0, none⟩ : Addr) = ad139 := (by injection e139); (first | simp only [add_plain] at hx139_0 | simp only [add_at] at hx139_0 | simp only [Addr.add, Nat.zero_add] at hx139_0 | skip); replace p139 := eq_true p139; replace q139 := eq_true q139; have p140 : 0 ≤ (((rd_T53 l0 x10_3).f0) : Int) := dt_; have q140 : ((rd_T53 l0 x10_3).f0) < (y136.length : Int) := (by have h_ : (((rd_T53 l0 x10_3).f0) : Int) < ((x7_3.length : Int) : Int) := dt_; first | (have e_ := (Kd.R_reads' HO_7.out).1; omega) | simpa only [Ny136.out, List.length_set] using h_); have ql140 : ((((rd_T53 l0 x10_3).f0) : Int) < ((x7_3.length : Int) : Int)) = True := eq_true (dt_); obtain ⟨ad140, e140, hx140_0⟩ := Kd.at_int (Kd.R_reads' HO_7.out).2.2 ((rd_T53 l0 x10_3).f0) p140 q140; obtain rfl : (⟨go10, 0, none⟩ : Addr) = ad140 := (by injection e140); (first | simp only [add_plain] at hx140_0 | simp only [add_at] at hx140_0 | simp only [Addr.add, Nat.zero_add] at hx140_0 | skip); replace p140 := eq_true p140; replace q140 := eq_true q140; have p43 : 0 ≤ (((rd_T53 l0 x10_3).f0) : Int) := dt_; have q43 : (((rd_T53 l0 x10_3).f0) : Int) < ((x7_3.length : Int) : Int) := dt_; obtain ⟨hx43_0, hf43_0⟩ := Kd.R_celln 0 HO_7.out (((rd_T53 l0 x10_3).f0) : Int) p43 q43; replace p43 := eq_true p43; replace q43 := eq_true q43; obtain ⟨hy46_, hz46_⟩ := Kd.R_celln 0 HO_7.out (((rd_T53 l0 x10_3).f0) : Int) (dt_) (dt_); have HP46 := Kd.R_putg HO_7.out (((rd_T53 l0 x10_3).f0) : Int) (wrap64 ((rd y136 ((rd_T53 l0 x10_3).f1)) + ((rd_T53 l0 x10_3).f2)))) | ((with_reducible refine gate_store (t := 3) (p := 121) rfl ?_); (try (rw [drewN_self w45]; generalize hq_ : World.drewN w45 _ = w45; replace HO_7 := Aside0.mk (Kd.R_at hq_ HO_7.out); replace HB := Aside0.mk (below_at hq_ HB.out); clear hq_; (try (obtain ⟨hy46_, hz46_⟩ := Kd.R_celln 0 HO_7.out (((rd_T53 l0 x10_3).f0) : Int) (dt_) (dt_))); (try (have HP46 := Kd.R_putg HO_7.out (((rd_T53 l0 x10_3).f0) : Int) (wrap64 ((rd y136 ((rd_T53 l0 x10_3).f1)) + ((rd_T53 l0 x10_3).f2))))))); refine store_event (t := 3) (p := 121) (v := ?vo_w47) (w1 := (w45.setCell ⟨go10, (((rd_T53 l0 x10_3).f0) : Int).toNat, none⟩ (.int .i64 (wrap64 ((rd y136 ((rd_T53 l0 x10_3).f1)) + ((rd_T53 l0 x10_3).f2)))))) ?hg ?ho ?hn ?hr ?_; (case ho => rfl); (case hg => rfl); (case hn => rfl); (case hr => first | (go_simp; done) | (go_simp; rfl)); intro w47 hw; have hg : w45.grownBy w47 (some go10) := (by rw [hw]; exact HP46.2); have hp_ : Kd.R (Kd.int .i64) 3 w47 w.heap.size (fun _ => True) (.slice (some ⟨go10, 0, none⟩) x7_3.length co10) y141 := (by rw [hw, Ny141.out]; exact HP46.1); clear HP46; replace HO_7 := Aside0.mk (hp_); replace HB := Aside0.mk ((by rw [hw]; exact below_set (HB.out) GB10.out : Below w.heap.size w w47)); clear hg hw hp_))
                              repeat (go_quiet (first | ((with_reducible refine gate_store (t := 3) (p := 87) rfl ?_); (try (rw [drewN_self wc]; generalize hq_ : World.drewN wc _ = wc; replace HO_7 := Aside0.mk (Kd.R_at hq_ HO_7.out); replace HB := Aside0.mk (below_at hq_ HB.out); clear hq_; (try (have HP44 := Kd.R_putg HO_7.out (((rd_T53 l0 x10_3).f1) : Int) (wrap64 ((rd x7_3 ((rd_T53 l0 x10_3).f0)) + ((rd_T53 l0 x10_3).f2))))))); refine store_event (t := 3) (p := 87) (v := ?vo_w45) (w1 := (wc.setCell ⟨go10, (((rd_T53 l0 x10_3).f1) : Int).toNat, none⟩ (.int .i64 (wrap64 ((rd x7_3 ((rd_T53 l0 x10_3).f0)) + ((rd_T53 l0 x10_3).f2)))))) ?hg ?ho ?hn ?hr ?_; (case ho => rfl); (case hg => rfl); (case hn => rfl); (case hr => first | (go_simp; done) | (go_simp; rfl)); intro w45 hw; have hg : wc.grownBy w45 (some go10) := (by rw [hw]; exact HP44.2); have hp_ : Kd.R (Kd.int .i64) 3 w45 w.heap.size (fun _ => True) (.slice (some ⟨go10, 0, none⟩) x7_3.length co10) y136 := (by rw [hw, Ny136.out]; exact HP44.1); clear HP44; replace HO_7 := Aside0.mk (hp_); replace HB := Aside0.mk ((by rw [hw]; exact below_set (HB.out) GB10.out : Below w.heap.size w w45)); clear hg hw hp_; have p137 : 0 ≤ (((rd_T53 l0 x10_3).f1) : Int) := dt_; have q137 : ((rd_T53 l0 x10_3).f1) < (y136.length : Int) := (by have h_ : (((rd_T53 l0 x10_3).f1) : Int) < ((x7_3.length : Int) : Int) := dt_; first | (have e_ := (Kd.R_reads' HO_7.out).1; omega) | simpa only [Ny136.out, List.length_set] using h_); have ql137 : ((((rd_T53 l0 x10_3).f1) : Int) < ((x7_3.length : Int) : Int)) = True := eq_true (dt_); obtain ⟨ad137, e137, hx137_0⟩ := Kd.at_int (Kd.R_reads' HO_7.out).2.2 ((rd_T53 l0 x10_3).f1) p137 q137; obtain rfl : (⟨go10, 0, none⟩ : Addr) = ad137 := (by injection e137); (first | simp only [add_plain] at hx137_0 | simp only [add_at] at hx137_0 | simp only [Addr.add, Nat.zero_add] at hx137_0 | skip); replace p137 := eq_true p137; replace q137 := eq_true q137; have p138 : 0 ≤ (x10_3 : Int) := dt_; have q138 : x10_3 < (l0.length : Int) := dt_; obtain ⟨ad138, e138, hx138_0, hx138_1, hx138_2, hx138_3, hx138_4⟩ := at_T53 HR0.out x10_3 p138 q138; obtain rfl : ad127 = ad138 := (by injection e138); replace hx138_0 := bc_ HB.out hx138_0; replace hx138_1 := bc_ HB.out hx138_1; replace hx138_2 := bc_ HB.out hx138_2; replace hx138_3 := bc_ HB.out hx138_3; replace hx138_4 := bc_ HB.out hx138_4; replace p138 := eq_true p138; replace q138 := eq_true q138; have p139 : 0 ≤ (((rd_T53 l0 x10_3).f1) : Int) := dt_; have q139 : ((rd_T53 l0 x10_3).f1) < (y136.length : Int) := (by have h_ : (((rd_T53 l0 x10_3).f1) : Int) < ((x7_3.length : Int) : Int) := dt_; first | (have e_ := (Kd.R_reads' HO_7.out).1; omega) | simpa only [Ny136.out, List.length_set] using h_); have ql139 : ((((rd_T53 l0 x10_3).f1) : Int) < ((x7_3.length : Int) : Int)) = True := eq_true (dt_); obtain ⟨ad139, e139, hx139_0⟩ := Kd.at_int (Kd.R_reads' HO_7.out).2.2 ((rd_T53 l0 x10_3).f1) p139 q139; obtain rfl : (⟨go10, 0, none⟩ : Addr) = ad139 := (by injection e139); (first | simp only [add_plain] at hx139_0 | simp only [add_at] at hx139_0 | simp only [Addr.add, Nat.zero_add] at hx139_0 | skip); replace p139 := eq_true p139; replace q139 := eq_true q139; have p140 : 0 ≤ (((rd_T53 l0 x10_3).f0) : Int) := dt_; have q140 : ((rd_T53 l0 x10_3).f0) < (y136.length : Int) := (by have h_ : (((rd_T53 l0 x10_3).f0) : Int) < ((x7_3.length : Int) : Int) := dt_; first | (have e_ := (Kd.R_reads' HO_7.out).1; omega) | simpa only [Ny136.out, List.length_set] using h_); have ql140 : ((((rd_T53 l0 x10_3).f0) : Int) < ((x7_3.length : Int) : Int)) = True := eq_true (dt_); obtain ⟨ad140, e140, hx140_0⟩ := Kd.at_int (Kd.R_reads' HO_7.out).2.2 ((rd_T53 l0 x10_3).f0) p140 q140; obtain rfl : (⟨go10, 0, none⟩ : Addr) = ad140 := (by injection e140); (first | simp only [add_plain] at hx140_0 | simp only [add_at] at hx140_0 | simp only [Addr.add, Nat.zero_add] at hx140_0 | skip); replace p140 := eq_true p140; replace q140 := eq_true q140; have p43 : 0 ≤ (((rd_T53 l0 x10_3).f0) : Int) := dt_; have q43 : (((rd_T53 l0 x10_3).f0) : Int) < ((x7_3.length : Int) : Int) := dt_; obtain ⟨hx43_0, hf43_0⟩ := Kd.R_celln 0 HO_7.out (((rd_T53 l0 x10_3).f0) : Int) p43 q43; replace p43 := eq_true p43; replace q43 := eq_true q43; obtain ⟨hy46_, hz46_⟩ := Kd.R_celln 0 HO_7.out (((rd_T53 l0 x10_3).f0) : Int) (dt_) (dt_); have HP46 := Kd.R_putg HO_7.out (((rd_T53 l0 x10_3).f0) : Int) (wrap64 ((rd y136 ((rd_T53 l0 x10_3).f1)) + ((rd_T53 l0 x10_3).f2)))) | ((with_reducible refine gate_store (t := 3) (p := 121) rfl ?_); (try (rw [drewN_self w45]; generalize hq_ : World.drewN w45 _ = w45; replace HO_7 := Aside0.mk (Kd.R_at hq_ HO_7.out); replace HB := Aside0.mk (below_at hq_ HB.out); clear hq_; (try (obtain ⟨hy46_, hz46_⟩ := Kd.R_celln 0 HO_7.out (((rd_T53 l0 x10_3).f0) : Int) (dt_) (dt_))); (try (have HP46 := Kd.R_putg HO_7.out (((rd_T53 l0 x10_3).f0) : Int) (wrap64 ((rd y136 ((rd_T53 l0 x10_3).f1)) + ((rd_T53 l0 x10_3).f2))))))); refine store_event (t := 3) (p := 121) (v := ?vo_w47) (w1 := (w45.setCell ⟨go10, (((rd_T53 l0 x10_3).f0) : Int).toNat, none⟩ (.int .i64 (wrap64 ((rd y136 ((rd_T53 l0 x10_3).f1)) + ((rd_T53 l0 x10_3).f2)))))) ?hg ?ho ?hn ?hr ?_; (case ho => rfl); (case hg => rfl); (case hn => rfl); (case hr => first | (go_simp; done) | (go_simp; rfl)); intro w47 hw; have hg : w45.grownBy w47 (some go10) := (by rw [hw]; exact HP46.2); have hp_ : Kd.R (Kd.int .i64) 3 w47 w.heap.size (fun _ => True) (.slice (some ⟨go10, 0, none⟩) x7_3.length co10) y141 := (by rw [hw, Ny141.out]; exact HP46.1); clear HP46; replace HO_7 := Aside0.mk (hp_); replace HB := Aside0.mk ((by rw [hw]; exact below_set (HB.out) GB10.out : Below w.heap.size w w47)); clear hg hw hp_)); try go_wp2_with (first | ((with_reducible refine gate_store (t := 3) (p := 87) rfl ?_); (try (rw [drewN_self wc]; generalize hq_ : World.drewN wc _ = wc; replace HO_7 := Aside0.mk (Kd.R_at hq_ HO_7.out); replace HB := Aside0.mk (below_at hq_ HB.out); clear hq_; (try (have HP44 := Kd.R_putg HO_7.out (((rd_T53 l0 x10_3).f1) : Int) (wrap64 ((rd x7_3 ((rd_T53 l0 x10_3).f0)) + ((rd_T53 l0 x10_3).f2))))))); refine store_event (t := 3) (p := 87) (v := ?vo_w45) (w1 := (wc.setCell ⟨go10, (((rd_T53 l0 x10_3).f1) : Int).toNat, none⟩ (.int .i64 (wrap64 ((rd x7_3 ((rd_T53 l0 x10_3).f0)) + ((rd_T53 l0 x10_3).f2)))))) ?hg ?ho ?hn ?hr ?_; (case ho => rfl); (case hg => rfl); (case hn => rfl); (case hr => first | (go_simp; done) | (go_simp; rfl)); intro w45 hw; have hg : wc.grownBy w45 (some go10) := (by rw [hw]; exact HP44.2); have hp_ : Kd.R (Kd.int .i64) 3 w45 w.heap.size (fun _ => True) (.slice (some ⟨go10, 0, none⟩) x7_3.length co10) y136 := (by rw [hw, Ny136.out]; exact HP44.1); clear HP44; replace HO_7 := Aside0.mk (hp_); replace HB := Aside0.mk ((by rw [hw]; exact below_set (HB.out) GB10.out : Below w.heap.size w w45)); clear hg hw hp_; have p137 : 0 ≤ (((rd_T53 l0 x10_3).f1) : Int) := dt_; have q137 : ((rd_T53 l0 x10_3).f1) < (y136.length : Int) := (by have h_ : (((rd_T53 l0 x10_3).f1) : Int) < ((x7_3.length : Int) : Int) := dt_; first | (have e_ := (Kd.R_reads' HO_7.out).1; omega) | simpa only [Ny136.out, List.length_set] using h_); have ql137 : ((((rd_T53 l0 x10_3).f1) : Int) < ((x7_3.length : Int) : Int)) = True := eq_true (dt_); obtain ⟨ad137, e137, hx137_0⟩ := Kd.at_int (Kd.R_reads' HO_7.out).2.2 ((rd_T53 l0 x10_3).f1) p137 q137; obtain rfl : (⟨go10, 0, none⟩ : Addr) = ad137 := (by injection e137); (first | simp only [add_plain] at hx137_0 | simp only [add_at] at hx137_0 | simp only [Addr.add, Nat.zero_add] at hx137_0 | skip); replace p137 := eq_true p137; replace q137 := eq_true q137; have p138 : 0 ≤ (x10_3 : Int) := dt_; have q138 : x10_3 < (l0.length : Int) := dt_; obtain ⟨ad138, e138, hx138_0, hx138_1, hx138_2, hx138_3, hx138_4⟩ := at_T53 HR0.out x10_3 p138 q138; obtain rfl : ad127 = ad138 := (by injection e138); replace hx138_0 := bc_ HB.out hx138_0; replace hx138_1 := bc_ HB.out hx138_1; replace hx138_2 := bc_ HB.out hx138_2; replace hx138_3 := bc_ HB.out hx138_3; replace hx138_4 := bc_ HB.out hx138_4; replace p138 := eq_true p138; replace q138 := eq_true q138; have p139 : 0 ≤ (((rd_T53 l0 x10_3).f1) : Int) := dt_; have q139 : ((rd_T53 l0 x10_3).f1) < (y136.length : Int) := (by have h_ : (((rd_T53 l0 x10_3).f1) : Int) < ((x7_3.length : Int) : Int) := dt_; first | (have e_ := (Kd.R_reads' HO_7.out).1; omega) | simpa only [Ny136.out, List.length_set] using h_); have ql139 : ((((rd_T53 l0 x10_3).f1) : Int) < ((x7_3.length : Int) : Int)) = True := eq_true (dt_); obtain ⟨ad139, e139, hx139_0⟩ := Kd.at_int (Kd.R_reads' HO_7.out).2.2 ((rd_T53 l0 x10_3).f1) p139 q139; obtain rfl : (⟨go10, 0, none⟩ : Addr) = ad139 := (by injection e139); (first | simp only [add_plain] at hx139_0 | simp only [add_at] at hx139_0 | simp only [Addr.add, Nat.zero_add] at hx139_0 | skip); replace p139 := eq_true p139; replace q139 := eq_true q139; have p140 : 0 ≤ (((rd_T53 l0 x10_3).f0) : Int) := dt_; have q140 : ((rd_T53 l0 x10_3).f0) < (y136.length : Int) := (by have h_ : (((rd_T53 l0 x10_3).f0) : Int) < ((x7_3.length : Int) : Int) := dt_; first | (have e_ := (Kd.R_reads' HO_7.out).1; omega) | simpa only [Ny136.out, List.length_set] using h_); have ql140 : ((((rd_T53 l0 x10_3).f0) : Int) < ((x7_3.length : Int) : Int)) = True := eq_true (dt_); obtain ⟨ad140, e140, hx140_0⟩ := Kd.at_int (Kd.R_reads' HO_7.out).2.2 ((rd_T53 l0 x10_3).f0) p140 q140; obtain rfl : (⟨go10, 0, none⟩ : Addr) = ad140 := (by injection e140); (first | simp only [add_plain] at hx140_0 | simp only [add_at] at hx140_0 | simp only [Addr.add, Nat.zero_add] at hx140_0 | skip); replace p140 := eq_true p140; replace q140 := eq_true q140; have p43 : 0 ≤ (((rd_T53 l0 x10_3).f0) : Int) := dt_; have q43 : (((rd_T53 l0 x10_3).f0) : Int) < ((x7_3.length : Int) : Int) := dt_; obtain ⟨hx43_0, hf43_0⟩ := Kd.R_celln 0 HO_7.out (((rd_T53 l0 x10_3).f0) : Int) p43 q43; replace p43 := eq_true p43; replace q43 := eq_true q43; obtain ⟨hy46_, hz46_⟩ := Kd.R_celln 0 HO_7.out (((rd_T53 l0 x10_3).f0) : Int) (dt_) (dt_); have HP46 := Kd.R_putg HO_7.out (((rd_T53 l0 x10_3).f0) : Int) (wrap64 ((rd y136 ((rd_T53 l0 x10_3).f1)) + ((rd_T53 l0 x10_3).f2)))) | ((with_reducible refine gate_store (t := 3) (p := 121) rfl ?_); (try (rw [drewN_self w45]; generalize hq_ : World.drewN w45 _ = w45; replace HO_7 := Aside0.mk (Kd.R_at hq_ HO_7.out); replace HB := Aside0.mk (below_at hq_ HB.out); clear hq_; (try (obtain ⟨hy46_, hz46_⟩ := Kd.R_celln 0 HO_7.out (((rd_T53 l0 x10_3).f0) : Int) (dt_) (dt_))); (try (have HP46 := Kd.R_putg HO_7.out (((rd_T53 l0 x10_3).f0) : Int) (wrap64 ((rd y136 ((rd_T53 l0 x10_3).f1)) + ((rd_T53 l0 x10_3).f2))))))); refine store_event (t := 3) (p := 121) (v := ?vo_w47) (w1 := (w45.setCell ⟨go10, (((rd_T53 l0 x10_3).f0) : Int).toNat, none⟩ (.int .i64 (wrap64 ((rd y136 ((rd_T53 l0 x10_3).f1)) + ((rd_T53 l0 x10_3).f2)))))) ?hg ?ho ?hn ?hr ?_; (case ho => rfl); (case hg => rfl); (case hn => rfl); (case hr => first | (go_simp; done) | (go_simp; rfl)); intro w47 hw; have hg : w45.grownBy w47 (some go10) := (by rw [hw]; exact HP46.2); have hp_ : Kd.R (Kd.int .i64) 3 w47 w.heap.size (fun _ => True) (.slice (some ⟨go10, 0, none⟩) x7_3.length co10) y141 := (by rw [hw, Ny141.out]; exact HP46.1); clear HP46; replace HO_7 := Aside0.mk (hp_); replace HB := Aside0.mk ((by rw [hw]; exact below_set (HB.out) GB10.out : Below w.heap.size w w47)); clear hg hw hp_)))
                              (try simp only [← hl7_3])
                              go_roundg kj27
                              case measure => have := HK1.out; have := HK2.out; have := HK3.out; have := HJ15.out; have := HJ27.out; omega
                              case rel => exact ⟨(y141), (true), (wrap64 (x10_3 + 1)), (by first | rfl | (simp; done) | (simp [*]; done)), (by first | rfl | (simp; done) | (simp [*]; done)), H', ⟨by have := HK1.out; have := HK2.out; have := HK3.out; have := HJ15.out; have := HJ27.out; omega⟩, ⟨by (try simp only [hl7_2]); (try simp only [hl7_3]); (with_reducible repeat (first | apply Kd.R_alloc | apply Kd.R_drewN | apply Kd.R_drew)); first | exact HO_7.out | (rw [Ny141.out]; exact (Kd.R_putg (Kd.R_drewN HO_7.out _) _ _).1) | (rw [Ny141.out]; exact (Kd.R_putg HO_7.out _ _).1)⟩, ⟨by repeat (first | (with_reducible first | exact HB.out | apply below_alloc | apply pw_below_drewN | apply below_drew1) | exact HB.out | (first | exact below_set (pw_below_drewN HB.out _) GB10.out | exact below_set HB.out GB10.out))⟩⟩
                             ·
                              rw [if_neg c42] at H
                              have c42b0 : decide ((rd y136 ((rd_T53 l0 x10_3).f0)) < 0) = false := decide_eq_false c42; clear c42
                              by_cases c48 : (wrap64 ((rd y136 ((rd_T53 l0 x10_3).f1)) + ((rd_T53 l0 x10_3).f2))) < (rd y136 ((rd_T53 l0 x10_3).f0))
                              ·
                               rw [if_pos c48] at H
                               have c48b0 : decide ((wrap64 ((rd y136 ((rd_T53 l0 x10_3).f1)) + ((rd_T53 l0 x10_3).f2))) < (rd y136 ((rd_T53 l0 x10_3).f0))) = true := decide_eq_true c48; clear c48
                               obtain ⟨y143, hy143⟩ : ∃ y_ : List Int, y_ = (y136.set (((rd_T53 l0 x10_3).f0) : Int).toNat (wrap64 ((rd y136 ((rd_T53 l0 x10_3).f1)) + ((rd_T53 l0 x10_3).f2)))) := ⟨_, rfl⟩
                               replace H : (spec_l25Out.l2 kj27 l0 l1 a2 y143 true (wrap64 (x10_3 + 1))) = some r := by first | (rw [hy143]; with_reducible exact H) | (have H2_ := (Option.bind_some _ _).symm.trans H; rw [hy143]; with_reducible exact H2_) | (have H2_ := (Option.bind_some _ _).symm.trans H; with_reducible exact H2_) | with_reducible exact H | (rw [hy143]; exact H) | exact H
                               have Ny143 := Aside0.mk hy143; clear hy143; have H' := Aside0.mk H; clear H; have p36 : 0 ≤ (((rd_T53 l0 x10_3).f1) : Int) := dt_; have q36 : (((rd_T53 l0 x10_3).f1) : Int) < ((x7_3.length : Int) : Int) := dt_; obtain ⟨hx36_0, hf36_0⟩ := Kd.R_celln 0 HO_7.out (((rd_T53 l0 x10_3).f1) : Int) p36 q36; replace p36 := eq_true p36; replace q36 := eq_true q36; have HP50 := Kd.R_putg HO_7.out (((rd_T53 l0 x10_3).f1) : Int) (wrap64 ((rd x7_3 ((rd_T53 l0 x10_3).f0)) + ((rd_T53 l0 x10_3).f2)))
                               go_wp2_with (first | ((with_reducible refine gate_store (t := 3) (p := 87) rfl ?_); (try (rw [drewN_self wc]; generalize hq_ : World.drewN wc _ = wc; replace HO_7 := Aside0.mk (Kd.R_at hq_ HO_7.out); replace HB := Aside0.mk (below_at hq_ HB.out); clear hq_; (try (have HP50 := Kd.R_putg HO_7.out (((rd_T53 l0 x10_3).f1) : Int) (wrap64 ((rd x7_3 ((rd_T53 l0 x10_3).f0)) + ((rd_T53 l0 x10_3).f2))))))); refine store_event (t := 3) (p := 87) (v := ?vo_w51) (w1 := (wc.setCell ⟨go10, (((rd_T53 l0 x10_3).f1) : Int).toNat, none⟩ (.int .i64 (wrap64 ((rd x7_3 ((rd_T53 l0 x10_3).f0)) + ((rd_T53 l0 x10_3).f2)))))) ?hg ?ho ?hn ?hr ?_; (case ho => rfl); (case hg => rfl); (case hn => rfl); (case hr => first | (go_simp; done) | (go_simp; rfl)); intro w51 hw; have hg : wc.grownBy w51 (some go10) := (by rw [hw]; exact HP50.2); have hp_ : Kd.R (Kd.int .i64) 3 w51 w.heap.size (fun _ => True) (.slice (some ⟨go10, 0, none⟩) x7_3.length co10) y136 := (by rw [hw, Ny136.out]; exact HP50.1); clear HP50; replace HO_7 := Aside0.mk (hp_); replace HB := Aside0.mk ((by rw [hw]; exact below_set (HB.out) GB10.out : Below w.heap.size w w51)); clear hg hw hp_; have p137 : 0 ≤ (((rd_T53 l0 x10_3).f1) : Int) := dt_; have q137 : ((rd_T53 l0 x10_3).f1) < (y136.length : Int) := (by have h_ : (((rd_T53 l0 x10_3).f1) : Int) < ((x7_3.length : Int) : Int) := dt_; first | (have e_ := (Kd.R_reads' HO_7.out).1; omega) | simpa only [Ny136.out, List.length_set] using h_); have ql137 : ((((rd_T53 l0 x10_3).f1) : Int) < ((x7_3.length : Int) : Int)) = True := eq_true (dt_); obtain ⟨ad137, e137, hx137_0⟩ := Kd.at_int (Kd.R_reads' HO_7.out).2.2 ((rd_T53 l0 x10_3).f1) p137 q137; obtain rfl : (⟨go10, 0, none⟩ : Addr) = ad137 := (by injection e137); (first | simp only [add_plain] at hx137_0 | simp only [add_at] at hx137_0 | simp only [Addr.add, Nat.zero_add] at hx137_0 | skip); replace p137 := eq_true p137; replace q137 := eq_true q137; have p138 : 0 ≤ (x10_3 : Int) := dt_; have q138 : x10_3 < (l0.length : Int) := dt_; obtain ⟨ad138, e138, hx138_0, hx138_1, hx138_2, hx138_3, hx138_4⟩ := at_T53 HR0.out x10_3 p138 q138; obtain rfl : ad127 = ad138 := (by injection e138); replace hx138_0 := bc_ HB.out hx138_0; replace hx138_1 := bc_ HB.out hx138_1; replace hx138_2 := bc_ HB.out hx138_2; replace hx138_3 := bc_ HB.out hx138_3; replace hx138_4 := bc_ HB.out hx138_4; replace p138 := eq_true p138; replace q138 := eq_true q138; have p139 : 0 ≤ (((rd_T53 l0 x10_3).f1) : Int) := dt_; have q139 : ((rd_T53 l0 x10_3).f1) < (y136.length : Int) := (by have h_ : (((rd_T53 l0 x10_3).f1) : Int) < ((x7_3.length : Int) : Int) := dt_; first | (have e_ := (Kd.R_reads' HO_7.out).1; omega) | simpa only [Ny136.out, List.length_set] using h_); have ql139 : ((((rd_T53 l0 x10_3).f1) : Int) < ((x7_3.length : Int) : Int)) = True := eq_true (dt_); obtain ⟨ad139, e139, hx139_0⟩ := Kd.at_int (Kd.R_reads' HO_7.out).2.2 ((rd_T53 l0 x10_3).f1) p139 q139; obtain rfl : (⟨go10, 0, none⟩ : Addr) = ad139 := (by injection e139); (first | simp only [add_plain] at hx139_0 | simp only [add_at] at hx139_0 | simp only [Addr.add, Nat.zero_add] at hx139_0 | skip); replace p139 := eq_true p139; replace q139 := eq_true q139; have p140 : 0 ≤ (((rd_T53 l0 x10_3).f0) : Int) := dt_; have q140 : ((rd_T53 l0 x10_3).f0) < (y136.length : Int) := (by have h_ : (((rd_T53 l0 x10_3).f0) : Int) < ((x7_3.length : Int) : Int) := dt_; first | (have e_ := (Kd.R_reads' HO_7.out).1; omega) | simpa only [Ny136.out, List.length_set] using h_); have ql140 : ((((rd_T53 l0 x10_3).f0) : Int) < ((x7_3.length : Int) : Int)) = True := eq_true (dt_); obtain ⟨ad140, e140, hx140_0⟩ := Kd.at_int (Kd.R_reads' HO_7.out).2.2 ((rd_T53 l0 x10_3).f0) p140 q140; obtain rfl : (⟨go10, 0, none⟩ : Addr) = ad140 := (by injection e140); (first | simp only [add_plain] at hx140_0 | simp only [add_at] at hx140_0 | simp only [Addr.add, Nat.zero_add] at hx140_0 | skip); replace p140 := eq_true p140; replace q140 := eq_true q140; have p142 : 0 ≤ (((rd_T53 l0 x10_3).f0) : Int) := dt_; have q142 : ((rd_T53 l0 x10_3).f0) < (y136.length : Int) := (by have h_ : (((rd_T53 l0 x10_3).f0) : Int) < ((x7_3.length : Int) : Int) := dt_; first | (have e_ := (Kd.R_reads' HO_7.out).1; omega) | simpa only [Ny136.out, List.length_set] using h_); have ql142 : ((((rd_T53 l0 x10_3).f0) : Int) < ((x7_3.length : Int) : Int)) = True := eq_true (dt_); obtain ⟨ad142, e142, hx142_0⟩ := Kd.at_int (Kd.R_reads' HO_7.out).2.2 ((rd_T53 l0 x10_3).f0) p142 q142; obtain rfl : (⟨go10, 0, none⟩ : Addr) = ad142 := (by injection e142); (first | simp only [add_plain] at hx142_0 | simp only [add_at] at hx142_0 | simp only [Addr.add, Nat.zero_add] at hx142_0 | skip); replace p142 := eq_true p142; replace q142 := eq_true q142; have p49 : 0 ≤ (((rd_T53 l0 x10_3).f0) : Int) := dt_; have q49 : (((rd_T53 l0 x10_3).f0) : Int) < ((x7_3.length : Int) : Int) := dt_; obtain ⟨hx49_0, hf49_0⟩ := Kd.R_celln 0 HO_7.out (((rd_T53 l0 x10_3).f0) : Int) p49 q49; replace p49 := eq_true p49; replace q49 := eq_true q49; obtain ⟨hy52_, hz52_⟩ := Kd.R_celln 0 HO_7.out (((rd_T53 l0 x10_3).f0) : Int) (dt_) (dt_); have HP52 := Kd.R_putg HO_7.out (((rd_T53 l0 x10_3).f0) : Int) (wrap64 ((rd y136 ((rd_T53 l0 x10_3).f1)) + ((rd_T53 l0 x10_3).f2)))) | ((with_reducible refine gate_store (t := 3) (p := 121) rfl ?_); (try (rw [drewN_self w51]; generalize hq_ : World.drewN w51 _ = w51; replace HO_7 := Aside0.mk (Kd.R_at hq_ HO_7.out); replace HB := Aside0.mk (below_at hq_ HB.out); clear hq_; (try (obtain ⟨hy52_, hz52_⟩ := Kd.R_celln 0 HO_7.out (((rd_T53 l0 x10_3).f0) : Int) (dt_) (dt_))); (try (have HP52 := Kd.R_putg HO_7.out (((rd_T53 l0 x10_3).f0) : Int) (wrap64 ((rd y136 ((rd_T53 l0 x10_3).f1)) + ((rd_T53 l0 x10_3).f2))))))); refine store_event (t := 3) (p := 121) (v := ?vo_w53) (w1 := (w51.setCell ⟨go10, (((rd_T53 l0 x10_3).f0) : Int).toNat, none⟩ (.int .i64 (wrap64 ((rd y136 ((rd_T53 l0 x10_3).f1)) + ((rd_T53 l0 x10_3).f2)))))) ?hg ?ho ?hn ?hr ?_; (case ho => rfl); (case hg => rfl); (case hn => rfl); (case hr => first | (go_simp; done) | (go_simp; rfl)); intro w53 hw; have hg : w51.grownBy w53 (some go10) := (by rw [hw]; exact HP52.2); have hp_ : Kd.R (Kd.int .i64) 3 w53 w.heap.size (fun _ => True) (.slice (some ⟨go10, 0, none⟩) x7_3.length co10) y143 := (by rw [hw, Ny143.out]; exact HP52.1); clear HP52; replace HO_7 := Aside0.mk (hp_); replace HB := Aside0.mk ((by rw [hw]; exact below_set (HB.out) GB10.out : Below w.heap.size w w53)); clear hg hw hp_))
                               repeat (go_quiet (first | ((with_reducible refine gate_store (t := 3) (p := 87) rfl ?_); (try (rw [drewN_self wc]; generalize hq_ : World.drewN wc _ = wc; replace HO_7 := Aside0.mk (Kd.R_at hq_ HO_7.out); replace HB := Aside0.mk (below_at hq_ HB.out); clear hq_; (try (have HP50 := Kd.R_putg HO_7.out (((rd_T53 l0 x10_3).f1) : Int) (wrap64 ((rd x7_3 ((rd_T53 l0 x10_3).f0)) + ((rd_T53 l0 x10_3).f2))))))); refine store_event (t := 3) (p := 87) (v := ?vo_w51) (w1 := (wc.setCell ⟨go10, (((rd_T53 l0 x10_3).f1) : Int).toNat, none⟩ (.int .i64 (wrap64 ((rd x7_3 ((rd_T53 l0 x10_3).f0)) + ((rd_T53 l0 x10_3).f2)))))) ?hg ?ho ?hn ?hr ?_; (case ho => rfl); (case hg => rfl); (case hn => rfl); (case hr => first | (go_simp; done) | (go_simp; rfl)); intro w51 hw; have hg : wc.grownBy w51 (some go10) := (by rw [hw]; exact HP50.2); have hp_ : Kd.R (Kd.int .i64) 3 w51 w.heap.size (fun _ => True) (.slice (some ⟨go10, 0, none⟩) x7_3.length co10) y136 := (by rw [hw, Ny136.out]; exact HP50.1); clear HP50; replace HO_7 := Aside0.mk (hp_); replace HB := Aside0.mk ((by rw [hw]; exact below_set (HB.out) GB10.out : Below w.heap.size w w51)); clear hg hw hp_; have p137 : 0 ≤ (((rd_T53 l0 x10_3).f1) : Int) := dt_; have q137 : ((rd_T53 l0 x10_3).f1) < (y136.length : Int) := (by have h_ : (((rd_T53 l0 x10_3).f1) : Int) < ((x7_3.length : Int) : Int) := dt_; first | (have e_ := (Kd.R_reads' HO_7.out).1; omega) | simpa only [Ny136.out, List.length_set] using h_); have ql137 : ((((rd_T53 l0 x10_3).f1) : Int) < ((x7_3.length : Int) : Int)) = True := eq_true (dt_); obtain ⟨ad137, e137, hx137_0⟩ := Kd.at_int (Kd.R_reads' HO_7.out).2.2 ((rd_T53 l0 x10_3).f1) p137 q137; obtain rfl : (⟨go10, 0, none⟩ : Addr) = ad137 := (by injection e137); (first | simp only [add_plain] at hx137_0 | simp only [add_at] at hx137_0 | simp only [Addr.add, Nat.zero_add] at hx137_0 | skip); replace p137 := eq_true p137; replace q137 := eq_true q137; have p138 : 0 ≤ (x10_3 : Int) := dt_; have q138 : x10_3 < (l0.length : Int) := dt_; obtain ⟨ad138, e138, hx138_0, hx138_1, hx138_2, hx138_3, hx138_4⟩ := at_T53 HR0.out x10_3 p138 q138; obtain rfl : ad127 = ad138 := (by injection e138); replace hx138_0 := bc_ HB.out hx138_0; replace hx138_1 := bc_ HB.out hx138_1; replace hx138_2 := bc_ HB.out hx138_2; replace hx138_3 := bc_ HB.out hx138_3; replace hx138_4 := bc_ HB.out hx138_4; replace p138 := eq_true p138; replace q138 := eq_true q138; have p139 : 0 ≤ (((rd_T53 l0 x10_3).f1) : Int) := dt_; have q139 : ((rd_T53 l0 x10_3).f1) < (y136.length : Int) := (by have h_ : (((rd_T53 l0 x10_3).f1) : Int) < ((x7_3.length : Int) : Int) := dt_; first | (have e_ := (Kd.R_reads' HO_7.out).1; omega) | simpa only [Ny136.out, List.length_set] using h_); have ql139 : ((((rd_T53 l0 x10_3).f1) : Int) < ((x7_3.length : Int) : Int)) = True := eq_true (dt_); obtain ⟨ad139, e139, hx139_0⟩ := Kd.at_int (Kd.R_reads' HO_7.out).2.2 ((rd_T53 l0 x10_3).f1) p139 q139; obtain rfl : (⟨go10, 0, none⟩ : Addr) = ad139 := (by injection e139); (first | simp only [add_plain] at hx139_0 | simp only [add_at] at hx139_0 | simp only [Addr.add, Nat.zero_add] at hx139_0 | skip); replace p139 := eq_true p139; replace q139 := eq_true q139; have p140 : 0 ≤ (((rd_T53 l0 x10_3).f0) : Int) := dt_; have q140 : ((rd_T53 l0 x10_3).f0) < (y136.length : Int) := (by have h_ : (((rd_T53 l0 x10_3).f0) : Int) < ((x7_3.length : Int) : Int) := dt_; first | (have e_ := (Kd.R_reads' HO_7.out).1; omega) | simpa only [Ny136.out, List.length_set] using h_); have ql140 : ((((rd_T53 l0 x10_3).f0) : Int) < ((x7_3.length : Int) : Int)) = True := eq_true (dt_); obtain ⟨ad140, e140, hx140_0⟩ := Kd.at_int (Kd.R_reads' HO_7.out).2.2 ((rd_T53 l0 x10_3).f0) p140 q140; obtain rfl : (⟨go10, 0, none⟩ : Addr) = ad140 := (by injection e140); (first | simp only [add_plain] at hx140_0 | simp only [add_at] at hx140_0 | simp only [Addr.add, Nat.zero_add] at hx140_0 | skip); replace p140 := eq_true p140; replace q140 := eq_true q140; have p142 : 0 ≤ (((rd_T53 l0 x10_3).f0) : Int) := dt_; have q142 : ((rd_T53 l0 x10_3).f0) < (y136.length : Int) := (by have h_ : (((rd_T53 l0 x10_3).f0) : Int) < ((x7_3.length : Int) : Int) := dt_; first | (have e_ := (Kd.R_reads' HO_7.out).1; omega) | simpa only [Ny136.out, List.length_set] using h_); have ql142 : ((((rd_T53 l0 x10_3).f0) : Int) < ((x7_3.length : Int) : Int)) = True := eq_true (dt_); obtain ⟨ad142, e142, hx142_0⟩ := Kd.at_int (Kd.R_reads' HO_7.out).2.2 ((rd_T53 l0 x10_3).f0) p142 q142; obtain rfl : (⟨go10, 0, none⟩ : Addr) = ad142 := (by injection e142); (first | simp only [add_plain] at hx142_0 | simp only [add_at] at hx142_0 | simp only [Addr.add, Nat.zero_add] at hx142_0 | skip); replace p142 := eq_true p142; replace q142 := eq_true q142; have p49 : 0 ≤ (((rd_T53 l0 x10_3).f0) : Int) := dt_; have q49 : (((rd_T53 l0 x10_3).f0) : Int) < ((x7_3.length : Int) : Int) := dt_; obtain ⟨hx49_0, hf49_0⟩ := Kd.R_celln 0 HO_7.out (((rd_T53 l0 x10_3).f0) : Int) p49 q49; replace p49 := eq_true p49; replace q49 := eq_true q49; obtain ⟨hy52_, hz52_⟩ := Kd.R_celln 0 HO_7.out (((rd_T53 l0 x10_3).f0) : Int) (dt_) (dt_); have HP52 := Kd.R_putg HO_7.out (((rd_T53 l0 x10_3).f0) : Int) (wrap64 ((rd y136 ((rd_T53 l0 x10_3).f1)) + ((rd_T53 l0 x10_3).f2)))) | ((with_reducible refine gate_store (t := 3) (p := 121) rfl ?_); (try (rw [drewN_self w51]; generalize hq_ : World.drewN w51 _ = w51; replace HO_7 := Aside0.mk (Kd.R_at hq_ HO_7.out); replace HB := Aside0.mk (below_at hq_ HB.out); clear hq_; (try (obtain ⟨hy52_, hz52_⟩ := Kd.R_celln 0 HO_7.out (((rd_T53 l0 x10_3).f0) : Int) (dt_) (dt_))); (try (have HP52 := Kd.R_putg HO_7.out (((rd_T53 l0 x10_3).f0) : Int) (wrap64 ((rd y136 ((rd_T53 l0 x10_3).f1)) + ((rd_T53 l0 x10_3).f2))))))); refine store_event (t := 3) (p := 121) (v := ?vo_w53) (w1 := (w51.setCell ⟨go10, (((rd_T53 l0 x10_3).f0) : Int).toNat, none⟩ (.int .i64 (wrap64 ((rd y136 ((rd_T53 l0 x10_3).f1)) + ((rd_T53 l0 x10_3).f2)))))) ?hg ?ho ?hn ?hr ?_; (case ho => rfl); (case hg => rfl); (case hn => rfl); (case hr => first | (go_simp; done) | (go_simp; rfl)); intro w53 hw; have hg : w51.grownBy w53 (some go10) := (by rw [hw]; exact HP52.2); have hp_ : Kd.R (Kd.int .i64) 3 w53 w.heap.size (fun _ => True) (.slice (some ⟨go10, 0, none⟩) x7_3.length co10) y143 := (by rw [hw, Ny143.out]; exact HP52.1); clear HP52; replace HO_7 := Aside0.mk (hp_); replace HB := Aside0.mk ((by rw [hw]; exact below_set (HB.out) GB10.out : Below w.heap.size w w53)); clear hg hw hp_)); try go_wp2_with (first | ((with_reducible refine gate_store (t := 3) (p := 87) rfl ?_); (try (rw [drewN_self wc]; generalize hq_ : World.drewN wc _ = wc; replace HO_7 := Aside0.mk (Kd.R_at hq_ HO_7.out); replace HB := Aside0.mk (below_at hq_ HB.out); clear hq_; (try (have HP50 := Kd.R_putg HO_7.out (((rd_T53 l0 x10_3).f1) : Int) (wrap64 ((rd x7_3 ((rd_T53 l0 x10_3).f0)) + ((rd_T53 l0 x10_3).f2))))))); refine store_event (t := 3) (p := 87) (v := ?vo_w51) (w1 := (wc.setCell ⟨go10, (((rd_T53 l0 x10_3).f1) : Int).toNat, none⟩ (.int .i64 (wrap64 ((rd x7_3 ((rd_T53 l0 x10_3).f0)) + ((rd_T53 l0 x10_3).f2)))))) ?hg ?ho ?hn ?hr ?_; (case ho => rfl); (case hg => rfl); (case hn => rfl); (case hr => first | (go_simp; done) | (go_simp; rfl)); intro w51 hw; have hg : wc.grownBy w51 (some go10) := (by rw [hw]; exact HP50.2); have hp_ : Kd.R (Kd.int .i64) 3 w51 w.heap.size (fun _ => True) (.slice (some ⟨go10, 0, none⟩) x7_3.length co10) y136 := (by rw [hw, Ny136.out]; exact HP50.1); clear HP50; replace HO_7 := Aside0.mk (hp_); replace HB := Aside0.mk ((by rw [hw]; exact below_set (HB.out) GB10.out : Below w.heap.size w w51)); clear hg hw hp_; have p137 : 0 ≤ (((rd_T53 l0 x10_3).f1) : Int) := dt_; have q137 : ((rd_T53 l0 x10_3).f1) < (y136.length : Int) := (by have h_ : (((rd_T53 l0 x10_3).f1) : Int) < ((x7_3.length : Int) : Int) := dt_; first | (have e_ := (Kd.R_reads' HO_7.out).1; omega) | simpa only [Ny136.out, List.length_set] using h_); have ql137 : ((((rd_T53 l0 x10_3).f1) : Int) < ((x7_3.length : Int) : Int)) = True := eq_true (dt_); obtain ⟨ad137, e137, hx137_0⟩ := Kd.at_int (Kd.R_reads' HO_7.out).2.2 ((rd_T53 l0 x10_3).f1) p137 q137; obtain rfl : (⟨go10, 0, none⟩ : Addr) = ad137 := (by injection e137); (first | simp only [add_plain] at hx137_0 | simp only [add_at] at hx137_0 | simp only [Addr.add, Nat.zero_add] at hx137_0 | skip); replace p137 := eq_true p137; replace q137 := eq_true q137; have p138 : 0 ≤ (x10_3 : Int) := dt_; have q138 : x10_3 < (l0.length : Int) := dt_; obtain ⟨ad138, e138, hx138_0, hx138_1, hx138_2, hx138_3, hx138_4⟩ := at_T53 HR0.out x10_3 p138 q138; obtain rfl : ad127 = ad138 := (by injection e138); replace hx138_0 := bc_ HB.out hx138_0; replace hx138_1 := bc_ HB.out hx138_1; replace hx138_2 := bc_ HB.out hx138_2; replace hx138_3 := bc_ HB.out hx138_3; replace hx138_4 := bc_ HB.out hx138_4; replace p138 := eq_true p138; replace q138 := eq_true q138; have p139 : 0 ≤ (((rd_T53 l0 x10_3).f1) : Int) := dt_; have q139 : ((rd_T53 l0 x10_3).f1) < (y136.length : Int) := (by have h_ : (((rd_T53 l0 x10_3).f1) : Int) < ((x7_3.length : Int) : Int) := dt_; first | (have e_ := (Kd.R_reads' HO_7.out).1; omega) | simpa only [Ny136.out, List.length_set] using h_); have ql139 : ((((rd_T53 l0 x10_3).f1) : Int) < ((x7_3.length : Int) : Int)) = True := eq_true (dt_); obtain ⟨ad139, e139, hx139_0⟩ := Kd.at_int (Kd.R_reads' HO_7.out).2.2 ((rd_T53 l0 x10_3).f1) p139 q139; obtain rfl : (⟨go10, 0, none⟩ : Addr) = ad139 := (by injection e139); (first | simp only [add_plain] at hx139_0 | simp only [add_at] at hx139_0 | simp only [Addr.add, Nat.zero_add] at hx139_0 | skip); replace p139 := eq_true p139; replace q139 := eq_true q139; have p140 : 0 ≤ (((rd_T53 l0 x10_3).f0) : Int) := dt_; have q140 : ((rd_T53 l0 x10_3).f0) < (y136.length : Int) := (by have h_ : (((rd_T53 l0 x10_3).f0) : Int) < ((x7_3.length : Int) : Int) := dt_; first | (have e_ := (Kd.R_reads' HO_7.out).1; omega) | simpa only [Ny136.out, List.length_set] using h_); have ql140 : ((((rd_T53 l0 x10_3).f0) : Int) < ((x7_3.length : Int) : Int)) = True := eq_true (dt_); obtain ⟨ad140, e140, hx140_0⟩ := Kd.at_int (Kd.R_reads' HO_7.out).2.2 ((rd_T53 l0 x10_3).f0) p140 q140; obtain rfl : (⟨go10, 0, none⟩ : Addr) = ad140 := (by injection e140); (first | simp only [add_plain] at hx140_0 | simp only [add_at] at hx140_0 | simp only [Addr.add, Nat.zero_add] at hx140_0 | skip); replace p140 := eq_true p140; replace q140 := eq_true q140; have p142 : 0 ≤ (((rd_T53 l0 x10_3).f0) : Int) := dt_; have q142 : ((rd_T53 l0 x10_3).f0) < (y136.length : Int) := (by have h_ : (((rd_T53 l0 x10_3).f0) : Int) < ((x7_3.length : Int) : Int) := dt_; first | (have e_ := (Kd.R_reads' HO_7.out).1; omega) | simpa only [Ny136.out, List.length_set] using h_); have ql142 : ((((rd_T53 l0 x10_3).f0) : Int) < ((x7_3.length : Int) : Int)) = True := eq_true (dt_); obtain ⟨ad142, e142, hx142_0⟩ := Kd.at_int (Kd.R_reads' HO_7.out).2.2 ((rd_T53 l0 x10_3).f0) p142 q142; obtain rfl : (⟨go10, 0, none⟩ : Addr) = ad142 := (by injection e142); (first | simp only [add_plain] at hx142_0 | simp only [add_at] at hx142_0 | simp only [Addr.add, Nat.zero_add] at hx142_0 | skip); replace p142 := eq_true p142; replace q142 := eq_true q142; have p49 : 0 ≤ (((rd_T53 l0 x10_3).f0) : Int) := dt_; have q49 : (((rd_T53 l0 x10_3).f0) : Int) < ((x7_3.length : Int) : Int) := dt_; obtain ⟨hx49_0, hf49_0⟩ := Kd.R_celln 0 HO_7.out (((rd_T53 l0 x10_3).f0) : Int) p49 q49; replace p49 := eq_true p49; replace q49 := eq_true q49; obtain ⟨hy52_, hz52_⟩ := Kd.R_celln 0 HO_7.out (((rd_T53 l0 x10_3).f0) : Int) (dt_) (dt_); have HP52 := Kd.R_putg HO_7.out (((rd_T53 l0 x10_3).f0) : Int) (wrap64 ((rd y136 ((rd_T53 l0 x10_3).f1)) + ((rd_T53 l0 x10_3).f2)))) | ((with_reducible refine gate_store (t := 3) (p := 121) rfl ?_); (try (rw [drewN_self w51]; generalize hq_ : World.drewN w51 _ = w51; replace HO_7 := Aside0.mk (Kd.R_at hq_ HO_7.out); replace HB := Aside0.mk (below_at hq_ HB.out); clear hq_; (try (obtain ⟨hy52_, hz52_⟩ := Kd.R_celln 0 HO_7.out (((rd_T53 l0 x10_3).f0) : Int) (dt_) (dt_))); (try (have HP52 := Kd.R_putg HO_7.out (((rd_T53 l0 x10_3).f0) : Int) (wrap64 ((rd y136 ((rd_T53 l0 x10_3).f1)) + ((rd_T53 l0 x10_3).f2))))))); refine store_event (t := 3) (p := 121) (v := ?vo_w53) (w1 := (w51.setCell ⟨go10, (((rd_T53 l0 x10_3).f0) : Int).toNat, none⟩ (.int .i64 (wrap64 ((rd y136 ((rd_T53 l0 x10_3).f1)) + ((rd_T53 l0 x10_3).f2)))))) ?hg ?ho ?hn ?hr ?_; (case ho => rfl); (case hg => rfl); (case hn => rfl); (case hr => first | (go_simp; done) | (go_simp; rfl)); intro w53 hw; have hg : w51.grownBy w53 (some go10) := (by rw [hw]; exact HP52.2); have hp_ : Kd.R (Kd.int .i64) 3 w53 w.heap.size (fun _ => True) (.slice (some ⟨go10, 0, none⟩) x7_3.length co10) y143 := (by rw [hw, Ny143.out]; exact HP52.1); clear HP52; replace HO_7 := Aside0.mk (hp_); replace HB := Aside0.mk ((by rw [hw]; exact below_set (HB.out) GB10.out : Below w.heap.size w w53)); clear hg hw hp_)))
                               (try simp only [← hl7_3])
                               go_roundg kj27
                               case measure => have := HK1.out; have := HK2.out; have := HK3.out; have := HJ15.out; have := HJ27.out; omega
                               case rel => exact ⟨(y143), (true), (wrap64 (x10_3 + 1)), (by first | rfl | (simp; done) | (simp [*]; done)), (by first | rfl | (simp; done) | (simp [*]; done)), H', ⟨by have := HK1.out; have := HK2.out; have := HK3.out; have := HJ15.out; have := HJ27.out; omega⟩, ⟨by (try simp only [hl7_2]); (try simp only [hl7_3]); (with_reducible repeat (first | apply Kd.R_alloc | apply Kd.R_drewN | apply Kd.R_drew)); first | exact HO_7.out | (rw [Ny143.out]; exact (Kd.R_putg (Kd.R_drewN HO_7.out _) _ _).1) | (rw [Ny143.out]; exact (Kd.R_putg HO_7.out _ _).1)⟩, ⟨by repeat (first | (with_reducible first | exact HB.out | apply below_alloc | apply pw_below_drewN | apply below_drew1) | exact HB.out | (first | exact below_set (pw_below_drewN HB.out _) GB10.out | exact below_set HB.out GB10.out))⟩⟩
                              ·
                               rw [if_neg c48] at H
                               have c48b0 : decide ((wrap64 ((rd y136 ((rd_T53 l0 x10_3).f1)) + ((rd_T53 l0 x10_3).f2))) < (rd y136 ((rd_T53 l0 x10_3).f0))) = false := decide_eq_false c48; clear c48; have H' := Aside0.mk H; clear H; have p36 : 0 ≤ (((rd_T53 l0 x10_3).f1) : Int) := dt_; have q36 : (((rd_T53 l0 x10_3).f1) : Int) < ((x7_3.length : Int) : Int) := dt_; obtain ⟨hx36_0, hf36_0⟩ := Kd.R_celln 0 HO_7.out (((rd_T53 l0 x10_3).f1) : Int) p36 q36; replace p36 := eq_true p36; replace q36 := eq_true q36; have HP54 := Kd.R_putg HO_7.out (((rd_T53 l0 x10_3).f1) : Int) (wrap64 ((rd x7_3 ((rd_T53 l0 x10_3).f0)) + ((rd_T53 l0 x10_3).f2)))
                               go_wp2_with (first | ((with_reducible refine gate_store (t := 3) (p := 87) rfl ?_); (try (rw [drewN_self wc]; generalize hq_ : World.drewN wc _ = wc; replace HO_7 := Aside0.mk (Kd.R_at hq_ HO_7.out); replace HB := Aside0.mk (below_at hq_ HB.out); clear hq_; (try (have HP54 := Kd.R_putg HO_7.out (((rd_T53 l0 x10_3).f1) : Int) (wrap64 ((rd x7_3 ((rd_T53 l0 x10_3).f0)) + ((rd_T53 l0 x10_3).f2))))))); refine store_event (t := 3) (p := 87) (v := ?vo_w55) (w1 := (wc.setCell ⟨go10, (((rd_T53 l0 x10_3).f1) : Int).toNat, none⟩ (.int .i64 (wrap64 ((rd x7_3 ((rd_T53 l0 x10_3).f0)) + ((rd_T53 l0 x10_3).f2)))))) ?hg ?ho ?hn ?hr ?_; (case ho => rfl); (case hg => rfl); (case hn => rfl); (case hr => first | (go_simp; done) | (go_simp; rfl)); intro w55 hw; have hg : wc.grownBy w55 (some go10) := (by rw [hw]; exact HP54.2); have hp_ : Kd.R (Kd.int .i64) 3 w55 w.heap.size (fun _ => True) (.slice (some ⟨go10, 0, none⟩) x7_3.length co10) y136 := (by rw [hw, Ny136.out]; exact HP54.1); clear HP54; replace HO_7 := Aside0.mk (hp_); replace HB := Aside0.mk ((by rw [hw]; exact below_set (HB.out) GB10.out : Below w.heap.size w w55)); clear hg hw hp_; have p137 : 0 ≤ (((rd_T53 l0 x10_3).f1) : Int) := dt_; have q137 : ((rd_T53 l0 x10_3).f1) < (y136.length : Int) := (by have h_ : (((rd_T53 l0 x10_3).f1) : Int) < ((x7_3.length : Int) : Int) := dt_; first | (have e_ := (Kd.R_reads' HO_7.out).1; omega) | simpa only [Ny136.out, List.length_set] using h_); have ql137 : ((((rd_T53 l0 x10_3).f1) : Int) < ((x7_3.length : Int) : Int)) = True := eq_true (dt_); obtain ⟨ad137, e137, hx137_0⟩ := Kd.at_int (Kd.R_reads' HO_7.out).2.2 ((rd_T53 l0 x10_3).f1) p137 q137; obtain rfl : (⟨go10, 0, none⟩ : Addr) = ad137 := (by injection e137); (first | simp only [add_plain] at hx137_0 | simp only [add_at] at hx137_0 | simp only [Addr.add, Nat.zero_add] at hx137_0 | skip); replace p137 := eq_true p137; replace q137 := eq_true q137; have p138 : 0 ≤ (x10_3 : Int) := dt_; have q138 : x10_3 < (l0.length : Int) := dt_; obtain ⟨ad138, e138, hx138_0, hx138_1, hx138_2, hx138_3, hx138_4⟩ := at_T53 HR0.out x10_3 p138 q138; obtain rfl : ad127 = ad138 := (by injection e138); replace hx138_0 := bc_ HB.out hx138_0; replace hx138_1 := bc_ HB.out hx138_1; replace hx138_2 := bc_ HB.out hx138_2; replace hx138_3 := bc_ HB.out hx138_3; replace hx138_4 := bc_ HB.out hx138_4; replace p138 := eq_true p138; replace q138 := eq_true q138; have p139 : 0 ≤ (((rd_T53 l0 x10_3).f1) : Int) := dt_; have q139 : ((rd_T53 l0 x10_3).f1) < (y136.length : Int) := (by have h_ : (((rd_T53 l0 x10_3).f1) : Int) < ((x7_3.length : Int) : Int) := dt_; first | (have e_ := (Kd.R_reads' HO_7.out).1; omega) | simpa only [Ny136.out, List.length_set] using h_); have ql139 : ((((rd_T53 l0 x10_3).f1) : Int) < ((x7_3.length : Int) : Int)) = True := eq_true (dt_); obtain ⟨ad139, e139, hx139_0⟩ := Kd.at_int (Kd.R_reads' HO_7.out).2.2 ((rd_T53 l0 x10_3).f1) p139 q139; obtain rfl : (⟨go10, 0, none⟩ : Addr) = ad139 := (by injection e139); (first | simp only [add_plain] at hx139_0 | simp only [add_at] at hx139_0 | simp only [Addr.add, Nat.zero_add] at hx139_0 | skip); replace p139 := eq_true p139; replace q139 := eq_true q139; have p140 : 0 ≤ (((rd_T53 l0 x10_3).f0) : Int) := dt_; have q140 : ((rd_T53 l0 x10_3).f0) < (y136.length : Int) := (by have h_ : (((rd_T53 l0 x10_3).f0) : Int) < ((x7_3.length : Int) : Int) := dt_; first | (have e_ := (Kd.R_reads' HO_7.out).1; omega) | simpa only [Ny136.out, List.length_set] using h_); have ql140 : ((((rd_T53 l0 x10_3).f0) : Int) < ((x7_3.length : Int) : Int)) = True := eq_true (dt_); obtain ⟨ad140, e140, hx140_0⟩ := Kd.at_int (Kd.R_reads' HO_7.out).2.2 ((rd_T53 l0 x10_3).f0) p140 q140; obtain rfl : (⟨go10, 0, none⟩ : Addr) = ad140 := (by injection e140); (first | simp only [add_plain] at hx140_0 | simp only [add_at] at hx140_0 | simp only [Addr.add, Nat.zero_add] at hx140_0 | skip); replace p140 := eq_true p140; replace q140 := eq_true q140; have p142 : 0 ≤ (((rd_T53 l0 x10_3).f0) : Int) := dt_; have q142 : ((rd_T53 l0 x10_3).f0) < (y136.length : Int) := (by have h_ : (((rd_T53 l0 x10_3).f0) : Int) < ((x7_3.length : Int) : Int) := dt_; first | (have e_ := (Kd.R_reads' HO_7.out).1; omega) | simpa only [Ny136.out, List.length_set] using h_); have ql142 : ((((rd_T53 l0 x10_3).f0) : Int) < ((x7_3.length : Int) : Int)) = True := eq_true (dt_); obtain ⟨ad142, e142, hx142_0⟩ := Kd.at_int (Kd.R_reads' HO_7.out).2.2 ((rd_T53 l0 x10_3).f0) p142 q142; obtain rfl : (⟨go10, 0, none⟩ : Addr) = ad142 := (by injection e142); (first | simp only [add_plain] at hx142_0 | simp only [add_at] at hx142_0 | simp only [Addr.add, Nat.zero_add] at hx142_0 | skip); replace p142 := eq_true p142; replace q142 := eq_true q142))
                               repeat (go_quiet (first | ((with_reducible refine gate_store (t := 3) (p := 87) rfl ?_); (try (rw [drewN_self wc]; generalize hq_ : World.drewN wc _ = wc; replace HO_7 := Aside0.mk (Kd.R_at hq_ HO_7.out); replace HB := Aside0.mk (below_at hq_ HB.out); clear hq_; (try (have HP54 := Kd.R_putg HO_7.out (((rd_T53 l0 x10_3).f1) : Int) (wrap64 ((rd x7_3 ((rd_T53 l0 x10_3).f0)) + ((rd_T53 l0 x10_3).f2))))))); refine store_event (t := 3) (p := 87) (v := ?vo_w55) (w1 := (wc.setCell ⟨go10, (((rd_T53 l0 x10_3).f1) : Int).toNat, none⟩ (.int .i64 (wrap64 ((rd x7_3 ((rd_T53 l0 x10_3).f0)) + ((rd_T53 l0 x10_3).f2)))))) ?hg ?ho ?hn ?hr ?_; (case ho => rfl); (case hg => rfl); (case hn => rfl); (case hr => first | (go_simp; done) | (go_simp; rfl)); intro w55 hw; have hg : wc.grownBy w55 (some go10) := (by rw [hw]; exact HP54.2); have hp_ : Kd.R (Kd.int .i64) 3 w55 w.heap.size (fun _ => True) (.slice (some ⟨go10, 0, none⟩) x7_3.length co10) y136 := (by rw [hw, Ny136.out]; exact HP54.1); clear HP54; replace HO_7 := Aside0.mk (hp_); replace HB := Aside0.mk ((by rw [hw]; exact below_set (HB.out) GB10.out : Below w.heap.size w w55)); clear hg hw hp_; have p137 : 0 ≤ (((rd_T53 l0 x10_3).f1) : Int) := dt_; have q137 : ((rd_T53 l0 x10_3).f1) < (y136.length : Int) := (by have h_ : (((rd_T53 l0 x10_3).f1) : Int) < ((x7_3.length : Int) : Int) := dt_; first | (have e_ := (Kd.R_reads' HO_7.out).1; omega) | simpa only [Ny136.out, List.length_set] using h_); have ql137 : ((((rd_T53 l0 x10_3).f1) : Int) < ((x7_3.length : Int) : Int)) = True := eq_true (dt_); obtain ⟨ad137, e137, hx137_0⟩ := Kd.at_int (Kd.R_reads' HO_7.out).2.2 ((rd_T53 l0 x10_3).f1) p137 q137; obtain rfl : (⟨go10, 0, none⟩ : Addr) = ad137 := (by injection e137); (first | simp only [add_plain] at hx137_0 | simp only [add_at] at hx137_0 | simp only [Addr.add, Nat.zero_add] at hx137_0 | skip); replace p137 := eq_true p137; replace q137 := eq_true q137; have p138 : 0 ≤ (x10_3 : Int) := dt_; have q138 : x10_3 < (l0.length : Int) := dt_; obtain ⟨ad138, e138, hx138_0, hx138_1, hx138_2, hx138_3, hx138_4⟩ := at_T53 HR0.out x10_3 p138 q138; obtain rfl : ad127 = ad138 := (by injection e138); replace hx138_0 := bc_ HB.out hx138_0; replace hx138_1 := bc_ HB.out hx138_1; replace hx138_2 := bc_ HB.out hx138_2; replace hx138_3 := bc_ HB.out hx138_3; replace hx138_4 := bc_ HB.out hx138_4; replace p138 := eq_true p138; replace q138 := eq_true q138; have p139 : 0 ≤ (((rd_T53 l0 x10_3).f1) : Int) := dt_; have q139 : ((rd_T53 l0 x10_3).f1) < (y136.length : Int) := (by have h_ : (((rd_T53 l0 x10_3).f1) : Int) < ((x7_3.length : Int) : Int) := dt_; first | (have e_ := (Kd.R_reads' HO_7.out).1; omega) | simpa only [Ny136.out, List.length_set] using h_); have ql139 : ((((rd_T53 l0 x10_3).f1) : Int) < ((x7_3.length : Int) : Int)) = True := eq_true (dt_); obtain ⟨ad139, e139, hx139_0⟩ := Kd.at_int (Kd.R_reads' HO_7.out).2.2 ((rd_T53 l0 x10_3).f1) p139 q139; obtain rfl : (⟨go10, 0, none⟩ : Addr) = ad139 := (by injection e139); (first | simp only [add_plain] at hx139_0 | simp only [add_at] at hx139_0 | simp only [Addr.add, Nat.zero_add] at hx139_0 | skip); replace p139 := eq_true p139; replace q139 := eq_true q139; have p140 : 0 ≤ (((rd_T53 l0 x10_3).f0) : Int) := dt_; have q140 : ((rd_T53 l0 x10_3).f0) < (y136.length : Int) := (by have h_ : (((rd_T53 l0 x10_3).f0) : Int) < ((x7_3.length : Int) : Int) := dt_; first | (have e_ := (Kd.R_reads' HO_7.out).1; omega) | simpa only [Ny136.out, List.length_set] using h_); have ql140 : ((((rd_T53 l0 x10_3).f0) : Int) < ((x7_3.length : Int) : Int)) = True := eq_true (dt_); obtain ⟨ad140, e140, hx140_0⟩ := Kd.at_int (Kd.R_reads' HO_7.out).2.2 ((rd_T53 l0 x10_3).f0) p140 q140; obtain rfl : (⟨go10, 0, none⟩ : Addr) = ad140 := (by injection e140); (first | simp only [add_plain] at hx140_0 | simp only [add_at] at hx140_0 | simp only [Addr.add, Nat.zero_add] at hx140_0 | skip); replace p140 := eq_true p140; replace q140 := eq_true q140; have p142 : 0 ≤ (((rd_T53 l0 x10_3).f0) : Int) := dt_; have q142 : ((rd_T53 l0 x10_3).f0) < (y136.length : Int) := (by have h_ : (((rd_T53 l0 x10_3).f0) : Int) < ((x7_3.length : Int) : Int) := dt_; first | (have e_ := (Kd.R_reads' HO_7.out).1; omega) | simpa only [Ny136.out, List.length_set] using h_); have ql142 : ((((rd_T53 l0 x10_3).f0) : Int) < ((x7_3.length : Int) : Int)) = True := eq_true (dt_); obtain ⟨ad142, e142, hx142_0⟩ := Kd.at_int (Kd.R_reads' HO_7.out).2.2 ((rd_T53 l0 x10_3).f0) p142 q142; obtain rfl : (⟨go10, 0, none⟩ : Addr) = ad142 := (by injection e142); (first | simp only [add_plain] at hx142_0 | simp only [add_at] at hx142_0 | simp only [Addr.add, Nat.zero_add] at hx142_0 | skip); replace p142 := eq_true p142; replace q142 := eq_true q142)); try go_wp2_with (first | ((with_reducible refine gate_store (t := 3) (p := 87) rfl ?_); (try (rw [drewN_self wc]; generalize hq_ : World.drewN wc _ = wc; replace HO_7 := Aside0.mk (Kd.R_at hq_ HO_7.out); replace HB := Aside0.mk (below_at hq_ HB.out); clear hq_; (try (have HP54 := Kd.R_putg HO_7.out (((rd_T53 l0 x10_3).f1) : Int) (wrap64 ((rd x7_3 ((rd_T53 l0 x10_3).f0)) + ((rd_T53 l0 x10_3).f2))))))); refine store_event (t := 3) (p := 87) (v := ?vo_w55) (w1 := (wc.setCell ⟨go10, (((rd_T53 l0 x10_3).f1) : Int).toNat, none⟩ (.int .i64 (wrap64 ((rd x7_3 ((rd_T53 l0 x10_3).f0)) + ((rd_T53 l0 x10_3).f2)))))) ?hg ?ho ?hn ?hr ?_; (case ho => rfl); (case hg => rfl); (case hn => rfl); (case hr => first | (go_simp; done) | (go_simp; rfl)); intro w55 hw; have hg : wc.grownBy w55 (some go10) := (by rw [hw]; exact HP54.2); have hp_ : Kd.R (Kd.int .i64) 3 w55 w.heap.size (fun _ => True) (.slice (some ⟨go10, 0, none⟩) x7_3.length co10) y136 := (by rw [hw, Ny136.out]; exact HP54.1); clear HP54; replace HO_7 := Aside0.mk (hp_); replace HB := Aside0.mk ((by rw [hw]; exact below_set (HB.out) GB10.out : Below w.heap.size w w55)); clear hg hw hp_; have p137 : 0 ≤ (((rd_T53 l0 x10_3).f1) : Int) := dt_; have q137 : ((rd_T53 l0 x10_3).f1) < (y136.length : Int) := (by have h_ : (((rd_T53 l0 x10_3).f1) : Int) < ((x7_3.length : Int) : Int) := dt_; first | (have e_ := (Kd.R_reads' HO_7.out).1; omega) | simpa only [Ny136.out, List.length_set] using h_); have ql137 : ((((rd_T53 l0 x10_3).f1) : Int) < ((x7_3.length : Int) : Int)) = True := eq_true (dt_); obtain ⟨ad137, e137, hx137_0⟩ := Kd.at_int (Kd.R_reads' HO_7.out).2.2 ((rd_T53 l0 x10_3).f1) p137 q137; obtain rfl : (⟨go10, 0, none⟩ : Addr) = ad137 := (by injection e137); (first | simp only [add_plain] at hx137_0 | simp only [add_at] at hx137_0 | simp only [Addr.add, Nat.zero_add] at hx137_0 | skip); replace p137 := eq_true p137; replace q137 := eq_true q137; have p138 : 0 ≤ (x10_3 : Int) := dt_; have q138 : x10_3 < (l0.length : Int) := dt_; obtain ⟨ad138, e138, hx138_0, hx138_1, hx138_2, hx138_3, hx138_4⟩ := at_T53 HR0.out x10_3 p138 q138; obtain rfl : ad127 = ad138 := (by injection e138); replace hx138_0 := bc_ HB.out hx138_0; replace hx138_1 := bc_ HB.out hx138_1; replace hx138_2 := bc_ HB.out hx138_2; replace hx138_3 := bc_ HB.out hx138_3; replace hx138_4 := bc_ HB.out hx138_4; replace p138 := eq_true p138; replace q138 := eq_true q138; have p139 : 0 ≤ (((rd_T53 l0 x10_3).f1) : Int) := dt_; have q139 : ((rd_T53 l0 x10_3).f1) < (y136.length : Int) := (by have h_ : (((rd_T53 l0 x10_3).f1) : Int) < ((x7_3.length : Int) : Int) := dt_; first | (have e_ := (Kd.R_reads' HO_7.out).1; omega) | simpa only [Ny136.out, List.length_set] using h_); have ql139 : ((((rd_T53 l0 x10_3).f1) : Int) < ((x7_3.length : Int) : Int)) = True := eq_true (dt_); obtain ⟨ad139, e139, hx139_0⟩ := Kd.at_int (Kd.R_reads' HO_7.out).2.2 ((rd_T53 l0 x10_3).f1) p139 q139; obtain rfl : (⟨go10, 0, none⟩ : Addr) = ad139 := (by injection e139); (first | simp only [add_plain] at hx139_0 | simp only [add_at] at hx139_0 | simp only [Addr.add, Nat.zero_add] at hx139_0 | skip); replace p139 := eq_true p139; replace q139 := eq_true q139; have p140 : 0 ≤ (((rd_T53 l0 x10_3).f0) : Int) := dt_; have q140 : ((rd_T53 l0 x10_3).f0) < (y136.length : Int) := (by have h_ : (((rd_T53 l0 x10_3).f0) : Int) < ((x7_3.length : Int) : Int) := dt_; first | (have e_ := (Kd.R_reads' HO_7.out).1; omega) | simpa only [Ny136.out, List.length_set] using h_); have ql140 : ((((rd_T53 l0 x10_3).f0) : Int) < ((x7_3.length : Int) : Int)) = True := eq_true (dt_); obtain ⟨ad140, e140, hx140_0⟩ := Kd.at_int (Kd.R_reads' HO_7.out).2.2 ((rd_T53 l0 x10_3).f0) p140 q140; obtain rfl : (⟨go10, 0, none⟩ : Addr) = ad140 := (by injection e140); (first | simp only [add_plain] at hx140_0 | simp only [add_at] at hx140_0 | simp only [Addr.add, Nat.zero_add] at hx140_0 | skip); replace p140 := eq_true p140; replace q140 := eq_true q140; have p142 : 0 ≤ (((rd_T53 l0 x10_3).f0) : Int) := dt_; have q142 : ((rd_T53 l0 x10_3).f0) < (y136.length : Int) := (by have h_ : (((rd_T53 l0 x10_3).f0) : Int) < ((x7_3.length : Int) : Int) := dt_; first | (have e_ := (Kd.R_reads' HO_7.out).1; omega) | simpa only [Ny136.out, List.length_set] using h_); have ql142 : ((((rd_T53 l0 x10_3).f0) : Int) < ((x7_3.length : Int) : Int)) = True := eq_true (dt_); obtain ⟨ad142, e142, hx142_0⟩ := Kd.at_int (Kd.R_reads' HO_7.out).2.2 ((rd_T53 l0 x10_3).f0) p142 q142; obtain rfl : (⟨go10, 0, none⟩ : Addr) = ad142 := (by injection e142); (first | simp only [add_plain] at hx142_0 | simp only [add_at] at hx142_0 | simp only [Addr.add, Nat.zero_add] at hx142_0 | skip); replace p142 := eq_true p142; replace q142 := eq_true q142)))
                               (try simp only [← hl7_3])
                               go_roundg kj27
                               case measure => have := HK1.out; have := HK2.out; have := HK3.out; have := HJ15.out; have := HJ27.out; omega
                               case rel => exact ⟨(y136), (true), (wrap64 (x10_3 + 1)), (by first | rfl | (simp; done) | (simp [*]; done)), (by first | rfl | (simp; done) | (simp [*]; done)), H', ⟨by have := HK1.out; have := HK2.out; have := HK3.out; have := HJ15.out; have := HJ27.out; omega⟩, ⟨by (try simp only [hl7_2]); (try simp only [hl7_3]); (with_reducible repeat (first | apply Kd.R_alloc | apply Kd.R_drewN | apply Kd.R_drew)); first | exact HO_7.out | (rw [Ny136.out]; exact (Kd.R_putg (Kd.R_drewN HO_7.out _) _ _).1) | (rw [Ny136.out]; exact (Kd.R_putg HO_7.out _ _).1)⟩, ⟨by repeat (first | (with_reducible first | exact HB.out | apply below_alloc | apply pw_below_drewN | apply below_drew1) | exact HB.out | (first | exact below_set (pw_below_drewN HB.out _) GB10.out | exact below_set HB.out GB10.out))⟩⟩
                            ·
                             rw [if_neg c41] at H
                             exact absurd H (by simp)
                           ·
                            rw [if_neg c40] at H
                            exact absurd H (by simp)
                          ·
                           rw [if_neg c39] at H
                           have c39b0 : decide (0 ≤ (rd y136 ((rd_T53 l0 x10_3).f1))) = false := decide_eq_false c39; clear c39; have H' := Aside0.mk H; clear H; have p36 : 0 ≤ (((rd_T53 l0 x10_3).f1) : Int) := dt_; have q36 : (((rd_T53 l0 x10_3).f1) : Int) < ((x7_3.length : Int) : Int) := dt_; obtain ⟨hx36_0, hf36_0⟩ := Kd.R_celln 0 HO_7.out (((rd_T53 l0 x10_3).f1) : Int) p36 q36; replace p36 := eq_true p36; replace q36 := eq_true q36; have HP56 := Kd.R_putg HO_7.out (((rd_T53 l0 x10_3).f1) : Int) (wrap64 ((rd x7_3 ((rd_T53 l0 x10_3).f0)) + ((rd_T53 l0 x10_3).f2)))
                           go_wp2_with (first | ((with_reducible refine gate_store (t := 3) (p := 87) rfl ?_); (try (rw [drewN_self wc]; generalize hq_ : World.drewN wc _ = wc; replace HO_7 := Aside0.mk (Kd.R_at hq_ HO_7.out); replace HB := Aside0.mk (below_at hq_ HB.out); clear hq_; (try (have HP56 := Kd.R_putg HO_7.out (((rd_T53 l0 x10_3).f1) : Int) (wrap64 ((rd x7_3 ((rd_T53 l0 x10_3).f0)) + ((rd_T53 l0 x10_3).f2))))))); refine store_event (t := 3) (p := 87) (v := ?vo_w57) (w1 := (wc.setCell ⟨go10, (((rd_T53 l0 x10_3).f1) : Int).toNat, none⟩ (.int .i64 (wrap64 ((rd x7_3 ((rd_T53 l0 x10_3).f0)) + ((rd_T53 l0 x10_3).f2)))))) ?hg ?ho ?hn ?hr ?_; (case ho => rfl); (case hg => rfl); (case hn => rfl); (case hr => first | (go_simp; done) | (go_simp; rfl)); intro w57 hw; have hg : wc.grownBy w57 (some go10) := (by rw [hw]; exact HP56.2); have hp_ : Kd.R (Kd.int .i64) 3 w57 w.heap.size (fun _ => True) (.slice (some ⟨go10, 0, none⟩) x7_3.length co10) y136 := (by rw [hw, Ny136.out]; exact HP56.1); clear HP56; replace HO_7 := Aside0.mk (hp_); replace HB := Aside0.mk ((by rw [hw]; exact below_set (HB.out) GB10.out : Below w.heap.size w w57)); clear hg hw hp_; have p137 : 0 ≤ (((rd_T53 l0 x10_3).f1) : Int) := dt_; have q137 : ((rd_T53 l0 x10_3).f1) < (y136.length : Int) := (by have h_ : (((rd_T53 l0 x10_3).f1) : Int) < ((x7_3.length : Int) : Int) := dt_; first | (have e_ := (Kd.R_reads' HO_7.out).1; omega) | simpa only [Ny136.out, List.length_set] using h_); have ql137 : ((((rd_T53 l0 x10_3).f1) : Int) < ((x7_3.length : Int) : Int)) = True := eq_true (dt_); obtain ⟨ad137, e137, hx137_0⟩ := Kd.at_int (Kd.R_reads' HO_7.out).2.2 ((rd_T53 l0 x10_3).f1) p137 q137; obtain rfl : (⟨go10, 0, none⟩ : Addr) = ad137 := (by injection e137); (first | simp only [add_plain] at hx137_0 | simp only [add_at] at hx137_0 | simp only [Addr.add, Nat.zero_add] at hx137_0 | skip); replace p137 := eq_true p137; replace q137 := eq_true q137; have p138 : 0 ≤ (x10_3 : Int) := dt_; have q138 : x10_3 < (l0.length : Int) := dt_; obtain ⟨ad138, e138, hx138_0, hx138_1, hx138_2, hx138_3, hx138_4⟩ := at_T53 HR0.out x10_3 p138 q138; obtain rfl : ad127 = ad138 := (by injection e138); replace hx138_0 := bc_ HB.out hx138_0; replace hx138_1 := bc_ HB.out hx138_1; replace hx138_2 := bc_ HB.out hx138_2; replace hx138_3 := bc_ HB.out hx138_3; replace hx138_4 := bc_ HB.out hx138_4; replace p138 := eq_true p138; replace q138 := eq_true q138; have p139 : 0 ≤ (((rd_T53 l0 x10_3).f1) : Int) := dt_; have q139 : ((rd_T53 l0 x10_3).f1) < (y136.length : Int) := (by have h_ : (((rd_T53 l0 x10_3).f1) : Int) < ((x7_3.length : Int) : Int) := dt_; first | (have e_ := (Kd.R_reads' HO_7.out).1; omega) | simpa only [Ny136.out, List.length_set] using h_); have ql139 : ((((rd_T53 l0 x10_3).f1) : Int) < ((x7_3.length : Int) : Int)) = True := eq_true (dt_); obtain ⟨ad139, e139, hx139_0⟩ := Kd.at_int (Kd.R_reads' HO_7.out).2.2 ((rd_T53 l0 x10_3).f1) p139 q139; obtain rfl : (⟨go10, 0, none⟩ : Addr) = ad139 := (by injection e139); (first | simp only [add_plain] at hx139_0 | simp only [add_at] at hx139_0 | simp only [Addr.add, Nat.zero_add] at hx139_0 | skip); replace p139 := eq_true p139; replace q139 := eq_true q139))
                           repeat (go_quiet (first | ((with_reducible refine gate_store (t := 3) (p := 87) rfl ?_); (try (rw [drewN_self wc]; generalize hq_ : World.drewN wc _ = wc; replace HO_7 := Aside0.mk (Kd.R_at hq_ HO_7.out); replace HB := Aside0.mk (below_at hq_ HB.out); clear hq_; (try (have HP56 := Kd.R_putg HO_7.out (((rd_T53 l0 x10_3).f1) : Int) (wrap64 ((rd x7_3 ((rd_T53 l0 x10_3).f0)) + ((rd_T53 l0 x10_3).f2))))))); refine store_event (t := 3) (p := 87) (v := ?vo_w57) (w1 := (wc.setCell ⟨go10, (((rd_T53 l0 x10_3).f1) : Int).toNat, none⟩ (.int .i64 (wrap64 ((rd x7_3 ((rd_T53 l0 x10_3).f0)) + ((rd_T53 l0 x10_3).f2)))))) ?hg ?ho ?hn ?hr ?_; (case ho => rfl); (case hg => rfl); (case hn => rfl); (case hr => first | (go_simp; done) | (go_simp; rfl)); intro w57 hw; have hg : wc.grownBy w57 (some go10) := (by rw [hw]; exact HP56.2); have hp_ : Kd.R (Kd.int .i64) 3 w57 w.heap.size (fun _ => True) (.slice (some ⟨go10, 0, none⟩) x7_3.length co10) y136 := (by rw [hw, Ny136.out]; exact HP56.1); clear HP56; replace HO_7 := Aside0.mk (hp_); replace HB := Aside0.mk ((by rw [hw]; exact below_set (HB.out) GB10.out : Below w.heap.size w w57)); clear hg hw hp_; have p137 : 0 ≤ (((rd_T53 l0 x10_3).f1) : Int) := dt_; have q137 : ((rd_T53 l0 x10_3).f1) < (y136.length : Int) := (by have h_ : (((rd_T53 l0 x10_3).f1) : Int) < ((x7_3.length : Int) : Int) := dt_; first | (have e_ := (Kd.R_reads' HO_7.out).1; omega) | simpa only [Ny136.out, List.length_set] using h_); have ql137 : ((((rd_T53 l0 x10_3).f1) : Int) < ((x7_3.length : Int) : Int)) = True := eq_true (dt_); obtain ⟨ad137, e137, hx137_0⟩ := Kd.at_int (Kd.R_reads' HO_7.out).2.2 ((rd_T53 l0 x10_3).f1) p137 q137; obtain rfl : (⟨go10, 0, none⟩ : Addr) = ad137 := (by injection e137); (first | simp only [add_plain] at hx137_0 | simp only [add_at] at hx137_0 | simp only [Addr.add, Nat.zero_add] at hx137_0 | skip); replace p137 := eq_true p137; replace q137 := eq_true q137; have p138 : 0 ≤ (x10_3 : Int) := dt_; have q138 : x10_3 < (l0.length : Int) := dt_; obtain ⟨ad138, e138, hx138_0, hx138_1, hx138_2, hx138_3, hx138_4⟩ := at_T53 HR0.out x10_3 p138 q138; obtain rfl : ad127 = ad138 := (by injection e138); replace hx138_0 := bc_ HB.out hx138_0; replace hx138_1 := bc_ HB.out hx138_1; replace hx138_2 := bc_ HB.out hx138_2; replace hx138_3 := bc_ HB.out hx138_3; replace hx138_4 := bc_ HB.out hx138_4; replace p138 := eq_true p138; replace q138 := eq_true q138; have p139 : 0 ≤ (((rd_T53 l0 x10_3).f1) : Int) := dt_; have q139 : ((rd_T53 l0 x10_3).f1) < (y136.length : Int) := (by have h_ : (((rd_T53 l0 x10_3).f1) : Int) < ((x7_3.length : Int) : Int) := dt_; first | (have e_ := (Kd.R_reads' HO_7.out).1; omega) | simpa only [Ny136.out, List.length_set] using h_); have ql139 : ((((rd_T53 l0 x10_3).f1) : Int) < ((x7_3.length : Int) : Int)) = True := eq_true (dt_); obtain ⟨ad139, e139, hx139_0⟩ := Kd.at_int (Kd.R_reads' HO_7.out).2.2 ((rd_T53 l0 x10_3).f1) p139 q139; obtain rfl : (⟨go10, 0, none⟩ : Addr) = ad139 := (by injection e139); (first | simp only [add_plain] at hx139_0 | simp only [add_at] at hx139_0 | simp only [Addr.add, Nat.zero_add] at hx139_0 | skip); replace p139 := eq_true p139; replace q139 := eq_true q139)); try go_wp2_with (first | ((with_reducible refine gate_store (t := 3) (p := 87) rfl ?_); (try (rw [drewN_self wc]; generalize hq_ : World.drewN wc _ = wc; replace HO_7 := Aside0.mk (Kd.R_at hq_ HO_7.out); replace HB := Aside0.mk (below_at hq_ HB.out); clear hq_; (try (have HP56 := Kd.R_putg HO_7.out (((rd_T53 l0 x10_3).f1) : Int) (wrap64 ((rd x7_3 ((rd_T53 l0 x10_3).f0)) + ((rd_T53 l0 x10_3).f2))))))); refine store_event (t := 3) (p := 87) (v := ?vo_w57) (w1 := (wc.setCell ⟨go10, (((rd_T53 l0 x10_3).f1) : Int).toNat, none⟩ (.int .i64 (wrap64 ((rd x7_3 ((rd_T53 l0 x10_3).f0)) + ((rd_T53 l0 x10_3).f2)))))) ?hg ?ho ?hn ?hr ?_; (case ho => rfl); (case hg => rfl); (case hn => rfl); (case hr => first | (go_simp; done) | (go_simp; rfl)); intro w57 hw; have hg : wc.grownBy w57 (some go10) := (by rw [hw]; exact HP56.2); have hp_ : Kd.R (Kd.int .i64) 3 w57 w.heap.size (fun _ => True) (.slice (some ⟨go10, 0, none⟩) x7_3.length co10) y136 := (by rw [hw, Ny136.out]; exact HP56.1); clear HP56; replace HO_7 := Aside0.mk (hp_); replace HB := Aside0.mk ((by rw [hw]; exact below_set (HB.out) GB10.out : Below w.heap.size w w57)); clear hg hw hp_; have p137 : 0 ≤ (((rd_T53 l0 x10_3).f1) : Int) := dt_; have q137 : ((rd_T53 l0 x10_3).f1) < (y136.length : Int) := (by have h_ : (((rd_T53 l0 x10_3).f1) : Int) < ((x7_3.length : Int) : Int) := dt_; first | (have e_ := (Kd.R_reads' HO_7.out).1; omega) | simpa only [Ny136.out, List.length_set] using h_); have ql137 : ((((rd_T53 l0 x10_3).f1) : Int) < ((x7_3.length : Int) : Int)) = True := eq_true (dt_); obtain ⟨ad137, e137, hx137_0⟩ := Kd.at_int (Kd.R_reads' HO_7.out).2.2 ((rd_T53 l0 x10_3).f1) p137 q137; obtain rfl : (⟨go10, 0, none⟩ : Addr) = ad137 := (by injection e137); (first | simp only [add_plain] at hx137_0 | simp only [add_at] at hx137_0 | simp only [Addr.add, Nat.zero_add] at hx137_0 | skip); replace p137 := eq_true p137; replace q137 := eq_true q137; have p138 : 0 ≤ (x10_3 : Int) := dt_; have q138 : x10_3 < (l0.length : Int) := dt_; obtain ⟨ad138, e138, hx138_0, hx138_1, hx138_2, hx138_3, hx138_4⟩ := at_T53 HR0.out x10_3 p138 q138; obtain rfl : ad127 = ad138 := (by injection e138); replace hx138_0 := bc_ HB.out hx138_0; replace hx138_1 := bc_ HB.out hx138_1; replace hx138_2 := bc_ HB.out hx138_2; replace hx138_3 := bc_ HB.out hx138_3; replace hx138_4 := bc_ HB.out hx138_4; replace p138 := eq_true p138; replace q138 := eq_true q138; have p139 : 0 ≤ (((rd_T53 l0 x10_3).f1) : Int) := dt_; have q139 : ((rd_T53 l0 x10_3).f1) < (y136.length : Int) := (by have h_ : (((rd_T53 l0 x10_3).f1) : Int) < ((x7_3.length : Int) : Int) := dt_; first | (have e_ := (Kd.R_reads' HO_7.out).1; omega) | simpa only [Ny136.out, List.length_set] using h_); have ql139 : ((((rd_T53 l0 x10_3).f1) : Int) < ((x7_3.length : Int) : Int)) = True := eq_true (dt_); obtain ⟨ad139, e139, hx139_0⟩ := Kd.at_int (Kd.R_reads' HO_7.out).2.2 ((rd_T53 l0 x10_3).f1) p139 q139; obtain rfl : (⟨go10, 0, none⟩ : Addr) = ad139 := (by injection e139); (first | simp only [add_plain] at hx139_0 | simp only [add_at] at hx139_0 | simp only [Addr.add, Nat.zero_add] at hx139_0 | skip); replace p139 := eq_true p139; replace q139 := eq_true q139)))
                           (try simp only [← hl7_3])
                           go_roundg kj27
                           case measure => have := HK1.out; have := HK2.out; have := HK3.out; have := HJ15.out; have := HJ27.out; omega
                           case rel => exact ⟨(y136), (true), (wrap64 (x10_3 + 1)), (by first | rfl | (simp; done) | (simp [*]; done)), (by first | rfl | (simp; done) | (simp [*]; done)), H', ⟨by have := HK1.out; have := HK2.out; have := HK3.out; have := HJ15.out; have := HJ27.out; omega⟩, ⟨by (try simp only [hl7_2]); (try simp only [hl7_3]); (with_reducible repeat (first | apply Kd.R_alloc | apply Kd.R_drewN | apply Kd.R_drew)); first | exact HO_7.out | (rw [Ny136.out]; exact (Kd.R_putg (Kd.R_drewN HO_7.out _) _ _).1) | (rw [Ny136.out]; exact (Kd.R_putg HO_7.out _ _).1)⟩, ⟨by repeat (first | (with_reducible first | exact HB.out | apply below_alloc | apply pw_below_drewN | apply below_drew1) | exact HB.out | (first | exact below_set (pw_below_drewN HB.out _) GB10.out | exact below_set HB.out GB10.out))⟩⟩
                         ·
                          rw [if_neg c38] at H
                          exact absurd H (by simp)
                        ·
                         rw [if_neg c37] at H
                         exact absurd H (by simp)
                       ·
                        rw [if_neg c35] at H
                        exact absurd H (by simp)
                      ·
                       rw [if_neg c34] at H
                       exact absurd H (by simp)
                     ·
                      replace c33 := Bool.eq_false_iff.mpr c33; subst c33
                      have H1 : (if 0 ≤ ((rd_T53 l0 x10_3).f1) then (if ((rd_T53 l0 x10_3).f1) < (x7_3.length : Int) then (if 0 ≤ x10_3 then (if x10_3 < (l0.length : Int) then (if (rd x7_3 ((rd_T53 l0 x10_3).f1)) ≥ 0 then (if 0 ≤ ((rd_T53 l0 x10_3).f0) then (if ((rd_T53 l0 x10_3).f0) < (x7_3.length : Int) then (if (rd x7_3 ((rd_T53 l0 x10_3).f0)) < 0 then (spec_l25Out.l2 kj27 l0 l1 a2 (x7_3.set (((rd_T53 l0 x10_3).f0) : Int).toNat (wrap64 ((rd x7_3 ((rd_T53 l0 x10_3).f1)) + ((rd_T53 l0 x10_3).f2)))) true (wrap64 (x10_3 + 1))) else (if (wrap64 ((rd x7_3 ((rd_T53 l0 x10_3).f1)) + ((rd_T53 l0 x10_3).f2))) < (rd x7_3 ((rd_T53 l0 x10_3).f0)) then (spec_l25Out.l2 kj27 l0 l1 a2 (x7_3.set (((rd_T53 l0 x10_3).f0) : Int).toNat (wrap64 ((rd x7_3 ((rd_T53 l0 x10_3).f1)) + ((rd_T53 l0 x10_3).f2)))) true (wrap64 (x10_3 + 1))) else (spec_l25Out.l2 kj27 l0 l1 a2 x7_3 x9_3 (wrap64 (x10_3 + 1))))) else (none)) else (none)) else (spec_l25Out.l2 kj27 l0 l1 a2 x7_3 x9_3 (wrap64 (x10_3 + 1)))) else (none)) else (none)) else (none)) else (none)) = some r := by rw [if_neg (show ¬ (false = true) by decide)] at H; exact H
                      clear H; have H := H1; clear H1
                      by_cases c58 : 0 ≤ ((rd_T53 l0 x10_3).f1)
                      ·
                       rw [if_pos c58] at H
                       have c58b0 : decide (0 ≤ ((rd_T53 l0 x10_3).f1)) = true := decide_eq_true c58; clear c58
                       by_cases c59 : ((rd_T53 l0 x10_3).f1) < (x7_3.length : Int)
                       ·
                        rw [if_pos c59] at H
                        have c59b0 : decide (((rd_T53 l0 x10_3).f1) < (x7_3.length : Int)) = true := decide_eq_true c59; clear c59
                        by_cases c60 : 0 ≤ x10_3
                        ·
                         rw [if_pos c60] at H
                         have c60b0 : decide (0 ≤ x10_3) = true := decide_eq_true c60; clear c60
                         by_cases c61 : x10_3 < (l0.length : Int)
                         ·
                          rw [if_pos c61] at H
                          have c61b0 : decide (x10_3 < (l0.length : Int)) = true := decide_eq_true c61; clear c61
                          by_cases c62 : (rd x7_3 ((rd_T53 l0 x10_3).f1)) ≥ 0
                          ·
                           rw [if_pos c62] at H
                           have c62b0 : decide (0 ≤ (rd x7_3 ((rd_T53 l0 x10_3).f1))) = true := decide_eq_true c62; clear c62
                           by_cases c63 : 0 ≤ ((rd_T53 l0 x10_3).f0)
                           ·
                            rw [if_pos c63] at H
                            have c63b0 : decide (0 ≤ ((rd_T53 l0 x10_3).f0)) = true := decide_eq_true c63; clear c63
                            by_cases c64 : ((rd_T53 l0 x10_3).f0) < (x7_3.length : Int)
                            ·
                             rw [if_pos c64] at H
                             have c64b0 : decide (((rd_T53 l0 x10_3).f0) < (x7_3.length : Int)) = true := decide_eq_true c64; clear c64
                             by_cases c65 : (rd x7_3 ((rd_T53 l0 x10_3).f0)) < 0
                             ·
                              rw [if_pos c65] at H
                              have c65b0 : decide ((rd x7_3 ((rd_T53 l0 x10_3).f0)) < 0) = true := decide_eq_true c65; clear c65
                              obtain ⟨y148, hy148⟩ : ∃ y_ : List Int, y_ = (x7_3.set (((rd_T53 l0 x10_3).f0) : Int).toNat (wrap64 ((rd x7_3 ((rd_T53 l0 x10_3).f1)) + ((rd_T53 l0 x10_3).f2)))) := ⟨_, rfl⟩
                              replace H : (spec_l25Out.l2 kj27 l0 l1 a2 y148 true (wrap64 (x10_3 + 1))) = some r := by first | (rw [hy148]; with_reducible exact H) | (have H2_ := (Option.bind_some _ _).symm.trans H; rw [hy148]; with_reducible exact H2_) | (have H2_ := (Option.bind_some _ _).symm.trans H; with_reducible exact H2_) | with_reducible exact H | (rw [hy148]; exact H) | exact H
                              have Ny148 := Aside0.mk hy148; clear hy148; have H' := Aside0.mk H; clear H; have p144 : 0 ≤ (((rd_T53 l0 x10_3).f1) : Int) := dt_; have q144 : ((rd_T53 l0 x10_3).f1) < (x7_3.length : Int) := dt_; obtain ⟨ad144, e144, hx144_0⟩ := Kd.at_int (Kd.R_reads' HO_7.out).2.2 ((rd_T53 l0 x10_3).f1) p144 q144
                              obtain rfl : (⟨go10, 0, none⟩ : Addr) = ad144 := (by injection e144)
                              (first | simp only [add_plain] at hx144_0 | simp only [add_at] at hx144_0 | simp only [Addr.add, Nat.zero_add] at hx144_0 | skip)
                              replace p144 := eq_true p144; replace q144 := eq_true q144; have p145 : 0 ≤ (x10_3 : Int) := dt_; have q145 : x10_3 < (l0.length : Int) := dt_; obtain ⟨ad145, e145, hx145_0, hx145_1, hx145_2, hx145_3, hx145_4⟩ := at_T53 HR0.out x10_3 p145 q145
                              obtain rfl : ad127 = ad145 := (by injection e145)
                              replace hx145_0 := bc_ HB.out hx145_0; replace hx145_1 := bc_ HB.out hx145_1; replace hx145_2 := bc_ HB.out hx145_2; replace hx145_3 := bc_ HB.out hx145_3; replace hx145_4 := bc_ HB.out hx145_4; replace p145 := eq_true p145; replace q145 := eq_true q145; have p146 : 0 ≤ (((rd_T53 l0 x10_3).f1) : Int) := dt_; have q146 : ((rd_T53 l0 x10_3).f1) < (x7_3.length : Int) := dt_; obtain ⟨ad146, e146, hx146_0⟩ := Kd.at_int (Kd.R_reads' HO_7.out).2.2 ((rd_T53 l0 x10_3).f1) p146 q146
                              obtain rfl : (⟨go10, 0, none⟩ : Addr) = ad146 := (by injection e146)
                              (first | simp only [add_plain] at hx146_0 | simp only [add_at] at hx146_0 | simp only [Addr.add, Nat.zero_add] at hx146_0 | skip)
                              replace p146 := eq_true p146; replace q146 := eq_true q146; have p147 : 0 ≤ (((rd_T53 l0 x10_3).f0) : Int) := dt_; have q147 : ((rd_T53 l0 x10_3).f0) < (x7_3.length : Int) := dt_; obtain ⟨ad147, e147, hx147_0⟩ := Kd.at_int (Kd.R_reads' HO_7.out).2.2 ((rd_T53 l0 x10_3).f0) p147 q147
                              obtain rfl : (⟨go10, 0, none⟩ : Addr) = ad147 := (by injection e147)
                              (first | simp only [add_plain] at hx147_0 | simp only [add_at] at hx147_0 | simp only [Addr.add, Nat.zero_add] at hx147_0 | skip)
                              replace p147 := eq_true p147; replace q147 := eq_true q147; have p66 : 0 ≤ (((rd_T53 l0 x10_3).f0) : Int) := dt_; have q66 : (((rd_T53 l0 x10_3).f0) : Int) < ((x7_3.length : Int) : Int) := dt_; obtain ⟨hx66_0, hf66_0⟩ := Kd.R_celln 0 HO_7.out (((rd_T53 l0 x10_3).f0) : Int) p66 q66; replace p66 := eq_true p66; replace q66 := eq_true q66; have HP67 := Kd.R_putg HO_7.out (((rd_T53 l0 x10_3).f0) : Int) (wrap64 ((rd x7_3 ((rd_T53 l0 x10_3).f1)) + ((rd_T53 l0 x10_3).f2)))
                              go_wp2_with (first | ((with_reducible refine gate_store (t := 3) (p := 121) rfl ?_); (try (rw [drewN_self wc]; generalize hq_ : World.drewN wc _ = wc; replace HO_7 := Aside0.mk (Kd.R_at hq_ HO_7.out); replace HB := Aside0.mk (below_at hq_ HB.out); clear hq_; (try (have HP67 := Kd.R_putg HO_7.out (((rd_T53 l0 x10_3).f0) : Int) (wrap64 ((rd x7_3 ((rd_T53 l0 x10_3).f1)) + ((rd_T53 l0 x10_3).f2))))))); refine store_event (t := 3) (p := 121) (v := ?vo_w68) (w1 := (wc.setCell ⟨go10, (((rd_T53 l0 x10_3).f0) : Int).toNat, none⟩ (.int .i64 (wrap64 ((rd x7_3 ((rd_T53 l0 x10_3).f1)) + ((rd_T53 l0 x10_3).f2)))))) ?hg ?ho ?hn ?hr ?_; (case ho => rfl); (case hg => rfl); (case hn => rfl); (case hr => first | (go_simp; done) | (go_simp; rfl)); intro w68 hw; have hg : wc.grownBy w68 (some go10) := (by rw [hw]; exact HP67.2); have hp_ : Kd.R (Kd.int .i64) 3 w68 w.heap.size (fun _ => True) (.slice (some ⟨go10, 0, none⟩) x7_3.length co10) y148 := (by rw [hw, Ny148.out]; exact HP67.1); clear HP67; replace HO_7 := Aside0.mk (hp_); replace HB := Aside0.mk ((by rw [hw]; exact below_set (HB.out) GB10.out : Below w.heap.size w w68)); clear hg hw hp_))
                              repeat (go_quiet (first | ((with_reducible refine gate_store (t := 3) (p := 121) rfl ?_); (try (rw [drewN_self wc]; generalize hq_ : World.drewN wc _ = wc; replace HO_7 := Aside0.mk (Kd.R_at hq_ HO_7.out); replace HB := Aside0.mk (below_at hq_ HB.out); clear hq_; (try (have HP67 := Kd.R_putg HO_7.out (((rd_T53 l0 x10_3).f0) : Int) (wrap64 ((rd x7_3 ((rd_T53 l0 x10_3).f1)) + ((rd_T53 l0 x10_3).f2))))))); refine store_event (t := 3) (p := 121) (v := ?vo_w68) (w1 := (wc.setCell ⟨go10, (((rd_T53 l0 x10_3).f0) : Int).toNat, none⟩ (.int .i64 (wrap64 ((rd x7_3 ((rd_T53 l0 x10_3).f1)) + ((rd_T53 l0 x10_3).f2)))))) ?hg ?ho ?hn ?hr ?_; (case ho => rfl); (case hg => rfl); (case hn => rfl); (case hr => first | (go_simp; done) | (go_simp; rfl)); intro w68 hw; have hg : wc.grownBy w68 (some go10) := (by rw [hw]; exact HP67.2); have hp_ : Kd.R (Kd.int .i64) 3 w68 w.heap.size (fun _ => True) (.slice (some ⟨go10, 0, none⟩) x7_3.length co10) y148 := (by rw [hw, Ny148.out]; exact HP67.1); clear HP67; replace HO_7 := Aside0.mk (hp_); replace HB := Aside0.mk ((by rw [hw]; exact below_set (HB.out) GB10.out : Below w.heap.size w w68)); clear hg hw hp_)); try go_wp2_with (first | ((with_reducible refine gate_store (t := 3) (p := 121) rfl ?_); (try (rw [drewN_self wc]; generalize hq_ : World.drewN wc _ = wc; replace HO_7 := Aside0.mk (Kd.R_at hq_ HO_7.out); replace HB := Aside0.mk (below_at hq_ HB.out); clear hq_; (try (have HP67 := Kd.R_putg HO_7.out (((rd_T53 l0 x10_3).f0) : Int) (wrap64 ((rd x7_3 ((rd_T53 l0 x10_3).f1)) + ((rd_T53 l0 x10_3).f2))))))); refine store_event (t := 3) (p := 121) (v := ?vo_w68) (w1 := (wc.setCell ⟨go10, (((rd_T53 l0 x10_3).f0) : Int).toNat, none⟩ (.int .i64 (wrap64 ((rd x7_3 ((rd_T53 l0 x10_3).f1)) + ((rd_T53 l0 x10_3).f2)))))) ?hg ?ho ?hn ?hr ?_; (case ho => rfl); (case hg => rfl); (case hn => rfl); (case hr => first | (go_simp; done) | (go_simp; rfl)); intro w68 hw; have hg : wc.grownBy w68 (some go10) := (by rw [hw]; exact HP67.2); have hp_ : Kd.R (Kd.int .i64) 3 w68 w.heap.size (fun _ => True) (.slice (some ⟨go10, 0, none⟩) x7_3.length co10) y148 := (by rw [hw, Ny148.out]; exact HP67.1); clear HP67; replace HO_7 := Aside0.mk (hp_); replace HB := Aside0.mk ((by rw [hw]; exact below_set (HB.out) GB10.out : Below w.heap.size w w68)); clear hg hw hp_)))
                              (try simp only [← hl7_3])
                              go_roundg kj27
                              case measure => have := HK1.out; have := HK2.out; have := HK3.out; have := HJ15.out; have := HJ27.out; omega
                              case rel => exact ⟨(y148), (true), (wrap64 (x10_3 + 1)), (by first | rfl | (simp; done) | (simp [*]; done)), (by first | rfl | (simp; done) | (simp [*]; done)), H', ⟨by have := HK1.out; have := HK2.out; have := HK3.out; have := HJ15.out; have := HJ27.out; omega⟩, ⟨by (try simp only [hl7_2]); (try simp only [hl7_3]); (with_reducible repeat (first | apply Kd.R_alloc | apply Kd.R_drewN | apply Kd.R_drew)); first | exact HO_7.out | (rw [Ny148.out]; exact (Kd.R_putg (Kd.R_drewN HO_7.out _) _ _).1) | (rw [Ny148.out]; exact (Kd.R_putg HO_7.out _ _).1)⟩, ⟨by repeat (first | (with_reducible first | exact HB.out | apply below_alloc | apply pw_below_drewN | apply below_drew1) | exact HB.out | (first | exact below_set (pw_below_drewN HB.out _) GB10.out | exact below_set HB.out GB10.out))⟩⟩
                             ·
                              rw [if_neg c65] at H
                              have c65b0 : decide ((rd x7_3 ((rd_T53 l0 x10_3).f0)) < 0) = false := decide_eq_false c65; clear c65
                              by_cases c69 : (wrap64 ((rd x7_3 ((rd_T53 l0 x10_3).f1)) + ((rd_T53 l0 x10_3).f2))) < (rd x7_3 ((rd_T53 l0 x10_3).f0))
                              ·
                               rw [if_pos c69] at H
                               have c69b0 : decide ((wrap64 ((rd x7_3 ((rd_T53 l0 x10_3).f1)) + ((rd_T53 l0 x10_3).f2))) < (rd x7_3 ((rd_T53 l0 x10_3).f0))) = true := decide_eq_true c69; clear c69
                               obtain ⟨y150, hy150⟩ : ∃ y_ : List Int, y_ = (x7_3.set (((rd_T53 l0 x10_3).f0) : Int).toNat (wrap64 ((rd x7_3 ((rd_T53 l0 x10_3).f1)) + ((rd_T53 l0 x10_3).f2)))) := ⟨_, rfl⟩
                               replace H : (spec_l25Out.l2 kj27 l0 l1 a2 y150 true (wrap64 (x10_3 + 1))) = some r := by first | (rw [hy150]; with_reducible exact H) | (have H2_ := (Option.bind_some _ _).symm.trans H; rw [hy150]; with_reducible exact H2_) | (have H2_ := (Option.bind_some _ _).symm.trans H; with_reducible exact H2_) | with_reducible exact H | (rw [hy150]; exact H) | exact H
                               have Ny150 := Aside0.mk hy150; clear hy150; have H' := Aside0.mk H; clear H; have p144 : 0 ≤ (((rd_T53 l0 x10_3).f1) : Int) := dt_; have q144 : ((rd_T53 l0 x10_3).f1) < (x7_3.length : Int) := dt_; obtain ⟨ad144, e144, hx144_0⟩ := Kd.at_int (Kd.R_reads' HO_7.out).2.2 ((rd_T53 l0 x10_3).f1) p144 q144
                               obtain rfl : (⟨go10, 0, none⟩ : Addr) = ad144 := (by injection e144)
                               (first | simp only [add_plain] at hx144_0 | simp only [add_at] at hx144_0 | simp only [Addr.add, Nat.zero_add] at hx144_0 | skip)
                               replace p144 := eq_true p144; replace q144 := eq_true q144; have p145 : 0 ≤ (x10_3 : Int) := dt_; have q145 : x10_3 < (l0.length : Int) := dt_; obtain ⟨ad145, e145, hx145_0, hx145_1, hx145_2, hx145_3, hx145_4⟩ := at_T53 HR0.out x10_3 p145 q145
                               obtain rfl : ad127 = ad145 := (by injection e145)
                               replace hx145_0 := bc_ HB.out hx145_0; replace hx145_1 := bc_ HB.out hx145_1; replace hx145_2 := bc_ HB.out hx145_2; replace hx145_3 := bc_ HB.out hx145_3; replace hx145_4 := bc_ HB.out hx145_4; replace p145 := eq_true p145; replace q145 := eq_true q145; have p146 : 0 ≤ (((rd_T53 l0 x10_3).f1) : Int) := dt_; have q146 : ((rd_T53 l0 x10_3).f1) < (x7_3.length : Int) := dt_; obtain ⟨ad146, e146, hx146_0⟩ := Kd.at_int (Kd.R_reads' HO_7.out).2.2 ((rd_T53 l0 x10_3).f1) p146 q146
                               obtain rfl : (⟨go10, 0, none⟩ : Addr) = ad146 := (by injection e146)
                               (first | simp only [add_plain] at hx146_0 | simp only [add_at] at hx146_0 | simp only [Addr.add, Nat.zero_add] at hx146_0 | skip)
                               replace p146 := eq_true p146; replace q146 := eq_true q146; have p147 : 0 ≤ (((rd_T53 l0 x10_3).f0) : Int) := dt_; have q147 : ((rd_T53 l0 x10_3).f0) < (x7_3.length : Int) := dt_; obtain ⟨ad147, e147, hx147_0⟩ := Kd.at_int (Kd.R_reads' HO_7.out).2.2 ((rd_T53 l0 x10_3).f0) p147 q147
                               obtain rfl : (⟨go10, 0, none⟩ : Addr) = ad147 := (by injection e147)
                               (first | simp only [add_plain] at hx147_0 | simp only [add_at] at hx147_0 | simp only [Addr.add, Nat.zero_add] at hx147_0 | skip)
                               replace p147 := eq_true p147; replace q147 := eq_true q147; have p149 : 0 ≤ (((rd_T53 l0 x10_3).f0) : Int) := dt_; have q149 : ((rd_T53 l0 x10_3).f0) < (x7_3.length : Int) := dt_; obtain ⟨ad149, e149, hx149_0⟩ := Kd.at_int (Kd.R_reads' HO_7.out).2.2 ((rd_T53 l0 x10_3).f0) p149 q149
                               obtain rfl : (⟨go10, 0, none⟩ : Addr) = ad149 := (by injection e149)
                               (first | simp only [add_plain] at hx149_0 | simp only [add_at] at hx149_0 | simp only [Addr.add, Nat.zero_add] at hx149_0 | skip)
                               replace p149 := eq_true p149; replace q149 := eq_true q149; have p70 : 0 ≤ (((rd_T53 l0 x10_3).f0) : Int) := dt_; have q70 : (((rd_T53 l0 x10_3).f0) : Int) < ((x7_3.length : Int) : Int) := dt_; obtain ⟨hx70_0, hf70_0⟩ := Kd.R_celln 0 HO_7.out (((rd_T53 l0 x10_3).f0) : Int) p70 q70; replace p70 := eq_true p70; replace q70 := eq_true q70; have HP71 := Kd.R_putg HO_7.out (((rd_T53 l0 x10_3).f0) : Int) (wrap64 ((rd x7_3 ((rd_T53 l0 x10_3).f1)) + ((rd_T53 l0 x10_3).f2)))
                               go_wp2_with (first | ((with_reducible refine gate_store (t := 3) (p := 121) rfl ?_); (try (rw [drewN_self wc]; generalize hq_ : World.drewN wc _ = wc; replace HO_7 := Aside0.mk (Kd.R_at hq_ HO_7.out); replace HB := Aside0.mk (below_at hq_ HB.out); clear hq_; (try (have HP71 := Kd.R_putg HO_7.out (((rd_T53 l0 x10_3).f0) : Int) (wrap64 ((rd x7_3 ((rd_T53 l0 x10_3).f1)) + ((rd_T53 l0 x10_3).f2))))))); refine store_event (t := 3) (p := 121) (v := ?vo_w72) (w1 := (wc.setCell ⟨go10, (((rd_T53 l0 x10_3).f0) : Int).toNat, none⟩ (.int .i64 (wrap64 ((rd x7_3 ((rd_T53 l0 x10_3).f1)) + ((rd_T53 l0 x10_3).f2)))))) ?hg ?ho ?hn ?hr ?_; (case ho => rfl); (case hg => rfl); (case hn => rfl); (case hr => first | (go_simp; done) | (go_simp; rfl)); intro w72 hw; have hg : wc.grownBy w72 (some go10) := (by rw [hw]; exact HP71.2); have hp_ : Kd.R (Kd.int .i64) 3 w72 w.heap.size (fun _ => True) (.slice (some ⟨go10, 0, none⟩) x7_3.length co10) y150 := (by rw [hw, Ny150.out]; exact HP71.1); clear HP71; replace HO_7 := Aside0.mk (hp_); replace HB := Aside0.mk ((by rw [hw]; exact below_set (HB.out) GB10.out : Below w.heap.size w w72)); clear hg hw hp_))
                               repeat (go_quiet (first | ((with_reducible refine gate_store (t := 3) (p := 121) rfl ?_); (try (rw [drewN_self wc]; generalize hq_ : World.drewN wc _ = wc; replace HO_7 := Aside0.mk (Kd.R_at hq_ HO_7.out); replace HB := Aside0.mk (below_at hq_ HB.out); clear hq_; (try (have HP71 := Kd.R_putg HO_7.out (((rd_T53 l0 x10_3).f0) : Int) (wrap64 ((rd x7_3 ((rd_T53 l0 x10_3).f1)) + ((rd_T53 l0 x10_3).f2))))))); refine store_event (t := 3) (p := 121) (v := ?vo_w72) (w1 := (wc.setCell ⟨go10, (((rd_T53 l0 x10_3).f0) : Int).toNat, none⟩ (.int .i64 (wrap64 ((rd x7_3 ((rd_T53 l0 x10_3).f1)) + ((rd_T53 l0 x10_3).f2)))))) ?hg ?ho ?hn ?hr ?_; (case ho => rfl); (case hg => rfl); (case hn => rfl); (case hr => first | (go_simp; done) | (go_simp; rfl)); intro w72 hw; have hg : wc.grownBy w72 (some go10) := (by rw [hw]; exact HP71.2); have hp_ : Kd.R (Kd.int .i64) 3 w72 w.heap.size (fun _ => True) (.slice (some ⟨go10, 0, none⟩) x7_3.length co10) y150 := (by rw [hw, Ny150.out]; exact HP71.1); clear HP71; replace HO_7 := Aside0.mk (hp_); replace HB := Aside0.mk ((by rw [hw]; exact below_set (HB.out) GB10.out : Below w.heap.size w w72)); clear hg hw hp_)); try go_wp2_with (first | ((with_reducible refine gate_store (t := 3) (p := 121) rfl ?_); (try (rw [drewN_self wc]; generalize hq_ : World.drewN wc _ = wc; replace HO_7 := Aside0.mk (Kd.R_at hq_ HO_7.out); replace HB := Aside0.mk (below_at hq_ HB.out); clear hq_; (try (have HP71 := Kd.R_putg HO_7.out (((rd_T53 l0 x10_3).f0) : Int) (wrap64 ((rd x7_3 ((rd_T53 l0 x10_3).f1)) + ((rd_T53 l0 x10_3).f2))))))); refine store_event (t := 3) (p := 121) (v := ?vo_w72) (w1 := (wc.setCell ⟨go10, (((rd_T53 l0 x10_3).f0) : Int).toNat, none⟩ (.int .i64 (wrap64 ((rd x7_3 ((rd_T53 l0 x10_3).f1)) + ((rd_T53 l0 x10_3).f2)))))) ?hg ?ho ?hn ?hr ?_; (case ho => rfl); (case hg => rfl); (case hn => rfl); (case hr => first | (go_simp; done) | (go_simp; rfl)); intro w72 hw; have hg : wc.grownBy w72 (some go10) := (by rw [hw]; exact HP71.2); have hp_ : Kd.R (Kd.int .i64) 3 w72 w.heap.size (fun _ => True) (.slice (some ⟨go10, 0, none⟩) x7_3.length co10) y150 := (by rw [hw, Ny150.out]; exact HP71.1); clear HP71; replace HO_7 := Aside0.mk (hp_); replace HB := Aside0.mk ((by rw [hw]; exact below_set (HB.out) GB10.out : Below w.heap.size w w72)); clear hg hw hp_)))
                               (try simp only [← hl7_3])
                               go_roundg kj27
                               case measure => have := HK1.out; have := HK2.out; have := HK3.out; have := HJ15.out; have := HJ27.out; omega
                               case rel => exact ⟨(y150), (true), (wrap64 (x10_3 + 1)), (by first | rfl | (simp; done) | (simp [*]; done)), (by first | rfl | (simp; done) | (simp [*]; done)), H', ⟨by have := HK1.out; have := HK2.out; have := HK3.out; have := HJ15.out; have := HJ27.out; omega⟩, ⟨by (try simp only [hl7_2]); (try simp only [hl7_3]); (with_reducible repeat (first | apply Kd.R_alloc | apply Kd.R_drewN | apply Kd.R_drew)); first | exact HO_7.out | (rw [Ny150.out]; exact (Kd.R_putg (Kd.R_drewN HO_7.out _) _ _).1) | (rw [Ny150.out]; exact (Kd.R_putg HO_7.out _ _).1)⟩, ⟨by repeat (first | (with_reducible first | exact HB.out | apply below_alloc | apply pw_below_drewN | apply below_drew1) | exact HB.out | (first | exact below_set (pw_below_drewN HB.out _) GB10.out | exact below_set HB.out GB10.out))⟩⟩
                              ·
                               rw [if_neg c69] at H
                               have c69b0 : decide ((wrap64 ((rd x7_3 ((rd_T53 l0 x10_3).f1)) + ((rd_T53 l0 x10_3).f2))) < (rd x7_3 ((rd_T53 l0 x10_3).f0))) = false := decide_eq_false c69; clear c69; have H' := Aside0.mk H; clear H; have p144 : 0 ≤ (((rd_T53 l0 x10_3).f1) : Int) := dt_; have q144 : ((rd_T53 l0 x10_3).f1) < (x7_3.length : Int) := dt_; obtain ⟨ad144, e144, hx144_0⟩ := Kd.at_int (Kd.R_reads' HO_7.out).2.2 ((rd_T53 l0 x10_3).f1) p144 q144
                               obtain rfl : (⟨go10, 0, none⟩ : Addr) = ad144 := (by injection e144)
                               (first | simp only [add_plain] at hx144_0 | simp only [add_at] at hx144_0 | simp only [Addr.add, Nat.zero_add] at hx144_0 | skip)
                               replace p144 := eq_true p144; replace q144 := eq_true q144; have p145 : 0 ≤ (x10_3 : Int) := dt_; have q145 : x10_3 < (l0.length : Int) := dt_; obtain ⟨ad145, e145, hx145_0, hx145_1, hx145_2, hx145_3, hx145_4⟩ := at_T53 HR0.out x10_3 p145 q145
                               obtain rfl : ad127 = ad145 := (by injection e145)
                               replace hx145_0 := bc_ HB.out hx145_0; replace hx145_1 := bc_ HB.out hx145_1; replace hx145_2 := bc_ HB.out hx145_2; replace hx145_3 := bc_ HB.out hx145_3; replace hx145_4 := bc_ HB.out hx145_4; replace p145 := eq_true p145; replace q145 := eq_true q145; have p146 : 0 ≤ (((rd_T53 l0 x10_3).f1) : Int) := dt_; have q146 : ((rd_T53 l0 x10_3).f1) < (x7_3.length : Int) := dt_; obtain ⟨ad146, e146, hx146_0⟩ := Kd.at_int (Kd.R_reads' HO_7.out).2.2 ((rd_T53 l0 x10_3).f1) p146 q146
                               obtain rfl : (⟨go10, 0, none⟩ : Addr) = ad146 := (by injection e146)
                               (first | simp only [add_plain] at hx146_0 | simp only [add_at] at hx146_0 | simp only [Addr.add, Nat.zero_add] at hx146_0 | skip)
                               replace p146 := eq_true p146; replace q146 := eq_true q146; have p147 : 0 ≤ (((rd_T53 l0 x10_3).f0) : Int) := dt_; have q147 : ((rd_T53 l0 x10_3).f0) < (x7_3.length : Int) := dt_; obtain ⟨ad147, e147, hx147_0⟩ := Kd.at_int (Kd.R_reads' HO_7.out).2.2 ((rd_T53 l0 x10_3).f0) p147 q147
                               obtain rfl : (⟨go10, 0, none⟩ : Addr) = ad147 := (by injection e147)
                               (first | simp only [add_plain] at hx147_0 | simp only [add_at] at hx147_0 | simp only [Addr.add, Nat.zero_add] at hx147_0 | skip)
                               replace p147 := eq_true p147; replace q147 := eq_true q147; have p149 : 0 ≤ (((rd_T53 l0 x10_3).f0) : Int) := dt_; have q149 : ((rd_T53 l0 x10_3).f0) < (x7_3.length : Int) := dt_; obtain ⟨ad149, e149, hx149_0⟩ := Kd.at_int (Kd.R_reads' HO_7.out).2.2 ((rd_T53 l0 x10_3).f0) p149 q149
                               obtain rfl : (⟨go10, 0, none⟩ : Addr) = ad149 := (by injection e149)
                               (first | simp only [add_plain] at hx149_0 | simp only [add_at] at hx149_0 | simp only [Addr.add, Nat.zero_add] at hx149_0 | skip)
                               replace p149 := eq_true p149; replace q149 := eq_true q149
                               go_wp2
                               repeat (go_quiet (fail); try go_wp2)
                               (try simp only [← hl7_3])
                               go_roundg kj27
                               case measure => have := HK1.out; have := HK2.out; have := HK3.out; have := HJ15.out; have := HJ27.out; omega
                               case rel => exact ⟨(x7_3), (x9_3), (wrap64 (x10_3 + 1)), (by first | rfl | (simp; done) | (simp [*]; done)), (by first | rfl | (simp; done) | (simp [*]; done)), H', ⟨by have := HK1.out; have := HK2.out; have := HK3.out; have := HJ15.out; have := HJ27.out; omega⟩, ⟨by (try simp only [hl7_2]); (try simp only [hl7_3]); (with_reducible repeat (first | apply Kd.R_alloc | apply Kd.R_drewN | apply Kd.R_drew)); exact HO_7.out⟩, ⟨lb0_ HB.out⟩⟩
                            ·
                             rw [if_neg c64] at H
                             exact absurd H (by simp)
                           ·
                            rw [if_neg c63] at H
                            exact absurd H (by simp)
                          ·
                           rw [if_neg c62] at H
                           have c62b0 : decide (0 ≤ (rd x7_3 ((rd_T53 l0 x10_3).f1))) = false := decide_eq_false c62; clear c62; have H' := Aside0.mk H; clear H; have p144 : 0 ≤ (((rd_T53 l0 x10_3).f1) : Int) := dt_; have q144 : ((rd_T53 l0 x10_3).f1) < (x7_3.length : Int) := dt_; obtain ⟨ad144, e144, hx144_0⟩ := Kd.at_int (Kd.R_reads' HO_7.out).2.2 ((rd_T53 l0 x10_3).f1) p144 q144
                           obtain rfl : (⟨go10, 0, none⟩ : Addr) = ad144 := (by injection e144)
                           (first | simp only [add_plain] at hx144_0 | simp only [add_at] at hx144_0 | simp only [Addr.add, Nat.zero_add] at hx144_0 | skip)
                           replace p144 := eq_true p144; replace q144 := eq_true q144; have p145 : 0 ≤ (x10_3 : Int) := dt_; have q145 : x10_3 < (l0.length : Int) := dt_; obtain ⟨ad145, e145, hx145_0, hx145_1, hx145_2, hx145_3, hx145_4⟩ := at_T53 HR0.out x10_3 p145 q145
                           obtain rfl : ad127 = ad145 := (by injection e145)
                           replace hx145_0 := bc_ HB.out hx145_0; replace hx145_1 := bc_ HB.out hx145_1; replace hx145_2 := bc_ HB.out hx145_2; replace hx145_3 := bc_ HB.out hx145_3; replace hx145_4 := bc_ HB.out hx145_4; replace p145 := eq_true p145; replace q145 := eq_true q145; have p146 : 0 ≤ (((rd_T53 l0 x10_3).f1) : Int) := dt_; have q146 : ((rd_T53 l0 x10_3).f1) < (x7_3.length : Int) := dt_; obtain ⟨ad146, e146, hx146_0⟩ := Kd.at_int (Kd.R_reads' HO_7.out).2.2 ((rd_T53 l0 x10_3).f1) p146 q146
                           obtain rfl : (⟨go10, 0, none⟩ : Addr) = ad146 := (by injection e146)
                           (first | simp only [add_plain] at hx146_0 | simp only [add_at] at hx146_0 | simp only [Addr.add, Nat.zero_add] at hx146_0 | skip)
                           replace p146 := eq_true p146; replace q146 := eq_true q146
                           go_wp2
                           repeat (go_quiet (fail); try go_wp2)
                           (try simp only [← hl7_3])
                           go_roundg kj27
                           case measure => have := HK1.out; have := HK2.out; have := HK3.out; have := HJ15.out; have := HJ27.out; omega
                           case rel => exact ⟨(x7_3), (x9_3), (wrap64 (x10_3 + 1)), (by first | rfl | (simp; done) | (simp [*]; done)), (by first | rfl | (simp; done) | (simp [*]; done)), H', ⟨by have := HK1.out; have := HK2.out; have := HK3.out; have := HJ15.out; have := HJ27.out; omega⟩, ⟨by (try simp only [hl7_2]); (try simp only [hl7_3]); (with_reducible repeat (first | apply Kd.R_alloc | apply Kd.R_drewN | apply Kd.R_drew)); exact HO_7.out⟩, ⟨lb0_ HB.out⟩⟩
                         ·
                          rw [if_neg c61] at H
                          exact absurd H (by simp)
                        ·
                         rw [if_neg c60] at H
                         exact absurd H (by simp)
                       ·
                        rw [if_neg c59] at H
                        exact absurd H (by simp)
                      ·
                       rw [if_neg c58] at H
                       exact absurd H (by simp)
                  ·
                   rw [if_neg c27] at H
                   exact absurd H (by simp)
                 ·
                  rw [if_neg c26] at H
                  exact absurd H (by simp)
                ·
                 rw [if_neg c25] at H
                 exact absurd H (by simp)
               ·
                rw [if_neg c24] at H
                exact absurd H (by simp)
           ·
            rw [if_neg c15] at H
            exact absurd H (by simp)
          ·
           rw [if_neg c14] at H
           have c14b0 : decide (x10_3 < (l0.length : Int)) = false := decide_eq_false c14; clear c14; have H' := Aside0.mk H; clear H
           go_wp2
           repeat (go_quiet (fail); try go_wp2)
           (try simp only [← hl7_2, ← hl7_3])
           go_roundg k3
           case measure => have := HK1.out; have := HK2.out; have := HK3.out; omega
           case rel => exact ⟨(x7_3), (x9_3), (by first | rfl | (simp; done) | (simp [*]; done)), H', ⟨by have := HK1.out; have := HK2.out; have := HK3.out; omega⟩, ⟨by (try simp only [hl7_2]); (try simp only [hl7_3]); (with_reducible repeat (first | apply Kd.R_alloc | apply Kd.R_drewN | apply Kd.R_drew)); exact HO_7.out⟩, ⟨lb0_ HB.out⟩⟩
       ·
        replace c13 := Bool.eq_false_iff.mpr c13; subst c13
        have H1 : (if 0 ≤ a2 then (if a2 < (x7_2.length : Int) then (some (rd x7_2 a2)) else (none)) else (none)) = some r := by rw [if_neg (show ¬ (false = true) by decide)] at H; exact H
        clear H; have H := H1; clear H1
        by_cases c73 : 0 ≤ a2
        ·
         rw [if_pos c73] at H
         have c73b0 : decide (0 ≤ a2) = true := decide_eq_true c73; clear c73
         by_cases c74 : a2 < (x7_2.length : Int)
         ·
          rw [if_pos c74] at H
          have c74b0 : decide (a2 < (x7_2.length : Int)) = true := decide_eq_true c74; clear c74; obtain rfl := Option.some.inj H; have p126 : 0 ≤ (a2 : Int) := dt_; have q126 : a2 < (x7_2.length : Int) := dt_; obtain ⟨ad126, e126, hx126_0⟩ := Kd.at_int (Kd.R_reads' HO_7.out).2.2 a2 p126 q126
          obtain rfl : (⟨go10, 0, none⟩ : Addr) = ad126 := (by injection e126)
          (first | simp only [add_plain] at hx126_0 | simp only [add_at] at hx126_0 | simp only [Addr.add, Nat.zero_add] at hx126_0 | skip)
          replace p126 := eq_true p126; replace q126 := eq_true q126
          go_wp2
          repeat (go_quiet (fail); try go_wp2)
          go_ret
          exact ⟨rr_, lb0_ HB.out⟩
         ·
          rw [if_neg c74] at H
          exact absurd H (by simp)
        ·
         rw [if_neg c73] at H
         exact absurd H (by simp)
    ·
     rw [if_neg c9] at H
     exact absurd H (by simp)
def spec_l25Good.j0 : Nat → Bool → List (S53) → List Bool → List Bool → Int → Int → Option (Bool)
 | 0, _, _, _, _, _, _ => none
 | k + 1, x31, x152000, x152001, x152002, x152003, x152004 => if x31 = true then (some false) else (if 0 < (x152001.length : Int) then (if rdOf false x152001 0 = true then (if 0 ≤ x152003 then (if x152003 < (x152001.length : Int) then (if rdOf false x152001 x152003 = true then ((spec_l25Out.f k x152000 x152001 x152003).bind fun t157 => (if t157 ≥ 0 then (some (decide (t157 ≤ x152004))) else (some false))) else (some false)) else (none)) else (none)) else (some false)) else (none))
def spec_l25Good.f (k : Nat) (l0_0 : List (S53)) (l0_1 : List Bool) (l0_2 : List Bool) (a0_3 : Int) (a0_4 : Int) : Option (Bool) := (spec_l4Legs.f k l0_0).bind fun t152 => (if t152 = true then (if (l0_1.length : Int) = 8 then (if (l0_2.length : Int) = 8 then ((spec_l4Station.f a0_3).bind fun t153 => (if t153 = true then ((spec_l1In.f a0_4 0 100000).bind fun t154 => (spec_l25Good.j0 k (!t154) l0_0 l0_1 l0_2 a0_3 a0_4)) else (spec_l25Good.j0 k true l0_0 l0_1 l0_2 a0_3 a0_4))) else (spec_l25Good.j0 k true l0_0 l0_1 l0_2 a0_3 a0_4)) else (spec_l25Good.j0 k true l0_0 l0_1 l0_2 a0_3 a0_4)) else (spec_l25Good.j0 k true l0_0 l0_1 l0_2 a0_3 a0_4))
theorem spec_l25Good.calls (k : Nat) (A0_0 : Option Addr) (c0_0 : Nat) (l0_0 : List (S53)) (A0_1 : Option Addr) (c0_1 : Nat) (l0_1 : List Bool) (A0_2 : Option Addr) (c0_2 : Nat) (l0_2 : List Bool) (a0_3 : Int) (a0_4 : Int) (r : Bool) (w : World) (hr0_0 : Kd.C k53 w A0_0 l0_0.length l0_0) (hc0_0 : l0_0.length ≤ c0_0) (hr0_1 : Kd.C Kd.bool w A0_1 l0_1.length l0_1) (hc0_1 : l0_1.length ≤ c0_1) (hr0_2 : Kd.C Kd.bool w A0_2 l0_2.length l0_2) (hc0_2 : l0_2.length ≤ c0_2) (h : spec_l25Good.f k l0_0 l0_1 l0_2 a0_3 a0_4 = some r) :
  Calls Tryd.prog 31 #[.agg #[.slice A0_0 l0_0.length c0_0, .slice A0_1 l0_1.length c0_1, .slice A0_2 l0_2.length c0_2, .int .i64 a0_3, .int .i64 a0_4]] w fun e w' => e = .returned (.bool r) ∧ Below w.heap.size w w' := by
 have hu34 := Tryd.underlying34
 have HR0_0 := Aside0.mk hr0_0
 have HC0_0 := Aside0.mk hc0_0
 clear hr0_0 hc0_0
 have HR0_1 := Aside0.mk hr0_1
 have HC0_1 := Aside0.mk hc0_1
 clear hr0_1 hc0_1
 have HR0_2 := Aside0.mk hr0_2
 have HC0_2 := Aside0.mk hc0_2
 clear hr0_2 hc0_2
 have HB := Aside0.mk (Below.refl w.heap.size w)
 have H : ((spec_l4Legs.f k l0_0).bind fun t152 => (if t152 = true then (if (l0_1.length : Int) = 8 then (if (l0_2.length : Int) = 8 then ((spec_l4Station.f a0_3).bind fun t153 => (if t153 = true then ((spec_l1In.f a0_4 0 100000).bind fun t154 => (spec_l25Good.j0 k (!t154) l0_0 l0_1 l0_2 a0_3 a0_4)) else (spec_l25Good.j0 k true l0_0 l0_1 l0_2 a0_3 a0_4))) else (spec_l25Good.j0 k true l0_0 l0_1 l0_2 a0_3 a0_4)) else (spec_l25Good.j0 k true l0_0 l0_1 l0_2 a0_3 a0_4)) else (spec_l25Good.j0 k true l0_0 l0_1 l0_2 a0_3 a0_4))) = some r := h
 clear h
 have HC2 := Aside0.mk H
 clear H
 go_enter Tryd.func31, Tryd.ntmps31
 go_upto_region 1 with (first | ((with_reducible refine gate_dst (N := 1) rfl ?_); (try (refine gate_guard (by rfl) ?_; dsimp only)); refine box_event ?hg (N := 1) ?hd (cs := #[.slice A0_0 l0_0.length c0_0, .slice A0_1 l0_1.length c0_1, .slice A0_2 l0_2.length c0_2, .int .i64 a0_3, .int .i64 a0_4]) (t := 34) ?hr ?_; (case hd => rfl); (case hg => rfl); (case hr => first | (go_simp; done) | (go_simp; rfl)); intro gb151 hg w3 hbox hb; have BK151 := Aside0.mk (hbox); have GW151 := Aside0.mk ((bz_ hg (lb0_ HB.out))); have GE151 := Aside0.mk ((bz_ hg (lb0_ HB.out))); replace HB := Aside0.mk (below_step (lb0_ HB.out) hb); clear hb hbox hg))
 (try simp only [Act.put, List.setIfInBounds_toArray, List.set_cons_zero, List.set_cons_succ])
 go_cut [31] (fun v31 wc => ∃ (kq : Nat) (x31_1 : Bool), v31 = .bool x31_1 ∧ Aside0 (spec_l25Good.j0 kq x31_1 l0_0 l0_1 l0_2 a0_3 a0_4 = some r) ∧ Aside0 (kq ≤ k) ∧ Aside0 (wc.heap[gb151]? = some (.cells #[(.slice A0_0 l0_0.length c0_0), (.slice A0_1 l0_1.length c0_1), (.slice A0_2 l0_2.length c0_2), .int .i64 a0_3, .int .i64 a0_4] 34 (0, 0))) ∧ Aside0 (Below w.heap.size w wc))
 case first =>
  have H := HC2.out
  clear HC2
  replace H := Option.bind_eq_some_iff.mp H
  obtain ⟨t152, A40, H⟩ := H
  replace H : (if t152 = true then (if (l0_1.length : Int) = 8 then (if (l0_2.length : Int) = 8 then ((spec_l4Station.f a0_3).bind fun t153 => (if t153 = true then ((spec_l1In.f a0_4 0 100000).bind fun t154 => (spec_l25Good.j0 k (!t154) l0_0 l0_1 l0_2 a0_3 a0_4)) else (spec_l25Good.j0 k true l0_0 l0_1 l0_2 a0_3 a0_4))) else (spec_l25Good.j0 k true l0_0 l0_1 l0_2 a0_3 a0_4)) else (spec_l25Good.j0 k true l0_0 l0_1 l0_2 a0_3 a0_4)) else (spec_l25Good.j0 k true l0_0 l0_1 l0_2 a0_3 a0_4)) = some r := H
  have A4 := Aside0.mk A40
  clear A40
  by_cases c5 : t152 = true
  ·
   subst c5
   have H1 : (if (l0_1.length : Int) = 8 then (if (l0_2.length : Int) = 8 then ((spec_l4Station.f a0_3).bind fun t153 => (if t153 = true then ((spec_l1In.f a0_4 0 100000).bind fun t154 => (spec_l25Good.j0 k (!t154) l0_0 l0_1 l0_2 a0_3 a0_4)) else (spec_l25Good.j0 k true l0_0 l0_1 l0_2 a0_3 a0_4))) else (spec_l25Good.j0 k true l0_0 l0_1 l0_2 a0_3 a0_4)) else (spec_l25Good.j0 k true l0_0 l0_1 l0_2 a0_3 a0_4)) = some r := by rw [if_pos rfl] at H; exact H
   clear H
   have H := H1
   clear H1
   by_cases c6 : (l0_1.length : Int) = 8
   ·
    rw [if_pos c6] at H
    have c6b0 : ((l0_1.length : Int) == 8) = true := beq_iff_eq.mpr c6
    have c6b1 : ((l0_1.length : Int) != 8) = false := bne_eq_false_iff_eq.mpr c6
    clear c6
    (first | rw [c6b0] | (simp only [i64_w, i32_w]; rw [c6b0]) | skip)
    by_cases c7 : (l0_2.length : Int) = 8
    ·
     rw [if_pos c7] at H
     have c7b0 : ((l0_2.length : Int) == 8) = true := beq_iff_eq.mpr c7
     have c7b1 : ((l0_2.length : Int) != 8) = false := bne_eq_false_iff_eq.mpr c7
     clear c7
     replace H := Option.bind_eq_some_iff.mp H
     obtain ⟨t153, A80, H⟩ := H
     replace H : (if t153 = true then ((spec_l1In.f a0_4 0 100000).bind fun t154 => (spec_l25Good.j0 k (!t154) l0_0 l0_1 l0_2 a0_3 a0_4)) else (spec_l25Good.j0 k true l0_0 l0_1 l0_2 a0_3 a0_4)) = some r := H
     have A8 := Aside0.mk A80
     clear A80
     by_cases c9 : t153 = true
     ·
      subst c9
      have H1 : ((spec_l1In.f a0_4 0 100000).bind fun t154 => (spec_l25Good.j0 k (!t154) l0_0 l0_1 l0_2 a0_3 a0_4)) = some r := by rw [if_pos rfl] at H; exact H
      clear H
      have H := H1
      clear H1
      replace H := Option.bind_eq_some_iff.mp H
      obtain ⟨t154, A100, H⟩ := H
      replace H : (spec_l25Good.j0 k (!t154) l0_0 l0_1 l0_2 a0_3 a0_4) = some r := H
      have A10 := Aside0.mk A100
      clear A100
      have H' := Aside0.mk H
      clear H
      obtain ⟨hcz11_0, hcz11_1, hcz11_2, hcz11_3, hcz11_4⟩ := cz5_ BK151.out
      obtain ⟨hfz11_0, hfz11_1, hfz11_2, hfz11_3, hfz11_4⟩ := fz5_ BK151.out
      go_wp2_with (first | ((with_reducible refine gate_callee (f := 44) rfl ?_); refine ga_ (some 6) Tryd.func44 #[.slice A0_0 l0_0.length c0_0] ?_; (with_reducible refine (spec_l4Legs.calls k _ _ l0_0 true _ ?side1 ?side2 A4.out).mono ?_); (case side1 => exact kc_ (Kd.C_below HR0_0.out HB.out)); (case side2 => exact HC0_0.out); rintro e w12 ⟨rfl, hb⟩; refine ⟨_, rfl, ?_⟩; replace BK151 := Aside0.mk (bb_ (bk_ BK151.out) hb); replace HB := Aside0.mk (below_step (lb1_ HB.out GE151.out) hb); (try clear hb); (try clear hb2); (try clear hk); (try clear hi); obtain ⟨hcz13_0, hcz13_1, hcz13_2, hcz13_3, hcz13_4⟩ := cz5_ BK151.out; obtain ⟨hfz13_0, hfz13_1, hfz13_2, hfz13_3, hfz13_4⟩ := fz5_ BK151.out) | (go_at_call 45; (with_reducible refine (spec_l4Station.calls a0_3 true _ A8.out).mono ?_); rintro e w' ⟨rfl, ⟨nd, rfl⟩⟩) | (go_at_call 46; (with_reducible refine (spec_l1In.calls a0_4 0 100000 t154 _ A10.out).mono ?_); rintro e w' ⟨rfl, ⟨nd, rfl⟩⟩))
      go_meet
      case rel => exact ⟨_, (!t154), (by first | rfl | (simp; done) | (simp [*]; done)), H', ⟨by first | omega | exact Nat.le_refl _⟩, ⟨bk_ BK151.out⟩, ⟨lb1_ HB.out GE151.out⟩⟩
     ·
      replace c9 := Bool.eq_false_iff.mpr c9
      subst c9
      have H1 : (spec_l25Good.j0 k true l0_0 l0_1 l0_2 a0_3 a0_4) = some r := by rw [if_neg (show ¬ (false = true) by decide)] at H; exact H
      clear H
      have H := H1
      clear H1
      have H' := Aside0.mk H
      clear H
      obtain ⟨hcz14_0, hcz14_1, hcz14_2, hcz14_3, hcz14_4⟩ := cz5_ BK151.out
      obtain ⟨hfz14_0, hfz14_1, hfz14_2, hfz14_3, hfz14_4⟩ := fz5_ BK151.out
      go_wp2_with (first | ((with_reducible refine gate_callee (f := 44) rfl ?_); refine ga_ (some 6) Tryd.func44 #[.slice A0_0 l0_0.length c0_0] ?_; (with_reducible refine (spec_l4Legs.calls k _ _ l0_0 true _ ?side1 ?side2 A4.out).mono ?_); (case side1 => exact kc_ (Kd.C_below HR0_0.out HB.out)); (case side2 => exact HC0_0.out); rintro e w15 ⟨rfl, hb⟩; refine ⟨_, rfl, ?_⟩; replace BK151 := Aside0.mk (bb_ (bk_ BK151.out) hb); replace HB := Aside0.mk (below_step (lb1_ HB.out GE151.out) hb); (try clear hb); (try clear hb2); (try clear hk); (try clear hi); obtain ⟨hcz16_0, hcz16_1, hcz16_2, hcz16_3, hcz16_4⟩ := cz5_ BK151.out; obtain ⟨hfz16_0, hfz16_1, hfz16_2, hfz16_3, hfz16_4⟩ := fz5_ BK151.out) | (go_at_call 45; (with_reducible refine (spec_l4Station.calls a0_3 false _ A8.out).mono ?_); rintro e w' ⟨rfl, ⟨nd, rfl⟩⟩))
      go_meet
      case rel => exact ⟨_, (true), (by first | rfl | (simp; done) | (simp [*]; done)), H', ⟨by first | omega | exact Nat.le_refl _⟩, ⟨bk_ BK151.out⟩, ⟨lb1_ HB.out GE151.out⟩⟩
    ·
     rw [if_neg c7] at H
     have c7b0 : ((l0_2.length : Int) == 8) = false := beq_eq_false_iff_ne.mpr c7
     have c7b1 : ((l0_2.length : Int) != 8) = true := bne_iff_ne.mpr c7
     have H' := Aside0.mk H
     clear H
     obtain ⟨hcz17_0, hcz17_1, hcz17_2, hcz17_3, hcz17_4⟩ := cz5_ BK151.out
     obtain ⟨hfz17_0, hfz17_1, hfz17_2, hfz17_3, hfz17_4⟩ := fz5_ BK151.out
     go_wp2_with (first | ((with_reducible refine gate_callee (f := 44) rfl ?_); refine ga_ (some 6) Tryd.func44 #[.slice A0_0 l0_0.length c0_0] ?_; (with_reducible refine (spec_l4Legs.calls k _ _ l0_0 true _ ?side1 ?side2 A4.out).mono ?_); (case side1 => exact kc_ (Kd.C_below HR0_0.out HB.out)); (case side2 => exact HC0_0.out); rintro e w18 ⟨rfl, hb⟩; refine ⟨_, rfl, ?_⟩; replace BK151 := Aside0.mk (bb_ (bk_ BK151.out) hb); replace HB := Aside0.mk (below_step (lb1_ HB.out GE151.out) hb); (try clear hb); (try clear hb2); (try clear hk); (try clear hi); obtain ⟨hcz19_0, hcz19_1, hcz19_2, hcz19_3, hcz19_4⟩ := cz5_ BK151.out; obtain ⟨hfz19_0, hfz19_1, hfz19_2, hfz19_3, hfz19_4⟩ := fz5_ BK151.out))
     go_meet
     case rel => exact ⟨_, (true), (by first | rfl | (simp; done) | (simp [*]; done)), H', ⟨by first | omega | exact Nat.le_refl _⟩, ⟨bk_ BK151.out⟩, ⟨lb1_ HB.out GE151.out⟩⟩
   ·
    rw [if_neg c6] at H
    have c6b0 : ((l0_1.length : Int) == 8) = false := beq_eq_false_iff_ne.mpr c6
    have c6b1 : ((l0_1.length : Int) != 8) = true := bne_iff_ne.mpr c6
    (first | rw [c6b0] | (simp only [i64_w, i32_w]; rw [c6b0]) | skip)
    have H' := Aside0.mk H
    clear H
    obtain ⟨hcz20_0, hcz20_1, hcz20_2, hcz20_3, hcz20_4⟩ := cz5_ BK151.out
    obtain ⟨hfz20_0, hfz20_1, hfz20_2, hfz20_3, hfz20_4⟩ := fz5_ BK151.out
    go_wp2_with (first | ((with_reducible refine gate_callee (f := 44) rfl ?_); refine ga_ (some 6) Tryd.func44 #[.slice A0_0 l0_0.length c0_0] ?_; (with_reducible refine (spec_l4Legs.calls k _ _ l0_0 true _ ?side1 ?side2 A4.out).mono ?_); (case side1 => exact kc_ (Kd.C_below HR0_0.out HB.out)); (case side2 => exact HC0_0.out); rintro e w21 ⟨rfl, hb⟩; refine ⟨_, rfl, ?_⟩; replace BK151 := Aside0.mk (bb_ (bk_ BK151.out) hb); replace HB := Aside0.mk (below_step (lb1_ HB.out GE151.out) hb); (try clear hb); (try clear hb2); (try clear hk); (try clear hi); obtain ⟨hcz22_0, hcz22_1, hcz22_2, hcz22_3, hcz22_4⟩ := cz5_ BK151.out; obtain ⟨hfz22_0, hfz22_1, hfz22_2, hfz22_3, hfz22_4⟩ := fz5_ BK151.out))
    go_meet
    case rel => exact ⟨_, (true), (by first | rfl | (simp; done) | (simp [*]; done)), H', ⟨by first | omega | exact Nat.le_refl _⟩, ⟨bk_ BK151.out⟩, ⟨lb1_ HB.out GE151.out⟩⟩
  ·
   replace c5 := Bool.eq_false_iff.mpr c5
   subst c5
   have H1 : (spec_l25Good.j0 k true l0_0 l0_1 l0_2 a0_3 a0_4) = some r := by rw [if_neg (show ¬ (false = true) by decide)] at H; exact H
   clear H
   have H := H1
   clear H1
   have H' := Aside0.mk H
   clear H
   obtain ⟨hcz23_0, hcz23_1, hcz23_2, hcz23_3, hcz23_4⟩ := cz5_ BK151.out
   obtain ⟨hfz23_0, hfz23_1, hfz23_2, hfz23_3, hfz23_4⟩ := fz5_ BK151.out
   go_wp2_with (first | ((with_reducible refine gate_callee (f := 44) rfl ?_); refine ga_ (some 6) Tryd.func44 #[.slice A0_0 l0_0.length c0_0] ?_; (with_reducible refine (spec_l4Legs.calls k _ _ l0_0 false _ ?side1 ?side2 A4.out).mono ?_); (case side1 => exact kc_ (Kd.C_below HR0_0.out HB.out)); (case side2 => exact HC0_0.out); rintro e w24 ⟨rfl, hb⟩; refine ⟨_, rfl, ?_⟩; replace BK151 := Aside0.mk (bb_ (bk_ BK151.out) hb); replace HB := Aside0.mk (below_step (lb1_ HB.out GE151.out) hb); (try clear hb); (try clear hb2); (try clear hk); (try clear hi)))
   go_meet
   case rel => exact ⟨_, (true), (by first | rfl | (simp; done) | (simp [*]; done)), H', ⟨by first | omega | exact Nat.le_refl _⟩, ⟨bk_ BK151.out⟩, ⟨lb1_ HB.out GE151.out⟩⟩
 case rest =>
  clear HC2
  try clear p2
  try clear c3
  try clear c4
  try clear c5
  try clear c6
  try clear c6b0
  try clear c6b1
  try clear c7
  try clear c7b0
  try clear c7b1
  try clear c9
  try clear hcz11_0 hcz11_1 hcz11_2 hcz11_3 hcz11_4
  try clear hcz13_0 hcz13_1 hcz13_2 hcz13_3 hcz13_4
  try clear hcz14_0 hcz14_1 hcz14_2 hcz14_3 hcz14_4
  try clear hcz16_0 hcz16_1 hcz16_2 hcz16_3 hcz16_4
  try clear hcz17_0 hcz17_1 hcz17_2 hcz17_3 hcz17_4
  try clear hcz19_0 hcz19_1 hcz19_2 hcz19_3 hcz19_4
  try clear hcz20_0 hcz20_1 hcz20_2 hcz20_3 hcz20_4
  try clear hcz22_0 hcz22_1 hcz22_2 hcz22_3 hcz22_4
  try clear hcz23_0 hcz23_1 hcz23_2 hcz23_3 hcz23_4
  try clear hfz11_0 hfz11_1 hfz11_2 hfz11_3 hfz11_4
  try clear hfz13_0 hfz13_1 hfz13_2 hfz13_3 hfz13_4
  try clear hfz14_0 hfz14_1 hfz14_2 hfz14_3 hfz14_4
  try clear hfz16_0 hfz16_1 hfz16_2 hfz16_3 hfz16_4
  try clear hfz17_0 hfz17_1 hfz17_2 hfz17_3 hfz17_4
  try clear hfz19_0 hfz19_1 hfz19_2 hfz19_3 hfz19_4
  try clear hfz20_0 hfz20_1 hfz20_2 hfz20_3 hfz20_4
  try clear hfz22_0 hfz22_1 hfz22_2 hfz22_3 hfz22_4
  try clear hfz23_0 hfz23_1 hfz23_2 hfz23_3 hfz23_4
  obtain ⟨kq, x31_1, rfl, HA, HJ1, BK151, HB⟩ := hcut
  cases kq with
  | zero => exact absurd HA.out (by simp [spec_l25Good.j0])
  | succ kj1 =>
   have H := HA.out
   clear HA
   simp only [spec_l25Good.j0] at H
   by_cases c25 : x31_1 = true
   ·
    subst c25
    have H1 : (some false) = some r := by rw [if_pos rfl] at H; exact H
    clear H
    have H := H1
    clear H1
    obtain rfl := Option.some.inj H
    go_wp2
    go_ret
    exact ⟨rr_, lb1_ HB.out GE151.out⟩
   ·
    replace c25 := Bool.eq_false_iff.mpr c25
    subst c25
    have H1 : (if 0 < (l0_1.length : Int) then (if rdOf false l0_1 0 = true then (if 0 ≤ a0_3 then (if a0_3 < (l0_1.length : Int) then (if rdOf false l0_1 a0_3 = true then ((spec_l25Out.f kj1 l0_0 l0_1 a0_3).bind fun t157 => (if t157 ≥ 0 then (some (decide (t157 ≤ a0_4))) else (some false))) else (some false)) else (none)) else (none)) else (some false)) else (none)) = some r := by rw [if_neg (show ¬ (false = true) by decide)] at H; exact H
    clear H
    have H := H1
    clear H1
    by_cases c26 : 0 < (l0_1.length : Int)
    ·
     rw [if_pos c26] at H
     have c26b0 : decide (0 < (l0_1.length : Int)) = true := decide_eq_true c26
     have c26b1 : decide (0 < l0_1.length) = true := decide_eq_true (by omega)
     clear c26
     obtain ⟨bq27, hbq27⟩ : ∃ b_ : Bool, b_ = (rdOf false l0_1 0) := ⟨_, rfl⟩
     replace H : (if bq27 = true then (if 0 ≤ a0_3 then (if a0_3 < (l0_1.length : Int) then (if rdOf false l0_1 a0_3 = true then ((spec_l25Out.f kj1 l0_0 l0_1 a0_3).bind fun t157 => (if t157 ≥ 0 then (some (decide (t157 ≤ a0_4))) else (some false))) else (some false)) else (none)) else (none)) else (some false)) = some r := by rw [← hbq27] at H; exact H
     have Nbq27 := Aside0.mk hbq27
     clear hbq27
     by_cases c28 : bq27 = true
     ·
      subst c28
      have H1 : (if 0 ≤ a0_3 then (if a0_3 < (l0_1.length : Int) then (if rdOf false l0_1 a0_3 = true then ((spec_l25Out.f kj1 l0_0 l0_1 a0_3).bind fun t157 => (if t157 ≥ 0 then (some (decide (t157 ≤ a0_4))) else (some false))) else (some false)) else (none)) else (none)) = some r := by rw [if_pos rfl] at H; exact H
      clear H
      have H := H1
      clear H1
      by_cases c29 : 0 ≤ a0_3
      ·
       rw [if_pos c29] at H
       have c29b0 : decide (0 ≤ a0_3) = true := decide_eq_true c29
       clear c29
       by_cases c30 : a0_3 < (l0_1.length : Int)
       ·
        rw [if_pos c30] at H
        have c30b0 : decide (a0_3 < (l0_1.length : Int)) = true := decide_eq_true c30; clear c30
        obtain ⟨bq31, hbq31⟩ : ∃ b_ : Bool, b_ = (rdOf false l0_1 a0_3) := ⟨_, rfl⟩
        replace H : (if bq31 = true then ((spec_l25Out.f kj1 l0_0 l0_1 a0_3).bind fun t157 => (if t157 ≥ 0 then (some (decide (t157 ≤ a0_4))) else (some false))) else (some false)) = some r := by rw [← hbq31] at H; exact H
        have Nbq31 := Aside0.mk hbq31; clear hbq31
        by_cases c32 : bq31 = true
        ·
         subst c32
         have H1 : ((spec_l25Out.f kj1 l0_0 l0_1 a0_3).bind fun t157 => (if t157 ≥ 0 then (some (decide (t157 ≤ a0_4))) else (some false))) = some r := by rw [if_pos rfl] at H; exact H
         clear H; have H := H1; clear H1; replace H := Option.bind_eq_some_iff.mp H; obtain ⟨t157, A330, H⟩ := H; replace H : (if t157 ≥ 0 then (some (decide (t157 ≤ a0_4))) else (some false)) = some r := H; have A33 := Aside0.mk A330; clear A330
         by_cases c34 : t157 ≥ 0
         ·
          rw [if_pos c34] at H
          have c34b0 : decide (0 ≤ t157) = true := decide_eq_true c34; clear c34; obtain rfl := Option.some.inj H; obtain ⟨hcz35_0, hcz35_1, hcz35_2, hcz35_3, hcz35_4⟩ := cz5_ BK151.out; obtain ⟨hfz35_0, hfz35_1, hfz35_2, hfz35_3, hfz35_4⟩ := fz5_ BK151.out
          have p155 : 0 ≤ (0 : Int) := (by omega)
          have q155 : 0 < (l0_1.length : Int) := dt_; obtain ⟨ad155, e155, hx155_0⟩ := Kd.at_bool HR0_1.out 0 p155 q155; (try rw [← Nbq27.out] at hx155_0); (try rw [← Nbq31.out] at hx155_0)
          cases e155
          have qi155 : (0 < l0_1.length) = True := eq_true (by omega); (try rw [show ((0 : Int)).toNat = 0 from rfl] at hx155_0); (try rw [Addr.add_zero'] at hx155_0); replace hx155_0 := bc_ HB.out hx155_0; replace p155 := eq_true p155; replace q155 := eq_true q155; have p156 : 0 ≤ (a0_3 : Int) := dt_; have q156 : a0_3 < (l0_1.length : Int) := dt_; obtain ⟨ad156, e156, hx156_0⟩ := Kd.at_bool HR0_1.out a0_3 p156 q156; (try rw [← Nbq27.out] at hx156_0); (try rw [← Nbq31.out] at hx156_0)
          obtain rfl : ad155 = ad156 := (by injection e156)
          replace hx156_0 := bc_ HB.out hx156_0; replace p156 := eq_true p156; replace q156 := eq_true q156
          go_wp2_with (first | ((with_reducible refine gate_callee (f := 47) rfl ?_); refine ga_ (some 52) Tryd.func47 #[.slice A0_0 l0_0.length c0_0, .slice (some ad155) l0_1.length c0_1, .int .i64 a0_3] ?_; (with_reducible refine (spec_l25Out.calls kj1 _ _ l0_0 _ _ l0_1 a0_3 t157 _ ?side1 ?side2 ?side3 ?side4 A33.out).mono ?_); (case side1 => exact kc_ (Kd.C_below HR0_0.out HB.out)); (case side2 => exact HC0_0.out); (case side3 => exact kc_ (Kd.C_below HR0_1.out HB.out)); (case side4 => exact HC0_1.out); rintro e w36 ⟨rfl, hb⟩; refine ⟨_, rfl, ?_⟩; replace BK151 := Aside0.mk (bb_ (bk_ BK151.out) hb); replace HB := Aside0.mk (below_step (lb1_ HB.out GE151.out) hb); (try clear hb); (try clear hb2); (try clear hk); (try clear hi); obtain ⟨hcz37_0, hcz37_1, hcz37_2, hcz37_3, hcz37_4⟩ := cz5_ BK151.out; obtain ⟨hfz37_0, hfz37_1, hfz37_2, hfz37_3, hfz37_4⟩ := fz5_ BK151.out))
          go_ret
          exact ⟨rr_, lb1_ HB.out GE151.out⟩
         ·
          rw [if_neg c34] at H
          have c34b0 : decide (0 ≤ t157) = false := decide_eq_false c34; clear c34; obtain rfl := Option.some.inj H; obtain ⟨hcz38_0, hcz38_1, hcz38_2, hcz38_3, hcz38_4⟩ := cz5_ BK151.out; obtain ⟨hfz38_0, hfz38_1, hfz38_2, hfz38_3, hfz38_4⟩ := fz5_ BK151.out
          have p155 : 0 ≤ (0 : Int) := (by omega)
          have q155 : 0 < (l0_1.length : Int) := dt_; obtain ⟨ad155, e155, hx155_0⟩ := Kd.at_bool HR0_1.out 0 p155 q155; (try rw [← Nbq27.out] at hx155_0); (try rw [← Nbq31.out] at hx155_0)
          cases e155
          have qi155 : (0 < l0_1.length) = True := eq_true (by omega); (try rw [show ((0 : Int)).toNat = 0 from rfl] at hx155_0); (try rw [Addr.add_zero'] at hx155_0); replace hx155_0 := bc_ HB.out hx155_0; replace p155 := eq_true p155; replace q155 := eq_true q155; have p156 : 0 ≤ (a0_3 : Int) := dt_; have q156 : a0_3 < (l0_1.length : Int) := dt_; obtain ⟨ad156, e156, hx156_0⟩ := Kd.at_bool HR0_1.out a0_3 p156 q156; (try rw [← Nbq27.out] at hx156_0); (try rw [← Nbq31.out] at hx156_0)
          obtain rfl : ad155 = ad156 := (by injection e156)
          replace hx156_0 := bc_ HB.out hx156_0; replace p156 := eq_true p156; replace q156 := eq_true q156
          go_wp2_with (first | ((with_reducible refine gate_callee (f := 47) rfl ?_); refine ga_ (some 52) Tryd.func47 #[.slice A0_0 l0_0.length c0_0, .slice (some ad155) l0_1.length c0_1, .int .i64 a0_3] ?_; (with_reducible refine (spec_l25Out.calls kj1 _ _ l0_0 _ _ l0_1 a0_3 t157 _ ?side1 ?side2 ?side3 ?side4 A33.out).mono ?_); (case side1 => exact kc_ (Kd.C_below HR0_0.out HB.out)); (case side2 => exact HC0_0.out); (case side3 => exact kc_ (Kd.C_below HR0_1.out HB.out)); (case side4 => exact HC0_1.out); rintro e w39 ⟨rfl, hb⟩; refine ⟨_, rfl, ?_⟩; replace BK151 := Aside0.mk (bb_ (bk_ BK151.out) hb); replace HB := Aside0.mk (below_step (lb1_ HB.out GE151.out) hb); (try clear hb); (try clear hb2); (try clear hk); (try clear hi)))
          go_ret
          exact ⟨rr_, lb1_ HB.out GE151.out⟩
        ·
         replace c32 := Bool.eq_false_iff.mpr c32; subst c32
         have H1 : (some false) = some r := by rw [if_neg (show ¬ (false = true) by decide)] at H; exact H
         clear H; have H := H1; clear H1; obtain rfl := Option.some.inj H; obtain ⟨hcz40_0, hcz40_1, hcz40_2, hcz40_3, hcz40_4⟩ := cz5_ BK151.out; obtain ⟨hfz40_0, hfz40_1, hfz40_2, hfz40_3, hfz40_4⟩ := fz5_ BK151.out
         have p155 : 0 ≤ (0 : Int) := (by omega)
         have q155 : 0 < (l0_1.length : Int) := dt_; obtain ⟨ad155, e155, hx155_0⟩ := Kd.at_bool HR0_1.out 0 p155 q155; (try rw [← Nbq27.out] at hx155_0); (try rw [← Nbq31.out] at hx155_0)
         cases e155
         have qi155 : (0 < l0_1.length) = True := eq_true (by omega); (try rw [show ((0 : Int)).toNat = 0 from rfl] at hx155_0); (try rw [Addr.add_zero'] at hx155_0); replace hx155_0 := bc_ HB.out hx155_0; replace p155 := eq_true p155; replace q155 := eq_true q155; have p156 : 0 ≤ (a0_3 : Int) := dt_; have q156 : a0_3 < (l0_1.length : Int) := dt_; obtain ⟨ad156, e156, hx156_0⟩ := Kd.at_bool HR0_1.out a0_3 p156 q156; (try rw [← Nbq27.out] at hx156_0); (try rw [← Nbq31.out] at hx156_0)
         obtain rfl : ad155 = ad156 := (by injection e156)
         replace hx156_0 := bc_ HB.out hx156_0; replace p156 := eq_true p156; replace q156 := eq_true q156
         go_wp2
         go_ret
         exact ⟨rr_, lb1_ HB.out GE151.out⟩
       ·
        rw [if_neg c30] at H
        exact absurd H (by simp)
      ·
       rw [if_neg c29] at H
       exact absurd H (by simp)
     ·
      replace c28 := Bool.eq_false_iff.mpr c28
      subst c28
      have H1 : (some false) = some r := by rw [if_neg (show ¬ (false = true) by decide)] at H; exact H
      clear H
      have H := H1
      clear H1
      obtain rfl := Option.some.inj H
      obtain ⟨hcz41_0, hcz41_1, hcz41_2, hcz41_3, hcz41_4⟩ := cz5_ BK151.out
      obtain ⟨hfz41_0, hfz41_1, hfz41_2, hfz41_3, hfz41_4⟩ := fz5_ BK151.out
      have p155 : 0 ≤ (0 : Int) := (by omega)
      have q155 : 0 < (l0_1.length : Int) := dt_
      obtain ⟨ad155, e155, hx155_0⟩ := Kd.at_bool HR0_1.out 0 p155 q155
      (try rw [← Nbq27.out] at hx155_0)
      cases e155
      have qi155 : (0 < l0_1.length) = True := eq_true (by omega)
      (try rw [show ((0 : Int)).toNat = 0 from rfl] at hx155_0)
      (try rw [Addr.add_zero'] at hx155_0)
      replace hx155_0 := bc_ HB.out hx155_0
      replace p155 := eq_true p155
      replace q155 := eq_true q155
      go_wp2
      go_ret
      exact ⟨rr_, lb1_ HB.out GE151.out⟩
    ·
     rw [if_neg c26] at H
     exact absurd H (by simp)
end Go.Proofs.YtckigdechhmegaaDoor.Pr

namespace Go.Proofs.YtckigdechhmegaaDoor.Pr
open Go.RowKit Go.Proofs.YtckigdechhmegaaDoorW.PrintWords Go.Proofs.YtckigdechhmegaaDoorW.PrintLast Go.Proofs.YtckigdechhmegaaDoorW.PrintMore
attribute [local go_sem] max2_int min2_int max_two min_two max_three min_three max_four min_four sc_in sx_in   -- for this text's walks alone
set_option linter.unusedVariables false
set_option linter.unusedSimpArgs false
def spec_l1Split.l0 : Nat → ByteArray → Int → List ByteArray → Int → Int → Option (List ByteArray)
 | 0, _, _, _, _, _ => none
 | k + 1, x0, x1, x5, x6, x7 => if x7 < (x0.size : Int) then (if 0 ≤ x7 then (if (bt x0 x7) = x1 then (if 0 ≤ x6 then (if x6 ≤ x7 then (if x7 ≤ (x0.size : Int) then (if x5.length < 8796093022208 then (spec_l1Split.l0 k x0 x1 (x5 ++ [sx x0 ((x6 : Int).toNat) ((x7 : Int).toNat)]) (wrap64 (x7 + 1)) (wrap64 (x7 + 1))) else (none)) else (none)) else (none)) else (none)) else (spec_l1Split.l0 k x0 x1 x5 x6 (wrap64 (x7 + 1)))) else (none)) else (if 0 ≤ x6 then (if x6 ≤ (x0.size : Int) then (if x5.length < 8796093022208 then (some (x5 ++ [sx x0 ((x6 : Int).toNat) (x0.size)])) else (none)) else (none)) else (none))
def spec_l1Split.f (k : Nat) (a0 : ByteArray) (a1 : Int) : Option (List ByteArray) := spec_l1Split.l0 k a0 a1 (([] : List ByteArray)) 0 0
theorem spec_l1Split.calls (k : Nat) (a0 : ByteArray) (a1 : Int) (r : List ByteArray) (w : World) (h : spec_l1Split.f k a0 a1 = some r) :
  Calls Tryd.prog 58 #[.string a0, .int .u8 a1] w fun e w' => ∃ v0_ : Value, e = .returned (v0_) ∧ Kd.R Kd.string 9 w' w.heap.size (fun _ => True) v0_ r ∧ Below w.heap.size w w' := by
 have HB := Aside0.mk (Below.refl w.heap.size w)
 have H : (spec_l1Split.l0 k a0 a1 (([] : List ByteArray)) 0 0) = some r := h
 clear h
 obtain ⟨y158, hy158⟩ : ∃ y_ : List ByteArray, y_ = (([] : List ByteArray)) := ⟨_, rfl⟩
 replace H : (spec_l1Split.l0 k a0 a1 y158 0 0) = some r := by first | (rw [hy158]; with_reducible exact H) | (have H2_ := (Option.bind_some _ _).symm.trans H; rw [hy158]; with_reducible exact H2_) | (have H2_ := (Option.bind_some _ _).symm.trans H; with_reducible exact H2_) | with_reducible exact H | (rw [hy158]; exact H) | exact H
 have Ny158 := Aside0.mk hy158
 clear hy158
 have H' := Aside0.mk H
 clear H
 go_enter Tryd.func58, Tryd.ntmps58
 go_wp2_with (first | ((with_reducible refine gate_dst (N := 8) rfl ?_); refine Kd.R_lit Kd.string _ 9 ?hg (N := 8) ?hd (xs := ([] : List ByteArray)) (inner := []) (ok := fun _ => True) (okp := fun _ => True) ?hr ?hp (fun _ hk => hk) trivial (Below.refl _ _) (Nat.le_refl _) (by simp) ?_; (case hd => rfl); (case hg => rfl); (case hr => first | (go_simp; done) | (go_simp; rfl)); (case hp => exact (Reps.none _ _)); intro v159 w3 ho4 hb hg_ hnew_; clear hg_ hnew_; replace ho4 := ry_ Ny158.out ho4; have HO160 := Aside0.mk (Kd.R_lower ho4 (below_size (lb0_ HB.out))); replace HB := Aside0.mk (below_step (lb0_ HB.out) hb); clear hb ho4))
 go_loopg [5, 6, 7] k (fun kq v5 v6 v7 w' => ∃ (x5_1 : List ByteArray) (x6_1 : Int) (x7_1 : Int), v6 = .int .i64 x6_1 ∧ v7 = .int .i64 x7_1 ∧ Aside0 (spec_l1Split.l0 kq a0 a1 x5_1 x6_1 x7_1 = some r) ∧ Aside0 (kq ≤ k) ∧ Aside0 (Kd.R Kd.string 9 w' w.heap.size (fun _ => True) v5 x5_1) ∧ Aside0 (Below w.heap.size w w'))
 case atStart => exact ⟨(y158), (0), (0), (by first | rfl | (simp; done) | (simp [*]; done)), (by first | rfl | (simp; done) | (simp [*]; done)), H', ⟨Nat.le_refl _⟩, ⟨kr_ HO160.out⟩, ⟨lb0_ HB.out⟩⟩
 case round =>
  clear H'
  try clear p2
  obtain ⟨x5_1, x6_1, x7_1, rfl, rfl, HA, HK1, HO_5, HB⟩ := hrel
  cases gk with
  | zero => exact absurd HA.out (by simp [spec_l1Split.l0])
  | succ k1 =>
   have H := HA.out
   clear HA
   simp only [spec_l1Split.l0] at H
   by_cases c5 : x7_1 < (a0.size : Int)
   ·
    rw [if_pos c5] at H
    have c5b0 : decide (x7_1 < (a0.size : Int)) = true := decide_eq_true c5
    clear c5
    by_cases c6 : 0 ≤ x7_1
    ·
     rw [if_pos c6] at H
     have c6b0 : decide (0 ≤ x7_1) = true := decide_eq_true c6
     clear c6
     by_cases c8 : (bt a0 x7_1) = a1
     ·
      rw [if_pos c8] at H
      have c8b0 : ((bt a0 x7_1) == a1) = true := beq_iff_eq.mpr c8
      have c8b1 : ((bt a0 x7_1) != a1) = false := bne_eq_false_iff_eq.mpr c8
      clear c8
      by_cases c9 : 0 ≤ x6_1
      ·
       rw [if_pos c9] at H
       have c9b0 := eq_true c9
       have c9b1 : decide (0 ≤ x6_1) = true := decide_eq_true c9
       clear c9
       by_cases c10 : x6_1 ≤ x7_1
       ·
        rw [if_pos c10] at H
        have c10b0 := eq_true c10; have c10b1 : decide (x6_1 ≤ x7_1) = true := decide_eq_true c10; clear c10
        by_cases c11 : x7_1 ≤ (a0.size : Int)
        ·
         rw [if_pos c11] at H
         have c11b0 := eq_true c11; have c11b1 : decide (x7_1 ≤ (a0.size : Int)) = true := decide_eq_true c11; clear c11
         by_cases c12 : x5_1.length < 8796093022208
         ·
          rw [if_pos c12] at H
          have LMc12 := Aside0.mk c12; clear c12
          obtain ⟨y161, hy161⟩ : ∃ y_ : List ByteArray, y_ = (x5_1 ++ [sx a0 ((x6_1 : Int).toNat) ((x7_1 : Int).toNat)]) := ⟨_, rfl⟩
          replace H : (spec_l1Split.l0 k1 a0 a1 y161 (wrap64 (x7_1 + 1)) (wrap64 (x7_1 + 1))) = some r := by first | (rw [hy161]; with_reducible exact H) | (have H2_ := (Option.bind_some _ _).symm.trans H; rw [hy161]; with_reducible exact H2_) | (have H2_ := (Option.bind_some _ _).symm.trans H; with_reducible exact H2_) | with_reducible exact H | (rw [hy161]; exact H) | exact H
          have Ny161 := Aside0.mk hy161; clear hy161; have H' := Aside0.mk H; clear H; have p7 : 0 ≤ (x7_1 : Int) := dt_; have q7 : x7_1 < (a0.size : Int) := dt_; have hx7 := bt_at a0 x7_1; replace p7 := eq_true p7; replace q7 := eq_true q7
          go_wp2_with (first | ((with_reducible refine gate_builtin (b := .append) (xs := #[.tmp 20, .tmp 25]) rfl ?_); at_builtin; refine Kd.R_append Kd.string (w0 := w) w.heap.size rfl (.tmp 20) (.tmp 25) 94 9 (.string ⟨#[]⟩) 16 rfl Tryd.underlying94 info9 rfl (by decide) (by omega) u5 x5_1 (sx a0 ((x6_1 : Int).toNat) ((x7_1 : Int).toNat)) [.string (sx a0 ((x6_1 : Int).toNat) ((x7_1 : Int).toNat))] (fun _ => True) (fun _ => False) rfl rfl ?aP (fun _ hk => hk.elim) ?aF ?aO ?aB ?aS ?aL ?_; (case aP => exact rfl); (case aB => exact (lb0_ HB.out)); (case aF => exact (fun _ _ => trivial)); (case aO => exact (kr_ HO_5.out)); (case aS => exact (below_size (lb0_ HB.out))); (case aL => have := LMc12.out; omega); intro v162 w13 ho hb hg hat; rw [← Ny161.out] at ho; replace HB := Aside0.mk (hb); have HO163 := Aside0.mk (ho); clear HO_5; clear ho hb hg hat))
          go_roundg k1
          case measure => have := HK1.out; omega
          case rel => exact ⟨(y161), (wrap64 (x7_1 + 1)), (wrap64 (x7_1 + 1)), (by first | rfl | (simp; done) | (simp [*]; done)), (by first | rfl | (simp; done) | (simp [*]; done)), H', ⟨by have := HK1.out; omega⟩, ⟨kr_ HO163.out⟩, ⟨lb0_ HB.out⟩⟩
         ·
          rw [if_neg c12] at H
          exact absurd H (by simp)
        ·
         rw [if_neg c11] at H
         exact absurd H (by simp)
       ·
        rw [if_neg c10] at H
        exact absurd H (by simp)
      ·
       rw [if_neg c9] at H
       exact absurd H (by simp)
     ·
      rw [if_neg c8] at H
      have c8b0 : ((bt a0 x7_1) == a1) = false := beq_eq_false_iff_ne.mpr c8
      have c8b1 : ((bt a0 x7_1) != a1) = true := bne_iff_ne.mpr c8
      have H' := Aside0.mk H
      clear H
      have p7 : 0 ≤ (x7_1 : Int) := dt_
      have q7 : x7_1 < (a0.size : Int) := dt_
      have hx7 := bt_at a0 x7_1
      replace p7 := eq_true p7
      replace q7 := eq_true q7
      go_wp2
      go_roundg k1
      case measure => have := HK1.out; omega
      case rel => exact ⟨(x5_1), (x6_1), (wrap64 (x7_1 + 1)), (by first | rfl | (simp; done) | (simp [*]; done)), (by first | rfl | (simp; done) | (simp [*]; done)), H', ⟨by have := HK1.out; omega⟩, ⟨kr_ HO_5.out⟩, ⟨lb0_ HB.out⟩⟩
    ·
     rw [if_neg c6] at H
     exact absurd H (by simp)
   ·
    rw [if_neg c5] at H
    have c5b0 : decide (x7_1 < (a0.size : Int)) = false := decide_eq_false c5
    clear c5
    by_cases c14 : 0 ≤ x6_1
    ·
     rw [if_pos c14] at H
     have c14b0 := eq_true c14
     have c14b1 : decide (0 ≤ x6_1) = true := decide_eq_true c14
     clear c14
     by_cases c15 : x6_1 ≤ (a0.size : Int)
     ·
      rw [if_pos c15] at H
      have c15b0 := eq_true c15
      have c15b1 : decide (x6_1 ≤ (a0.size : Int)) = true := decide_eq_true c15
      clear c15
      by_cases c16 : x5_1.length < 8796093022208
      ·
       rw [if_pos c16] at H
       have LMc16 := Aside0.mk c16
       clear c16
       obtain ⟨y164, hy164⟩ : ∃ y_ : List ByteArray, y_ = (x5_1 ++ [sx a0 ((x6_1 : Int).toNat) (a0.size)]) := ⟨_, rfl⟩
       replace H : (some y164) = some r := by first | (rw [hy164]; with_reducible exact H) | (have H2_ := (Option.bind_some _ _).symm.trans H; rw [hy164]; with_reducible exact H2_) | (have H2_ := (Option.bind_some _ _).symm.trans H; with_reducible exact H2_) | with_reducible exact H | (rw [hy164]; exact H) | exact H
       have Ny164 := Aside0.mk hy164
       clear hy164
       obtain rfl := Option.some.inj H
       go_wp2_with (first | ((with_reducible refine gate_builtin (b := .append) (xs := #[.tmp 29, .tmp 33]) rfl ?_); at_builtin; refine Kd.R_append Kd.string (w0 := w) w.heap.size rfl (.tmp 29) (.tmp 33) 94 9 (.string ⟨#[]⟩) 16 rfl Tryd.underlying94 info9 rfl (by decide) (by omega) u5 x5_1 (sx a0 ((x6_1 : Int).toNat) (a0.size)) [.string (sx a0 ((x6_1 : Int).toNat) (a0.size))] (fun _ => True) (fun _ => False) rfl rfl ?aP (fun _ hk => hk.elim) ?aF ?aO ?aB ?aS ?aL ?_; (case aP => exact rfl); (case aB => exact (lb0_ HB.out)); (case aF => exact (fun _ _ => trivial)); (case aO => exact (kr_ HO_5.out)); (case aS => exact (below_size (lb0_ HB.out))); (case aL => have := LMc16.out; omega); intro v165 w17 ho hb hg hat; rw [← Ny164.out] at ho; replace HB := Aside0.mk (hb); have HO166 := Aside0.mk (ho); clear HO_5; clear ho hb hg hat))
       go_ret
       exact ⟨_, rr_, kr_ HO166.out, lb0_ HB.out⟩
      ·
       rw [if_neg c16] at H
       exact absurd H (by simp)
     ·
      rw [if_neg c15] at H
      exact absurd H (by simp)
    ·
     rw [if_neg c14] at H
     exact absurd H (by simp)
end Go.Proofs.YtckigdechhmegaaDoor.Pr

namespace Go.Proofs.YtckigdechhmegaaDoor.Pr
open Go.RowKit Go.Proofs.YtckigdechhmegaaDoorW.PrintWords Go.Proofs.YtckigdechhmegaaDoorW.PrintLast Go.Proofs.YtckigdechhmegaaDoorW.PrintMore
attribute [local go_sem] max2_int min2_int max_two min_two max_three min_three max_four min_four   -- for this text's walks alone
set_option linter.unusedVariables false
set_option linter.unusedSimpArgs false
def spec_l27Plain.l0 : Nat → ByteArray → Int → Int → Option (Bool)
 | 0, _, _, _ => none
 | k + 1, x0, x1, x5 => if x5 < (x0.size : Int) then (if 0 ≤ x5 then ((spec_l1In.f (wrap64 (bt x0 x5)) 32 126).bind fun t169 => (if t169 = true then (if (bt x0 x5) = 35 then (some false) else (spec_l27Plain.l0 k x0 x1 (wrap64 (x5 + 1)))) else (some false))) else (none)) else (some (decide ((x0.size : Int) ≤ x1)))
def spec_l27Plain.f (k : Nat) (a0 : ByteArray) (a1 : Int) : Option (Bool) := spec_l27Plain.l0 k a0 a1 0
theorem spec_l27Plain.calls (k : Nat) (a0 : ByteArray) (a1 : Int) (r : Bool) (w : World) (h : spec_l27Plain.f k a0 a1 = some r) :
  Calls Tryd.prog 78 #[.string a0, .int .i64 a1] w fun e w' => e = .returned (.bool r) ∧ Drawn0 w w' := by
 have H : (spec_l27Plain.l0 k a0 a1 0) = some r := h
 clear h
 have H' := Aside0.mk H
 clear H
 go_enter Tryd.func78, Tryd.ntmps78
 go_wp2
 go_loopg [5] k (fun kq v5 w' => ∃ (x5_1 : Int), v5 = .int .i64 x5_1 ∧ Aside0 (spec_l27Plain.l0 kq a0 a1 x5_1 = some r) ∧ Aside0 (kq ≤ k) ∧ Drawn0 w w')
 case atStart => exact ⟨(0), (by first | rfl | (simp; done) | (simp [*]; done)), H', ⟨Nat.le_refl _⟩, by repeat (first | exact Drawn0.refl _ | apply Drawn0.step)⟩
 case round =>
  clear H'
  try clear p2
  obtain ⟨x5_1, rfl, HA, HK1, ⟨m1, rfl⟩⟩ := hrel
  cases gk with
  | zero => exact absurd HA.out (by simp [spec_l27Plain.l0])
  | succ k1 =>
   have H := HA.out
   clear HA
   simp only [spec_l27Plain.l0] at H
   by_cases c3 : x5_1 < (a0.size : Int)
   ·
    rw [if_pos c3] at H
    have c3b0 : decide (x5_1 < (a0.size : Int)) = true := decide_eq_true c3
    clear c3
    by_cases c4 : 0 ≤ x5_1
    ·
     rw [if_pos c4] at H
     have c4b0 : decide (0 ≤ x5_1) = true := decide_eq_true c4
     clear c4
     replace H := Option.bind_eq_some_iff.mp H
     obtain ⟨t169, A60, H⟩ := H
     replace H : (if t169 = true then (if (bt a0 x5_1) = 35 then (some false) else (spec_l27Plain.l0 k1 a0 a1 (wrap64 (x5_1 + 1)))) else (some false)) = some r := H
     have A6 := Aside0.mk A60
     clear A60
     by_cases c7 : t169 = true
     ·
      subst c7
      have H1 : (if (bt a0 x5_1) = 35 then (some false) else (spec_l27Plain.l0 k1 a0 a1 (wrap64 (x5_1 + 1)))) = some r := by rw [if_pos rfl] at H; exact H
      clear H
      have H := H1
      clear H1
      by_cases c9 : (bt a0 x5_1) = 35
      ·
       rw [if_pos c9] at H
       have c9b0 : ((bt a0 x5_1) == 35) = true := beq_iff_eq.mpr c9
       have c9b1 : ((bt a0 x5_1) != 35) = false := bne_eq_false_iff_eq.mpr c9
       clear c9
       obtain rfl := Option.some.inj H
       have p5 : 0 ≤ (x5_1 : Int) := dt_
       have q5 : x5_1 < (a0.size : Int) := dt_
       have hx5 := bt_at a0 x5_1
       replace p5 := eq_true p5
       replace q5 := eq_true q5
       go_wp2_with (first | ((with_reducible refine gate_callee (f := 46) rfl ?_); refine ga_ (some 16) Tryd.func46 #[.int .i64 (wrap64 (bt a0 x5_1)), .int .i64 32, .int .i64 126] ?_; (with_reducible refine (spec_l1In.calls (wrap64 (bt a0 x5_1)) 32 126 true _ A6.out).mono ?_); rintro e w' ⟨rfl, ⟨nd, rfl⟩⟩; refine ⟨_, rfl, ?_⟩; have p8 : 0 ≤ (x5_1 : Int) := dt_; have q8 : x5_1 < (a0.size : Int) := dt_; have hx8 := bt_at a0 x5_1; replace p8 := eq_true p8; replace q8 := eq_true q8))
       go_ret
       exact ⟨by first | rfl | (simp; done) | (simp [*]; done), by repeat (first | exact Drawn0.refl _ | apply Drawn0.step)⟩
      ·
       rw [if_neg c9] at H
       have c9b0 : ((bt a0 x5_1) == 35) = false := beq_eq_false_iff_ne.mpr c9
       have c9b1 : ((bt a0 x5_1) != 35) = true := bne_iff_ne.mpr c9
       have H' := Aside0.mk H
       clear H
       have p5 : 0 ≤ (x5_1 : Int) := dt_
       have q5 : x5_1 < (a0.size : Int) := dt_
       have hx5 := bt_at a0 x5_1
       replace p5 := eq_true p5
       replace q5 := eq_true q5
       go_wp2_with (first | ((with_reducible refine gate_callee (f := 46) rfl ?_); refine ga_ (some 16) Tryd.func46 #[.int .i64 (wrap64 (bt a0 x5_1)), .int .i64 32, .int .i64 126] ?_; (with_reducible refine (spec_l1In.calls (wrap64 (bt a0 x5_1)) 32 126 true _ A6.out).mono ?_); rintro e w' ⟨rfl, ⟨nd, rfl⟩⟩; refine ⟨_, rfl, ?_⟩; have p8 : 0 ≤ (x5_1 : Int) := dt_; have q8 : x5_1 < (a0.size : Int) := dt_; have hx8 := bt_at a0 x5_1; replace p8 := eq_true p8; replace q8 := eq_true q8))
       go_roundg k1
       case measure => have := HK1.out; omega
       case rel => exact ⟨(wrap64 (x5_1 + 1)), (by first | rfl | (simp; done) | (simp [*]; done)), H', ⟨by have := HK1.out; omega⟩, by repeat (first | exact Drawn0.refl _ | apply Drawn0.step)⟩
     ·
      replace c7 := Bool.eq_false_iff.mpr c7
      subst c7
      have H1 : (some false) = some r := by rw [if_neg (show ¬ (false = true) by decide)] at H; exact H
      clear H
      have H := H1
      clear H1
      obtain rfl := Option.some.inj H
      have p5 : 0 ≤ (x5_1 : Int) := dt_
      have q5 : x5_1 < (a0.size : Int) := dt_
      have hx5 := bt_at a0 x5_1
      replace p5 := eq_true p5
      replace q5 := eq_true q5
      go_wp2_with (first | ((with_reducible refine gate_callee (f := 46) rfl ?_); refine ga_ (some 16) Tryd.func46 #[.int .i64 (wrap64 (bt a0 x5_1)), .int .i64 32, .int .i64 126] ?_; (with_reducible refine (spec_l1In.calls (wrap64 (bt a0 x5_1)) 32 126 false _ A6.out).mono ?_); rintro e w' ⟨rfl, ⟨nd, rfl⟩⟩; refine ⟨_, rfl, ?_⟩))
      go_ret
      exact ⟨by first | rfl | (simp; done) | (simp [*]; done), by repeat (first | exact Drawn0.refl _ | apply Drawn0.step)⟩
    ·
     rw [if_neg c4] at H
     exact absurd H (by simp)
   ·
    rw [if_neg c3] at H
    have c3b0 : decide (x5_1 < (a0.size : Int)) = false := decide_eq_false c3
    clear c3
    obtain rfl := Option.some.inj H
    go_wp2
    go_ret
    exact ⟨by first | rfl | (simp; done) | (simp [*]; done), by repeat (first | exact Drawn0.refl _ | apply Drawn0.step)⟩
def spec_l1Stands.l0 : Nat → ByteArray → Int → Int → Option (Bool)
 | 0, _, _, _ => none
 | k + 1, x0, x1, x5 => if x5 < (x0.size : Int) then (if 0 ≤ x5 then (if (bt x0 x5) = x1 then (some true) else (spec_l1Stands.l0 k x0 x1 (wrap64 (x5 + 1)))) else (none)) else (some false)
def spec_l1Stands.f (k : Nat) (a0 : ByteArray) (a1 : Int) : Option (Bool) := spec_l1Stands.l0 k a0 a1 0
theorem spec_l1Stands.calls (k : Nat) (a0 : ByteArray) (a1 : Int) (r : Bool) (w : World) (h : spec_l1Stands.f k a0 a1 = some r) :
  Calls Tryd.prog 79 #[.string a0, .int .u8 a1] w fun e w' => e = .returned (.bool r) ∧ Drawn0 w w' := by
 have H : (spec_l1Stands.l0 k a0 a1 0) = some r := h
 clear h
 have H' := Aside0.mk H
 clear H
 go_enter Tryd.func79, Tryd.ntmps79
 go_wp2
 go_loopg [5] k (fun kq v5 w' => ∃ (x5_1 : Int), v5 = .int .i64 x5_1 ∧ Aside0 (spec_l1Stands.l0 kq a0 a1 x5_1 = some r) ∧ Aside0 (kq ≤ k) ∧ Drawn0 w w')
 case atStart => exact ⟨(0), (by first | rfl | (simp; done) | (simp [*]; done)), H', ⟨Nat.le_refl _⟩, by repeat (first | exact Drawn0.refl _ | apply Drawn0.step)⟩
 case round =>
  clear H'
  try clear p2
  obtain ⟨x5_1, rfl, HA, HK1, ⟨m1, rfl⟩⟩ := hrel
  cases gk with
  | zero => exact absurd HA.out (by simp [spec_l1Stands.l0])
  | succ k1 =>
   have H := HA.out
   clear HA
   simp only [spec_l1Stands.l0] at H
   by_cases c3 : x5_1 < (a0.size : Int)
   ·
    rw [if_pos c3] at H
    have c3b0 : decide (x5_1 < (a0.size : Int)) = true := decide_eq_true c3
    clear c3
    by_cases c4 : 0 ≤ x5_1
    ·
     rw [if_pos c4] at H
     have c4b0 : decide (0 ≤ x5_1) = true := decide_eq_true c4
     clear c4
     by_cases c6 : (bt a0 x5_1) = a1
     ·
      rw [if_pos c6] at H
      have c6b0 : ((bt a0 x5_1) == a1) = true := beq_iff_eq.mpr c6
      have c6b1 : ((bt a0 x5_1) != a1) = false := bne_eq_false_iff_eq.mpr c6
      clear c6
      obtain rfl := Option.some.inj H
      have p5 : 0 ≤ (x5_1 : Int) := dt_
      have q5 : x5_1 < (a0.size : Int) := dt_
      have hx5 := bt_at a0 x5_1
      replace p5 := eq_true p5
      replace q5 := eq_true q5
      go_wp2
      go_ret
      exact ⟨by first | rfl | (simp; done) | (simp [*]; done), by repeat (first | exact Drawn0.refl _ | apply Drawn0.step)⟩
     ·
      rw [if_neg c6] at H
      have c6b0 : ((bt a0 x5_1) == a1) = false := beq_eq_false_iff_ne.mpr c6
      have c6b1 : ((bt a0 x5_1) != a1) = true := bne_iff_ne.mpr c6
      have H' := Aside0.mk H
      clear H
      have p5 : 0 ≤ (x5_1 : Int) := dt_
      have q5 : x5_1 < (a0.size : Int) := dt_
      have hx5 := bt_at a0 x5_1
      replace p5 := eq_true p5
      replace q5 := eq_true q5
      go_wp2
      go_roundg k1
      case measure => have := HK1.out; omega
      case rel => exact ⟨(wrap64 (x5_1 + 1)), (by first | rfl | (simp; done) | (simp [*]; done)), H', ⟨by have := HK1.out; omega⟩, by repeat (first | exact Drawn0.refl _ | apply Drawn0.step)⟩
    ·
     rw [if_neg c4] at H
     exact absurd H (by simp)
   ·
    rw [if_neg c3] at H
    have c3b0 : decide (x5_1 < (a0.size : Int)) = false := decide_eq_false c3
    clear c3
    obtain rfl := Option.some.inj H
    go_wp2
    go_ret
    exact ⟨by first | rfl | (simp; done) | (simp [*]; done), by repeat (first | exact Drawn0.refl _ | apply Drawn0.step)⟩
def spec_l27Good.f (k : Nat) (a0_0 : ByteArray) (a0_1 : ByteArray) : Option (Bool) := if a0_0.toList = ([] : List UInt8) then (some false) else ((spec_l27Plain.f k a0_0 160).bind fun t171 => (if t171 = true then ((spec_l1Stands.f k a0_0 64).bind fun t172 => (if t172 = true then (some false) else ((spec_l27Plain.f k a0_1 200).bind fun t173 => (some t173)))) else (some false)))
theorem spec_l27Good.calls (k : Nat) (a0_0 : ByteArray) (a0_1 : ByteArray) (r : Bool) (w : World) (h : spec_l27Good.f k a0_0 a0_1 = some r) :
  Calls Tryd.prog 66 #[.agg #[.string a0_0, .string a0_1]] w fun e w' => e = .returned (.bool r) ∧ Below w.heap.size w w' := by
 have hu97 := Tryd.underlying97
 have HB := Aside0.mk (Below.refl w.heap.size w)
 have H : (if a0_0.toList = ([] : List UInt8) then (some false) else ((spec_l27Plain.f k a0_0 160).bind fun t171 => (if t171 = true then ((spec_l1Stands.f k a0_0 64).bind fun t172 => (if t172 = true then (some false) else ((spec_l27Plain.f k a0_1 200).bind fun t173 => (some t173)))) else (some false)))) = some r := h
 clear h
 by_cases c2 : a0_0.toList = ([] : List UInt8)
 ·
  rw [if_pos c2] at H
  have c2b0 : (a0_0.toList == ([] : List UInt8)) = true := beq_iff_eq.mpr c2
  have c2b1 : (a0_0.toList != ([] : List UInt8)) = false := bne_eq_false_iff_eq.mpr c2
  clear c2
  obtain rfl := Option.some.inj H
  go_enter Tryd.func66, Tryd.ntmps66
  go_wp2_with (first | ((with_reducible refine gate_dst (N := 1) rfl ?_); refine box_event ?hg (N := 1) ?hd (cs := #[.string a0_0, .string a0_1]) (t := 97) ?hr ?_; (case hd => rfl); (case hg => rfl); (case hr => first | (go_simp; done) | (go_simp; rfl)); intro gb170 hg w3 hbox hb; have BK170 := Aside0.mk (hbox); have GW170 := Aside0.mk ((bz_ hg (lb0_ HB.out))); have GE170 := Aside0.mk ((bz_ hg (lb0_ HB.out))); replace HB := Aside0.mk (below_step (lb0_ HB.out) hb); clear hb hbox hg; obtain ⟨hcz4_0, hcz4_1⟩ := cz2_ BK170.out; obtain ⟨hfz4_0, hfz4_1⟩ := fz2_ BK170.out))
  go_ret
  exact ⟨rr_, lb1_ HB.out GE170.out⟩
 ·
  rw [if_neg c2] at H
  have c2b0 : (a0_0.toList == ([] : List UInt8)) = false := beq_eq_false_iff_ne.mpr c2
  have c2b1 : (a0_0.toList != ([] : List UInt8)) = true := bne_iff_ne.mpr c2
  replace H := Option.bind_eq_some_iff.mp H
  obtain ⟨t171, A50, H⟩ := H
  replace H : (if t171 = true then ((spec_l1Stands.f k a0_0 64).bind fun t172 => (if t172 = true then (some false) else ((spec_l27Plain.f k a0_1 200).bind fun t173 => (some t173)))) else (some false)) = some r := H
  have A5 := Aside0.mk A50
  clear A50
  by_cases c6 : t171 = true
  ·
   subst c6
   have H1 : ((spec_l1Stands.f k a0_0 64).bind fun t172 => (if t172 = true then (some false) else ((spec_l27Plain.f k a0_1 200).bind fun t173 => (some t173)))) = some r := by rw [if_pos rfl] at H; exact H
   clear H
   have H := H1
   clear H1
   replace H := Option.bind_eq_some_iff.mp H
   obtain ⟨t172, A70, H⟩ := H
   replace H : (if t172 = true then (some false) else ((spec_l27Plain.f k a0_1 200).bind fun t173 => (some t173))) = some r := H
   have A7 := Aside0.mk A70
   clear A70
   by_cases c8 : t172 = true
   ·
    subst c8
    have H1 : (some false) = some r := by rw [if_pos rfl] at H; exact H
    clear H
    have H := H1
    clear H1
    obtain rfl := Option.some.inj H
    go_enter Tryd.func66, Tryd.ntmps66
    go_wp2_with (first | ((with_reducible refine gate_dst (N := 1) rfl ?_); refine box_event ?hg (N := 1) ?hd (cs := #[.string a0_0, .string a0_1]) (t := 97) ?hr ?_; (case hd => rfl); (case hg => rfl); (case hr => first | (go_simp; done) | (go_simp; rfl)); intro gb170 hg w9 hbox hb; have BK170 := Aside0.mk (hbox); have GW170 := Aside0.mk ((bz_ hg (lb0_ HB.out))); have GE170 := Aside0.mk ((bz_ hg (lb0_ HB.out))); replace HB := Aside0.mk (below_step (lb0_ HB.out) hb); clear hb hbox hg; obtain ⟨hcz10_0, hcz10_1⟩ := cz2_ BK170.out; obtain ⟨hfz10_0, hfz10_1⟩ := fz2_ BK170.out) | (go_at_call 78; (with_reducible refine (spec_l27Plain.calls k a0_0 160 true _ A5.out).mono ?_); rintro e w' ⟨rfl, ⟨nd, rfl⟩⟩) | (go_at_call 79; (with_reducible refine (spec_l1Stands.calls k a0_0 64 true _ A7.out).mono ?_); rintro e w' ⟨rfl, ⟨nd, rfl⟩⟩))
    go_ret
    exact ⟨rr_, lb1_ HB.out GE170.out⟩
   ·
    replace c8 := Bool.eq_false_iff.mpr c8
    subst c8
    have H1 : ((spec_l27Plain.f k a0_1 200).bind fun t173 => (some t173)) = some r := by rw [if_neg (show ¬ (false = true) by decide)] at H; exact H
    clear H
    have H := H1
    clear H1
    replace H := Option.bind_eq_some_iff.mp H
    obtain ⟨t173, A110, H⟩ := H
    replace H : (some t173) = some r := H
    have A11 := Aside0.mk A110
    clear A110
    obtain rfl := Option.some.inj H
    go_enter Tryd.func66, Tryd.ntmps66
    go_wp2_with (first | ((with_reducible refine gate_dst (N := 1) rfl ?_); refine box_event ?hg (N := 1) ?hd (cs := #[.string a0_0, .string a0_1]) (t := 97) ?hr ?_; (case hd => rfl); (case hg => rfl); (case hr => first | (go_simp; done) | (go_simp; rfl)); intro gb170 hg w12 hbox hb; have BK170 := Aside0.mk (hbox); have GW170 := Aside0.mk ((bz_ hg (lb0_ HB.out))); have GE170 := Aside0.mk ((bz_ hg (lb0_ HB.out))); replace HB := Aside0.mk (below_step (lb0_ HB.out) hb); clear hb hbox hg; obtain ⟨hcz13_0, hcz13_1⟩ := cz2_ BK170.out; obtain ⟨hfz13_0, hfz13_1⟩ := fz2_ BK170.out) | (go_at_call 78; (with_reducible refine (spec_l27Plain.calls k a0_0 160 true _ A5.out).mono ?_); rintro e w' ⟨rfl, ⟨nd, rfl⟩⟩) | (go_at_call 79; (with_reducible refine (spec_l1Stands.calls k a0_0 64 false _ A7.out).mono ?_); rintro e w' ⟨rfl, ⟨nd, rfl⟩⟩) | (go_at_call 78; (with_reducible refine (spec_l27Plain.calls k a0_1 200 t173 _ A11.out).mono ?_); rintro e w' ⟨rfl, ⟨nd, rfl⟩⟩))
    go_ret
    exact ⟨rr_, lb1_ HB.out GE170.out⟩
  ·
   replace c6 := Bool.eq_false_iff.mpr c6
   subst c6
   have H1 : (some false) = some r := by rw [if_neg (show ¬ (false = true) by decide)] at H; exact H
   clear H
   have H := H1
   clear H1
   obtain rfl := Option.some.inj H
   go_enter Tryd.func66, Tryd.ntmps66
   go_wp2_with (first | ((with_reducible refine gate_dst (N := 1) rfl ?_); refine box_event ?hg (N := 1) ?hd (cs := #[.string a0_0, .string a0_1]) (t := 97) ?hr ?_; (case hd => rfl); (case hg => rfl); (case hr => first | (go_simp; done) | (go_simp; rfl)); intro gb170 hg w14 hbox hb; have BK170 := Aside0.mk (hbox); have GW170 := Aside0.mk ((bz_ hg (lb0_ HB.out))); have GE170 := Aside0.mk ((bz_ hg (lb0_ HB.out))); replace HB := Aside0.mk (below_step (lb0_ HB.out) hb); clear hb hbox hg; obtain ⟨hcz15_0, hcz15_1⟩ := cz2_ BK170.out; obtain ⟨hfz15_0, hfz15_1⟩ := fz2_ BK170.out) | (go_at_call 78; (with_reducible refine (spec_l27Plain.calls k a0_0 160 false _ A5.out).mono ?_); rintro e w' ⟨rfl, ⟨nd, rfl⟩⟩))
   go_ret
   exact ⟨rr_, lb1_ HB.out GE170.out⟩
def spec_l1Sum.l0 : Nat → ByteArray → Int → Int → Option (Int)
 | 0, _, _, _ => none
 | k + 1, x0, x3, x4 => if x4 < (x0.size : Int) then (if 0 ≤ x4 then (spec_l1Sum.l0 k x0 (Int.tmod (wrap64 ((wrap64 ((wrap64 (41 * x3)) + (wrap64 (bt x0 x4)))) + 1)) 999979) (wrap64 (x4 + 1))) else (none)) else (some x3)
def spec_l1Sum.f (k : Nat) (a0 : ByteArray) : Option (Int) := spec_l1Sum.l0 k a0 7 0
theorem spec_l1Sum.calls (k : Nat) (a0 : ByteArray) (r : Int) (w : World) (h : spec_l1Sum.f k a0 = some r) :
  Calls Tryd.prog 90 #[.string a0] w fun e w' => e = .returned (.int .i64 r) ∧ Drawn0 w w' := by
 have H : (spec_l1Sum.l0 k a0 7 0) = some r := h
 clear h
 have H' := Aside0.mk H
 clear H
 go_enter Tryd.func90, Tryd.ntmps90
 go_wp2
 go_loopg [3, 4] k (fun kq v3 v4 w' => ∃ (x3_1 : Int) (x4_1 : Int), v3 = .int .i64 x3_1 ∧ v4 = .int .i64 x4_1 ∧ Aside0 (spec_l1Sum.l0 kq a0 x3_1 x4_1 = some r) ∧ Aside0 (kq ≤ k) ∧ Drawn0 w w')
 case atStart => exact ⟨(7), (0), (by first | rfl | (simp; done) | (simp [*]; done)), (by first | rfl | (simp; done) | (simp [*]; done)), H', ⟨Nat.le_refl _⟩, by repeat (first | exact Drawn0.refl _ | apply Drawn0.step)⟩
 case round =>
  clear H'
  obtain ⟨x3_1, x4_1, rfl, rfl, HA, HK1, ⟨m1, rfl⟩⟩ := hrel
  cases gk with
  | zero => exact absurd HA.out (by simp [spec_l1Sum.l0])
  | succ k1 =>
   have H := HA.out
   clear HA
   simp only [spec_l1Sum.l0] at H
   by_cases c2 : x4_1 < (a0.size : Int)
   ·
    rw [if_pos c2] at H
    have c2b0 : decide (x4_1 < (a0.size : Int)) = true := decide_eq_true c2
    clear c2
    by_cases c3 : 0 ≤ x4_1
    ·
     rw [if_pos c3] at H
     have c3b0 : decide (0 ≤ x4_1) = true := decide_eq_true c3
     clear c3
     have H' := Aside0.mk H
     clear H
     have p4 : 0 ≤ (x4_1 : Int) := dt_
     have q4 : x4_1 < (a0.size : Int) := dt_
     have hx4 := bt_at a0 x4_1
     replace p4 := eq_true p4
     replace q4 := eq_true q4
     go_wp2
     go_roundg k1
     case measure => have := HK1.out; omega
     case rel => exact ⟨(Int.tmod (wrap64 ((wrap64 ((wrap64 (41 * x3_1)) + (wrap64 (bt a0 x4_1)))) + 1)) 999979), (wrap64 (x4_1 + 1)), (by first | rfl | (simp; done) | (simp [*]; done)), (by first | rfl | (simp; done) | (simp [*]; done)), H', ⟨by have := HK1.out; omega⟩, by repeat (first | exact Drawn0.refl _ | apply Drawn0.step)⟩
    ·
     rw [if_neg c3] at H
     exact absurd H (by simp)
   ·
    rw [if_neg c2] at H
    have c2b0 : decide (x4_1 < (a0.size : Int)) = false := decide_eq_false c2
    clear c2
    obtain rfl := Option.some.inj H
    go_wp2
    go_ret
    exact ⟨by first | rfl | (simp; done) | (simp [*]; done), by repeat (first | exact Drawn0.refl _ | apply Drawn0.step)⟩
end Go.Proofs.YtckigdechhmegaaDoor.Pr

namespace Go.Proofs.YtckigdechhmegaaDoor.Pr
open Go.RowKit Go.Proofs.YtckigdechhmegaaDoorW.PrintWords Go.Proofs.YtckigdechhmegaaDoorW.PrintLast Go.Proofs.YtckigdechhmegaaDoorW.PrintMore
attribute [local go_sem] max2_int min2_int max_two min_two max_three min_three max_four min_four sc_in sx_in   -- for this text's walks alone
set_option linter.unusedVariables false
set_option linter.unusedSimpArgs false
def spec_l1Seal.f (k : Nat) (a0 : ByteArray) : Option (ByteArray) := if a0.size + 1 ≤ 9223372036854775807 then ((spec_l1Sum.f k a0).bind fun t174 => ((spec_l1Num.f k t174).bind fun t175 => (if (sc a0 (⟨#[35]⟩ : ByteArray)).size + t175.size ≤ 9223372036854775807 then (some (sc (sc a0 (⟨#[35]⟩ : ByteArray)) t175)) else (none)))) else (none)
theorem spec_l1Seal.calls (k : Nat) (a0 : ByteArray) (r : ByteArray) (w : World) (h : spec_l1Seal.f k a0 = some r) :
  Calls Tryd.prog 80 #[.string a0] w fun e w' => e = .returned (.string r) ∧ Below w.heap.size w w' := by
 have HB := Aside0.mk (Below.refl w.heap.size w)
 have H : (if a0.size + 1 ≤ 9223372036854775807 then ((spec_l1Sum.f k a0).bind fun t174 => ((spec_l1Num.f k t174).bind fun t175 => (if (sc a0 (⟨#[35]⟩ : ByteArray)).size + t175.size ≤ 9223372036854775807 then (some (sc (sc a0 (⟨#[35]⟩ : ByteArray)) t175)) else (none)))) else (none)) = some r := h
 clear h
 by_cases c2 : a0.size + 1 ≤ 9223372036854775807
 ·
  rw [if_pos c2] at H
  have c2b0 := eq_true c2
  have c2b1 : decide (a0.size + 1 ≤ 9223372036854775807) = true := decide_eq_true c2
  try have c2b2 : (9223372036854775807 < a0.size + 1) = False := eq_false (Nat.not_lt.2 c2)
  replace H := Option.bind_eq_some_iff.mp H
  obtain ⟨t174, A30, H⟩ := H
  replace H : ((spec_l1Num.f k t174).bind fun t175 => (if (sc a0 (⟨#[35]⟩ : ByteArray)).size + t175.size ≤ 9223372036854775807 then (some (sc (sc a0 (⟨#[35]⟩ : ByteArray)) t175)) else (none))) = some r := H
  have A3 := Aside0.mk A30
  clear A30
  replace H := Option.bind_eq_some_iff.mp H
  obtain ⟨t175, A40, H⟩ := H
  replace H : (if (sc a0 (⟨#[35]⟩ : ByteArray)).size + t175.size ≤ 9223372036854775807 then (some (sc (sc a0 (⟨#[35]⟩ : ByteArray)) t175)) else (none)) = some r := H
  have A4 := Aside0.mk A40
  clear A40
  by_cases c5 : (sc a0 (⟨#[35]⟩ : ByteArray)).size + t175.size ≤ 9223372036854775807
  ·
   rw [if_pos c5] at H
   have c5b0 := eq_true c5
   have c5b1 : decide ((sc a0 (⟨#[35]⟩ : ByteArray)).size + t175.size ≤ 9223372036854775807) = true := decide_eq_true c5
   try have c5b2 : (9223372036854775807 < (sc a0 (⟨#[35]⟩ : ByteArray)).size + t175.size) = False := eq_false (Nat.not_lt.2 c5)
   obtain rfl := Option.some.inj H
   go_enter Tryd.func80, Tryd.ntmps80
   go_wp2_with (first | ((with_reducible refine gate_callee (f := 90) rfl ?_); refine ga_ (some 6) Tryd.func90 #[.string a0] ?_; (with_reducible refine (spec_l1Sum.calls k a0 t174 _ A3.out).mono ?_); rintro e w' ⟨rfl, ⟨nd, rfl⟩⟩; refine ⟨_, rfl, ?_⟩) | ((with_reducible refine gate_callee (f := 22) rfl ?_); refine ga_ (some 7) Tryd.func22 #[.int .i64 t174] ?_; (with_reducible refine (spec_l1Num.calls k t174 t175 _ A4.out).mono ?_); rintro e w6 ⟨rfl, hb⟩; refine ⟨_, rfl, ?_⟩; replace HB := Aside0.mk (below_step (lb0_ HB.out) hb); (try clear hb); (try clear hb2); (try clear hk); (try clear hi)))
   go_ret
   exact ⟨rr_, lb0_ HB.out⟩
  ·
   rw [if_neg c5] at H
   exact absurd H (by simp)
 ·
  rw [if_neg c2] at H
  exact absurd H (by simp)
def spec_l27Line.f (k : Nat) (a0 : Int) (a1_0 : ByteArray) (a1_1 : ByteArray) : Option (ByteArray) := (spec_l1Num.f k a0).bind fun t177 => (if t177.size + 1 ≤ 9223372036854775807 then (if (sc t177 (⟨#[32]⟩ : ByteArray)).size + a1_0.size ≤ 9223372036854775807 then (if (sc (sc t177 (⟨#[32]⟩ : ByteArray)) a1_0).size + 1 ≤ 9223372036854775807 then (if (sc (sc (sc t177 (⟨#[32]⟩ : ByteArray)) a1_0) (⟨#[64]⟩ : ByteArray)).size + a1_1.size ≤ 9223372036854775807 then ((spec_l1Seal.f k (sc (sc (sc (sc t177 (⟨#[32]⟩ : ByteArray)) a1_0) (⟨#[64]⟩ : ByteArray)) a1_1)).bind fun t178 => (if t178.size + 1 ≤ 9223372036854775807 then (some (sc t178 (⟨#[10]⟩ : ByteArray))) else (none))) else (none)) else (none)) else (none)) else (none))
def spec_l27Line.T1 : Bool × List (List Nat × List Nat) := (true, [([], []), ([0], [0]), ([1], [1]), ([], []), ([3], [3]), ([2, 4], [2, 4]), ([5], [5]), ([], []), ([7], [7]), ([6, 8], [6, 8]), ([9, 1], [9]), ([10], [10]), ([11, 10, 0, 1, 2, 3, 4, 5, 6, 7, 8, 9, 10, 11], [11])])
def spec_l27Line.B1 : List Nat := [0, 1, 3, 0, 8, 31, 63, 0, 128, 511, 1023, 2047, 4095]
theorem spec_l27Line.tab1 : rtab .any (opsOf Tryd.f67 1) = spec_l27Line.T1 := by kernel_rfl
theorem spec_l27Line.bits1 : waitsOk spec_l27Line.T1.2 spec_l27Line.B1 = true := by kernel_rfl
abbrev spec_l27Line.mk0 : Array Bool := #[false, false, false, false, false, false, false, false, false, false, false, false, false]
abbrev spec_l27Line.mk1 : Array Bool := #[true, false, false, false, false, false, false, false, false, false, false, false, false]
abbrev spec_l27Line.mk2 : Array Bool := #[true, false, false, true, false, false, false, false, false, false, false, false, false]
abbrev spec_l27Line.mk3 : Array Bool := #[true, false, false, true, false, false, false, true, false, false, false, false, false]
abbrev spec_l27Line.mk4 : Array Bool := #[true, false, false, true, true, false, false, true, false, false, false, false, false]
abbrev spec_l27Line.mk5 : Array Bool := #[true, false, false, true, true, false, false, true, true, false, false, false, false]
abbrev spec_l27Line.mk6 : Array Bool := #[true, true, false, true, true, false, false, true, true, false, false, false, false]
abbrev spec_l27Line.mk7 : Array Bool := #[true, true, true, true, true, false, false, true, true, false, false, false, false]
abbrev spec_l27Line.mk8 : Array Bool := #[true, true, true, true, true, true, false, true, true, false, false, false, false]
abbrev spec_l27Line.mk9 : Array Bool := #[true, true, true, true, true, true, true, true, true, false, false, false, false]
abbrev spec_l27Line.mk10 : Array Bool := #[true, true, true, true, true, true, true, true, true, true, false, false, false]
abbrev spec_l27Line.mk11 : Array Bool := #[true, true, true, true, true, true, true, true, true, true, true, false, false]
abbrev spec_l27Line.mk12 : Array Bool := #[true, true, true, true, true, true, true, true, true, true, true, true, false]
abbrev spec_l27Line.mk13 : Array Bool := #[true, true, true, true, true, true, true, true, true, true, true, true, true]
theorem spec_l27Line.calls (k : Nat) (a0 : Int) (a1_0 : ByteArray) (a1_1 : ByteArray) (r : ByteArray) (w : World) (h : spec_l27Line.f k a0 a1_0 a1_1 = some r) :
  Calls Tryd.prog 67 #[.int .i64 a0, .agg #[.string a1_0, .string a1_1]] w fun e w' => e = .returned (.string r) ∧ Below w.heap.size w w' := by
 have hu97 := Tryd.underlying97
 have HB := Aside0.mk (Below.refl w.heap.size w)
 have H : ((spec_l1Num.f k a0).bind fun t177 => (if t177.size + 1 ≤ 9223372036854775807 then (if (sc t177 (⟨#[32]⟩ : ByteArray)).size + a1_0.size ≤ 9223372036854775807 then (if (sc (sc t177 (⟨#[32]⟩ : ByteArray)) a1_0).size + 1 ≤ 9223372036854775807 then (if (sc (sc (sc t177 (⟨#[32]⟩ : ByteArray)) a1_0) (⟨#[64]⟩ : ByteArray)).size + a1_1.size ≤ 9223372036854775807 then ((spec_l1Seal.f k (sc (sc (sc (sc t177 (⟨#[32]⟩ : ByteArray)) a1_0) (⟨#[64]⟩ : ByteArray)) a1_1)).bind fun t178 => (if t178.size + 1 ≤ 9223372036854775807 then (some (sc t178 (⟨#[10]⟩ : ByteArray))) else (none))) else (none)) else (none)) else (none)) else (none))) = some r := h
 clear h
 replace H := Option.bind_eq_some_iff.mp H
 obtain ⟨t177, A30, H⟩ := H
 replace H : (if t177.size + 1 ≤ 9223372036854775807 then (if (sc t177 (⟨#[32]⟩ : ByteArray)).size + a1_0.size ≤ 9223372036854775807 then (if (sc (sc t177 (⟨#[32]⟩ : ByteArray)) a1_0).size + 1 ≤ 9223372036854775807 then (if (sc (sc (sc t177 (⟨#[32]⟩ : ByteArray)) a1_0) (⟨#[64]⟩ : ByteArray)).size + a1_1.size ≤ 9223372036854775807 then ((spec_l1Seal.f k (sc (sc (sc (sc t177 (⟨#[32]⟩ : ByteArray)) a1_0) (⟨#[64]⟩ : ByteArray)) a1_1)).bind fun t178 => (if t178.size + 1 ≤ 9223372036854775807 then (some (sc t178 (⟨#[10]⟩ : ByteArray))) else (none))) else (none)) else (none)) else (none)) else (none)) = some r := H
 have A3 := Aside0.mk A30
 clear A30
 by_cases c4 : t177.size + 1 ≤ 9223372036854775807
 ·
  rw [if_pos c4] at H
  have c4b0 := eq_true c4
  have c4b1 : decide (t177.size + 1 ≤ 9223372036854775807) = true := decide_eq_true c4
  try have c4b2 : (9223372036854775807 < t177.size + 1) = False := eq_false (Nat.not_lt.2 c4)
  by_cases c5 : (sc t177 (⟨#[32]⟩ : ByteArray)).size + a1_0.size ≤ 9223372036854775807
  ·
   rw [if_pos c5] at H
   have c5b0 := eq_true c5
   have c5b1 : decide ((sc t177 (⟨#[32]⟩ : ByteArray)).size + a1_0.size ≤ 9223372036854775807) = true := decide_eq_true c5
   try have c5b2 : (9223372036854775807 < (sc t177 (⟨#[32]⟩ : ByteArray)).size + a1_0.size) = False := eq_false (Nat.not_lt.2 c5)
   by_cases c6 : (sc (sc t177 (⟨#[32]⟩ : ByteArray)) a1_0).size + 1 ≤ 9223372036854775807
   ·
    rw [if_pos c6] at H
    have c6b0 := eq_true c6
    have c6b1 : decide ((sc (sc t177 (⟨#[32]⟩ : ByteArray)) a1_0).size + 1 ≤ 9223372036854775807) = true := decide_eq_true c6
    try have c6b2 : (9223372036854775807 < (sc (sc t177 (⟨#[32]⟩ : ByteArray)) a1_0).size + 1) = False := eq_false (Nat.not_lt.2 c6)
    by_cases c7 : (sc (sc (sc t177 (⟨#[32]⟩ : ByteArray)) a1_0) (⟨#[64]⟩ : ByteArray)).size + a1_1.size ≤ 9223372036854775807
    ·
     rw [if_pos c7] at H
     have c7b0 := eq_true c7
     have c7b1 : decide ((sc (sc (sc t177 (⟨#[32]⟩ : ByteArray)) a1_0) (⟨#[64]⟩ : ByteArray)).size + a1_1.size ≤ 9223372036854775807) = true := decide_eq_true c7
     try have c7b2 : (9223372036854775807 < (sc (sc (sc t177 (⟨#[32]⟩ : ByteArray)) a1_0) (⟨#[64]⟩ : ByteArray)).size + a1_1.size) = False := eq_false (Nat.not_lt.2 c7)
     replace H := Option.bind_eq_some_iff.mp H
     obtain ⟨t178, A80, H⟩ := H
     replace H : (if t178.size + 1 ≤ 9223372036854775807 then (some (sc t178 (⟨#[10]⟩ : ByteArray))) else (none)) = some r := H
     have A8 := Aside0.mk A80
     clear A80
     by_cases c9 : t178.size + 1 ≤ 9223372036854775807
     ·
      rw [if_pos c9] at H
      have c9b0 := eq_true c9
      have c9b1 : decide (t178.size + 1 ≤ 9223372036854775807) = true := decide_eq_true c9
      try have c9b2 : (9223372036854775807 < t178.size + 1) = False := eq_false (Nat.not_lt.2 c9)
      obtain rfl := Option.some.inj H
      go_enter Tryd.func67, Tryd.ntmps67
      try go_wp2_with (first | ((with_reducible refine gate_dst (N := 3) rfl ?_); refine box_event ?hg (N := 3) ?hd (cs := #[.string a1_0, .string a1_1]) (t := 97) ?hr ?_; (case hd => rfl); (case hg => rfl); (case hr => first | (go_simp; done) | (go_simp; rfl)); intro gb176 hg w10 hbox hb; have BK176 := Aside0.mk (hbox); have GW176 := Aside0.mk ((bz_ hg (lb0_ HB.out))); have GE176 := Aside0.mk ((bz_ hg (lb0_ HB.out))); replace HB := Aside0.mk (below_step (lb0_ HB.out) hb); clear hb hbox hg))
      replace BK176 := Aside0.mk (blk_drew BK176.out)
      replace HB := Aside0.mk (below_drew1 HB.out)
      refine start_ (n := 13) (S := fun w' => w'.cell? ⟨gb176, 0, none⟩ = some (.string a1_0) ∧ w'.cell? ⟨gb176, 1, none⟩ = some (.string a1_1)) (ds := []) spec_l27Line.mk0 (by kernel_rfl) rfl rfl ⟨(blk_cell BK176.out 0).trans rfl, (blk_cell BK176.out 1).trans rfl⟩ (fun hHeld => ?_); refine with_tabW spec_l27Line.tab1 spec_l27Line.bits1 (fun HT_ HW_ => ?_)
      generalize w10.drew = w11 at BK176 HB hHeld ⊢
      refine pz_ HT_ 0 (some 5) spec_l27Line.mk1 ?_
      refine pz_ HT_ 3 (some 8) spec_l27Line.mk2 ?_
      refine pz_ HT_ 7 (some 12) spec_l27Line.mk3 ?_
      refine take_ (i := 4) (N := some 9) (v := ?_) (a' := ?_) spec_l27Line.mk4 rfl rfl (take_ofW HT_.out HW_.out (by kernel_rfl)) (fun _ _ _ h => h) (Or.inl ⟨by rfl, ?_⟩) hHeld ?_ ?_
      rotate_left
      ·
       rintro w' ⟨s0, s1⟩
       go_simp
       with_reducible rfl
      rotate_left
      ·
       simp only [Act.put, List.setIfInBounds_toArray, List.set_cons_zero, List.set_cons_succ, i64_w, i32_w]
       rfl
      refine take_ (i := 8) (N := some 13) (v := ?_) (a' := ?_) spec_l27Line.mk5 rfl rfl (take_ofW HT_.out HW_.out (by kernel_rfl)) (fun _ _ _ h => h) (Or.inl ⟨by rfl, ?_⟩) hHeld ?_ ?_
      rotate_left
      ·
       rintro w' ⟨s0, s1⟩
       go_simp
       with_reducible rfl
      rotate_left
      ·
       simp only [Act.put, List.setIfInBounds_toArray, List.set_cons_zero, List.set_cons_succ, i64_w, i32_w]
       rfl
      refine one_ (i := 1) (N := some 6) spec_l27Line.mk6 rfl rfl (one_of HT_.out (by kernel_rfl)) (by decide) (fun K hK => ?_)
      refine gs_ Tryd.func22 #[.int .i64 a0] ?_
      with_reducible refine (spec_l1Num.calls k a0 t177 _ A3.out).mono ?_
      rintro e w12 ⟨rfl, hb⟩
      refine ⟨_, rfl, ?_⟩
      replace BK176 := Aside0.mk (bb_ (bk_ BK176.out) hb)
      replace HB := Aside0.mk (below_step (lb1_ HB.out GE176.out) hb)
      (try clear hb)
      (try clear hb2)
      (try clear hk)
      (try clear hi)
      refine hK.out _ _ ⟨(blk_cell BK176.out 0).trans rfl, (blk_cell BK176.out 1).trans rfl⟩ (fun hHeld => ?_)
      clear hK K
      refine na_ ?_
      refine pz_ HT_ 2 (some 7) spec_l27Line.mk7 ?_
      refine pz_ HT_ 5 (some 10) spec_l27Line.mk8 ?_
      refine pz_ HT_ 6 (some 11) spec_l27Line.mk9 ?_
      refine pz_ HT_ 9 (some 14) spec_l27Line.mk10 ?_
      refine one_ (i := 10) (N := some 15) spec_l27Line.mk11 rfl rfl (one_of HT_.out (by kernel_rfl)) (by decide) (fun K hK => ?_)
      refine gs_ Tryd.func80 #[.string (sc (sc (sc (sc t177 (⟨#[32]⟩ : ByteArray)) a1_0) (⟨#[64]⟩ : ByteArray)) a1_1)] ?_
      with_reducible refine (spec_l1Seal.calls k (sc (sc (sc (sc t177 (⟨#[32]⟩ : ByteArray)) a1_0) (⟨#[64]⟩ : ByteArray)) a1_1) t178 _ A8.out).mono ?_
      rintro e w13 ⟨rfl, hb⟩
      refine ⟨_, rfl, ?_⟩
      replace BK176 := Aside0.mk (bb_ (bk_ BK176.out) hb)
      replace HB := Aside0.mk (below_step (lb1_ HB.out GE176.out) hb)
      (try clear hb)
      (try clear hb2)
      (try clear hk)
      (try clear hi)
      refine hK.out _ _ ⟨(blk_cell BK176.out 0).trans rfl, (blk_cell BK176.out 1).trans rfl⟩ (fun hHeld => ?_)
      clear hK K
      refine na_ ?_
      refine pz_ HT_ 11 (some 16) spec_l27Line.mk12 ?_
      refine pz_ HT_ 12 (some 4) spec_l27Line.mk13 ?_
      refine done_ (done_of HT_.out (by kernel_rfl)) ?_
      try go_wp2
      go_ret
      exact ⟨rr_, lb1_ HB.out GE176.out⟩
     ·
      rw [if_neg c9] at H
      exact absurd H (by simp)
    ·
     rw [if_neg c7] at H
     exact absurd H (by simp)
   ·
    rw [if_neg c6] at H
    exact absurd H (by simp)
  ·
   rw [if_neg c5] at H
   exact absurd H (by simp)
 ·
  rw [if_neg c4] at H
  exact absurd H (by simp)
end Go.Proofs.YtckigdechhmegaaDoor.Pr

