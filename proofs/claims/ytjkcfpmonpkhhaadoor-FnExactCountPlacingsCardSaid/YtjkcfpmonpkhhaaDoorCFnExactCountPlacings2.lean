/-
What is proved: parts of the law FnExactCountPlacings: what the functions that it reaches compute, and the plain law.
Conditions: those of each theorem.
-/
import Derived.ChangeArms
import Derived.ChangeSlices
import Derived.Deep.Slices
import Derived.KernelRfl
import Derived.RowKit
import Derived.SizedLaws
import Derived.WideShapes
import Derived.Test.YtjkcfpmonpkhhaaDoorCFnExactCountPlacings1
namespace Go.Proofs.YtjkcfpmonpkhhaaDoor.Pr
open Go.RowKit Go.Proofs.YtjkcfpmonpkhhaaDoorW.PrintWords Go.Proofs.YtjkcfpmonpkhhaaDoorW.PrintLast Go.Proofs.YtjkcfpmonpkhhaaDoorW.PrintMore
attribute [local go_sem] max2_int min2_int max_two min_two max_three min_three max_four min_four   -- for this text's walks alone
set_option linter.unusedVariables false
set_option linter.unusedSimpArgs false
def impl_allIndices.l0 : Nat → List Int → Int → Int → Option (List Int)
 | 0, _, _, _ => none
 | k + 1, x3, x5, x6 => if x6 < x5 then (if x3.length < 17592186044416 then (impl_allIndices.l0 k (x3 ++ [x6]) x5 (wrap64 (x6 + 1))) else (none)) else (some x3)
def impl_allIndices.f (k : Nat) (a0 : Int) : Option (List Int) := impl_allIndices.l0 k ([] : List Int) a0 0
set_option maxHeartbeats 8000000 in
set_option maxRecDepth 100000 in
theorem impl_allIndices.calls (k : Nat) (a0 : Int) (r : List Int) (w : World) (h : impl_allIndices.f k a0 = some r) :
  Calls Tryd.prog 78 #[.int .i64 a0] w fun e w' => ∃ v0_ : Value, e = .returned (v0_) ∧ Kd.R (Kd.int .i64) 3 w' w.heap.size (fun _ => True) v0_ r ∧ Below w.heap.size w w' := by
 have HB := Aside0.mk (Below.refl w.heap.size w)
 have H : (impl_allIndices.l0 k ([] : List Int) a0 0) = some r := h
 clear h
 have H' := Aside0.mk H
 clear H
 go_enter Tryd.func78, Tryd.ntmps78
 go_wp2
 go_loopg [3, 6] k (fun kq v3 v6 w' => ∃ (x3_1 : List Int) (x6_1 : Int), v6 = .int .i64 x6_1 ∧ Aside0 (impl_allIndices.l0 kq x3_1 a0 x6_1 = some r) ∧ Aside0 (kq ≤ k) ∧ Aside0 (Kd.R (Kd.int .i64) 3 w' w.heap.size (fun _ => True) v3 x3_1) ∧ Aside0 (Below w.heap.size w w'))
 case atStart => exact ⟨(([] : List Int)), (0), (by first | rfl | (simp; done) | (simp [*]; done)), H', ⟨Nat.le_refl _⟩, ⟨by first | exact Kd.R_nil _ _ _ _ _ | exact Kd.N_nil _ _ _ _ _ | exact Kd.V_nil _ _ _ _ _ | exact Kd.Q_nil _ _ _ _ _ | exact Kd.S_nil _ _ _ _ _⟩, ⟨lb0_ HB.out⟩⟩
 case round =>
  clear H'
  obtain ⟨x3_1, x6_1, rfl, HA, HK1, HO_3, HB⟩ := hrel
  cases gk with
  | zero => exact absurd HA.out (by simp [impl_allIndices.l0])
  | succ k1 =>
   have H := HA.out
   clear HA
   simp only [impl_allIndices.l0] at H
   by_cases c2 : x6_1 < a0
   ·
    rw [if_pos c2] at H
    have c2b0 : decide (x6_1 < a0) = true := decide_eq_true c2
    clear c2
    by_cases c3 : x3_1.length < 17592186044416
    ·
     rw [if_pos c3] at H
     have LMc3 := Aside0.mk c3
     clear c3
     obtain ⟨y443, hy443⟩ : ∃ y_ : List Int, y_ = (x3_1 ++ [x6_1]) := ⟨_, rfl⟩
     replace H : (impl_allIndices.l0 k1 y443 a0 (wrap64 (x6_1 + 1))) = some r := by first | (rw [hy443]; with_reducible exact H) | (have H2_ := (Option.bind_some _ _).symm.trans H; rw [hy443]; with_reducible exact H2_) | (have H2_ := (Option.bind_some _ _).symm.trans H; with_reducible exact H2_) | with_reducible exact H | (rw [hy443]; exact H) | exact H
     have Ny443 := Aside0.mk hy443
     clear hy443
     have H' := Aside0.mk H
     clear H
     go_wp2_with (first | ((with_reducible refine gate_builtin (b := .append) (xs := #[.tmp 9, .tmp 11]) rfl ?_); at_builtin; refine Kd.R_append (Kd.int .i64) (w0 := w) w.heap.size rfl (.tmp 9) (.tmp 11) 40 3 (.int .i64 0) 8 rfl Tryd.underlying40 info3 rfl (by decide) (by omega) u3 x3_1 x6_1 [.int .i64 x6_1] (fun _ => True) (fun _ => False) rfl rfl ?aP (fun _ hk => hk.elim) ?aF ?aO ?aB ?aS ?aL ?_; (case aP => exact rfl); (case aB => exact (lb0_ HB.out)); (case aF => exact (fun _ _ => trivial)); (case aO => exact (kr_ HO_3.out)); (case aS => exact (below_size (lb0_ HB.out))); (case aL => have := LMc3.out; omega); intro v444 w4 ho hb hg hat; rw [← Ny443.out] at ho; replace HB := Aside0.mk (hb); have HO445 := Aside0.mk (ho); clear HO_3; clear ho hb hg hat))
     go_roundg k1
     case measure => have := HK1.out; omega
     case rel => exact ⟨(y443), (wrap64 (x6_1 + 1)), (by first | rfl | (simp; done) | (simp [*]; done)), H', ⟨by have := HK1.out; omega⟩, ⟨kr_ HO445.out⟩, ⟨lb0_ HB.out⟩⟩
    ·
     rw [if_neg c3] at H
     exact absurd H (by simp)
   ·
    rw [if_neg c2] at H
    have c2b0 : decide (x6_1 < a0) = false := decide_eq_false c2
    clear c2
    obtain rfl := Option.some.inj H
    go_wp2
    go_ret
    exact ⟨_, rr_, kr_ HO_3.out, lb0_ HB.out⟩
def impl_boxFor.f (a0_0 : ByteArray) (a0_1 : Int) (a0_2 : Int) (a1 : Int) : Option (Int × Int × Int × Int) :=
 some ((if a1 ≥ 2 then wrap64 (a0_1 - (a0_0.size : Int)) else wrap64 (a0_1 + 1)), (if Int.tmod a1 2 = 1 then wrap64 (a0_2 - 2) else wrap64 (a0_2 + 1)), (a0_0.size : Int), 2)
set_option maxHeartbeats 4000000 in
set_option maxRecDepth 100000 in
theorem impl_boxFor.calls (a0_0 : ByteArray) (a0_1 : Int) (a0_2 : Int) (a1 : Int) (r1 : Int) (r2 : Int) (r3 : Int) (r4 : Int) (w : World) (h : impl_boxFor.f a0_0 a0_1 a0_2 a1 = some (r1, r2, r3, r4)) :
  Calls Tryd.prog 59 #[.agg #[.string a0_0, .int .i64 a0_1, .int .i64 a0_2], .int .i64 a1] w fun e w' => e = .returned (.agg #[.int .i64 r1, .int .i64 r2, .int .i64 r3, .int .i64 r4]) ∧ Below w.heap.size w w' := by
 unfold impl_boxFor.f at h
 simp only [Option.some.injEq, Prod.mk.injEq] at h
 obtain ⟨h1, h2, rfl, rfl⟩ := h
 by_cases c3 : a1 ≥ 2
 ·
  rw [if_pos c3] at h1
  have b3 : decide (2 ≤ a1) = true := decide_eq_true c3
  clear c3
  by_cases c4 : Int.tmod a1 2 = 1
  ·
   rw [if_pos c4] at h2
   have b4 : (Int.tmod a1 2 == 1) = true := beq_iff_eq.mpr c4
   clear c4
   subst h1
   subst h2
   go_enter Tryd.func59, Tryd.ntmps59
   go_wp2_with fail
   exact bodyPost_ret (v := .agg #[.int .i64 (wrap64 (a0_1 - (a0_0.size : Int))), .int .i64 (wrap64 (a0_2 - 2)), .int .i64 (a0_0.size : Int), .int .i64 2]) (by simp [results, Tryd.results59, go_sem]) rfl ⟨rfl, below_alloc (below_alloc (below_alloc (Below.refl _ w) _) _) _⟩
  ·
   rw [if_neg c4] at h2
   have b4 : (Int.tmod a1 2 == 1) = false := beq_eq_false_iff_ne.mpr c4
   clear c4
   subst h1
   subst h2
   go_enter Tryd.func59, Tryd.ntmps59
   go_wp2_with fail
   exact bodyPost_ret (v := .agg #[.int .i64 (wrap64 (a0_1 - (a0_0.size : Int))), .int .i64 (wrap64 (a0_2 + 1)), .int .i64 (a0_0.size : Int), .int .i64 2]) (by simp [results, Tryd.results59, go_sem]) rfl ⟨rfl, below_alloc (below_alloc (below_alloc (Below.refl _ w) _) _) _⟩
 ·
  rw [if_neg c3] at h1
  have b3 : decide (2 ≤ a1) = false := decide_eq_false c3
  clear c3
  by_cases c4 : Int.tmod a1 2 = 1
  ·
   rw [if_pos c4] at h2
   have b4 : (Int.tmod a1 2 == 1) = true := beq_iff_eq.mpr c4
   clear c4
   subst h1
   subst h2
   go_enter Tryd.func59, Tryd.ntmps59
   go_wp2_with fail
   exact bodyPost_ret (v := .agg #[.int .i64 (wrap64 (a0_1 + 1)), .int .i64 (wrap64 (a0_2 - 2)), .int .i64 (a0_0.size : Int), .int .i64 2]) (by simp [results, Tryd.results59, go_sem]) rfl ⟨rfl, below_alloc (below_alloc (below_alloc (Below.refl _ w) _) _) _⟩
  ·
   rw [if_neg c4] at h2
   have b4 : (Int.tmod a1 2 == 1) = false := beq_eq_false_iff_ne.mpr c4
   clear c4
   subst h1
   subst h2
   go_enter Tryd.func59, Tryd.ntmps59
   go_wp2_with fail
   exact bodyPost_ret (v := .agg #[.int .i64 (wrap64 (a0_1 + 1)), .int .i64 (wrap64 (a0_2 + 1)), .int .i64 (a0_0.size : Int), .int .i64 2]) (by simp [results, Tryd.results59, go_sem]) rfl ⟨rfl, below_alloc (below_alloc (below_alloc (Below.refl _ w) _) _) _⟩
theorem heap_new_ (w : World) (cs : Array Value) (t : TypeId) : (w.alloc (.cells cs t)).heap[w.heap.size]? = some (.cells cs t (0, 0)) := by
 show (w.heap.push _)[w.heap.size]? = _
 simp
def impl_meet.f (a0_0 : Int) (a0_1 : Int) (a0_2 : Int) (a0_3 : Int) (a1_0 : Int) (a1_1 : Int) (a1_2 : Int) (a1_3 : Int) : Option (Bool) := if a0_2 = 0 then (some false) else (if a0_3 = 0 then (some false) else (if a1_2 = 0 then (some false) else (if a1_3 = 0 then (some false) else (if a0_0 < (wrap64 (a1_0 + a1_2)) then (if a1_0 < (wrap64 (a0_0 + a0_2)) then (if a0_1 < (wrap64 (a1_1 + a1_3)) then (some (decide (a1_1 < (wrap64 (a0_1 + a0_3))))) else (some false)) else (some false)) else (some false)))))
set_option maxHeartbeats 8000000 in
set_option maxRecDepth 100000 in
theorem impl_meet.calls (a0_0 : Int) (a0_1 : Int) (a0_2 : Int) (a0_3 : Int) (a1_0 : Int) (a1_1 : Int) (a1_2 : Int) (a1_3 : Int) (r : Bool) (w : World) (h : impl_meet.f a0_0 a0_1 a0_2 a0_3 a1_0 a1_1 a1_2 a1_3 = some r) :
  Calls Tryd.prog 70 #[.agg #[.int .i64 a0_0, .int .i64 a0_1, .int .i64 a0_2, .int .i64 a0_3], .agg #[.int .i64 a1_0, .int .i64 a1_1, .int .i64 a1_2, .int .i64 a1_3]] w fun e w' => e = .returned (.bool r) ∧ Below w.heap.size w w' := by
 have hu26 := Tryd.underlying26
 have HB := Aside0.mk (Below.refl w.heap.size w)
 have H : (if a0_2 = 0 then (some false) else (if a0_3 = 0 then (some false) else (if a1_2 = 0 then (some false) else (if a1_3 = 0 then (some false) else (if a0_0 < (wrap64 (a1_0 + a1_2)) then (if a1_0 < (wrap64 (a0_0 + a0_2)) then (if a0_1 < (wrap64 (a1_1 + a1_3)) then (some (decide (a1_1 < (wrap64 (a0_1 + a0_3))))) else (some false)) else (some false)) else (some false)))))) = some r := h
 clear h
 by_cases c3 : a0_2 = 0
 ·
  rw [if_pos c3] at H
  have c3b0 : (a0_2 == 0) = true := beq_iff_eq.mpr c3
  have c3b1 : (a0_2 != 0) = false := bne_eq_false_iff_eq.mpr c3
  clear c3
  obtain rfl := Option.some.inj H
  go_enter Tryd.func70, Tryd.ntmps70
  go_wp2_with (first | ((with_reducible refine gate_dst (N := 2) rfl ?_); refine box_event ?hg (N := 2) ?hd (cs := #[.int .i64 a0_0, .int .i64 a0_1, .int .i64 a0_2, .int .i64 a0_3]) (t := 26) ?hr ?_; (case hd => rfl); (case hg => rfl); (case hr => first | (go_simp; done) | (go_simp; rfl)); intro gb219 hg w4 hbox hb; have BK219 := Aside0.mk (hbox); have GW219 := Aside0.mk ((bz_ hg (lb0_ HB.out))); have GE219 := Aside0.mk ((bz_ hg (lb0_ HB.out))); replace HB := Aside0.mk (below_step (lb0_ HB.out) hb); clear hb hbox hg) | ((with_reducible refine gate_dst (N := 3) rfl ?_); refine box_event ?hg (N := 3) ?hd (cs := #[.int .i64 a1_0, .int .i64 a1_1, .int .i64 a1_2, .int .i64 a1_3]) (t := 26) ?hr ?_; (case hd => rfl); (case hg => rfl); (case hr => first | (go_simp; done) | (go_simp; rfl)); intro gb220 hg w5 hbox hb; have BK220 := Aside0.mk (hbox); have GW220 := Aside0.mk ((bz_ hg (lb1_ HB.out GE219.out))); have GE220 := Aside0.mk ((bz_ hg (lb1_ HB.out GE219.out))); replace HB := Aside0.mk (below_step (lb1_ HB.out GE219.out) hb); have NB219_220 := Aside0.mk (nl_ hg BK219.out); have NB220_219 := Aside0.mk (ng_ hg BK219.out); replace BK219 := Aside0.mk (bb_ (bk_ BK219.out) hb); clear hb hbox hg; have hnb6 := NB219_220.out; have hnc6 := NB220_219.out; obtain ⟨hcz7_0, hcz7_1, hcz7_2, hcz7_3⟩ := cz4_ BK219.out; obtain ⟨hfz7_0, hfz7_1, hfz7_2, hfz7_3⟩ := fz4_ BK219.out))
  go_ret
  exact ⟨rr_, lb2_ HB.out GE219.out GE220.out⟩
 ·
  rw [if_neg c3] at H
  have c3b0 : (a0_2 == 0) = false := beq_eq_false_iff_ne.mpr c3
  have c3b1 : (a0_2 != 0) = true := bne_iff_ne.mpr c3
  by_cases c8 : a0_3 = 0
  ·
   rw [if_pos c8] at H
   have c8b0 : (a0_3 == 0) = true := beq_iff_eq.mpr c8
   have c8b1 : (a0_3 != 0) = false := bne_eq_false_iff_eq.mpr c8
   clear c8
   obtain rfl := Option.some.inj H
   go_enter Tryd.func70, Tryd.ntmps70
   go_wp2_with (first | ((with_reducible refine gate_dst (N := 2) rfl ?_); refine box_event ?hg (N := 2) ?hd (cs := #[.int .i64 a0_0, .int .i64 a0_1, .int .i64 a0_2, .int .i64 a0_3]) (t := 26) ?hr ?_; (case hd => rfl); (case hg => rfl); (case hr => first | (go_simp; done) | (go_simp; rfl)); intro gb219 hg w9 hbox hb; have BK219 := Aside0.mk (hbox); have GW219 := Aside0.mk ((bz_ hg (lb0_ HB.out))); have GE219 := Aside0.mk ((bz_ hg (lb0_ HB.out))); replace HB := Aside0.mk (below_step (lb0_ HB.out) hb); clear hb hbox hg) | ((with_reducible refine gate_dst (N := 3) rfl ?_); refine box_event ?hg (N := 3) ?hd (cs := #[.int .i64 a1_0, .int .i64 a1_1, .int .i64 a1_2, .int .i64 a1_3]) (t := 26) ?hr ?_; (case hd => rfl); (case hg => rfl); (case hr => first | (go_simp; done) | (go_simp; rfl)); intro gb220 hg w10 hbox hb; have BK220 := Aside0.mk (hbox); have GW220 := Aside0.mk ((bz_ hg (lb1_ HB.out GE219.out))); have GE220 := Aside0.mk ((bz_ hg (lb1_ HB.out GE219.out))); replace HB := Aside0.mk (below_step (lb1_ HB.out GE219.out) hb); have NB219_220 := Aside0.mk (nl_ hg BK219.out); have NB220_219 := Aside0.mk (ng_ hg BK219.out); replace BK219 := Aside0.mk (bb_ (bk_ BK219.out) hb); clear hb hbox hg; have hnb11 := NB219_220.out; have hnc11 := NB220_219.out; obtain ⟨hcz12_0, hcz12_1, hcz12_2, hcz12_3⟩ := cz4_ BK219.out; obtain ⟨hfz12_0, hfz12_1, hfz12_2, hfz12_3⟩ := fz4_ BK219.out))
   go_ret
   exact ⟨rr_, lb2_ HB.out GE219.out GE220.out⟩
  ·
   rw [if_neg c8] at H
   have c8b0 : (a0_3 == 0) = false := beq_eq_false_iff_ne.mpr c8
   have c8b1 : (a0_3 != 0) = true := bne_iff_ne.mpr c8
   by_cases c13 : a1_2 = 0
   ·
    rw [if_pos c13] at H
    have c13b0 : (a1_2 == 0) = true := beq_iff_eq.mpr c13
    have c13b1 : (a1_2 != 0) = false := bne_eq_false_iff_eq.mpr c13
    clear c13
    obtain rfl := Option.some.inj H
    go_enter Tryd.func70, Tryd.ntmps70
    go_wp2_with (first | ((with_reducible refine gate_dst (N := 2) rfl ?_); refine box_event ?hg (N := 2) ?hd (cs := #[.int .i64 a0_0, .int .i64 a0_1, .int .i64 a0_2, .int .i64 a0_3]) (t := 26) ?hr ?_; (case hd => rfl); (case hg => rfl); (case hr => first | (go_simp; done) | (go_simp; rfl)); intro gb219 hg w14 hbox hb; have BK219 := Aside0.mk (hbox); have GW219 := Aside0.mk ((bz_ hg (lb0_ HB.out))); have GE219 := Aside0.mk ((bz_ hg (lb0_ HB.out))); replace HB := Aside0.mk (below_step (lb0_ HB.out) hb); clear hb hbox hg) | ((with_reducible refine gate_dst (N := 3) rfl ?_); refine box_event ?hg (N := 3) ?hd (cs := #[.int .i64 a1_0, .int .i64 a1_1, .int .i64 a1_2, .int .i64 a1_3]) (t := 26) ?hr ?_; (case hd => rfl); (case hg => rfl); (case hr => first | (go_simp; done) | (go_simp; rfl)); intro gb220 hg w15 hbox hb; have BK220 := Aside0.mk (hbox); have GW220 := Aside0.mk ((bz_ hg (lb1_ HB.out GE219.out))); have GE220 := Aside0.mk ((bz_ hg (lb1_ HB.out GE219.out))); replace HB := Aside0.mk (below_step (lb1_ HB.out GE219.out) hb); have NB219_220 := Aside0.mk (nl_ hg BK219.out); have NB220_219 := Aside0.mk (ng_ hg BK219.out); replace BK219 := Aside0.mk (bb_ (bk_ BK219.out) hb); clear hb hbox hg; have hnb16 := NB219_220.out; have hnc16 := NB220_219.out; obtain ⟨hcz17_0, hcz17_1, hcz17_2, hcz17_3⟩ := cz4_ BK219.out; obtain ⟨hfz17_0, hfz17_1, hfz17_2, hfz17_3⟩ := fz4_ BK219.out; obtain ⟨hcz18_0, hcz18_1, hcz18_2, hcz18_3⟩ := cz4_ BK220.out; obtain ⟨hfz18_0, hfz18_1, hfz18_2, hfz18_3⟩ := fz4_ BK220.out))
    go_ret
    exact ⟨rr_, lb2_ HB.out GE219.out GE220.out⟩
   ·
    rw [if_neg c13] at H
    have c13b0 : (a1_2 == 0) = false := beq_eq_false_iff_ne.mpr c13
    have c13b1 : (a1_2 != 0) = true := bne_iff_ne.mpr c13
    by_cases c19 : a1_3 = 0
    ·
     rw [if_pos c19] at H
     have c19b0 : (a1_3 == 0) = true := beq_iff_eq.mpr c19
     have c19b1 : (a1_3 != 0) = false := bne_eq_false_iff_eq.mpr c19
     clear c19
     obtain rfl := Option.some.inj H
     go_enter Tryd.func70, Tryd.ntmps70
     go_wp2_with (first | ((with_reducible refine gate_dst (N := 2) rfl ?_); refine box_event ?hg (N := 2) ?hd (cs := #[.int .i64 a0_0, .int .i64 a0_1, .int .i64 a0_2, .int .i64 a0_3]) (t := 26) ?hr ?_; (case hd => rfl); (case hg => rfl); (case hr => first | (go_simp; done) | (go_simp; rfl)); intro gb219 hg w20 hbox hb; have BK219 := Aside0.mk (hbox); have GW219 := Aside0.mk ((bz_ hg (lb0_ HB.out))); have GE219 := Aside0.mk ((bz_ hg (lb0_ HB.out))); replace HB := Aside0.mk (below_step (lb0_ HB.out) hb); clear hb hbox hg) | ((with_reducible refine gate_dst (N := 3) rfl ?_); refine box_event ?hg (N := 3) ?hd (cs := #[.int .i64 a1_0, .int .i64 a1_1, .int .i64 a1_2, .int .i64 a1_3]) (t := 26) ?hr ?_; (case hd => rfl); (case hg => rfl); (case hr => first | (go_simp; done) | (go_simp; rfl)); intro gb220 hg w21 hbox hb; have BK220 := Aside0.mk (hbox); have GW220 := Aside0.mk ((bz_ hg (lb1_ HB.out GE219.out))); have GE220 := Aside0.mk ((bz_ hg (lb1_ HB.out GE219.out))); replace HB := Aside0.mk (below_step (lb1_ HB.out GE219.out) hb); have NB219_220 := Aside0.mk (nl_ hg BK219.out); have NB220_219 := Aside0.mk (ng_ hg BK219.out); replace BK219 := Aside0.mk (bb_ (bk_ BK219.out) hb); clear hb hbox hg; have hnb22 := NB219_220.out; have hnc22 := NB220_219.out; obtain ⟨hcz23_0, hcz23_1, hcz23_2, hcz23_3⟩ := cz4_ BK219.out; obtain ⟨hfz23_0, hfz23_1, hfz23_2, hfz23_3⟩ := fz4_ BK219.out; obtain ⟨hcz24_0, hcz24_1, hcz24_2, hcz24_3⟩ := cz4_ BK220.out; obtain ⟨hfz24_0, hfz24_1, hfz24_2, hfz24_3⟩ := fz4_ BK220.out))
     go_ret
     exact ⟨rr_, lb2_ HB.out GE219.out GE220.out⟩
    ·
     rw [if_neg c19] at H
     have c19b0 : (a1_3 == 0) = false := beq_eq_false_iff_ne.mpr c19
     have c19b1 : (a1_3 != 0) = true := bne_iff_ne.mpr c19
     by_cases c25 : a0_0 < (wrap64 (a1_0 + a1_2))
     ·
      rw [if_pos c25] at H
      have c25b0 : decide (a0_0 < (wrap64 (a1_0 + a1_2))) = true := decide_eq_true c25
      clear c25
      by_cases c26 : a1_0 < (wrap64 (a0_0 + a0_2))
      ·
       rw [if_pos c26] at H
       have c26b0 : decide (a1_0 < (wrap64 (a0_0 + a0_2))) = true := decide_eq_true c26
       clear c26
       by_cases c27 : a0_1 < (wrap64 (a1_1 + a1_3))
       ·
        rw [if_pos c27] at H
        have c27b0 : decide (a0_1 < (wrap64 (a1_1 + a1_3))) = true := decide_eq_true c27; clear c27; obtain rfl := Option.some.inj H
        go_enter Tryd.func70, Tryd.ntmps70
        go_wp2_with (first | ((with_reducible refine gate_dst (N := 2) rfl ?_); refine box_event ?hg (N := 2) ?hd (cs := #[.int .i64 a0_0, .int .i64 a0_1, .int .i64 a0_2, .int .i64 a0_3]) (t := 26) ?hr ?_; (case hd => rfl); (case hg => rfl); (case hr => first | (go_simp; done) | (go_simp; rfl)); intro gb219 hg w28 hbox hb; have BK219 := Aside0.mk (hbox); have GW219 := Aside0.mk ((bz_ hg (lb0_ HB.out))); have GE219 := Aside0.mk ((bz_ hg (lb0_ HB.out))); replace HB := Aside0.mk (below_step (lb0_ HB.out) hb); clear hb hbox hg) | ((with_reducible refine gate_dst (N := 3) rfl ?_); refine box_event ?hg (N := 3) ?hd (cs := #[.int .i64 a1_0, .int .i64 a1_1, .int .i64 a1_2, .int .i64 a1_3]) (t := 26) ?hr ?_; (case hd => rfl); (case hg => rfl); (case hr => first | (go_simp; done) | (go_simp; rfl)); intro gb220 hg w29 hbox hb; have BK220 := Aside0.mk (hbox); have GW220 := Aside0.mk ((bz_ hg (lb1_ HB.out GE219.out))); have GE220 := Aside0.mk ((bz_ hg (lb1_ HB.out GE219.out))); replace HB := Aside0.mk (below_step (lb1_ HB.out GE219.out) hb); have NB219_220 := Aside0.mk (nl_ hg BK219.out); have NB220_219 := Aside0.mk (ng_ hg BK219.out); replace BK219 := Aside0.mk (bb_ (bk_ BK219.out) hb); clear hb hbox hg; have hnb30 := NB219_220.out; have hnc30 := NB220_219.out; obtain ⟨hcz31_0, hcz31_1, hcz31_2, hcz31_3⟩ := cz4_ BK219.out; obtain ⟨hfz31_0, hfz31_1, hfz31_2, hfz31_3⟩ := fz4_ BK219.out; obtain ⟨hcz32_0, hcz32_1, hcz32_2, hcz32_3⟩ := cz4_ BK220.out; obtain ⟨hfz32_0, hfz32_1, hfz32_2, hfz32_3⟩ := fz4_ BK220.out))
        go_ret
        exact ⟨rr_, lb2_ HB.out GE219.out GE220.out⟩
       ·
        rw [if_neg c27] at H
        have c27b0 : decide (a0_1 < (wrap64 (a1_1 + a1_3))) = false := decide_eq_false c27; clear c27; obtain rfl := Option.some.inj H
        go_enter Tryd.func70, Tryd.ntmps70
        go_wp2_with (first | ((with_reducible refine gate_dst (N := 2) rfl ?_); refine box_event ?hg (N := 2) ?hd (cs := #[.int .i64 a0_0, .int .i64 a0_1, .int .i64 a0_2, .int .i64 a0_3]) (t := 26) ?hr ?_; (case hd => rfl); (case hg => rfl); (case hr => first | (go_simp; done) | (go_simp; rfl)); intro gb219 hg w33 hbox hb; have BK219 := Aside0.mk (hbox); have GW219 := Aside0.mk ((bz_ hg (lb0_ HB.out))); have GE219 := Aside0.mk ((bz_ hg (lb0_ HB.out))); replace HB := Aside0.mk (below_step (lb0_ HB.out) hb); clear hb hbox hg) | ((with_reducible refine gate_dst (N := 3) rfl ?_); refine box_event ?hg (N := 3) ?hd (cs := #[.int .i64 a1_0, .int .i64 a1_1, .int .i64 a1_2, .int .i64 a1_3]) (t := 26) ?hr ?_; (case hd => rfl); (case hg => rfl); (case hr => first | (go_simp; done) | (go_simp; rfl)); intro gb220 hg w34 hbox hb; have BK220 := Aside0.mk (hbox); have GW220 := Aside0.mk ((bz_ hg (lb1_ HB.out GE219.out))); have GE220 := Aside0.mk ((bz_ hg (lb1_ HB.out GE219.out))); replace HB := Aside0.mk (below_step (lb1_ HB.out GE219.out) hb); have NB219_220 := Aside0.mk (nl_ hg BK219.out); have NB220_219 := Aside0.mk (ng_ hg BK219.out); replace BK219 := Aside0.mk (bb_ (bk_ BK219.out) hb); clear hb hbox hg; have hnb35 := NB219_220.out; have hnc35 := NB220_219.out; obtain ⟨hcz36_0, hcz36_1, hcz36_2, hcz36_3⟩ := cz4_ BK219.out; obtain ⟨hfz36_0, hfz36_1, hfz36_2, hfz36_3⟩ := fz4_ BK219.out; obtain ⟨hcz37_0, hcz37_1, hcz37_2, hcz37_3⟩ := cz4_ BK220.out; obtain ⟨hfz37_0, hfz37_1, hfz37_2, hfz37_3⟩ := fz4_ BK220.out))
        go_ret
        exact ⟨rr_, lb2_ HB.out GE219.out GE220.out⟩
      ·
       rw [if_neg c26] at H
       have c26b0 : decide (a1_0 < (wrap64 (a0_0 + a0_2))) = false := decide_eq_false c26
       clear c26
       obtain rfl := Option.some.inj H
       go_enter Tryd.func70, Tryd.ntmps70
       go_wp2_with (first | ((with_reducible refine gate_dst (N := 2) rfl ?_); refine box_event ?hg (N := 2) ?hd (cs := #[.int .i64 a0_0, .int .i64 a0_1, .int .i64 a0_2, .int .i64 a0_3]) (t := 26) ?hr ?_; (case hd => rfl); (case hg => rfl); (case hr => first | (go_simp; done) | (go_simp; rfl)); intro gb219 hg w38 hbox hb; have BK219 := Aside0.mk (hbox); have GW219 := Aside0.mk ((bz_ hg (lb0_ HB.out))); have GE219 := Aside0.mk ((bz_ hg (lb0_ HB.out))); replace HB := Aside0.mk (below_step (lb0_ HB.out) hb); clear hb hbox hg) | ((with_reducible refine gate_dst (N := 3) rfl ?_); refine box_event ?hg (N := 3) ?hd (cs := #[.int .i64 a1_0, .int .i64 a1_1, .int .i64 a1_2, .int .i64 a1_3]) (t := 26) ?hr ?_; (case hd => rfl); (case hg => rfl); (case hr => first | (go_simp; done) | (go_simp; rfl)); intro gb220 hg w39 hbox hb; have BK220 := Aside0.mk (hbox); have GW220 := Aside0.mk ((bz_ hg (lb1_ HB.out GE219.out))); have GE220 := Aside0.mk ((bz_ hg (lb1_ HB.out GE219.out))); replace HB := Aside0.mk (below_step (lb1_ HB.out GE219.out) hb); have NB219_220 := Aside0.mk (nl_ hg BK219.out); have NB220_219 := Aside0.mk (ng_ hg BK219.out); replace BK219 := Aside0.mk (bb_ (bk_ BK219.out) hb); clear hb hbox hg; have hnb40 := NB219_220.out; have hnc40 := NB220_219.out; obtain ⟨hcz41_0, hcz41_1, hcz41_2, hcz41_3⟩ := cz4_ BK219.out; obtain ⟨hfz41_0, hfz41_1, hfz41_2, hfz41_3⟩ := fz4_ BK219.out; obtain ⟨hcz42_0, hcz42_1, hcz42_2, hcz42_3⟩ := cz4_ BK220.out; obtain ⟨hfz42_0, hfz42_1, hfz42_2, hfz42_3⟩ := fz4_ BK220.out))
       go_ret
       exact ⟨rr_, lb2_ HB.out GE219.out GE220.out⟩
     ·
      rw [if_neg c25] at H
      have c25b0 : decide (a0_0 < (wrap64 (a1_0 + a1_2))) = false := decide_eq_false c25
      clear c25
      obtain rfl := Option.some.inj H
      go_enter Tryd.func70, Tryd.ntmps70
      go_wp2_with (first | ((with_reducible refine gate_dst (N := 2) rfl ?_); refine box_event ?hg (N := 2) ?hd (cs := #[.int .i64 a0_0, .int .i64 a0_1, .int .i64 a0_2, .int .i64 a0_3]) (t := 26) ?hr ?_; (case hd => rfl); (case hg => rfl); (case hr => first | (go_simp; done) | (go_simp; rfl)); intro gb219 hg w43 hbox hb; have BK219 := Aside0.mk (hbox); have GW219 := Aside0.mk ((bz_ hg (lb0_ HB.out))); have GE219 := Aside0.mk ((bz_ hg (lb0_ HB.out))); replace HB := Aside0.mk (below_step (lb0_ HB.out) hb); clear hb hbox hg) | ((with_reducible refine gate_dst (N := 3) rfl ?_); refine box_event ?hg (N := 3) ?hd (cs := #[.int .i64 a1_0, .int .i64 a1_1, .int .i64 a1_2, .int .i64 a1_3]) (t := 26) ?hr ?_; (case hd => rfl); (case hg => rfl); (case hr => first | (go_simp; done) | (go_simp; rfl)); intro gb220 hg w44 hbox hb; have BK220 := Aside0.mk (hbox); have GW220 := Aside0.mk ((bz_ hg (lb1_ HB.out GE219.out))); have GE220 := Aside0.mk ((bz_ hg (lb1_ HB.out GE219.out))); replace HB := Aside0.mk (below_step (lb1_ HB.out GE219.out) hb); have NB219_220 := Aside0.mk (nl_ hg BK219.out); have NB220_219 := Aside0.mk (ng_ hg BK219.out); replace BK219 := Aside0.mk (bb_ (bk_ BK219.out) hb); clear hb hbox hg; have hnb45 := NB219_220.out; have hnc45 := NB220_219.out; obtain ⟨hcz46_0, hcz46_1, hcz46_2, hcz46_3⟩ := cz4_ BK219.out; obtain ⟨hfz46_0, hfz46_1, hfz46_2, hfz46_3⟩ := fz4_ BK219.out; obtain ⟨hcz47_0, hcz47_1, hcz47_2, hcz47_3⟩ := cz4_ BK220.out; obtain ⟨hfz47_0, hfz47_1, hfz47_2, hfz47_3⟩ := fz4_ BK220.out))
      go_ret
      exact ⟨rr_, lb2_ HB.out GE219.out GE220.out⟩
set_option maxHeartbeats 4000000 in
theorem free1_ (gb : Nat) (b0 b1 b2 b3 : Int) (a0 : ByteArray) (a1 a2 : Int) (r : Bool) (w : World) (hb : w.heap[gb]? = some (.cells #[.int .i64 b0, .int .i64 b1, .int .i64 b2, .int .i64 b3] 26 (0, 0))) (h : impl_meet.f b0 b1 b2 b3 a1 a2 1 1 = some r) :
  Calls Tryd.prog 99 (#[.agg #[.string a0, .int .i64 a1, .int .i64 a2]] ++ #[.pointer (some ⟨gb, 0, none⟩)]) w fun e w' => e = .returned (.bool r) ∧ Below w.heap.size w w' := by
 show Calls Tryd.prog 99 #[.agg #[.string a0, .int .i64 a1, .int .i64 a2], .pointer (some ⟨gb, 0, none⟩)] w _
 have h0 : w.cell? ⟨gb, 0, none⟩ = some (.int .i64 b0) := (blk_cell hb 0).trans rfl
 have h1 : w.cell? ⟨gb, 1, none⟩ = some (.int .i64 b1) := (blk_cell hb 1).trans rfl
 have h2 : w.cell? ⟨gb, 2, none⟩ = some (.int .i64 b2) := (blk_cell hb 2).trans rfl
 have h3 : w.cell? ⟨gb, 3, none⟩ = some (.int .i64 b3) := (blk_cell hb 3).trans rfl
 have hB := below_alloc (Below.refl w.heap.size w) (.cells #[.string a0, .int .i64 a1, .int .i64 a2] 29)
 replace h0 := (hB.cell (World.block_lt_of_cell? w _ h0)).trans h0
 replace h1 := (hB.cell (World.block_lt_of_cell? w _ h1)).trans h1
 replace h2 := (hB.cell (World.block_lt_of_cell? w _ h2)).trans h2
 replace h3 := (hB.cell (World.block_lt_of_cell? w _ h3)).trans h3
 clear hb
 go_enter Tryd.func99, Tryd.ntmps99
 go_wp2_with (go_at_call 70; refine (impl_meet.calls b0 b1 b2 b3 a1 a2 1 1 r _ h).mono ?_; rintro e w' ⟨rfl, hb⟩)
 go_ret
 exact ⟨rfl, below_step hB hb⟩
def impl_free.f (l0 : List S29) (b0 b1 b2 b3 : Int) : Option Bool :=
 if b0 < 0 then some false else (if b1 < 0 then some false else (if 100 < wrap64 (b0 + b2) then some false else (if 100 < wrap64 (b1 + b3) then some false else
  (if l0.all (fun x => (impl_meet.f b0 b1 b2 b3 x.f1 x.f2 1 1).isSome) = true then some (!(l0.any fun x => (impl_meet.f b0 b1 b2 b3 x.f1 x.f2 1 1).getD false)) else none))))
set_option maxHeartbeats 4000000 in
set_option maxRecDepth 100000 in
theorem impl_free.calls (A0 : Option Addr) (c0 : Nat) (l0 : List S29) (b0 b1 b2 b3 : Int) (r : Bool) (w : World) (hr0 : Kd.C k29 w A0 l0.length l0) (hc0 : l0.length ≤ c0) (h : impl_free.f l0 b0 b1 b2 b3 = some r) :
  Calls Tryd.prog 67 #[.slice A0 l0.length c0, .agg #[.int .i64 b0, .int .i64 b1, .int .i64 b2, .int .i64 b3]] w fun e w' => e = .returned (.bool r) ∧ Below w.heap.size w w' := by
 unfold impl_free.f at h
 have hB := below_alloc (Below.refl w.heap.size w) (.cells #[.int .i64 b0, .int .i64 b1, .int .i64 b2, .int .i64 b3] 26)
 have hg := heap_new_ w #[.int .i64 b0, .int .i64 b1, .int .i64 b2, .int .i64 b3] 26
 by_cases c1 : b0 < 0
 ·
  rw [if_pos c1] at h
  obtain rfl := Option.some.inj h
  have c1b : decide (b0 < 0) = true := decide_eq_true c1
  clear c1 hr0 hg
  go_enter Tryd.func67, Tryd.ntmps67
  go_wp2
  go_ret
  exact ⟨rfl, hB⟩
 ·
  rw [if_neg c1] at h
  have c1b : decide (b0 < 0) = false := decide_eq_false c1
  clear c1
  by_cases c2 : b1 < 0
  ·
   rw [if_pos c2] at h
   obtain rfl := Option.some.inj h
   have c2b : decide (b1 < 0) = true := decide_eq_true c2
   clear c2 hr0 hg
   go_enter Tryd.func67, Tryd.ntmps67
   go_wp2
   go_ret
   exact ⟨rfl, hB⟩
  ·
   rw [if_neg c2] at h
   have c2b : decide (b1 < 0) = false := decide_eq_false c2
   clear c2
   by_cases c3 : 100 < wrap64 (b0 + b2)
   ·
    rw [if_pos c3] at h
    obtain rfl := Option.some.inj h
    have c3b : decide (100 < wrap64 (b0 + b2)) = true := decide_eq_true c3
    clear c3 hr0 hg
    go_enter Tryd.func67, Tryd.ntmps67
    go_wp2
    go_ret
    exact ⟨rfl, hB⟩
   ·
    rw [if_neg c3] at h
    have c3b : decide (100 < wrap64 (b0 + b2)) = false := decide_eq_false c3
    clear c3
    by_cases c4 : 100 < wrap64 (b1 + b3)
    ·
     rw [if_pos c4] at h
     obtain rfl := Option.some.inj h
     have c4b : decide (100 < wrap64 (b1 + b3)) = true := decide_eq_true c4
     clear c4 hr0 hg
     go_enter Tryd.func67, Tryd.ntmps67
     go_wp2
     go_ret
     exact ⟨rfl, hB⟩
    ·
     rw [if_neg c4] at h
     have c4b : decide (100 < wrap64 (b1 + b3)) = false := decide_eq_false c4
     clear c4
     by_cases c5 : l0.all (fun x => (impl_meet.f b0 b1 b2 b3 x.f1 x.f2 1 1).isSome) = true
     ·
      rw [if_pos c5] at h
      have hcall := fun W (hW : Below (w.alloc (.cells #[.int .i64 b0, .int .i64 b1, .int .i64 b2, .int .i64 b3] 26)).heap.size (w.alloc (.cells #[.int .i64 b0, .int .i64 b1, .int .i64 b2, .int .i64 b3] 26)) W) => cont_Label.calls (fun x => (impl_meet.f b0 b1 b2 b3 x.f1 x.f2 1 1).getD false) 99 #[.pointer (some ⟨w.heap.size, 0, none⟩)] (fun _ _ => rfl) A0 c0 l0 W (Kd.C_below (Kd.C_below hr0 hB) hW) hc0 (fun W' x hx hW' => by
       obtain ⟨b, hb⟩ := Option.isSome_iff_exists.1 (List.all_eq_true.1 c5 x hx)
       rw [hb]
       refine (free1_ w.heap.size b0 b1 b2 b3 x.f0 x.f1 x.f2 b W' (blk_below (blk_below hg hW) hW') hb).mono ?_
       rintro e w'' ⟨rfl, hb2⟩
       exact ⟨rfl, below_step hW' hb2⟩)
      obtain rfl := Option.some.inj h
      generalize l0.any (fun x => (impl_meet.f b0 b1 b2 b3 x.f1 x.f2 1 1).getD false) = q at hcall ⊢
      have HC := Aside0.mk hcall
      clear hcall hr0 c5 h hg
      go_enter Tryd.func67, Tryd.ntmps67
      go_wp2_with (go_at_call 61; refine (HC.out _ (Below.refl _ _)).mono ?_; rintro e w' ⟨rfl, hb⟩)
      go_ret
      exact ⟨rfl, below_step hB hb⟩
     ·
      rw [if_neg c5] at h
      cases h
def slices_CloneInt.f (l0 : List Int) : Option (List Int) := if l0.length ≤ 1000000 then some l0 else none
set_option maxHeartbeats 4000000 in
set_option maxRecDepth 100000 in
theorem slices_CloneInt.calls (A0 : Option Addr) (c0 : Nat) (l0 : List Int) (r : List Int) (w : World) (hr0 : Kd.C (Kd.int .i64) w A0 l0.length l0) (hc0 : l0.length ≤ c0) (h : slices_CloneInt.f l0 = some r) :
  Calls Tryd.prog 103 #[.slice A0 l0.length c0] w fun e w' => ∃ v0_ : Value, e = .returned (v0_) ∧ Kd.R (Kd.int .i64) 3 w' w.heap.size (fun _ => True) v0_ r ∧ Below w.heap.size w w' := by
 unfold slices_CloneInt.f at h
 by_cases hl : l0.length ≤ 1000000
 ·
  rw [if_pos hl] at h
  obtain rfl := Option.some.inj h
  have HR := Aside0.mk hr0
  clear hr0
  cases A0 with
  | none =>
   have hn : l0 = [] := by
    rcases Nat.eq_zero_or_pos l0.length with h0 | h0
    ·
     exact List.length_eq_zero_iff.1 h0
    ·
     obtain ⟨ad, e, _⟩ := HR.out.2.2 h0
     cases e
   subst hn
   have hq : ∀ w, Sem.run Tryd.prog (binOp .eql 40 (.slice none 0 c0) (.slice none 0 0)) w = .ok (.bool true) w := fun w => by rfl
   go_enter Tryd.func103, Tryd.ntmps103
   go_wp2
   go_ret
   exact ⟨_, rfl, Kd.R_nil _ _ _ _ _, Below.refl _ _⟩
  | some ad =>
   have hq : ∀ w, Sem.run Tryd.prog (binOp .eql 40 (.slice (some ad) l0.length c0) (.slice none 0 0)) w = .ok (.bool false) w := fun w => by rfl
   go_enter Tryd.func103, Tryd.ntmps103
   go_wp2_with (first | ((with_reducible refine gate_dst (N := 5) rfl ?_); refine Kd.R_lit (Kd.int .i64) _ 3 ?hg (N := 5) ?hd (xs := []) (inner := []) (ok := fun _ => True) (okp := fun _ => True) ?hr ?hp (fun _ hk => hk) trivial (Below.refl _ _) (Nat.le_refl _) (by simp) ?_; (case hd => rfl); (case hg => rfl); (case hr => first | (go_simp; done) | (go_simp; rfl)); (case hp => exact (Reps.none _ _)); intro v5 w4 ho5 hb5 hg_ hnew_; clear hg_ hnew_; have HO5 := Aside0.mk ho5; have HB5 := Aside0.mk hb5; clear ho5 hb5) | ((with_reducible refine gate_builtin (b := .append) (xs := #[.tmp 5, .tmp 6]) rfl ?_); at_builtin; refine Kd.R_append_rows (Kd.int .i64) (w0 := w) w.heap.size rfl (.tmp 5) (.tmp 6) 40 3 (.int .i64 0) 8 rfl Tryd.underlying40 info3 rfl (by decide) (by omega) v5 [] l0 (some ad) _ _ (fun _ => True) (fun _ => False) rfl rfl HO5.out (Kd.C_below HR.out HB5.out) (fun _ _ h => h) (fun _ h => h.elim) (fun _ _ => trivial) HB5.out (below_size HB5.out) (by simp; omega) ?_; intro v7 w7 ho7 hb7 hg7 hat7; have HO7 := Aside0.mk ho7; have HB7 := Aside0.mk hb7; clear ho7 hb7 hg7 hat7))
   go_ret
   exact ⟨_, rfl, HO7.out, HB7.out⟩
 ·
  rw [if_neg hl] at h
  cases h
def resB_ (ct : Bool) (ps : List (List Int)) : Bool := ct || ps.isEmpty
def resY_ (ct : Bool) (ps : List (List Int)) : List (List Int) := match ct with
 | true => ps
 | false => ps.take 1
theorem res_go_ {ct : Bool} {ys acc pa : List (List Int)} (h : ct = true ∨ ys ++ acc = []) (hb : resB_ ct pa = true) : resY_ ct pa = pa ∧ (ct = true ∨ ys ++ (acc ++ pa) = []) := by
 cases ct with
 | true => exact ⟨rfl, .inl rfl⟩
 | false =>
  have h1 := h.resolve_left (by decide)
  have h2 : pa = [] := by simpa [resB_] using hb
  subst h2
  exact ⟨rfl, .inr (by simpa using h1)⟩
theorem res_stop_ {ct : Bool} {ys acc pa : List (List Int)} (h : ct = true ∨ ys ++ acc = []) (hb : resB_ ct pa = false) (rest : List (List Int)) : resB_ ct (acc ++ (pa ++ rest)) = false ∧ ys ++ resY_ ct (acc ++ (pa ++ rest)) = ys ++ acc ++ resY_ ct pa := by
 cases ct with
 | true => cases hb
 | false =>
  have h1 := List.append_eq_nil_iff.1 (h.resolve_left (by decide))
  obtain ⟨rfl, rfl⟩ := h1
  cases pa with
  | nil => cases hb
  | cons p t => exact ⟨rfl, rfl⟩
def hitB_ (l0 : List S26) (b0 b1 b2 b3 : Int) : Option Bool :=
 if l0.all (fun x => (impl_meet.f b0 b1 b2 b3 x.f0 x.f1 x.f2 x.f3).isSome) = true then some (l0.any fun x => (impl_meet.f b0 b1 b2 b3 x.f0 x.f1 x.f2 x.f3).getD false) else none
def plc_ (l : List S29) (idx : List Int) : Nat → List Int → List S26 → Option (List (List Int))
 | 0, ways, _ => some [ways]
 | m + 1, ways, boxes => if 0 ≤ rd idx (ways.length : Int) ∧ rd idx (ways.length : Int) < (l.length : Int) then
   catM_ (fun way => (impl_boxFor.f (rd_T29 l (rd idx (ways.length : Int))).f0 (rd_T29 l (rd idx (ways.length : Int))).f1 (rd_T29 l (rd idx (ways.length : Int))).f2 way).bind fun b =>
    (impl_free.f l b.1 b.2.1 b.2.2.1 b.2.2.2).bind fun fr => if fr = true then (hitB_ boxes b.1 b.2.1 b.2.2.1 b.2.2.2).bind fun hit => if hit = true then some [] else plc_ l idx m (ways ++ [way]) (boxes ++ [⟨b.1, b.2.1, b.2.2.1, b.2.2.2⟩]) else some []) [0, 1, 2, 3]
  else none
set_option maxHeartbeats 4000000 in
theorem place11_ (gb : Nat) (b0 b1 b2 b3 : Int) (a0 a1 a2 a3 : Int) (r : Bool) (w : World) (hb : w.heap[gb]? = some (.cells #[.int .i64 b0, .int .i64 b1, .int .i64 b2, .int .i64 b3] 26 (0, 0))) (h : impl_meet.f b0 b1 b2 b3 a0 a1 a2 a3 = some r) :
  Calls Tryd.prog 104 (#[.agg #[.int .i64 a0, .int .i64 a1, .int .i64 a2, .int .i64 a3]] ++ #[.pointer (some ⟨gb, 0, none⟩)]) w fun e w' => e = .returned (.bool r) ∧ Below w.heap.size w w' := by
 show Calls Tryd.prog 104 #[.agg #[.int .i64 a0, .int .i64 a1, .int .i64 a2, .int .i64 a3], .pointer (some ⟨gb, 0, none⟩)] w _
 have h0 : w.cell? ⟨gb, 0, none⟩ = some (.int .i64 b0) := (blk_cell hb 0).trans rfl
 have h1 : w.cell? ⟨gb, 1, none⟩ = some (.int .i64 b1) := (blk_cell hb 1).trans rfl
 have h2 : w.cell? ⟨gb, 2, none⟩ = some (.int .i64 b2) := (blk_cell hb 2).trans rfl
 have h3 : w.cell? ⟨gb, 3, none⟩ = some (.int .i64 b3) := (blk_cell hb 3).trans rfl
 have hB := below_alloc (Below.refl w.heap.size w) (.cells #[.int .i64 a0, .int .i64 a1, .int .i64 a2, .int .i64 a3] 26)
 replace h0 := (hB.cell (World.block_lt_of_cell? w _ h0)).trans h0
 replace h1 := (hB.cell (World.block_lt_of_cell? w _ h1)).trans h1
 replace h2 := (hB.cell (World.block_lt_of_cell? w _ h2)).trans h2
 replace h3 := (hB.cell (World.block_lt_of_cell? w _ h3)).trans h3
 clear hb
 go_enter Tryd.func104, Tryd.ntmps104
 go_wp2_with (go_at_call 70; refine (impl_meet.calls b0 b1 b2 b3 a0 a1 a2 a3 r _ h).mono ?_; rintro e w' ⟨rfl, hb⟩)
 go_ret
 exact ⟨rfl, below_step hB hb⟩
set_option maxRecDepth 100000 in
theorem hit_calls (A0 : Option Addr) (c0 : Nat) (l0 : List S26) (b0 b1 b2 b3 : Int) (r : Bool) (w : World) (hr0 : Kd.C k26 w A0 l0.length l0) (hc0 : l0.length ≤ c0) (h : hitB_ l0 b0 b1 b2 b3 = some r) {gb : Nat} (hbx : w.heap[gb]? = some (.cells #[.int .i64 b0, .int .i64 b1, .int .i64 b2, .int .i64 b3] 26 (0, 0))) :
  Calls Tryd.prog 68 #[.slice A0 l0.length c0, .func (.func 104) #[] #[.pointer (some ⟨gb, 0, none⟩)]] w fun e w' => e = .returned (.bool r) ∧ Below w.heap.size w w' := by
 unfold hitB_ at h
 by_cases c5 : l0.all (fun x => (impl_meet.f b0 b1 b2 b3 x.f0 x.f1 x.f2 x.f3).isSome) = true
 ·
  rw [if_pos c5] at h
  obtain rfl := Option.some.inj h
  exact cont_Box.calls (fun x => (impl_meet.f b0 b1 b2 b3 x.f0 x.f1 x.f2 x.f3).getD false) 104 #[.pointer (some ⟨gb, 0, none⟩)] (fun _ _ => rfl) A0 c0 l0 w hr0 hc0 (fun W' x hx hW' => by
   obtain ⟨b, hb⟩ := Option.isSome_iff_exists.1 (List.all_eq_true.1 c5 x hx)
   rw [hb]
   refine (place11_ gb b0 b1 b2 b3 x.f0 x.f1 x.f2 x.f3 b W' (blk_below hbx hW') hb).mono ?_
   rintro e w'' ⟨rfl, hb2⟩
   exact ⟨rfl, below_step hW' hb2⟩)
 ·
  rw [if_neg c5] at h
  cases h
def place3.T : Bool × List (List Nat × List Nat) := (true, [([], []), ([], []), ([1], [1]), ([0, 2, 2], [0, 2]), ([3, 3, 0, 1, 2, 3], [3])])
def place3.B : List Nat := [0, 0, 2, 7, 15]
theorem place3.tab : rtab .any (opsOf Tryd.f102 3) = place3.T := by kernel_rfl
theorem place3.bits : waitsOk place3.T.2 place3.B = true := by kernel_rfl
abbrev place3.mkE : Array Bool := #[false, false, false, false, false]
abbrev place3.mk0 : Array Bool := #[true, false, false, false, false]
abbrev place3.mk0_1 : Array Bool := #[true, true, false, false, false]
abbrev place3.mk0_1_2 : Array Bool := #[true, true, true, false, false]
abbrev place3.mk0_1_2_3 : Array Bool := #[true, true, true, true, false]
abbrev place3.mk0_1_2_3_4 : Array Bool := #[true, true, true, true, true]
def place7.T : Bool × List (List Nat × List Nat) := (true, [([], []), ([], []), ([], []), ([1, 2], [1, 2]), ([3], [3]), ([0, 4], [0, 4]), ([5], [5]), ([], []), ([6, 7], [6, 7]), ([], []), ([9, 8, 8, 0, 1, 2, 3, 4, 5, 6, 7, 8, 9], [8, 9])])
def place7.B : List Nat := [0, 0, 0, 6, 14, 31, 63, 0, 255, 0, 1023]
theorem place7.tab : rtab .any (opsOf Tryd.f102 7) = place7.T := by kernel_rfl
theorem place7.bits : waitsOk place7.T.2 place7.B = true := by kernel_rfl
abbrev place7.mkE : Array Bool := #[fF,fF,fF,fF,fF,fF,fF,fF,fF,fF,fF]
abbrev place7.mk2 : Array Bool := #[fF,fF,tT,fF,fF,fF,fF,fF,fF,fF,fF]
abbrev place7.mk2_7 : Array Bool := #[fF,fF,tT,fF,fF,fF,fF,tT,fF,fF,fF]
abbrev place7.mk0_2_7 : Array Bool := #[tT,fF,tT,fF,fF,fF,fF,tT,fF,fF,fF]
abbrev place7.mk0_1_2_7 : Array Bool := #[tT,tT,tT,fF,fF,fF,fF,tT,fF,fF,fF]
abbrev place7.mk0_1_2_3_7 : Array Bool := #[tT,tT,tT,tT,fF,fF,fF,tT,fF,fF,fF]
abbrev place7.mk0_1_2_3_4_7 : Array Bool := #[tT,tT,tT,tT,tT,fF,fF,tT,fF,fF,fF]
abbrev place7.mk0_1_2_3_4_5_7 : Array Bool := #[tT,tT,tT,tT,tT,tT,fF,tT,fF,fF,fF]
abbrev place7.mk0_1_2_3_4_5_6_7 : Array Bool := #[tT,tT,tT,tT,tT,tT,tT,tT,fF,fF,fF]
abbrev place7.mk0_1_2_3_4_5_6_7_8_9 : Array Bool := #[tT,tT,tT,tT,tT,tT,tT,tT,tT,tT,fF]
abbrev place7.mk0_1_2_3_4_5_6_7_8 : Array Bool := #[tT,tT,tT,tT,tT,tT,tT,tT,tT,fF,fF]
abbrev place7.mk0_1_2_3_4_5_6_7_9 : Array Bool := #[tT,tT,tT,tT,tT,tT,tT,tT,fF,tT,fF]
abbrev place7.mk0_1_2_3_4_5_6_7_8_9_10 : Array Bool := #[tT,tT,tT,tT,tT,tT,tT,tT,tT,tT,tT]
def place9.T : Bool × List (List Nat × List Nat) := (true, [([], []), ([], []), ([1], [1]), ([0, 2], [0, 2]), ([], []), ([], []), ([5], [5]), ([4, 6, 3], [4, 6]), ([3, 7, 0, 1, 2, 3], [3]), ([7, 8, 0, 1, 2, 3, 4, 5, 6, 7, 8], [7])])
def place9.B : List Nat := [0, 0, 2, 7, 0, 0, 32, 127, 255, 511]
theorem place9.tab : rtab .any (opsOf Tryd.f102 9) = place9.T := by kernel_rfl
theorem place9.bits : waitsOk place9.T.2 place9.B = true := by kernel_rfl
abbrev place9.mkE : Array Bool := #[fF,fF,fF,fF,fF,fF,fF,fF,fF,fF]
abbrev place9.mk1 : Array Bool := #[fF,tT,fF,fF,fF,fF,fF,fF,fF,fF]
abbrev place9.mk0_1 : Array Bool := #[tT,tT,fF,fF,fF,fF,fF,fF,fF,fF]
abbrev place9.mk0_1_4 : Array Bool := #[tT,tT,fF,fF,tT,fF,fF,fF,fF,fF]
abbrev place9.mk0_1_4_5 : Array Bool := #[tT,tT,fF,fF,tT,tT,fF,fF,fF,fF]
abbrev place9.mk0_1_2_3_4_5_6 : Array Bool := #[tT,tT,tT,tT,tT,tT,tT,fF,fF,fF]
abbrev place9.mk0_1_2_4_5 : Array Bool := #[tT,tT,tT,fF,tT,tT,fF,fF,fF,fF]
abbrev place9.mk0_1_4_5_6 : Array Bool := #[tT,tT,fF,fF,tT,tT,tT,fF,fF,fF]
abbrev place9.mk0_1_2_3_4_5 : Array Bool := #[tT,tT,tT,tT,tT,tT,fF,fF,fF,fF]
abbrev place9.mk0_1_2_4_5_6 : Array Bool := #[tT,tT,tT,fF,tT,tT,tT,fF,fF,fF]
abbrev place9.mk0_1_2_3_4_5_6_7 : Array Bool := #[tT,tT,tT,tT,tT,tT,tT,tT,fF,fF]
abbrev place9.mk0_1_2_3_4_5_6_7_8 : Array Bool := #[tT,tT,tT,tT,tT,tT,tT,tT,tT,fF]
abbrev place9.mk0_1_2_3_4_5_6_7_8_9 : Array Bool := #[tT,tT,tT,tT,tT,tT,tT,tT,tT,tT]
def place11.T : Bool × List (List Nat × List Nat) := (true, [([], []), ([], []), ([0, 1], [0, 1]), ([], []), ([], []), ([3, 4], [3, 4]), ([2, 0, 1, 2], [2]), ([5, 6, 0, 1, 2, 3, 4, 5, 6], [5])])
def place11.B : List Nat := [0, 0, 3, 0, 0, 24, 7, 127]
theorem place11.tab : rtab .any (opsOf Tryd.f102 11) = place11.T := by kernel_rfl
theorem place11.bits : waitsOk place11.T.2 place11.B = true := by kernel_rfl
abbrev place11.mkE : Array Bool := #[fF,fF,fF,fF,fF,fF,fF,fF]
abbrev place11.mk1 : Array Bool := #[fF,tT,fF,fF,fF,fF,fF,fF]
abbrev place11.mk1_4 : Array Bool := #[fF,tT,fF,fF,tT,fF,fF,fF]
abbrev place11.mk0_1_2_3_4_5_6 : Array Bool := #[tT,tT,tT,tT,tT,tT,tT,fF]
abbrev place11.mk0_1_4 : Array Bool := #[tT,tT,fF,fF,tT,fF,fF,fF]
abbrev place11.mk1_3_4 : Array Bool := #[fF,tT,fF,tT,tT,fF,fF,fF]
abbrev place11.mk0_1_2_4 : Array Bool := #[tT,tT,tT,fF,tT,fF,fF,fF]
abbrev place11.mk0_1_2_3_4 : Array Bool := #[tT,tT,tT,tT,tT,fF,fF,fF]
abbrev place11.mk0_1_2_4_6 : Array Bool := #[tT,tT,tT,fF,tT,fF,tT,fF]
abbrev place11.mk0_1_2_3_4_5 : Array Bool := #[tT,tT,tT,tT,tT,tT,fF,fF]
abbrev place11.mk0_1_2_3_4_6 : Array Bool := #[tT,tT,tT,tT,tT,fF,tT,fF]
abbrev place11.mk1_3_4_5 : Array Bool := #[fF,tT,fF,tT,tT,tT,fF,fF]
abbrev place11.mk0_1_3_4_5 : Array Bool := #[tT,tT,fF,tT,tT,tT,fF,fF]
abbrev place11.mk0_1_2_3_4_5_6_7 : Array Bool := #[tT,tT,tT,tT,tT,tT,tT,tT]
set_option maxHeartbeats 8000000 in
set_option maxRecDepth 100000 in
theorem from_ (l : List S29) (A0 : Option Addr) (c0 : Nat) (w0 : World) (hr0 : Kd.C k29 w0 A0 l.length l) (hc0 : l.length ≤ c0) (Y : Nat → Prop) (gyf : Nat) (lby : Array Value) (egy : ∀ args w, (callFunc gyf args).run Tryd.prog w = .ok (.enter gyf args) w) (ct : Bool) (St : List (List Int) → World → Prop)
  (hst1 : ∀ ys (W W' : World), (ct = true ∨ ys = []) → (∀ k, Y k → W'.heap[k]? = W.heap[k]?) → St ys W → St ys W')
  (hst2 : ∀ ys (W : World) (g t : Nat) (cs : Array Value) (u : Value), ¬ Y g → W.heap[g]? = some (.cells cs t (0, 0)) → (t = 40 ∨ t = 79) → St ys W → St ys (W.setCell ⟨g, 0, none⟩ u))
  (hst3 : ∀ ys (W : World), St ys W → St ys W.drew)
  (hy : ∀ ys (ways : List Int) (v : Value) (W : World), (ct = true ∨ ys = []) → (∀ k, Y k → k < W.heap.size) → St ys W → (Kd.int .i64).R 3 W w0.heap.size (fun k => ¬ Y k) v ways → Below w0.heap.size w0 W → Calls Tryd.prog gyf (#[v] ++ lby) W fun e w' => e = .returned (.bool ct) ∧ St (ys ++ [ways]) w' ∧ FrY Y W w' ∧ Below w0.heap.size w0 w')
  (gw gi gy gl gb gf : Nat) (vi : Value) (idx : List Int) (hidx : idx.length < 1000000) : ∀ (m : Nat) (ways : List Int) (boxes : List S26) (ys ps : List (List Int)) (w : World) (vw vb : Value), idx.length = ways.length + m → boxes.length = ways.length → plc_ l idx m ways boxes = some ps → (ct = true ∨ ys = []) →
  PlS Y w w0 gw gi gy gl gb gf vw vw vi (.slice A0 l.length c0) vb vb (.func (.func gyf) #[] lby) (.func (.func 102) #[] #[.pointer (some ⟨gw, 0, none⟩), .pointer (some ⟨gi, 0, none⟩), .pointer (some ⟨gy, 0, none⟩), .pointer (some ⟨gl, 0, none⟩), .pointer (some ⟨gb, 0, none⟩), .pointer (some ⟨gf, 0, none⟩)]) ways idx boxes → St ys w → Below w0.heap.size w0 w →
  Calls Tryd.prog 102 #[.pointer (some ⟨gw, 0, none⟩), .pointer (some ⟨gi, 0, none⟩), .pointer (some ⟨gy, 0, none⟩), .pointer (some ⟨gl, 0, none⟩), .pointer (some ⟨gb, 0, none⟩), .pointer (some ⟨gf, 0, none⟩)] w fun e w' => e = .returned (.bool (resB_ ct ps)) ∧ (∃ vw' vb', PlS Y w' w0 gw gi gy gl gb gf vw' vw' vi (.slice A0 l.length c0) vb' vb' (.func (.func gyf) #[] lby) (.func (.func 102) #[] #[.pointer (some ⟨gw, 0, none⟩), .pointer (some ⟨gi, 0, none⟩), .pointer (some ⟨gy, 0, none⟩), .pointer (some ⟨gl, 0, none⟩), .pointer (some ⟨gb, 0, none⟩), .pointer (some ⟨gf, 0, none⟩)]) ways idx boxes) ∧ St (ys ++ resY_ ct ps) w' ∧ Below w0.heap.size w0 w' := by
 have HR := Aside0.mk hr0
 have HC := Aside0.mk hc0
 have HY := Aside0.mk hy
 have H1 := Aside0.mk hst1
 have H2 := Aside0.mk hst2
 have H3 := Aside0.mk hst3
 have hu1 := Tryd.underlying29
 have hu2 := Tryd.underlying26
 have hu3 := Tryd.underlying79
 have hu4 := Tryd.underlying40
 clear hr0 hc0 hy hst1 hst2 hst3
 intro m
 induction m with
 | zero =>
  intro ways boxes ys ps w vw vb hm hbl hp hys hS hSt hB
  have HS := Aside0.mk hS
  have HT := Aside0.mk hSt
  have HB := Aside0.mk hB
  obtain ⟨A, c, rfl⟩ := Kd.R_slice hS.rW
  obtain ⟨Ai, ci, rfl⟩ := hS.rI.slice_
  obtain ⟨Ab, cb, rfl⟩ := Kd.R_slice hS.rB
  have hcw : w.cell? ⟨gw, 0, none⟩ = some (.slice A ways.length c) := (blk_cell hS.cw 0).trans rfl
  have hci : w.cell? ⟨gi, 0, none⟩ = some (.slice Ai idx.length ci) := (blk_cell hS.ci 0).trans rfl
  obtain rfl : [ways] = ps := by
   unfold plc_ at hp
   exact Option.some.inj hp
  have hq : idx.length = ways.length := by omega
  have n0 : ((ways.length : Int) == (idx.length : Int)) = true := beq_iff_eq.mpr (by omega)
  have n1 : decide ((ways.length : Int) = (idx.length : Int)) = true := decide_eq_true (by omega)
  have n2 : (ways.length = idx.length) = True := eq_true (by omega)
  have n3 : (ways.length == idx.length) = true := beq_iff_eq.mpr (by omega)
  have hcl : slices_CloneInt.f ways = some ways := by
   unfold slices_CloneInt.f
   rw [if_pos (by omega)]
  have HCL := Aside0.mk hcl
  have HYS := Aside0.mk hys
  clear hp hS hSt hB hys hcl hq hm hbl
  go_enter Tryd.func102, Tryd.ntmps102
  go_wp2
  replace HS := Aside0.mk (HS.out.below (below_drew (Below.refl _ w)))
  replace HT := Aside0.mk (H1.out ys w w.drew HYS.out (fun _ _ => rfl) HT.out)
  replace HB := Aside0.mk (below_drew HB.out)
  clear hcw hci
  refine start_ (n := 5) (S := fun w' => w'.cell? ⟨gy, 0, none⟩ = some (.func (.func gyf) #[] lby) ∧ w'.cell? ⟨gw, 0, none⟩ = some (.slice A ways.length c)) (ds := []) place3.mkE (by kernel_rfl) rfl rfl ⟨(blk_cell HS.out.cy 0).trans rfl, (blk_cell HS.out.cw 0).trans rfl⟩ (fun hHeld => ?_); refine with_tabW place3.tab place3.bits (fun HT_ HW_ => ?_)
  generalize w.drew = W at HS HT HB hHeld ⊢
  refine tk_ HT_ HW_ hHeld 0 (some 17) place3.mk0 ?_
  refine tk_ HT_ HW_ hHeld 1 (some 18) place3.mk0_1 ?_
  refine one_ (i := 2) (N := some 19) place3.mk0_1_2 rfl rfl (one_of HT_.out (by kernel_rfl)) (by decide) (fun K hK => ?_)
  refine gs_ Tryd.func103 #[.slice A ways.length c] ?_
  refine (slices_CloneInt.calls A c ways ways _ (Kd.R_reads' HS.out.rW).2.2 (Kd.R_reads' HS.out.rW).2.1 HCL.out).mono ?_
  rintro e W2 ⟨v, rfl, hv, hb⟩
  refine ⟨_, rfl, ?_⟩
  have hv2 := Kd.R_lower (Kd.R_mono (ok' := fun k => ¬ Y k) (Kd.R_bound hv) (fun k hk hY => by have := HS.out.ys k hY; have := hk.2.1; omega)) (below_size HB.out)
  have hT_ := H1.out ys W W2 HYS.out (fun k hk => hb.block k (HS.out.ys k hk)) HT.out
  replace HS := Aside0.mk (HS.out.below hb)
  replace HT := Aside0.mk hT_
  replace HB := Aside0.mk (below_step HB.out hb)
  have HV := Aside0.mk hv2
  clear hb hv hv2 hT_
  refine hK.out _ _ ⟨(blk_cell HS.out.cy 0).trans rfl, (blk_cell HS.out.cw 0).trans rfl⟩ (fun hHeld => ?_)
  clear hK K
  refine na_ ?_
  refine one_ (i := 3) (N := some 20) place3.mk0_1_2_3 rfl rfl (one_of HT_.out (by kernel_rfl)) (by decide) (fun K hK => ?_)
  refine call_ gyf (#[v] ++ lby) (by rfl) rfl ?hrun ?_
  case hrun => first | (go_simp; done) | (go_simp; exact egy _ _)
  refine (HY.out ys ways v W2 HYS.out HS.out.ys HT.out HV.out HB.out).mono ?_
  rintro e W3 ⟨rfl, hT3, hF3, hB3⟩
  refine ⟨_, rfl, ?_⟩
  replace HS := Aside0.mk (HS.out.fr hF3)
  replace HT := Aside0.mk hT3
  replace HB := Aside0.mk hB3
  clear hT3 hF3 hB3
  refine hK.out _ _ ⟨(blk_cell HS.out.cy 0).trans rfl, (blk_cell HS.out.cw 0).trans rfl⟩ (fun hHeld => ?_)
  clear hK K
  refine na_ ?_
  refine pz_ HT_ 4 (some 6) place3.mk0_1_2_3_4 ?_
  refine done_ (done_of HT_.out (by kernel_rfl)) ?_
  go_wp2
  go_ret
  refine ⟨?_, ⟨_, _, HS.out⟩, ?_, HB.out⟩
  ·
   cases ct <;> rfl
  ·
   cases ct <;> exact HT.out
 | succ m ih =>
  intro ways boxes ys ps w vw vb hm hbl hp hys hS hSt hB
  have HS := Aside0.mk hS
  have HT := Aside0.mk hSt
  have HB := Aside0.mk hB
  obtain ⟨A, c, rfl⟩ := Kd.R_slice hS.rW
  obtain ⟨Ai, ci, rfl⟩ := hS.rI.slice_
  obtain ⟨Ab, cb, rfl⟩ := Kd.R_slice hS.rB
  have hcw : w.cell? ⟨gw, 0, none⟩ = some (.slice A ways.length c) := (blk_cell hS.cw 0).trans rfl
  have hci : w.cell? ⟨gi, 0, none⟩ = some (.slice Ai idx.length ci) := (blk_cell hS.ci 0).trans rfl
  unfold plc_ at hp
  by_cases hj : 0 ≤ rd idx (ways.length : Int) ∧ rd idx (ways.length : Int) < (l.length : Int)
  ·
   rw [if_pos hj] at hp
   have n0 : ((ways.length : Int) == (idx.length : Int)) = false := beq_eq_false_iff_ne.mpr (by omega)
   have n1 : decide ((ways.length : Int) = (idx.length : Int)) = false := decide_eq_false (by omega)
   have n2 : (ways.length = idx.length) = False := eq_false (by omega)
   have n3 : (ways.length == idx.length) = false := beq_eq_false_iff_ne.mpr (by omega)
   obtain ⟨ai, e1⟩ := hS.rI.some_ (by omega)
   subst e1
   obtain ⟨al, e2, z1, z2, z3⟩ := at_T29 HR.out (rd idx (ways.length : Int)) hj.1 hj.2
   subst e2
   obtain ⟨j, hjd⟩ : ∃ j, rd idx (ways.length : Int) = j := ⟨_, rfl⟩
   rw [hjd] at hp hj z1 z2 z3
   have HJ := Aside0.mk hjd
   have HN := Aside0.mk (show ways.length < idx.length by omega)
   clear hjd
   generalize rd_T29 l j = x at hp z1 z2 z3
   have q0 : (0 : Int) ≤ (ways.length : Int) := by omega
   have q1 : (ways.length : Int) < (idx.length : Int) := by omega
   have q2 : 0 ≤ j := hj.1
   have q3 : j < (l.length : Int) := hj.2
   have Z1 := Aside0.mk z1
   have Z2 := Aside0.mk z2
   have Z3 := Aside0.mk z3
   have HP := Aside0.mk hp
   have HYS := Aside0.mk hys
   have HM := Aside0.mk hm
   have HBL := Aside0.mk hbl
   have IH := Aside0.mk ih
   clear hp hS hSt hB hys z1 z2 z3 hj hm hbl ih
   go_enter Tryd.func102, Tryd.ntmps102
   go_wp2
   clear hcw hci
   go_loopg [21] 4 (fun gg v21 wr => ∃ (kk : Nat) (acc rest : List (List Int)) (vw vb : Value), kk ≤ 4 ∧ 4 - kk ≤ gg ∧ v21 = .int .i64 kk ∧ Aside0 (catM_ (fun way => (impl_boxFor.f x.f0 x.f1 x.f2 way).bind fun b => (impl_free.f l b.1 b.2.1 b.2.2.1 b.2.2.2).bind fun fr => if fr = true then (hitB_ boxes b.1 b.2.1 b.2.2.1 b.2.2.2).bind fun hit => if hit = true then some [] else plc_ l idx m (ways ++ [way]) (boxes ++ [⟨b.1, b.2.1, b.2.2.1, b.2.2.2⟩]) else some []) ([0, 1, 2, 3].drop kk) = some rest ∧ ps = acc ++ rest) ∧ Aside0 (ct = true ∨ ys ++ acc = []) ∧ Aside0 (PlS Y wr w0 gw gi gy gl gb gf vw vw (.slice (some ai) idx.length ci) (.slice (some al) l.length c0) vb vb (.func (.func gyf) #[] lby) (.func (.func 102) #[] #[.pointer (some ⟨gw, 0, none⟩), .pointer (some ⟨gi, 0, none⟩), .pointer (some ⟨gy, 0, none⟩), .pointer (some ⟨gl, 0, none⟩), .pointer (some ⟨gb, 0, none⟩), .pointer (some ⟨gf, 0, none⟩)]) ways idx boxes) ∧ Aside0 (St (ys ++ acc) wr) ∧ Aside0 (Below w0.heap.size w0 wr))
   case atStart => exact ⟨0, [], ps, _, _, by omega, by omega, rfl, ⟨HP.out, rfl⟩, ⟨by simpa using HYS.out⟩, HS, ⟨by simpa using HT.out⟩, HB⟩
   case round =>
    clear HS HT HB HP HYS
    obtain ⟨kk, acc, rest, vw, vb, hkk, hgg, rfl, HP, HYS, HS, HT, HB⟩ := hrel
    by_cases hlt : kk < 4
    ·
     have hltz : (kk : Int) < 4 := by omega
     have hw1 : wrap64 ((kk : Int) + 1) = ((kk + 1 : Nat) : Int) := by
      unfold wrap64
      omega
     obtain ⟨hp, e1⟩ := HP.out
     have ed : ([0, 1, 2, 3] : List Int).drop kk = (kk : Int) :: ([0, 1, 2, 3] : List Int).drop (kk + 1) := by
      have hk4 : kk = 0 ∨ kk = 1 ∨ kk = 2 ∨ kk = 3 := by omega
      rcases hk4 with rfl | rfl | rfl | rfl <;> rfl
     rw [ed] at hp
     unfold catM_ at hp
     obtain ⟨pa, h1, hp⟩ := Option.bind_eq_some_iff.mp hp
     obtain ⟨rest', h2, hp⟩ := Option.bind_eq_some_iff.mp hp
     obtain rfl := Option.some.inj hp
     (try simp only at h1)
     obtain ⟨⟨b0, b1, b2, b3⟩, hbf, h1⟩ := Option.bind_eq_some_iff.mp h1
     obtain ⟨fr, hfr, h1⟩ := Option.bind_eq_some_iff.mp h1
     (try simp only at hfr)
     (try simp only at h1)
     have HBF := Aside0.mk hbf
     have HFR := Aside0.mk hfr
     have HP2 := Aside0.mk h2
     have HE := Aside0.mk e1
     have HG := Aside0.mk hgg
     obtain ⟨A, c, rfl⟩ := Kd.R_slice HS.out.rW
     obtain ⟨Ab, cb, rfl⟩ := Kd.R_slice HS.out.rB
     clear hbf hfr h2 e1 hgg HP ed hp
     have hcl7 : wr.cell? ⟨gl, 0, none⟩ = some (.slice (some al) l.length c0) := (blk_cell HS.out.cl 0).trans rfl
     go_wp2
     clear hcl7
     have hT_ := H1.out (ys ++ acc) wr wr.drew HYS.out (fun k hk => rfl) HT.out
     replace HT := Aside0.mk hT_
     clear hT_
     replace HS := Aside0.mk (HS.out.below (below_drew (Below.refl _ wr)))
     replace HB := Aside0.mk (below_drew HB.out)
     refine start_ (n := 11) (S := fun w' => w'.cell? ⟨gl, 0, none⟩ = some (.slice (some al) l.length c0) ∧ w'.cell? ⟨gi, 0, none⟩ = some (.slice (some ai) idx.length ci) ∧ w'.cell? (ai.add ways.length) = some (.int .i64 j) ∧ w'.cell? (al.add (j.toNat * 3)) = some (.string x.f0) ∧ w'.cell? ⟨(al.add (j.toNat * 3)).block, (al.add (j.toNat * 3)).off + 1, none⟩ = some (.int .i64 x.f1) ∧ w'.cell? ⟨(al.add (j.toNat * 3)).block, (al.add (j.toNat * 3)).off + 2, none⟩ = some (.int .i64 x.f2)) (ds := []) place7.mkE (by kernel_rfl) rfl rfl ⟨(blk_cell HS.out.cl 0).trans rfl, (blk_cell HS.out.ci 0).trans rfl, HS.out.rI.at_ HB.out HN.out HJ.out, bc_ HB.out Z1.out, bc_ HB.out Z2.out, bc_ HB.out Z3.out⟩ (fun hHeld => ?_); refine with_tabW place7.tab place7.bits (fun HT_ HW_ => ?_)
     generalize wr.drew = W at HS HT HB hHeld ⊢
     refine pz_ HT_ 2 (some 26) place7.mk2 ?_
     refine pz_ HT_ 7 (some 31) place7.mk2_7 ?_
     refine tk_ HT_ HW_ hHeld 0 (some 24) place7.mk0_2_7 ?_
     refine tk_ HT_ HW_ hHeld 1 (some 25) place7.mk0_1_2_7 ?_
     refine pz_ HT_ 3 (some 27) place7.mk0_1_2_3_7 ?_
     refine tk_ HT_ HW_ hHeld 4 (some 28) place7.mk0_1_2_3_4_7 ?_
     refine pz_ HT_ 5 (some 29) place7.mk0_1_2_3_4_5_7 ?_
     refine tk_ HT_ HW_ hHeld 6 (some 30) place7.mk0_1_2_3_4_5_6_7 ?_
     refine join_ (σ := Nat) 1 place7.mk0_1_2_3_4_5_6_7_8_9 (fun s_ => [(32, .agg #[.int .i64 b0, .int .i64 b1, .int .i64 b2, .int .i64 b3]), (9, .pointer (some ⟨s_, 0, none⟩))]) (fun s_ w' => (w'.cell? ⟨gl, 0, none⟩ = some (.slice (some al) l.length c0) ∧ w'.cell? ⟨gi, 0, none⟩ = some (.slice (some ai) idx.length ci) ∧ w'.cell? (ai.add ways.length) = some (.int .i64 j) ∧ w'.cell? (al.add (j.toNat * 3)) = some (.string x.f0) ∧ w'.cell? ⟨(al.add (j.toNat * 3)).block, (al.add (j.toNat * 3)).off + 1, none⟩ = some (.int .i64 x.f1) ∧ w'.cell? ⟨(al.add (j.toNat * 3)).block, (al.add (j.toNat * 3)).off + 2, none⟩ = some (.int .i64 x.f2)) ∧ PlS (fun k => Y k ∨ k = s_) w' w0 gw gi gy gl gb gf (.slice A ways.length c) (.slice A ways.length c) (.slice (some ai) idx.length ci) (.slice (some al) l.length c0) (.slice Ab boxes.length cb) (.slice Ab boxes.length cb) (.func (.func gyf) #[] lby) (.func (.func 102) #[] #[.pointer (some ⟨gw, 0, none⟩), .pointer (some ⟨gi, 0, none⟩), .pointer (some ⟨gy, 0, none⟩), .pointer (some ⟨gl, 0, none⟩), .pointer (some ⟨gb, 0, none⟩), .pointer (some ⟨gf, 0, none⟩)]) ways idx boxes ∧ St (ys ++ acc) w' ∧ Below w0.heap.size w0 w' ∧ w'.heap[s_]? = some (.cells #[.int .i64 0, .int .i64 0, .int .i64 0, .int .i64 0] 26 (0, 0)) ∧ w0.heap.size ≤ s_ ∧ ¬ Y s_) ?_ ?_
     rotate_left
     ·
      intro hCont
      refine two_ (i := 8) (j := 9) (Ni := some 32) (Nj := some 9) place7.mk0_1_2_3_4_5_6_7_8 place7.mk0_1_2_3_4_5_6_7_9 rfl rfl rfl rfl (two_of HT_.out (by kernel_rfl)) (by decide) (by decide) (fun K hK => ?_) (fun K hK => ?_)
      ·
       skip
       refine gs_ Tryd.func59 #[.agg #[.string x.f0, .int .i64 x.f1, .int .i64 x.f2], .int .i64 (kk : Int)] ?_
       with_reducible refine (impl_boxFor.calls x.f0 x.f1 x.f2 (kk : Int) b0 b1 b2 b3 _ HBF.out).mono ?_
       rintro e W1 ⟨rfl, hb⟩
       refine ⟨_, rfl, ?_⟩
       have hT_ := H1.out (ys ++ acc) W W1 HYS.out (fun k hk => (hb).block k (HS.out.ys k hk)) HT.out
       replace HT := Aside0.mk hT_
       clear hT_
       replace HS := Aside0.mk (HS.out.below hb)
       replace HB := Aside0.mk (below_step HB.out hb)
       clear hb
       refine hK.out _ _ ⟨(blk_cell HS.out.cl 0).trans rfl, (blk_cell HS.out.ci 0).trans rfl, HS.out.rI.at_ HB.out HN.out HJ.out, bc_ HB.out Z1.out, bc_ HB.out Z2.out, bc_ HB.out Z3.out⟩ (fun hHeld => ?_)
       clear hK K
       refine na_ ?_
       refine one_ (i := 9) (N := some 9) place7.mk0_1_2_3_4_5_6_7_8_9 rfl rfl (one_of HT_.out (by kernel_rfl)) (by decide) (fun K hK => ?_)
       refine box_step ?hg (N := 9) ?hd (cs := #[.int .i64 0, .int .i64 0, .int .i64 0, .int .i64 0]) (t := 26) ?hr ?_; (case hd => rfl); (case hg => rfl); (case hr => first | (go_simp; done) | (go_simp; rfl))
       intro s_ hg W2 hbox hb
       have hT_ := H1.out (ys ++ acc) W1 W2 HYS.out (fun k hk => hb.block k (HS.out.ys k hk)) HT.out
       replace HT := Aside0.mk hT_
       clear hT_
       have hge : w0.heap.size ≤ s_ := by rw [hg]; exact below_size HB.out
       have hny : ¬ Y s_ := fun y => by have := HS.out.ys s_ y; omega
       replace HS := Aside0.mk (HS.out.grow hb hg (blk_lt hbox))
       replace HB := Aside0.mk (below_step HB.out hb)
       have BX := Aside0.mk hbox
       have GE := Aside0.mk hge
       have NYS := Aside0.mk hny
       clear hb hbox hg hge hny
       refine hK.out _ _ ⟨(blk_cell HS.out.cl 0).trans rfl, (blk_cell HS.out.ci 0).trans rfl, HS.out.rI.at_ HB.out HN.out HJ.out, bc_ HB.out Z1.out, bc_ HB.out Z2.out, bc_ HB.out Z3.out⟩ (fun hHeld => ?_)
       clear hK K
       refine na_ ?_
       exact norm_ (by simp only [putAll, Act.put, List.setIfInBounds_toArray, List.set_cons_zero, List.set_cons_succ]) (hCont s_ _ ⟨hHeld, HS.out, HT.out, HB.out, BX.out, GE.out, NYS.out⟩)
      ·
       skip
       refine box_step ?hg (N := 9) ?hd (cs := #[.int .i64 0, .int .i64 0, .int .i64 0, .int .i64 0]) (t := 26) ?hr ?_; (case hd => rfl); (case hg => rfl); (case hr => first | (go_simp; done) | (go_simp; rfl))
       intro s_ hg W1 hbox hb
       have hT_ := H1.out (ys ++ acc) W W1 HYS.out (fun k hk => hb.block k (HS.out.ys k hk)) HT.out
       replace HT := Aside0.mk hT_
       clear hT_
       have hge : w0.heap.size ≤ s_ := by rw [hg]; exact below_size HB.out
       have hny : ¬ Y s_ := fun y => by have := HS.out.ys s_ y; omega
       replace HS := Aside0.mk (HS.out.grow hb hg (blk_lt hbox))
       replace HB := Aside0.mk (below_step HB.out hb)
       have BX := Aside0.mk hbox
       have GE := Aside0.mk hge
       have NYS := Aside0.mk hny
       clear hb hbox hg hge hny
       refine hK.out _ _ ⟨(blk_cell HS.out.cl 0).trans rfl, (blk_cell HS.out.ci 0).trans rfl, HS.out.rI.at_ HB.out HN.out HJ.out, bc_ HB.out Z1.out, bc_ HB.out Z2.out, bc_ HB.out Z3.out⟩ (fun hHeld => ?_)
       clear hK K
       refine na_ ?_
       refine one_ (i := 8) (N := some 32) place7.mk0_1_2_3_4_5_6_7_8_9 rfl rfl (one_of HT_.out (by kernel_rfl)) (by decide) (fun K hK => ?_)
       refine gs_ Tryd.func59 #[.agg #[.string x.f0, .int .i64 x.f1, .int .i64 x.f2], .int .i64 (kk : Int)] ?_
       with_reducible refine (impl_boxFor.calls x.f0 x.f1 x.f2 (kk : Int) b0 b1 b2 b3 _ HBF.out).mono ?_
       rintro e W2 ⟨rfl, hb⟩
       refine ⟨_, rfl, ?_⟩
       have hT_ := H1.out (ys ++ acc) W1 W2 HYS.out (fun k hk => (hb).block k (HS.out.ys k (.inl hk))) HT.out
       replace HT := Aside0.mk hT_
       clear hT_
       replace HS := Aside0.mk (HS.out.below hb)
       replace HB := Aside0.mk (below_step HB.out hb)
       replace BX := Aside0.mk (bb_ BX.out hb)
       clear hb
       refine hK.out _ _ ⟨(blk_cell HS.out.cl 0).trans rfl, (blk_cell HS.out.ci 0).trans rfl, HS.out.rI.at_ HB.out HN.out HJ.out, bc_ HB.out Z1.out, bc_ HB.out Z2.out, bc_ HB.out Z3.out⟩ (fun hHeld => ?_)
       clear hK K
       refine na_ ?_
       exact norm_ (by simp only [putAll, Act.put, List.setIfInBounds_toArray, List.set_cons_zero, List.set_cons_succ]) (hCont s_ _ ⟨hHeld, HS.out, HT.out, HB.out, BX.out, GE.out, NYS.out⟩)
     clear HS HT HB hHeld
     rintro s_ W3 ⟨hHeld, hS_, hT_, hB_, hX_, GE, hny⟩
     have NYS := Aside0.mk hny
     clear hny
     have HS := Aside0.mk hS_
     have HT := Aside0.mk hT_
     have HB := Aside0.mk hB_
     have BX := Aside0.mk hX_
     clear hS_ hT_ hB_ hX_
     refine nb_ ?_
     refine one_ (i := 10) (N := none) place7.mk0_1_2_3_4_5_6_7_8_9_10 rfl rfl (one_of HT_.out (by kernel_rfl)) (by decide) (fun K hK => ?_)
     have hs0 : W3.cell? ⟨s_, 0, none⟩ = some (.int .i64 0) := (blk_cell BX.out 0).trans rfl
     have hf0 := blk_frozen BX.out 0
     have hs1 : W3.cell? ⟨s_, 1, none⟩ = some (.int .i64 0) := (blk_cell BX.out 1).trans rfl
     have hf1 := blk_frozen BX.out 1
     have hs2 : W3.cell? ⟨s_, 2, none⟩ = some (.int .i64 0) := (blk_cell BX.out 2).trans rfl
     have hf2 := blk_frozen BX.out 2
     have hs3 : W3.cell? ⟨s_, 3, none⟩ = some (.int .i64 0) := (blk_cell BX.out 3).trans rfl
     have hf3 := blk_frozen BX.out 3
     refine skip_ (w1 := ?_) (by rfl) rfl ?_ ?_
     rotate_left
     ·
      go_simp
      rfl
     clear hs0 hs1 hs2 hs3 hf0 hf1 hf2 hf3
     have hk4 := keep4_ W3 s_ (.int .i64 b0) (.int .i64 b1) (.int .i64 b2) (.int .i64 b3)
     have hT_ := H1.out (ys ++ acc) W3 ((((W3.setCell ⟨s_, 0, none⟩ (.int .i64 b0)).setCell ⟨s_, 1, none⟩ (.int .i64 b1)).setCell ⟨s_, 2, none⟩ (.int .i64 b2)).setCell ⟨s_, 3, none⟩ (.int .i64 b3)) HYS.out (fun k hk => hk4.2 k (HS.out.ys k (.inl hk)) (fun e => NYS.out (e ▸ hk)) (by simp)) HT.out
     have hS_ := HS.out.fr (FrY.of_keep hk4 (.inr rfl))
     have hX_ := p4_ BX.out (.int .i64 b0) (.int .i64 b1) (.int .i64 b2) (.int .i64 b3)
     have hB_ := below_set (j := 3) (v := .int .i64 b3) (below_set (j := 2) (v := .int .i64 b2) (below_set (j := 1) (v := .int .i64 b1) (below_set (j := 0) (v := .int .i64 b0) HB.out GE) GE) GE) GE
     clear HS HT HB BX hk4 hHeld
     generalize ((((W3.setCell ⟨s_, 0, none⟩ (.int .i64 b0)).setCell ⟨s_, 1, none⟩ (.int .i64 b1)).setCell ⟨s_, 2, none⟩ (.int .i64 b2)).setCell ⟨s_, 3, none⟩ (.int .i64 b3)) = W4 at hT_ hS_ hX_ hB_ ⊢
     have HS := Aside0.mk hS_
     have HT := Aside0.mk hT_
     have HB := Aside0.mk hB_
     have BX := Aside0.mk hX_
     clear hS_ hT_ hB_ hX_
     refine hK.out _ _ ⟨(blk_cell HS.out.cl 0).trans rfl, (blk_cell HS.out.ci 0).trans rfl, HS.out.rI.at_ HB.out HN.out HJ.out, bc_ HB.out Z1.out, bc_ HB.out Z2.out, bc_ HB.out Z3.out⟩ (fun hHeld => ?_)
     clear hK K
     refine done_ (done_of HT_.out (by kernel_rfl)) ?_
     have hcl : W4.cell? ⟨gl, 0, none⟩ = some (.slice (some al) l.length c0) := (blk_cell HS.out.cl 0).trans rfl
     have hcx : W4.cell? ⟨gb, 0, none⟩ = some (.slice Ab boxes.length cb) := (blk_cell HS.out.cx 0).trans rfl
     have hcz0 : W4.cell? ⟨s_, 0, none⟩ = some (.int .i64 b0) := (blk_cell BX.out 0).trans rfl
     have hcz1 : W4.cell? ⟨s_, 1, none⟩ = some (.int .i64 b1) := (blk_cell BX.out 1).trans rfl
     have hcz2 : W4.cell? ⟨s_, 2, none⟩ = some (.int .i64 b2) := (blk_cell BX.out 2).trans rfl
     have hcz3 : W4.cell? ⟨s_, 3, none⟩ = some (.int .i64 b3) := (blk_cell BX.out 3).trans rfl
     cases fr with
     | false =>
      rw [if_neg (by decide)] at h1
      obtain rfl := Option.some.inj h1
      go_wp2_with ((with_reducible refine gate_callee (f := 67) rfl ?_); refine ga_ (some 35) Tryd.func67 #[.slice (some al) l.length c0, .agg #[.int .i64 b0, .int .i64 b1, .int .i64 b2, .int .i64 b3]] ?_; (with_reducible refine (impl_free.calls _ _ l b0 b1 b2 b3 false _ ?side1 ?side2 HFR.out).mono ?_); (case side1 => exact Kd.C_below HR.out HB.out); (case side2 => exact HC.out); rintro e W5 ⟨rfl, hb⟩; refine ⟨_, rfl, ?_⟩; have hT_ := H1.out (ys ++ acc) W4 W5 HYS.out (fun k hk => hb.block k (HS.out.ys k (.inl hk))) HT.out; replace HT := Aside0.mk hT_; clear hT_; replace HS := Aside0.mk (HS.out.below hb); replace HB := Aside0.mk (below_step HB.out hb); replace BX := Aside0.mk (bb_ BX.out hb); replace hcx := bc_ hb hcx; clear hb hcl hcz0 hcz1 hcz2 hcz3)
      have HSF := Aside0.mk HS.out.shrink
      go_roundg (4 - (kk + 1))
      case measure => have := HG.out; omega
      case rel => exact ⟨kk + 1, acc, rest', _, _, by omega, by omega, by go_num, ⟨HP2.out, by rw [HE.out]; rfl⟩, HYS, HSF, HT, HB⟩
     | true =>
      rw [if_pos rfl] at h1
      obtain ⟨hit, hh, h1⟩ := Option.bind_eq_some_iff.mp h1
      have HH := Aside0.mk hh
      clear hh
      cases hit with
      | true =>
       rw [if_pos rfl] at h1
       obtain rfl := Option.some.inj h1
       go_wp2_with (first | ((with_reducible refine gate_callee (f := 67) rfl ?_); refine ga_ (some 35) Tryd.func67 #[.slice (some al) l.length c0, .agg #[.int .i64 b0, .int .i64 b1, .int .i64 b2, .int .i64 b3]] ?_; (with_reducible refine (impl_free.calls _ _ l b0 b1 b2 b3 true _ ?side1 ?side2 HFR.out).mono ?_); (case side1 => exact Kd.C_below HR.out HB.out); (case side2 => exact HC.out); rintro e W5 ⟨rfl, hb⟩; refine ⟨_, rfl, ?_⟩; have hT_ := H1.out (ys ++ acc) W4 W5 HYS.out (fun k hk => hb.block k (HS.out.ys k (.inl hk))) HT.out; replace HT := Aside0.mk hT_; clear hT_; replace HS := Aside0.mk (HS.out.below hb); replace HB := Aside0.mk (below_step HB.out hb); replace BX := Aside0.mk (bb_ BX.out hb); replace hcx := bc_ hb hcx; clear hb hcl hcz0 hcz1 hcz2 hcz3) | (go_at_call 68; (with_reducible refine (hit_calls Ab cb boxes b0 b1 b2 b3 true _ ?side1 ?side2 HH.out BX.out).mono ?_); (case side1 => exact (Kd.R_reads' HS.out.rB).2.2); (case side2 => exact (Kd.R_reads' HS.out.rB).2.1); rintro e W6 ⟨rfl, hb⟩; have hT_ := H1.out (ys ++ acc) W5 W6 HYS.out (fun k hk => hb.block k (HS.out.ys k (.inl hk))) HT.out; replace HT := Aside0.mk hT_; clear hT_; replace HS := Aside0.mk (HS.out.below hb); replace HB := Aside0.mk (below_step HB.out hb); replace BX := Aside0.mk (bb_ BX.out hb); clear hb hcx))
       have HSF := Aside0.mk HS.out.shrink
       go_roundg (4 - (kk + 1))
       case measure => have := HG.out; omega
       case rel => exact ⟨kk + 1, acc, rest', _, _, by omega, by omega, by go_num, ⟨HP2.out, by rw [HE.out]; rfl⟩, HYS, HSF, HT, HB⟩
      | false =>
       rw [if_neg (by decide)] at h1
       have HPA := Aside0.mk h1
       clear h1
       go_wp2_with (first | ((with_reducible refine gate_callee (f := 67) rfl ?_); refine ga_ (some 35) Tryd.func67 #[.slice (some al) l.length c0, .agg #[.int .i64 b0, .int .i64 b1, .int .i64 b2, .int .i64 b3]] ?_; (with_reducible refine (impl_free.calls _ _ l b0 b1 b2 b3 true _ ?side1 ?side2 HFR.out).mono ?_); (case side1 => exact Kd.C_below HR.out HB.out); (case side2 => exact HC.out); rintro e W5 ⟨rfl, hb⟩; refine ⟨_, rfl, ?_⟩; have hT_ := H1.out (ys ++ acc) W4 W5 HYS.out (fun k hk => hb.block k (HS.out.ys k (.inl hk))) HT.out; replace HT := Aside0.mk hT_; clear hT_; replace HS := Aside0.mk (HS.out.below hb); replace HB := Aside0.mk (below_step HB.out hb); replace BX := Aside0.mk (bb_ BX.out hb); replace hcx := bc_ hb hcx; clear hb hcl hcz0 hcz1 hcz2 hcz3) | (go_at_call 68; (with_reducible refine (hit_calls Ab cb boxes b0 b1 b2 b3 false _ ?side1 ?side2 HH.out BX.out).mono ?_); (case side1 => exact (Kd.R_reads' HS.out.rB).2.2); (case side2 => exact (Kd.R_reads' HS.out.rB).2.1); rintro e W6 ⟨rfl, hb⟩; have hT_ := H1.out (ys ++ acc) W5 W6 HYS.out (fun k hk => hb.block k (HS.out.ys k (.inl hk))) HT.out; replace HT := Aside0.mk hT_; clear hT_; replace HS := Aside0.mk (HS.out.below hb); replace HB := Aside0.mk (below_step HB.out hb); replace BX := Aside0.mk (bb_ BX.out hb); clear hb hcx))
       have hT_ := H1.out (ys ++ acc) W6 W6.drew HYS.out (fun k hk => rfl) HT.out
       replace HT := Aside0.mk hT_
       clear hT_
       replace HS := Aside0.mk (HS.out.below (below_drew (Below.refl _ W6)))
       replace HB := Aside0.mk (below_drew HB.out)
       replace BX := Aside0.mk (blk_drew BX.out)
       refine start_ (n := 10) (S := fun w' => w'.cell? ⟨gw, 0, none⟩ = some (.slice A ways.length c) ∧ w'.cell? ⟨gb, 0, none⟩ = some (.slice Ab boxes.length cb) ∧ w'.cell? ⟨s_, 0, none⟩ = some (.int .i64 b0) ∧ w'.cell? ⟨s_, 1, none⟩ = some (.int .i64 b1) ∧ w'.cell? ⟨s_, 2, none⟩ = some (.int .i64 b2) ∧ w'.cell? ⟨s_, 3, none⟩ = some (.int .i64 b3)) (ds := [8, 9]) place9.mkE (by kernel_rfl) rfl rfl ⟨(blk_cell HS.out.cw 0).trans rfl, (blk_cell HS.out.cx 0).trans rfl, (blk_cell BX.out 0).trans rfl, (blk_cell BX.out 1).trans rfl, (blk_cell BX.out 2).trans rfl, (blk_cell BX.out 3).trans rfl⟩ (fun hHeld => ?_); refine with_tabW place9.tab place9.bits (fun HT_ HW_ => ?_)
       generalize W6.drew = W7 at HS HT HB BX hHeld ⊢
       refine pz_ HT_ 1 (some 43) place9.mk1 ?_
       refine tk_ HT_ HW_ hHeld 0 (some 42) place9.mk0_1 ?_
       refine tk_ HT_ HW_ hHeld 4 (some 46) place9.mk0_1_4 ?_
       refine tk_ HT_ HW_ hHeld 5 (some 47) place9.mk0_1_4_5 ?_
       refine join_ (σ := Nat × Nat × Option Addr × Nat) 3 place9.mk0_1_2_3_4_5_6 (fun s => [(44, .slice (some ⟨s.1, 0, none⟩) 1 1), (48, .slice (some ⟨s.2.1, 0, none⟩) 1 1), (45, .slice s.2.2.1 (ways.length + 1) s.2.2.2)]) (fun s w' => (w'.cell? ⟨gw, 0, none⟩ = some (.slice A ways.length c) ∧ w'.cell? ⟨gb, 0, none⟩ = some (.slice Ab boxes.length cb) ∧ w'.cell? ⟨s_, 0, none⟩ = some (.int .i64 b0) ∧ w'.cell? ⟨s_, 1, none⟩ = some (.int .i64 b1) ∧ w'.cell? ⟨s_, 2, none⟩ = some (.int .i64 b2) ∧ w'.cell? ⟨s_, 3, none⟩ = some (.int .i64 b3)) ∧ PlS (fun k => Y k ∨ k = s_) w' w0 gw gi gy gl gb gf (.slice A ways.length c) (.slice s.2.2.1 (ways.length + 1) s.2.2.2) (.slice (some ai) idx.length ci) (.slice (some al) l.length c0) (.slice Ab boxes.length cb) (.slice Ab boxes.length cb) (.func (.func gyf) #[] lby) (.func (.func 102) #[] #[.pointer (some ⟨gw, 0, none⟩), .pointer (some ⟨gi, 0, none⟩), .pointer (some ⟨gy, 0, none⟩), .pointer (some ⟨gl, 0, none⟩), .pointer (some ⟨gb, 0, none⟩), .pointer (some ⟨gf, 0, none⟩)]) (ways ++ [(kk : Int)]) idx boxes ∧ St (ys ++ acc) w' ∧ Below w0.heap.size w0 w' ∧ w'.heap[s_]? = some (.cells #[.int .i64 b0, .int .i64 b1, .int .i64 b2, .int .i64 b3] 26 (0, 0)) ∧ w'.heap[s.2.1]? = some (.cells #[.int .i64 b0, .int .i64 b1, .int .i64 b2, .int .i64 b3] 26 (0, 0))) ?_ ?_
       rotate_left
       ·
        intro hCont; refine two_ (i := 2) (j := 6) (Ni := some 44) (Nj := some 48) place9.mk0_1_2_4_5 place9.mk0_1_4_5_6 rfl rfl rfl rfl (two_of HT_.out (by kernel_rfl)) (by decide) (by decide) (fun K hK => ?_) (fun K hK => ?_)
        ·
         skip; refine lit_step ?hg (N := 44) ?hd (cs := #[.int .i64 (kk : Int)]) (t := 3) (n := 1) ?hr ?_; (case hd => rfl); (case hg => rfl); (case hr => first | (go_simp; done) | (go_simp; rfl)); intro g2 hg W8 hbox hb; have hT_ := H1.out (ys ++ acc) W7 W8 HYS.out (fun k hk => (hb).block k (HS.out.ys k (.inl hk))) HT.out; replace HT := Aside0.mk hT_; clear hT_; replace HS := Aside0.mk (HS.out.below hb); replace HB := Aside0.mk (below_step HB.out hb); replace BX := Aside0.mk (bb_ BX.out hb); have B2 := Aside0.mk hbox; clear hb hbox hg; refine hK.out _ _ ⟨(blk_cell HS.out.cw 0).trans rfl, (blk_cell HS.out.cx 0).trans rfl, (blk_cell BX.out 0).trans rfl, (blk_cell BX.out 1).trans rfl, (blk_cell BX.out 2).trans rfl, (blk_cell BX.out 3).trans rfl⟩ (fun hHeld => ?_); clear hK K; refine na_ ?_; refine two_ (i := 3) (j := 6) (Ni := some 45) (Nj := some 48) place9.mk0_1_2_3_4_5 place9.mk0_1_2_4_5_6 rfl rfl rfl rfl (two_of HT_.out (by kernel_rfl)) (by decide) (by decide) (fun K hK => ?_) (fun K hK => ?_)
         ·
          skip; refine Kd.R_append_rows_step (Kd.int .i64) (Rr := (Kd.int .i64).K W8) (w0 := w0) w0.heap.size (by rfl) (.tmp 42) (.tmp 44) 40 3 (.int .i64 0) 8 rfl Tryd.underlying40 info3 rfl (by decide) (by omega) (.slice A ways.length c) ways [(kk : Int)] (some ⟨g2, 0, none⟩) 1 1 (fun k => ¬ (Y k ∨ k = s_)) (fun _ => False) rfl rfl HS.out.rW (C_int1_ B2.out) (fun _ _ h => h) (fun _ h => h.elim) (fun k hk hY => by have := HS.out.ys k hY; omega) HB.out (below_size HB.out) (by have := HN.out; omega) ?_; intro v1 W9 ho hB1 hg hat; obtain ⟨A1, c1, rfl⟩ := Kd.R_slice ho; simp only [List.length_append, List.length_singleton] at ho hat ⊢; have hT_ := H1.out (ys ++ acc) W8 W9 HYS.out (fun k hk => hg.block k (HS.out.ys k (.inl hk)) (fun he => HS.out.rW.1 k he.symm (.inl hk))) HT.out; replace HT := Aside0.mk hT_; clear hT_; replace BX := Aside0.mk (blk_grown BX.out hg (fun he => HS.out.rW.1 s_ he.symm (.inr rfl))); replace HS := Aside0.mk (HS.out.appW ho hg hat); replace HB := Aside0.mk hB1; clear ho hB1 hg hat; refine hK.out _ _ ⟨(blk_cell HS.out.cw 0).trans rfl, (blk_cell HS.out.cx 0).trans rfl, (blk_cell BX.out 0).trans rfl, (blk_cell BX.out 1).trans rfl, (blk_cell BX.out 2).trans rfl, (blk_cell BX.out 3).trans rfl⟩ (fun hHeld => ?_); clear hK K; refine na_ ?_; refine one_ (i := 6) (N := some 48) place9.mk0_1_2_3_4_5_6 rfl rfl (one_of HT_.out (by kernel_rfl)) (by decide) (fun K hK => ?_); refine lit_step ?hg (N := 48) ?hd (cs := #[.int .i64 b0, .int .i64 b1, .int .i64 b2, .int .i64 b3]) (t := 26) (n := 1) ?hr ?_; (case hd => rfl); (case hg => rfl); (case hr => first | (go_simp; done) | (go_simp; rfl)); intro g6 hg W10 hbox hb; have hT_ := H1.out (ys ++ acc) W9 W10 HYS.out (fun k hk => (hb).block k (HS.out.ys k (.inl hk))) HT.out; replace HT := Aside0.mk hT_; clear hT_; replace HS := Aside0.mk (HS.out.below hb); replace HB := Aside0.mk (below_step HB.out hb); replace BX := Aside0.mk (bb_ BX.out hb); have B6 := Aside0.mk hbox; clear hb hbox hg; refine hK.out _ _ ⟨(blk_cell HS.out.cw 0).trans rfl, (blk_cell HS.out.cx 0).trans rfl, (blk_cell BX.out 0).trans rfl, (blk_cell BX.out 1).trans rfl, (blk_cell BX.out 2).trans rfl, (blk_cell BX.out 3).trans rfl⟩ (fun hHeld => ?_); clear hK K; refine na_ ?_; exact norm_ (by simp only [putAll, Act.put, List.setIfInBounds_toArray, List.set_cons_zero, List.set_cons_succ]) (hCont (g2, g6, A1, c1) _ ⟨hHeld, HS.out, HT.out, HB.out, BX.out, B6.out⟩)
         ·
          skip; refine lit_step ?hg (N := 48) ?hd (cs := #[.int .i64 b0, .int .i64 b1, .int .i64 b2, .int .i64 b3]) (t := 26) (n := 1) ?hr ?_; (case hd => rfl); (case hg => rfl); (case hr => first | (go_simp; done) | (go_simp; rfl)); intro g6 hg W9 hbox hb; have hT_ := H1.out (ys ++ acc) W8 W9 HYS.out (fun k hk => (hb).block k (HS.out.ys k (.inl hk))) HT.out; replace HT := Aside0.mk hT_; clear hT_; replace HS := Aside0.mk (HS.out.below hb); replace HB := Aside0.mk (below_step HB.out hb); replace BX := Aside0.mk (bb_ BX.out hb); replace B2 := Aside0.mk (bb_ B2.out hb); have B6 := Aside0.mk hbox; clear hb hbox hg; refine hK.out _ _ ⟨(blk_cell HS.out.cw 0).trans rfl, (blk_cell HS.out.cx 0).trans rfl, (blk_cell BX.out 0).trans rfl, (blk_cell BX.out 1).trans rfl, (blk_cell BX.out 2).trans rfl, (blk_cell BX.out 3).trans rfl⟩ (fun hHeld => ?_); clear hK K; refine na_ ?_; refine one_ (i := 3) (N := some 45) place9.mk0_1_2_3_4_5_6 rfl rfl (one_of HT_.out (by kernel_rfl)) (by decide) (fun K hK => ?_); refine Kd.R_append_rows_step (Kd.int .i64) (Rr := (Kd.int .i64).K W9) (w0 := w0) w0.heap.size (by rfl) (.tmp 42) (.tmp 44) 40 3 (.int .i64 0) 8 rfl Tryd.underlying40 info3 rfl (by decide) (by omega) (.slice A ways.length c) ways [(kk : Int)] (some ⟨g2, 0, none⟩) 1 1 (fun k => ¬ (Y k ∨ k = s_)) (fun _ => False) rfl rfl HS.out.rW (C_int1_ B2.out) (fun _ _ h => h) (fun _ h => h.elim) (fun k hk hY => by have := HS.out.ys k hY; omega) HB.out (below_size HB.out) (by have := HN.out; omega) ?_; intro v1 W10 ho hB1 hg hat; obtain ⟨A1, c1, rfl⟩ := Kd.R_slice ho; simp only [List.length_append, List.length_singleton] at ho hat ⊢; have hT_ := H1.out (ys ++ acc) W9 W10 HYS.out (fun k hk => hg.block k (HS.out.ys k (.inl hk)) (fun he => HS.out.rW.1 k he.symm (.inl hk))) HT.out; replace HT := Aside0.mk hT_; clear hT_; replace BX := Aside0.mk (blk_grown BX.out hg (fun he => HS.out.rW.1 s_ he.symm (.inr rfl))); replace B6 := Aside0.mk (blk_grown B6.out hg (own_ne (Kd.R_own HS.out.rW).choose_spec B6.out (by decide))); replace HS := Aside0.mk (HS.out.appW ho hg hat); replace HB := Aside0.mk hB1; clear ho hB1 hg hat; refine hK.out _ _ ⟨(blk_cell HS.out.cw 0).trans rfl, (blk_cell HS.out.cx 0).trans rfl, (blk_cell BX.out 0).trans rfl, (blk_cell BX.out 1).trans rfl, (blk_cell BX.out 2).trans rfl, (blk_cell BX.out 3).trans rfl⟩ (fun hHeld => ?_); clear hK K; refine na_ ?_; exact norm_ (by simp only [putAll, Act.put, List.setIfInBounds_toArray, List.set_cons_zero, List.set_cons_succ]) (hCont (g2, g6, A1, c1) _ ⟨hHeld, HS.out, HT.out, HB.out, BX.out, B6.out⟩)
        ·
         skip; refine lit_step ?hg (N := 48) ?hd (cs := #[.int .i64 b0, .int .i64 b1, .int .i64 b2, .int .i64 b3]) (t := 26) (n := 1) ?hr ?_; (case hd => rfl); (case hg => rfl); (case hr => first | (go_simp; done) | (go_simp; rfl)); intro g6 hg W8 hbox hb; have hT_ := H1.out (ys ++ acc) W7 W8 HYS.out (fun k hk => (hb).block k (HS.out.ys k (.inl hk))) HT.out; replace HT := Aside0.mk hT_; clear hT_; replace HS := Aside0.mk (HS.out.below hb); replace HB := Aside0.mk (below_step HB.out hb); replace BX := Aside0.mk (bb_ BX.out hb); have B6 := Aside0.mk hbox; clear hb hbox hg; refine hK.out _ _ ⟨(blk_cell HS.out.cw 0).trans rfl, (blk_cell HS.out.cx 0).trans rfl, (blk_cell BX.out 0).trans rfl, (blk_cell BX.out 1).trans rfl, (blk_cell BX.out 2).trans rfl, (blk_cell BX.out 3).trans rfl⟩ (fun hHeld => ?_); clear hK K; refine na_ ?_; refine one_ (i := 2) (N := some 44) place9.mk0_1_2_4_5_6 rfl rfl (one_of HT_.out (by kernel_rfl)) (by decide) (fun K hK => ?_); refine lit_step ?hg (N := 44) ?hd (cs := #[.int .i64 (kk : Int)]) (t := 3) (n := 1) ?hr ?_; (case hd => rfl); (case hg => rfl); (case hr => first | (go_simp; done) | (go_simp; rfl)); intro g2 hg W9 hbox hb; have hT_ := H1.out (ys ++ acc) W8 W9 HYS.out (fun k hk => (hb).block k (HS.out.ys k (.inl hk))) HT.out; replace HT := Aside0.mk hT_; clear hT_; replace HS := Aside0.mk (HS.out.below hb); replace HB := Aside0.mk (below_step HB.out hb); replace BX := Aside0.mk (bb_ BX.out hb); replace B6 := Aside0.mk (bb_ B6.out hb); have B2 := Aside0.mk hbox; clear hb hbox hg; refine hK.out _ _ ⟨(blk_cell HS.out.cw 0).trans rfl, (blk_cell HS.out.cx 0).trans rfl, (blk_cell BX.out 0).trans rfl, (blk_cell BX.out 1).trans rfl, (blk_cell BX.out 2).trans rfl, (blk_cell BX.out 3).trans rfl⟩ (fun hHeld => ?_); clear hK K; refine na_ ?_; refine one_ (i := 3) (N := some 45) place9.mk0_1_2_3_4_5_6 rfl rfl (one_of HT_.out (by kernel_rfl)) (by decide) (fun K hK => ?_); refine Kd.R_append_rows_step (Kd.int .i64) (Rr := (Kd.int .i64).K W9) (w0 := w0) w0.heap.size (by rfl) (.tmp 42) (.tmp 44) 40 3 (.int .i64 0) 8 rfl Tryd.underlying40 info3 rfl (by decide) (by omega) (.slice A ways.length c) ways [(kk : Int)] (some ⟨g2, 0, none⟩) 1 1 (fun k => ¬ (Y k ∨ k = s_)) (fun _ => False) rfl rfl HS.out.rW (C_int1_ B2.out) (fun _ _ h => h) (fun _ h => h.elim) (fun k hk hY => by have := HS.out.ys k hY; omega) HB.out (below_size HB.out) (by have := HN.out; omega) ?_; intro v1 W10 ho hB1 hg hat; obtain ⟨A1, c1, rfl⟩ := Kd.R_slice ho; simp only [List.length_append, List.length_singleton] at ho hat ⊢; have hT_ := H1.out (ys ++ acc) W9 W10 HYS.out (fun k hk => hg.block k (HS.out.ys k (.inl hk)) (fun he => HS.out.rW.1 k he.symm (.inl hk))) HT.out; replace HT := Aside0.mk hT_; clear hT_; replace BX := Aside0.mk (blk_grown BX.out hg (fun he => HS.out.rW.1 s_ he.symm (.inr rfl))); replace B6 := Aside0.mk (blk_grown B6.out hg (own_ne (Kd.R_own HS.out.rW).choose_spec B6.out (by decide))); replace HS := Aside0.mk (HS.out.appW ho hg hat); replace HB := Aside0.mk hB1; clear ho hB1 hg hat; refine hK.out _ _ ⟨(blk_cell HS.out.cw 0).trans rfl, (blk_cell HS.out.cx 0).trans rfl, (blk_cell BX.out 0).trans rfl, (blk_cell BX.out 1).trans rfl, (blk_cell BX.out 2).trans rfl, (blk_cell BX.out 3).trans rfl⟩ (fun hHeld => ?_); clear hK K; refine na_ ?_; exact norm_ (by simp only [putAll, Act.put, List.setIfInBounds_toArray, List.set_cons_zero, List.set_cons_succ]) (hCont (g2, g6, A1, c1) _ ⟨hHeld, HS.out, HT.out, HB.out, BX.out, B6.out⟩)
       clear HS HT HB BX hHeld
       rintro ⟨g2, g6, A1, c1⟩ W11 ⟨hHeld, hS_, hT_, hB_, hX_, hX6⟩
       simp only at hHeld hS_ hT_ hB_ hX_ hX6
       have HS := Aside0.mk hS_
       have HT := Aside0.mk hT_
       have HB := Aside0.mk hB_
       have BX := Aside0.mk hX_
       clear hS_ hT_ hB_ hX_
       refine nb_ ?_
       refine one_ (i := 7) (N := some 49) place9.mk0_1_2_3_4_5_6_7 rfl rfl (one_of HT_.out (by kernel_rfl)) (by decide) (fun K hK => ?_)
       refine Kd.R_append_rows_step k26 (Rr := k26.K W11) (w0 := w0) w0.heap.size (by rfl) (.tmp 46) (.tmp 48) 79 26 (.agg #[(.int .i64 0), (.int .i64 0), (.int .i64 0), (.int .i64 0)]) 32 rfl Tryd.underlying79 info26 rfl (by decide) (by omega) (.slice Ab boxes.length cb) boxes [(⟨b0, b1, b2, b3⟩ : S26)] (some ⟨g6, 0, none⟩) 1 1 (fun k => ¬ (Y k ∨ k = s_)) (fun _ => False) rfl rfl HS.out.rB (C_box1_ hX6) (fun x_ cs_ h_ => by obtain rfl := k26_open h_; exact k26_mkM _ _ _ x_) (fun _ h => h.elim) (fun k hk hY => by have := HS.out.ys k hY; omega) HB.out (below_size HB.out) (by have := HN.out; have := HBL.out; omega) ?_
       intro v2 W12 ho hB1 hg hat
       obtain ⟨A2, c2, rfl⟩ := Kd.R_slice ho
       simp only [List.length_append, List.length_singleton] at ho hat ⊢
       have hT_ := H1.out (ys ++ acc) W11 W12 HYS.out (fun k hk => hg.block k (HS.out.ys k (.inl hk)) (fun he => HS.out.rB.1 k he.symm (.inl hk))) HT.out
       replace HT := Aside0.mk hT_
       clear hT_
       replace BX := Aside0.mk (blk_grown BX.out hg (fun he => HS.out.rB.1 s_ he.symm (.inr rfl)))
       replace HS := Aside0.mk (HS.out.appB ho hg hat)
       replace HB := Aside0.mk hB1
       clear ho hB1 hg hat hX6
       refine hK.out _ _ ⟨(blk_cell HS.out.cw 0).trans rfl, (blk_cell HS.out.cx 0).trans rfl, (blk_cell BX.out 0).trans rfl, (blk_cell BX.out 1).trans rfl, (blk_cell BX.out 2).trans rfl, (blk_cell BX.out 3).trans rfl⟩ (fun hHeld => ?_)
       clear hK K
       refine na_ ?_
       clear BX hHeld
       refine last_ (i := 8) (N := none) place9.mk0_1_2_3_4_5_6_7_8 rfl rfl (one_of HT_.out (by kernel_rfl)) (by decide) (fun K hK => ?_)
       have hs9 : W12.cell? ⟨gw, 0, none⟩ = some (.slice A ways.length c) := (blk_cell HS.out.cw 0).trans rfl
       have hfs9 := blk_frozen HS.out.cw 0
       refine skip_ (w1 := ?_) (by rfl) rfl ?_ ?_
       rotate_left
       ·
        go_simp; rfl
       refine hK.out _ _ ?_
       clear hK K hs9 hfs9
       have hT_ := H2.out (ys ++ acc) W12 gw _ _ (.slice A1 (ways.length + 1) c1) (fun y => HS.out.yw (.inl y)) HS.out.cw (.inl rfl) HT.out
       have hS_ := HS.out.setW
       have hB_ := below_set (j := 0) (v := (.slice A1 (ways.length + 1) c1)) HB.out HS.out.bw
       clear HS HT HB
       generalize W12.setCell ⟨gw, 0, none⟩ (.slice A1 (ways.length + 1) c1) = W13 at hT_ hS_ hB_ ⊢
       have HS := Aside0.mk hS_
       have HT := Aside0.mk hT_
       have HB := Aside0.mk hB_
       clear hT_ hS_ hB_
       refine last_ (i := 9) (N := none) place9.mk0_1_2_3_4_5_6_7_8_9 rfl rfl (one_of HT_.out (by kernel_rfl)) (by decide) (fun K hK => ?_)
       have hs9 : W13.cell? ⟨gb, 0, none⟩ = some (.slice Ab boxes.length cb) := (blk_cell HS.out.cx 0).trans rfl
       have hfs9 := blk_frozen HS.out.cx 0
       refine skip_ (w1 := ?_) (by rfl) rfl ?_ ?_
       rotate_left
       ·
        go_simp; rfl
       refine hK.out _ _ ?_
       clear hK K hs9 hfs9
       have hT_ := H2.out (ys ++ acc) W13 gb _ _ (.slice A2 (boxes.length + 1) c2) (fun y => HS.out.yb (.inl y)) HS.out.cx (.inr rfl) HT.out
       have hS_ := HS.out.setB
       have hB_ := below_set (j := 0) (v := (.slice A2 (boxes.length + 1) c2)) HB.out HS.out.bb
       clear HS HT HB
       generalize W13.setCell ⟨gb, 0, none⟩ (.slice A2 (boxes.length + 1) c2) = W14 at hT_ hS_ hB_ ⊢
       have HS := Aside0.mk hS_
       have HT := Aside0.mk hT_
       have HB := Aside0.mk hB_
       clear hT_ hS_ hB_
       refine done_ (done_of HT_.out (by kernel_rfl)) ?_
       replace HS := Aside0.mk HS.out.shrink
       have hcf : W14.cell? ⟨gf, 0, none⟩ = some (.func (.func 102) #[] #[.pointer (some ⟨gw, 0, none⟩), .pointer (some ⟨gi, 0, none⟩), .pointer (some ⟨gy, 0, none⟩), .pointer (some ⟨gl, 0, none⟩), .pointer (some ⟨gb, 0, none⟩), .pointer (some ⟨gf, 0, none⟩)]) := (blk_cell HS.out.cf 0).trans rfl
       go_wp2_with (go_at_call 102; (refine (IH.out (ways ++ [(kk : Int)]) (boxes ++ [(⟨b0, b1, b2, b3⟩ : S26)]) (ys ++ acc) pa _ _ _ ?i1 ?i2 HPA.out HYS.out HS.out HT.out HB.out).mono ?_); (case i1 => have := HM.out; rw [List.length_append, List.length_singleton]; omega); (case i2 => have := HBL.out; rw [List.length_append, List.length_append, List.length_singleton, List.length_singleton]; omega); rintro e W15 ⟨rfl, ⟨vw', vb', hS_⟩, hT_, hB_⟩; clear HS HT HB hcf; have HS := Aside0.mk hS_; have HT := Aside0.mk hT_; have HB := Aside0.mk hB_; clear hS_ hT_ hB_)
       obtain ⟨A3, c3, rfl⟩ := Kd.R_slice HS.out.rW
       obtain ⟨A4, c4, rfl⟩ := Kd.R_slice HS.out.rB
       have hl3 := (Kd.R_reads' HS.out.rW).2.1
       have hl4 := (Kd.R_reads' HS.out.rB).2.1
       simp only [List.length_append, List.length_singleton] at hl3 hl4 ⊢
       replace HS := Aside0.mk (by have := HS.out; simp only [List.length_append, List.length_singleton] at this; exact this)
       have hbl := HBL.out
       have q5 : (ways.length : Int) ≤ (c3 : Int) := by omega
       have q6 : (ways.length : Int) ≤ (c4 : Int) := by omega
       clear hl3 hl4 hbl
       obtain ⟨bm, hbm⟩ : ∃ bm, resB_ ct pa = bm := ⟨_, rfl⟩
       rw [hbm]
       have HBM := Aside0.mk hbm
       clear hbm
       have hTd : St (ys ++ acc ++ resY_ ct pa) W15.drew := by
        exact H3.out _ _ HT.out
       have HT2 := Aside0.mk hTd
       clear HT hTd
       replace HS := Aside0.mk (HS.out.below (below_drew (Below.refl _ W15)))
       replace HB := Aside0.mk (below_drew HB.out)
       refine start_ (n := 8) (S := fun w' => True) (ds := []) place11.mkE (by kernel_rfl) rfl rfl trivial (fun hHeld => ?_); refine with_tabW place11.tab place11.bits (fun HT_ HW_ => ?_)
       clear hHeld
       generalize W15.drew = W16 at HS HT2 HB ⊢
       have hbl := HBL.out
       have hS2 := (HS.out.cutW (m := ways.length) (by rw [List.length_append]; omega)).cutB (m := ways.length) (by rw [List.length_append]; omega)
       rw [List.take_left' rfl, List.take_left' hbl] at hS2
       clear HS hbl
       have HS := Aside0.mk hS2
       have HT := Aside0.mk HT2.out
       clear hS2 HT2
       have hgw : W16.cell? ⟨gw, 0, none⟩ = some (.slice A3 (ways.length + 1) c3) := (blk_cell HS.out.cw 0).trans rfl
       have hgb : W16.cell? ⟨gb, 0, none⟩ = some (.slice A4 (boxes.length + 1) c4) := (blk_cell HS.out.cx 0).trans rfl
       have hgf := blk_frozen HS.out.cw 0
       have hgb2 : (W16.setCell ⟨gw, 0, none⟩ (.slice A3 ways.length c3)).cell? ⟨gb, 0, none⟩ = some (.slice A4 (boxes.length + 1) c4) := (cell_far (p := ⟨gw, 0, none⟩) (blk_ne HS.out.cx HS.out.cw (by decide)) _).trans hgb
       refine pz_ HT_ 1 (some 53) place11.mk1 ?_
       refine pz_ HT_ 4 (some 56) place11.mk1_4 ?_
       refine join_ (σ := Unit) 1 place11.mk0_1_2_3_4_5_6 (fun _ => [(52, (.slice A3 (ways.length + 1) c3)), (54, (.slice A3 ways.length c3)), (55, (.slice A4 (boxes.length + 1) c4)), (57, (.slice A4 ways.length c4))]) (fun _ w' => w' = W16.setCell ⟨gw, 0, none⟩ (.slice A3 ways.length c3)) ?_ ?_
       rotate_left
       ·
        intro hCont; refine two_ (i := 0) (j := 3) (Ni := some 52) (Nj := some 55) place11.mk0_1_4 place11.mk1_3_4 rfl rfl rfl rfl (two_of HT_.out (by kernel_rfl)) (by decide) (by decide) (fun K hK => ?_) (fun K hK => ?_)
        ·
         skip; refine value_ (w1 := ?_) (v := ?_) (by rfl) rfl ?_ ?_; rotate_left 2
         ·
          go_simp
          constructor
          ·
           rfl
          ·
           rfl
         refine hK.out _ _ trivial (fun _ => ?_); clear hK K; refine na_ ?_; refine pz_ HT_ 2 (some 54) place11.mk0_1_2_4 ?_; refine two_ (i := 3) (j := 6) (Ni := some 55) (Nj := none) place11.mk0_1_2_3_4 place11.mk0_1_2_4_6 rfl rfl rfl rfl (two_of HT_.out (by kernel_rfl)) (by decide) (by decide) (fun K hK => ?_) (fun K hK => ?_)
         ·
          skip; refine value_ (w1 := ?_) (v := ?_) (by rfl) rfl ?_ ?_; rotate_left 2
          ·
           go_simp
           constructor
           ·
            rfl
           ·
            rfl
          refine hK.out _ _ trivial (fun _ => ?_); clear hK K; refine na_ ?_; refine pz_ HT_ 5 (some 57) place11.mk0_1_2_3_4_5 ?_; refine one_ (i := 6) (N := none) place11.mk0_1_2_3_4_5_6 rfl rfl (one_of HT_.out (by kernel_rfl)) (by decide) (fun K hK => ?_); refine skip_ (w1 := ?_) (by rfl) rfl ?_ ?_; rotate_left
          ·
           go_simp; rfl
          refine hK.out _ _ trivial (fun _ => ?_); clear hK K; exact norm_ (by simp only [putAll, Act.put, List.setIfInBounds_toArray, List.set_cons_zero, List.set_cons_succ]) (hCont () _ rfl)
         ·
          skip; refine skip_ (w1 := ?_) (by rfl) rfl ?_ ?_; rotate_left
          ·
           go_simp; rfl
          refine hK.out _ _ trivial (fun _ => ?_); clear hK K; refine one_ (i := 3) (N := some 55) place11.mk0_1_2_3_4_6 rfl rfl (one_of HT_.out (by kernel_rfl)) (by decide) (fun K hK => ?_); refine value_ (w1 := ?_) (v := ?_) (by rfl) rfl ?_ ?_; rotate_left 2
          ·
           go_simp
           constructor
           ·
            rfl
           ·
            rfl
          refine hK.out _ _ trivial (fun _ => ?_); clear hK K; refine na_ ?_; refine pz_ HT_ 5 (some 57) place11.mk0_1_2_3_4_5_6 ?_; exact norm_ (by simp only [putAll, Act.put, List.setIfInBounds_toArray, List.set_cons_zero, List.set_cons_succ]) (hCont () _ rfl)
        ·
         skip; refine value_ (w1 := ?_) (v := ?_) (by rfl) rfl ?_ ?_; rotate_left 2
         ·
          go_simp
          constructor
          ·
           rfl
          ·
           rfl
         refine hK.out _ _ trivial (fun _ => ?_); clear hK K; refine na_ ?_; refine pz_ HT_ 5 (some 57) place11.mk1_3_4_5 ?_; refine one_ (i := 0) (N := some 52) place11.mk0_1_3_4_5 rfl rfl (one_of HT_.out (by kernel_rfl)) (by decide) (fun K hK => ?_); refine value_ (w1 := ?_) (v := ?_) (by rfl) rfl ?_ ?_; rotate_left 2
         ·
          go_simp
          constructor
          ·
           rfl
          ·
           rfl
         refine hK.out _ _ trivial (fun _ => ?_); clear hK K; refine na_ ?_; refine pz_ HT_ 2 (some 54) place11.mk0_1_2_3_4_5 ?_; refine one_ (i := 6) (N := none) place11.mk0_1_2_3_4_5_6 rfl rfl (one_of HT_.out (by kernel_rfl)) (by decide) (fun K hK => ?_); refine skip_ (w1 := ?_) (by rfl) rfl ?_ ?_; rotate_left
         ·
          go_simp; rfl
         refine hK.out _ _ trivial (fun _ => ?_); clear hK K; exact norm_ (by simp only [putAll, Act.put, List.setIfInBounds_toArray, List.set_cons_zero, List.set_cons_succ]) (hCont () _ rfl)
       rintro - W17 rfl
       clear hgw hgb hgf hgb2
       have hT_ := H2.out (ys ++ acc ++ resY_ ct pa) W16 gw _ _ (.slice A3 ways.length c3) HS.out.yw HS.out.cw (.inl rfl) HT.out
       have hS_ := HS.out.setW
       have hB_ := below_set (j := 0) (v := (.slice A3 ways.length c3)) HB.out HS.out.bw
       clear HS HT HB
       generalize W16.setCell ⟨gw, 0, none⟩ (.slice A3 ways.length c3) = W17 at hT_ hS_ hB_ ⊢
       have HS := Aside0.mk hS_
       have HT := Aside0.mk hT_
       have HB := Aside0.mk hB_
       clear hT_ hS_ hB_
       refine nb_ ?_
       refine one_ (i := 7) (N := none) place11.mk0_1_2_3_4_5_6_7 rfl rfl (one_of HT_.out (by kernel_rfl)) (by decide) (fun K hK => ?_)
       have hs9 : W17.cell? ⟨gb, 0, none⟩ = some (.slice A4 (boxes.length + 1) c4) := (blk_cell HS.out.cx 0).trans rfl
       have hfs9 := blk_frozen HS.out.cx 0
       refine skip_ (w1 := ?_) (by rfl) rfl ?_ ?_
       rotate_left
       ·
        go_simp; rfl
       refine hK.out _ _ trivial (fun _ => ?_)
       clear hK K
       clear hs9 hfs9
       have hT_ := H2.out (ys ++ acc ++ resY_ ct pa) W17 gb _ _ (.slice A4 ways.length c4) HS.out.yb HS.out.cx (.inr rfl) HT.out
       have hS_ := HS.out.setB
       have hB_ := below_set (j := 0) (v := (.slice A4 ways.length c4)) HB.out HS.out.bb
       clear HS HT HB
       generalize W17.setCell ⟨gb, 0, none⟩ (.slice A4 ways.length c4) = W18 at hT_ hS_ hB_ ⊢
       have HS := Aside0.mk hS_
       have HT := Aside0.mk hT_
       have HB := Aside0.mk hB_
       clear hT_ hS_ hB_
       refine done_ (done_of HT_.out (by kernel_rfl)) ?_
       cases bm with
       | true =>
        obtain ⟨r1, r2⟩ := res_go_ HYS.out HBM.out
        go_wp2
        go_roundg (4 - (kk + 1))
        case measure => have := HG.out; omega
        case rel => exact ⟨kk + 1, acc ++ pa, rest', _, _, by omega, by omega, by go_num, ⟨HP2.out, by rw [HE.out, List.append_assoc]⟩, ⟨r2⟩, HS, ⟨by have := HT.out; rw [r1, List.append_assoc] at this; exact this⟩, HB⟩
       | false =>
        obtain ⟨r1, r2⟩ := res_stop_ HYS.out HBM.out rest'
        go_wp2
        go_ret
        refine ⟨?_, ⟨_, _, HS.out⟩, ?_, HB.out⟩
        ·
         rw [HE.out, r1]
         rfl
        ·
         rw [HE.out, r2]
         exact HT.out
    ·
     have hltz : ¬ (kk : Int) < 4 := by omega
     obtain ⟨hp, e1⟩ := HP.out
     rw [List.drop_of_length_le (by show 4 ≤ kk; omega)] at hp
     unfold catM_ at hp
     obtain rfl := Option.some.inj hp
     rw [List.append_nil] at e1
     subst e1
     go_wp2
     go_ret
     refine ⟨?_, ⟨_, _, HS.out⟩, ?_, HB.out⟩
     ·
      have : resB_ ct ps = true := by
       rcases HYS.out with h | h
       ·
        rw [h]; rfl
       ·
        rw [(List.append_eq_nil_iff.1 h).2]; cases ct <;> rfl
      rw [this]
      rfl
     ·
      have : resY_ ct ps = ps := by
       rcases HYS.out with h | h
       ·
        rw [h]; rfl
       ·
        rw [(List.append_eq_nil_iff.1 h).2]; cases ct <;> rfl
      rw [this]
      exact HT.out
  ·
   rw [if_neg hj] at hp
   cases hp
theorem st_func_ (P : Program) (w : World) (a : Addr) (fn : Fn) (first captured : Array Value) (m : Mode) : (store a (.func fn first captured) m).run P w = stored P w a (.func fn first captured) m := run_store P w a _ m rfl
attribute [local go_sem] st_func_
set_option maxHeartbeats 8000000 in
set_option maxRecDepth 100000 in
theorem each_ (l : List S29) (A0 : Option Addr) (c0 : Nat) (w0 : World) (hr0 : Kd.C k29 w0 A0 l.length l) (hc0 : l.length ≤ c0) (Y : Nat → Prop) (gyf : Nat) (lby : Array Value) (egy : ∀ args w, (callFunc gyf args).run Tryd.prog w = .ok (.enter gyf args) w) (ct : Bool) (St : List (List Int) → World → Prop)
  (hst1 : ∀ ys (W W' : World), (ct = true ∨ ys = []) → (∀ k, Y k → W'.heap[k]? = W.heap[k]?) → St ys W → St ys W')
  (hst2 : ∀ ys (W : World) (g t : Nat) (cs : Array Value) (u : Value), ¬ Y g → W.heap[g]? = some (.cells cs t (0, 0)) → (t = 40 ∨ t = 79) → St ys W → St ys (W.setCell ⟨g, 0, none⟩ u))
  (hst3 : ∀ ys (W : World), St ys W → St ys W.drew)
  (hy : ∀ ys (ways : List Int) (v : Value) (W : World), (ct = true ∨ ys = []) → (∀ k, Y k → k < W.heap.size) → St ys W → (Kd.int .i64).R 3 W w0.heap.size (fun k => ¬ Y k) v ways → Below w0.heap.size w0 W → Calls Tryd.prog gyf (#[v] ++ lby) W fun e w' => e = .returned (.bool ct) ∧ St (ys ++ [ways]) w' ∧ FrY Y W w' ∧ Below w0.heap.size w0 w')
  (vi : Value) (idx : List Int) (hidx : idx.length < 1000000) (ps : List (List Int)) (w : World) (hp : plc_ l idx idx.length [] [] = some ps) (hYs : ∀ k, Y k → k < w.heap.size) (hI : IdxR Y w w0 (.slice none 0 0) vi idx) (hSt : St [] w) (hB : Below w0.heap.size w0 w) :
  Calls Tryd.prog 77 #[.slice A0 l.length c0, vi, (.func (.func gyf) #[] lby)] w fun e w' => e = .returned (.tuple #[]) ∧ St (resY_ ct ps) w' ∧ Below w0.heap.size w0 w' := by
 have HR := Aside0.mk hr0
 have HC := Aside0.mk hc0
 have HY := Aside0.mk hy
 have H1 := Aside0.mk hst1
 have H2 := Aside0.mk hst2
 have H3 := Aside0.mk hst3
 have HP := Aside0.mk hp
 have HYS := Aside0.mk hYs
 have HT := Aside0.mk hSt
 have HB := Aside0.mk hB
 obtain ⟨Ai, ci, rfl⟩ := hI.slice_
 have HI := Aside0.mk hI
 clear hr0 hc0 hy hst1 hst2 hst3 hp hYs hSt hB hI
 go_enter Tryd.func77, Tryd.ntmps77
 go_wp2_with (first | ((with_reducible refine gate_dst (N := 3) rfl ?_); refine box_event ?hg (N := 3) ?hd (cs := #[.slice A0 l.length c0]) (t := 36) ?hr ?_; (case hd => rfl); (case hg => rfl); (case hr => first | (go_simp; done) | (go_simp; rfl)); intro gl hg W1 hbox hb; have hny : ¬ Y gl := (fun y => by have := HYS.out gl y; omega); have hge : w0.heap.size ≤ gl := (by rw [hg]; exact below_size HB.out); have hT_ := H1.out [] w W1 (.inr rfl) (fun k hk => hb.block k (HYS.out k hk)) HT.out; replace HT := Aside0.mk hT_; clear hT_; replace HYS := Aside0.mk (fun k hk => Nat.lt_of_lt_of_le (HYS.out k hk) hb.size : ∀ k, Y k → k < W1.heap.size); replace HI := Aside0.mk (HI.out.step (fun k _ _ hl => hb.block k hl)); replace HB := Aside0.mk (below_step HB.out hb); have Bgl := Aside0.mk hbox; have Ngl := Aside0.mk hny; have Ggl := Aside0.mk hge; clear hg hbox hb hny hge) | ((with_reducible refine gate_dst (N := 4) rfl ?_); refine box_event ?hg (N := 4) ?hd (cs := #[.slice Ai idx.length ci]) (t := 40) ?hr ?_; (case hd => rfl); (case hg => rfl); (case hr => first | (go_simp; done) | (go_simp; rfl)); intro gi hg W2 hbox hb; have hny : ¬ Y gi := (fun y => by have := HYS.out gi y; omega); have hge : w0.heap.size ≤ gi := (by rw [hg]; exact below_size HB.out); have hT_ := H1.out [] W1 W2 (.inr rfl) (fun k hk => hb.block k (HYS.out k hk)) HT.out; replace HT := Aside0.mk hT_; clear hT_; replace HYS := Aside0.mk (fun k hk => Nat.lt_of_lt_of_le (HYS.out k hk) hb.size : ∀ k, Y k → k < W2.heap.size); replace HI := Aside0.mk (HI.out.step (fun k _ _ hl => hb.block k hl)); replace HB := Aside0.mk (below_step HB.out hb); replace Bgl := Aside0.mk (bb_ Bgl.out hb); have Bgi := Aside0.mk hbox; have Ngi := Aside0.mk hny; have Ggi := Aside0.mk hge; clear hg hbox hb hny hge) | ((with_reducible refine gate_dst (N := 5) rfl ?_); refine box_event ?hg (N := 5) ?hd (cs := #[(.func (.func gyf) #[] lby)]) (t := 91) ?hr ?_; (case hd => rfl); (case hg => rfl); (case hr => first | (go_simp; done) | (go_simp; rfl)); intro gy hg W3 hbox hb; have hny : ¬ Y gy := (fun y => by have := HYS.out gy y; omega); have hge : w0.heap.size ≤ gy := (by rw [hg]; exact below_size HB.out); have hT_ := H1.out [] W2 W3 (.inr rfl) (fun k hk => hb.block k (HYS.out k hk)) HT.out; replace HT := Aside0.mk hT_; clear hT_; replace HYS := Aside0.mk (fun k hk => Nat.lt_of_lt_of_le (HYS.out k hk) hb.size : ∀ k, Y k → k < W3.heap.size); replace HI := Aside0.mk (HI.out.step (fun k _ _ hl => hb.block k hl)); replace HB := Aside0.mk (below_step HB.out hb); replace Bgl := Aside0.mk (bb_ Bgl.out hb); replace Bgi := Aside0.mk (bb_ Bgi.out hb); have Bgy := Aside0.mk hbox; have Ngy := Aside0.mk hny; have Ggy := Aside0.mk hge; clear hg hbox hb hny hge) | ((with_reducible refine gate_dst (N := 6) rfl ?_); refine box_event ?hg (N := 6) ?hd (cs := #[.slice none 0 0]) (t := 40) ?hr ?_; (case hd => rfl); (case hg => rfl); (case hr => first | (go_simp; done) | (go_simp; rfl)); intro gw hg W4 hbox hb; have hny : ¬ Y gw := (fun y => by have := HYS.out gw y; omega); have hge : w0.heap.size ≤ gw := (by rw [hg]; exact below_size HB.out); have hne : gi ≠ gw := nl_ hg Bgi.out; have NE := Aside0.mk hne; clear hne; have hT_ := H1.out [] W3 W4 (.inr rfl) (fun k hk => hb.block k (HYS.out k hk)) HT.out; replace HT := Aside0.mk hT_; clear hT_; replace HYS := Aside0.mk (fun k hk => Nat.lt_of_lt_of_le (HYS.out k hk) hb.size : ∀ k, Y k → k < W4.heap.size); replace HI := Aside0.mk (HI.out.step (fun k _ _ hl => hb.block k hl)); replace HB := Aside0.mk (below_step HB.out hb); replace Bgl := Aside0.mk (bb_ Bgl.out hb); replace Bgi := Aside0.mk (bb_ Bgi.out hb); replace Bgy := Aside0.mk (bb_ Bgy.out hb); have Bgw := Aside0.mk hbox; have Ngw := Aside0.mk hny; have Ggw := Aside0.mk hge; clear hg hbox hb hny hge) | ((with_reducible refine gate_dst (N := 7) rfl ?_); refine box_event ?hg (N := 7) ?hd (cs := #[.slice none 0 0]) (t := 79) ?hr ?_; (case hd => rfl); (case hg => rfl); (case hr => first | (go_simp; done) | (go_simp; rfl)); intro gb hg W5 hbox hb; have hny : ¬ Y gb := (fun y => by have := HYS.out gb y; omega); have hge : w0.heap.size ≤ gb := (by rw [hg]; exact below_size HB.out); have hT_ := H1.out [] W4 W5 (.inr rfl) (fun k hk => hb.block k (HYS.out k hk)) HT.out; replace HT := Aside0.mk hT_; clear hT_; replace HYS := Aside0.mk (fun k hk => Nat.lt_of_lt_of_le (HYS.out k hk) hb.size : ∀ k, Y k → k < W5.heap.size); replace HI := Aside0.mk (HI.out.step (fun k _ _ hl => hb.block k hl)); replace HB := Aside0.mk (below_step HB.out hb); replace Bgl := Aside0.mk (bb_ Bgl.out hb); replace Bgi := Aside0.mk (bb_ Bgi.out hb); replace Bgy := Aside0.mk (bb_ Bgy.out hb); replace Bgw := Aside0.mk (bb_ Bgw.out hb); have Bgb := Aside0.mk hbox; have Ngb := Aside0.mk hny; have Ggb := Aside0.mk hge; clear hg hbox hb hny hge) | ((with_reducible refine gate_dst (N := 8) rfl ?_); refine box_event ?hg (N := 8) ?hd (cs := #[.nilFunc]) (t := 108) ?hr ?_; (case hd => rfl); (case hg => rfl); (case hr => first | (go_simp; done) | (go_simp; rfl)); intro gf hg W6 hbox hb; have hny : ¬ Y gf := (fun y => by have := HYS.out gf y; omega); have hge : w0.heap.size ≤ gf := (by rw [hg]; exact below_size HB.out); have hT_ := H1.out [] W5 W6 (.inr rfl) (fun k hk => hb.block k (HYS.out k hk)) HT.out; replace HT := Aside0.mk hT_; clear hT_; replace HYS := Aside0.mk (fun k hk => Nat.lt_of_lt_of_le (HYS.out k hk) hb.size : ∀ k, Y k → k < W6.heap.size); replace HI := Aside0.mk (HI.out.step (fun k _ _ hl => hb.block k hl)); replace HB := Aside0.mk (below_step HB.out hb); replace Bgl := Aside0.mk (bb_ Bgl.out hb); replace Bgi := Aside0.mk (bb_ Bgi.out hb); replace Bgy := Aside0.mk (bb_ Bgy.out hb); replace Bgw := Aside0.mk (bb_ Bgw.out hb); replace Bgb := Aside0.mk (bb_ Bgb.out hb); have Bgf := Aside0.mk hbox; have Ngf := Aside0.mk hny; have Ggf := Aside0.mk hge; clear hg hbox hb hny hge; have hsf : W6.cell? ⟨gf, 0, none⟩ = some .nilFunc := (blk_cell Bgf.out 0).trans rfl; have hff := blk_frozen Bgf.out 0) | ((with_reducible refine gate_store (t := 108) (p := 8) rfl ?_); refine store_event (t := 108) (p := 8) (v := ?vo_) (w1 := (W6.setCell ⟨gf, 0, none⟩ (.func (.func 102) #[] #[.pointer (some ⟨gw, 0, none⟩), .pointer (some ⟨gi, 0, none⟩), .pointer (some ⟨gy, 0, none⟩), .pointer (some ⟨gl, 0, none⟩), .pointer (some ⟨gb, 0, none⟩), .pointer (some ⟨gf, 0, none⟩)]))) ?hg ?ho ?hn ?hr ?_; (case ho => rfl); (case hg => rfl); (case hn => rfl); (case hr => first | (go_simp; done) | (go_simp; rfl)); intro W7 hw; have HWE := Aside0.mk hw; clear hw hsf hff; have hcf : W7.cell? ⟨gf, 0, none⟩ = some (.func (.func 102) #[] #[.pointer (some ⟨gw, 0, none⟩), .pointer (some ⟨gi, 0, none⟩), .pointer (some ⟨gy, 0, none⟩), .pointer (some ⟨gl, 0, none⟩), .pointer (some ⟨gb, 0, none⟩), .pointer (some ⟨gf, 0, none⟩)]) := (by rw [HWE.out]; exact (blk_cell (blk_put Bgf.out 0 (.func (.func 102) #[] #[.pointer (some ⟨gw, 0, none⟩), .pointer (some ⟨gi, 0, none⟩), .pointer (some ⟨gy, 0, none⟩), .pointer (some ⟨gl, 0, none⟩), .pointer (some ⟨gb, 0, none⟩), .pointer (some ⟨gf, 0, none⟩)]) rfl) 0).trans rfl)) | (go_at_call 102; have hPl : PlS Y W7 w0 gw gi gy gl gb gf (.slice none 0 0) (.slice none 0 0) (.slice Ai idx.length ci) (.slice A0 l.length c0) (.slice none 0 0) (.slice none 0 0) (.func (.func gyf) #[] lby) (.func (.func 102) #[] #[.pointer (some ⟨gw, 0, none⟩), .pointer (some ⟨gi, 0, none⟩), .pointer (some ⟨gy, 0, none⟩), .pointer (some ⟨gl, 0, none⟩), .pointer (some ⟨gb, 0, none⟩), .pointer (some ⟨gf, 0, none⟩)]) [] idx [] := (by rw [HWE.out]; exact ⟨blk_far (p := ⟨gf, 0, none⟩) Bgw.out (blk_ne Bgw.out Bgf.out (by decide)) (.func (.func 102) #[] #[.pointer (some ⟨gw, 0, none⟩), .pointer (some ⟨gi, 0, none⟩), .pointer (some ⟨gy, 0, none⟩), .pointer (some ⟨gl, 0, none⟩), .pointer (some ⟨gb, 0, none⟩), .pointer (some ⟨gf, 0, none⟩)]), blk_far (p := ⟨gf, 0, none⟩) Bgi.out (blk_ne Bgi.out Bgf.out (by decide)) (.func (.func 102) #[] #[.pointer (some ⟨gw, 0, none⟩), .pointer (some ⟨gi, 0, none⟩), .pointer (some ⟨gy, 0, none⟩), .pointer (some ⟨gl, 0, none⟩), .pointer (some ⟨gb, 0, none⟩), .pointer (some ⟨gf, 0, none⟩)]), blk_far (p := ⟨gf, 0, none⟩) Bgy.out (blk_ne Bgy.out Bgf.out (by decide)) (.func (.func 102) #[] #[.pointer (some ⟨gw, 0, none⟩), .pointer (some ⟨gi, 0, none⟩), .pointer (some ⟨gy, 0, none⟩), .pointer (some ⟨gl, 0, none⟩), .pointer (some ⟨gb, 0, none⟩), .pointer (some ⟨gf, 0, none⟩)]), blk_far (p := ⟨gf, 0, none⟩) Bgl.out (blk_ne Bgl.out Bgf.out (by decide)) (.func (.func 102) #[] #[.pointer (some ⟨gw, 0, none⟩), .pointer (some ⟨gi, 0, none⟩), .pointer (some ⟨gy, 0, none⟩), .pointer (some ⟨gl, 0, none⟩), .pointer (some ⟨gb, 0, none⟩), .pointer (some ⟨gf, 0, none⟩)]), blk_far (p := ⟨gf, 0, none⟩) Bgb.out (blk_ne Bgb.out Bgf.out (by decide)) (.func (.func 102) #[] #[.pointer (some ⟨gw, 0, none⟩), .pointer (some ⟨gi, 0, none⟩), .pointer (some ⟨gy, 0, none⟩), .pointer (some ⟨gl, 0, none⟩), .pointer (some ⟨gb, 0, none⟩), .pointer (some ⟨gf, 0, none⟩)]), blk_put Bgf.out 0 (.func (.func 102) #[] #[.pointer (some ⟨gw, 0, none⟩), .pointer (some ⟨gi, 0, none⟩), .pointer (some ⟨gy, 0, none⟩), .pointer (some ⟨gl, 0, none⟩), .pointer (some ⟨gb, 0, none⟩), .pointer (some ⟨gf, 0, none⟩)]) rfl, NE.out, Ggw.out, Ggb.out, Ngw.out, Ngi.out, Ngy.out, Ngl.out, Ngb.out, Ngf.out, fun k hk => Nat.lt_of_lt_of_le (HYS.out k hk) (KeepBut.set_ (KeepBut.refl W6 gf none) 0 (.func (.func 102) #[] #[.pointer (some ⟨gw, 0, none⟩), .pointer (some ⟨gi, 0, none⟩), .pointer (some ⟨gy, 0, none⟩), .pointer (some ⟨gl, 0, none⟩), .pointer (some ⟨gb, 0, none⟩), .pointer (some ⟨gf, 0, none⟩)])).1, HI.out.set_ Bgf.out (by decide) (.func (.func 102) #[] #[.pointer (some ⟨gw, 0, none⟩), .pointer (some ⟨gi, 0, none⟩), .pointer (some ⟨gy, 0, none⟩), .pointer (some ⟨gl, 0, none⟩), .pointer (some ⟨gb, 0, none⟩), .pointer (some ⟨gf, 0, none⟩)]), Kd.R_nil _ _ _ _ _, Kd.R_nil _ _ _ _ _⟩); have hTT : St [] W7 := (by rw [HWE.out]; exact H1.out [] W6 _ (.inr rfl) (fun k hk => Below.heap_setCell W6 ⟨gf, 0, none⟩ _ k (fun e => Ngf.out ((show k = gf from e) ▸ hk))) HT.out); have hBB : Below w0.heap.size w0 W7 := (by rw [HWE.out]; exact below_set (j := 0) HB.out Ggf.out); refine (from_ l A0 c0 w0 HR.out HC.out Y gyf lby egy ct St H1.out H2.out H3.out HY.out gw gi gy gl gb gf _ idx hidx idx.length [] [] [] ps W7 _ _ (by simp) rfl HP.out (.inr rfl) hPl hTT hBB).mono ?_; rintro e W8 ⟨rfl, hq_, hT8, hB8⟩; clear hq_ hPl hTT hBB hcf))
 first | go_end0 | ((try simp only [Exit.inBlock, Exit.then]); refine bodyPost_ret (results_none rfl _ _ _) rfl ?_)
 exact ⟨rfl, by simpa using hT8, hB8⟩
def FirstS (base gF gD : Nat) (ys : List (List Int)) (w : World) : Prop := gF < w.heap.size ∧ gD < w.heap.size ∧ ∃ v, w.heap[gF]? = some (.cells #[v] 40 (0, 0)) ∧ w.heap[gD]? = some (.cells #[.bool (!ys.isEmpty)] 4 (0, 0)) ∧ ((ys = [] ∧ v = .slice none 0 0) ∨ ∃ p, ys = [p] ∧ (Kd.int .i64).R 3 w base (fun _ => True) v p)
theorem FirstS.keep {base gF gD : Nat} {ys : List (List Int)} {W W' : World} (h : FirstS base gF gD ys W) (hy : ys = []) (hF : W'.heap[gF]? = W.heap[gF]?) (hD : W'.heap[gD]? = W.heap[gD]?) : FirstS base gF gD ys W' := by
 subst hy
 obtain ⟨l1, l2, v, h1, h2, h3⟩ := h
 rw [← hF] at h1
 rw [← hD] at h2
 refine ⟨blk_lt h1, blk_lt h2, v, h1, h2, .inl ?_⟩
 rcases h3 with h3 | ⟨p, hp, _⟩
 ·
  exact h3
 ·
  cases hp
theorem FirstS.set_ {base gF gD : Nat} {ys : List (List Int)} {W : World} (h : FirstS base gF gD ys W) {g t : Nat} {cs : Array Value} (u : Value) (hg : ¬ (g = gF ∨ g = gD)) (hc : W.heap[g]? = some (.cells cs t (0, 0))) (ht : t = 40 ∨ t = 79) : FirstS base gF gD ys (W.setCell ⟨g, 0, none⟩ u) := by
 obtain ⟨l1, l2, v, h1, h2, h3⟩ := h
 have k1 := blk_far h1 (p := ⟨g, 0, none⟩) (fun e => hg (.inl e.symm)) u
 have k2 := blk_far h2 (p := ⟨g, 0, none⟩) (fun e => hg (.inr e.symm)) u
 refine ⟨blk_lt k1, blk_lt k2, v, k1, k2, ?_⟩
 rcases h3 with h3 | ⟨p, hp, hr⟩
 ·
  exact .inl h3
 ·
  refine .inr ⟨p, hp, Kd.R_set hr hc (fun q hq => ?_) 0 u⟩
  rw [List.mem_singleton.1 hq]
  rcases ht with rfl | rfl <;> decide
theorem FirstS.drew {base gF gD : Nat} {ys : List (List Int)} {W : World} (h : FirstS base gF gD ys W) : FirstS base gF gD ys W.drew := by
 obtain ⟨l1, l2, v, h1, h2, h3⟩ := h
 refine ⟨l1, l2, v, blk_drew h1, blk_drew h2, ?_⟩
 rcases h3 with h3 | ⟨p, hp, hr⟩
 ·
  exact .inl h3
 ·
  exact .inr ⟨p, hp, Kd.R_drew hr⟩
def firstP4.T : Bool × List (List Nat × List Nat) := (true, [([], []), ([], []), ([0, 0], [0]), ([1, 2, 0, 1, 2], [1])])
def firstP4.B : List Nat := [0, 0, 1, 7]
theorem firstP4.tab : rtab .any (opsOf Tryd.f80 4) = firstP4.T := by kernel_rfl
theorem firstP4.bits : waitsOk firstP4.T.2 firstP4.B = true := by kernel_rfl
abbrev firstP4.mkE : Array Bool := #[false, false, false, false]
abbrev firstP4.mk0_1 : Array Bool := #[true, true, false, false]
abbrev firstP4.mk0_1_2 : Array Bool := #[true, true, true, false]
abbrev firstP4.mk0_1_2_3 : Array Bool := #[true, true, true, true]
theorem wrap_succ_ (a : Int) : wrap64 (wrap64 a + 1) = wrap64 (a + 1) := by
 unfold wrap64
 omega
def CountS (gc : Nat) (ys : List (List Int)) (w : World) : Prop := w.heap[gc]? = some (.cells #[.int .i64 (wrap64 (ys.length : Int))] 3 (0, 0))
theorem CountS.nil {gc : Nat} {w : World} (h : w.heap[gc]? = some (.cells #[.int .i64 0] 3 (0, 0))) : CountS gc [] w := by
 have e : wrap64 (([] : List (List Int)).length : Int) = 0 := by
  show wrap64 ((0 : Nat) : Int) = 0
  unfold wrap64
  omega
 unfold CountS
 rw [e]
 exact h
set_option maxHeartbeats 8000000 in
set_option maxRecDepth 100000 in
theorem countYield_ (gc : Nat) (w0 : World) (hbc : w0.heap.size ≤ gc) (ys : List (List Int)) (ways : List Int) (v : Value) (W : World) (hS : CountS gc ys W) (hv : ∃ A n c, v = .slice A n c) (hB : Below w0.heap.size w0 W) :
  Calls Tryd.prog 79 (#[v] ++ #[.pointer (some ⟨gc, 0, none⟩)]) W fun e w' => e = .returned (.bool true) ∧ CountS gc (ys ++ [ways]) w' ∧ FrY (fun k => k = gc) W w' ∧ Below w0.heap.size w0 w' := by
 show Calls Tryd.prog 79 #[v, .pointer (some ⟨gc, 0, none⟩)] W _
 obtain ⟨A, n, c, rfl⟩ := hv
 obtain ⟨m, hm⟩ : ∃ m, wrap64 (ys.length : Int) = m := ⟨_, rfl⟩
 have hS' : W.heap[gc]? = some (.cells #[.int .i64 m] 3 (0, 0)) := by rw [← hm]; exact hS
 have hF2 := blk_put hS' 0 (.int .i64 (wrap64 (m + 1))) rfl
 have hk : KeepBut W (W.setCell ⟨gc, 0, none⟩ (.int .i64 (wrap64 (m + 1)))) gc none := KeepBut.set_ (KeepBut.refl _ _ _) 0 _
 have e1 : wrap64 (m + 1) = wrap64 ((ys ++ [ways]).length : Int) := by
  rw [← hm, wrap_succ_, List.length_append, List.length_singleton]
  rfl
 have FA := Aside0.mk (show CountS gc (ys ++ [ways]) (W.setCell ⟨gc, 0, none⟩ (.int .i64 (wrap64 (m + 1)))) from by unfold CountS; rw [← e1]; exact hF2)
 have FB := Aside0.mk (FrY.of_keep (Y := fun k => k = gc) hk rfl)
 have FC := Aside0.mk (below_set (j := 0) (v := .int .i64 (wrap64 (m + 1))) hB hbc)
 have hc := (blk_cell hS' 0).trans rfl
 have hf := blk_frozen hS' 0
 clear hS hS' hF2 hk e1 hm hB
 go_enter Tryd.func79, Tryd.ntmps79
 go_wp2
 go_ret
 exact ⟨rfl, FA.out, FB.out, FC.out⟩
def impl_CountPlacings.f (k : Nat) (l0 : List S29) : Option (Int × Bool) :=
 (impl_AreLabels.f l0).bind fun t1 => if t1 = true then (impl_allIndices.f k (l0.length : Int)).bind fun idx => if idx.length < 1000000 then (plc_ l0 idx idx.length [] []).bind fun ps => some (wrap64 (ps.length : Int), true) else none else some (0, false)
set_option maxHeartbeats 8000000 in
set_option maxRecDepth 100000 in
theorem impl_CountPlacings.calls (k : Nat) (A0 : Option Addr) (c0 : Nat) (l0 : List S29) (r1 : Int) (r2 : Bool) (w : World) (hr0 : Kd.C k29 w A0 l0.length l0) (hc0 : l0.length ≤ c0) (h : impl_CountPlacings.f k l0 = some (r1, r2)) :
  Calls Tryd.prog 38 #[.slice A0 l0.length c0] w fun e w' => e = .returned (.tuple #[.int .i64 r1, .bool r2]) ∧ Below w.heap.size w w' := by
 unfold impl_CountPlacings.f at h
 obtain ⟨t1, h1, h⟩ := Option.bind_eq_some_iff.mp h
 have HR0 := Aside0.mk hr0
 have HC0 := Aside0.mk hc0
 have E1 := Aside0.mk h1
 clear hr0 hc0 h1
 cases t1 with
 | false =>
  simp only [Bool.false_eq_true, if_false, Option.some.injEq, Prod.mk.injEq] at h
  obtain ⟨rfl, rfl⟩ := h
  go_enter Tryd.func38, Tryd.ntmps38
  go_wp2_with ((with_reducible refine gate_callee (f := 21) rfl ?_); refine ga_ (some 6) Tryd.func21 #[.slice A0 l0.length c0] ?_; refine (impl_AreLabels.calls A0 c0 l0 false _ HR0.out HC0.out E1.out).mono ?_; rintro e W1 ⟨rfl, hb⟩; refine ⟨_, rfl, ?_⟩; have HB := Aside0.mk hb; clear hb)
  go_ret2
  exact ⟨rr_, HB.out⟩
 | true =>
  simp only [if_true] at h
  obtain ⟨idx, h2, h⟩ := Option.bind_eq_some_iff.mp h
  by_cases hx : idx.length < 1000000
  ·
   rw [if_pos hx] at h
   obtain ⟨ps, hp, h⟩ := Option.bind_eq_some_iff.mp h
   simp only [Option.some.injEq, Prod.mk.injEq] at h
   obtain ⟨rfl, rfl⟩ := h
   have E2 := Aside0.mk h2
   have HX := Aside0.mk hx
   have HP := Aside0.mk hp
   clear h2 hx hp
   go_enter Tryd.func38, Tryd.ntmps38
   go_wp2_with (first | ((with_reducible refine gate_callee (f := 21) rfl ?_); refine ga_ (some 6) Tryd.func21 #[.slice A0 l0.length c0] ?_; refine (impl_AreLabels.calls A0 c0 l0 true _ HR0.out HC0.out E1.out).mono ?_; rintro e W1 ⟨rfl, hb⟩; refine ⟨_, rfl, ?_⟩; have HB := Aside0.mk hb; clear hb) | ((with_reducible refine gate_dst (N := 4) rfl ?_); refine box_event ?hg (N := 4) ?hd (cs := #[.int .i64 0]) (t := 3) ?hr ?_; (case hd => rfl); (case hg => rfl); (case hr => first | (go_simp; done) | (go_simp; rfl)); intro gc hg W2 hbox hb; have hge : w.heap.size ≤ gc := (by rw [hg]; exact below_size HB.out); have BC := Aside0.mk hbox; have GC := Aside0.mk hge; replace HB := Aside0.mk (below_step HB.out hb); clear hg hbox hb hge) | ((with_reducible refine gate_store (t := 3) (p := 4) rfl ?_); have hsc : W2.cell? ⟨gc, 0, none⟩ = some (.int .i64 0) := (blk_cell BC.out 0).trans rfl; have hfc := blk_frozen BC.out 0; refine store_event (t := 3) (p := 4) (v := ?vo_) (w1 := (W2.setCell ⟨gc, 0, none⟩ (.int .i64 0))) ?hg ?ho ?hn ?hr ?_; (case ho => rfl); (case hg => rfl); (case hn => rfl); (case hr => first | (go_simp; done) | (go_simp; rfl)); intro W3 hw; replace BC := Aside0.mk (show W3.heap[gc]? = some (.cells #[.int .i64 0] 3 (0, 0)) from by rw [hw]; exact blk_put BC.out 0 (.int .i64 0) rfl); replace HB := Aside0.mk (show Below w.heap.size w W3 from by rw [hw]; exact below_set (j := 0) HB.out GC.out); clear hw hsc hfc) | (go_at_call 78; refine (impl_allIndices.calls k (l0.length : Int) idx _ E2.out).mono ?_; rintro e W4 ⟨v4, rfl, hv4, hb⟩; have hI_ : (Kd.int .i64).R 3 W4 w.heap.size (fun k => ¬ (k = gc) ∧ some k ≠ (Value.slice none 0 0).ownBlock) v4 idx := Kd.R_lower (Kd.R_mono (Kd.R_bound hv4) (fun k hk => ⟨fun e => by have := blk_lt BC.out; have := hk.2.1; omega, by simp [Value.ownBlock]⟩)) (below_size HB.out); have HIX := Aside0.mk hI_; replace BC := Aside0.mk (bb_ BC.out hb); replace HB := Aside0.mk (below_step HB.out hb); clear hv4 hb hI_; obtain ⟨A4, c4, rfl⟩ := Kd.R_slice HIX.out) | (go_at_call 77; refine (each_ l0 A0 c0 w HR0.out HC0.out (fun k => k = gc) 79 #[.pointer (some ⟨gc, 0, none⟩)] (fun _ _ => rfl) true (CountS gc) (fun ys W W' _ hk hS => (hk gc rfl).trans hS) (fun ys W g t cs u hg hc ht hS => blk_far (p := ⟨g, 0, none⟩) hS (fun e => hg e.symm) u) (fun ys W hS => blk_drew hS) (fun ys ways v W h hYs hS hv hB => countYield_ gc w GC.out ys ways v W hS (Kd.R_slice hv |>.elim fun A h => h.elim fun c h => ⟨A, _, c, h⟩) hB) (.slice A4 idx.length c4) idx HX.out ps _ HP.out (by rintro k rfl; exact blk_lt BC.out) (.inl HIX.out) (CountS.nil BC.out) HB.out).mono ?_; rintro e W5 ⟨rfl, hS5, hB5⟩; clear BC HB HIX; have hcc : W5.cell? ⟨gc, 0, none⟩ = some (.int .i64 (wrap64 (ps.length : Int))) := (blk_cell hS5 0).trans rfl; have HB := Aside0.mk hB5; clear hS5 hB5))
   go_ret2
   exact ⟨rr_, HB.out⟩
  ·
   rw [if_neg hx] at h
   cases h
def laws_FnExactCountPlacings.j0 : Nat → List (S23) → List (S29) → Bool → Option (Bool)
 | 0, _, _, _ => none
 | k + 1, x0, x6, x34 => if x34 = true then (none) else ((laws_toLabelS.f k x0).bind fun t457 => ((laws_eqLabelS.f k x6 t457).bind fun t460 => (if t460 = true then (some true) else (none))))
def laws_FnExactCountPlacings.f (k : Nat) (l0 : List (S23)) : Option (Bool) := (laws_szLabelS.f k l0 1048576).bind fun t446 => (if t446 < 0 then (some true) else ((laws_toLabelS.f k l0).bind fun t447 => ((spec_CountPlacings.f k t447).bind fun bt450 => ((laws_toLabelS.f k l0).bind fun t452 => ((impl_CountPlacings.f k t452).bind fun bt455 => (if bt455.1 = bt450.1 then (laws_FnExactCountPlacings.j0 k l0 t452 (bt455.2 != bt450.2)) else (laws_FnExactCountPlacings.j0 k l0 t452 true)))))))
set_option maxHeartbeats 8000000 in
set_option maxRecDepth 100000 in
theorem laws_FnExactCountPlacings.calls (k : Nat) (A0 : Option Addr) (c0 : Nat) (l0 : List (S23)) (r : Bool) (w : World) (hr0 : Kd.C k23 w A0 l0.length l0) (hc0 : l0.length ≤ c0) (h : laws_FnExactCountPlacings.f k l0 = some r) :
  Calls Tryd.prog 8 #[.slice A0 l0.length c0] w fun e w' => e = .returned (.bool r) ∧ Below w.heap.size w w' := by
 have HR0 := Aside0.mk hr0
 have HC0 := Aside0.mk hc0
 clear hr0 hc0
 have HB := Aside0.mk (Below.refl w.heap.size w)
 have H : ((laws_szLabelS.f k l0 1048576).bind fun t446 => (if t446 < 0 then (some true) else ((laws_toLabelS.f k l0).bind fun t447 => ((spec_CountPlacings.f k t447).bind fun bt450 => ((laws_toLabelS.f k l0).bind fun t452 => ((impl_CountPlacings.f k t452).bind fun bt455 => (if bt455.1 = bt450.1 then (laws_FnExactCountPlacings.j0 k l0 t452 (bt455.2 != bt450.2)) else (laws_FnExactCountPlacings.j0 k l0 t452 true)))))))) = some r := h
 clear h
 replace H := Option.bind_eq_some_iff.mp H
 obtain ⟨t446, A20, H⟩ := H
 replace H : (if t446 < 0 then (some true) else ((laws_toLabelS.f k l0).bind fun t447 => ((spec_CountPlacings.f k t447).bind fun bt450 => ((laws_toLabelS.f k l0).bind fun t452 => ((impl_CountPlacings.f k t452).bind fun bt455 => (if bt455.1 = bt450.1 then (laws_FnExactCountPlacings.j0 k l0 t452 (bt455.2 != bt450.2)) else (laws_FnExactCountPlacings.j0 k l0 t452 true))))))) = some r := H
 have A2 := Aside0.mk A20
 clear A20
 by_cases c3 : t446 < 0
 ·
  rw [if_pos c3] at H
  have c3b0 : decide (t446 < 0) = true := decide_eq_true c3
  clear c3
  obtain rfl := Option.some.inj H
  go_enter Tryd.func8, Tryd.ntmps8
  go_wp2_with (first | ((with_reducible refine gate_callee (f := 18) rfl ?_); refine ga_ (some 11) Tryd.func18 #[.slice A0 l0.length c0, .int .i64 1048576] ?_; (with_reducible refine (laws_szLabelS.calls k _ _ l0 1048576 t446 _ ?side1 ?side2 A2.out).mono ?_); (case side1 => exact kc_ HR0.out); (case side2 => exact HC0.out); rintro e w4 ⟨rfl, hb⟩; refine ⟨_, rfl, ?_⟩; replace HB := Aside0.mk (below_step (lb0_ HB.out) hb); (try clear hb); (try clear hb2); (try clear hk); (try clear hi)))
  go_ret
  exact ⟨rr_, lb0_ HB.out⟩
 ·
  rw [if_neg c3] at H
  have c3b0 : decide (t446 < 0) = false := decide_eq_false c3
  clear c3
  replace H := Option.bind_eq_some_iff.mp H
  obtain ⟨t447, A50, H⟩ := H
  replace H : ((spec_CountPlacings.f k t447).bind fun bt450 => ((laws_toLabelS.f k l0).bind fun t452 => ((impl_CountPlacings.f k t452).bind fun bt455 => (if bt455.1 = bt450.1 then (laws_FnExactCountPlacings.j0 k l0 t452 (bt455.2 != bt450.2)) else (laws_FnExactCountPlacings.j0 k l0 t452 true))))) = some r := H
  have A5 := Aside0.mk A50
  clear A50
  replace H := Option.bind_eq_some_iff.mp H
  obtain ⟨⟨t450, t451⟩, A60, H⟩ := H
  replace H : ((laws_toLabelS.f k l0).bind fun t452 => ((impl_CountPlacings.f k t452).bind fun bt455 => (if bt455.1 = t450 then (laws_FnExactCountPlacings.j0 k l0 t452 (bt455.2 != t451)) else (laws_FnExactCountPlacings.j0 k l0 t452 true)))) = some r := H
  have A6 := Aside0.mk A60
  clear A60
  replace H := Option.bind_eq_some_iff.mp H
  obtain ⟨t452, A70, H⟩ := H
  replace H : ((impl_CountPlacings.f k t452).bind fun bt455 => (if bt455.1 = t450 then (laws_FnExactCountPlacings.j0 k l0 t452 (bt455.2 != t451)) else (laws_FnExactCountPlacings.j0 k l0 t452 true))) = some r := H
  have A7 := Aside0.mk A70
  clear A70
  replace H := Option.bind_eq_some_iff.mp H
  obtain ⟨⟨t455, t456⟩, A80, H⟩ := H
  replace H : (if t455 = t450 then (laws_FnExactCountPlacings.j0 k l0 t452 (t456 != t451)) else (laws_FnExactCountPlacings.j0 k l0 t452 true)) = some r := H
  have A8 := Aside0.mk A80
  clear A80
  have HC9 := Aside0.mk H
  clear H
  go_enter Tryd.func8, Tryd.ntmps8
  go_upto_region 8 with (first | ((with_reducible refine gate_callee (f := 18) rfl ?_); refine ga_ (some 11) Tryd.func18 #[.slice A0 l0.length c0, .int .i64 1048576] ?_; (with_reducible refine (laws_szLabelS.calls k _ _ l0 1048576 t446 _ ?side1 ?side2 A2.out).mono ?_); (case side1 => exact kc_ HR0.out); (case side2 => exact HC0.out); rintro e w10 ⟨rfl, hb⟩; refine ⟨_, rfl, ?_⟩; replace HB := Aside0.mk (below_step (lb0_ HB.out) hb); (try clear hb); (try clear hb2); (try clear hk); (try clear hi)) | ((with_reducible refine gate_callee (f := 20) rfl ?_); refine ga_ (some 16) Tryd.func20 #[.slice A0 l0.length c0] ?_; (with_reducible refine (laws_toLabelS.calls k _ _ l0 t447 _ ?side1 ?side2 A5.out).mono ?_); (case side1 => exact kc_ (Kd.C_below HR0.out HB.out)); (case side2 => exact HC0.out); rintro e w11 ⟨v448, rfl, ho0, hb⟩; refine ⟨_, rfl, ?_⟩; have HO449 := Aside0.mk (Kd.R_lower ho0 (below_size (lb0_ HB.out))); replace HB := Aside0.mk (below_step (lb0_ HB.out) hb); (try clear hb); (try clear hb2); (try clear hk); (try clear hi); (try clear ho0); obtain ⟨Ao12, co12, eo12⟩ := Kd.R_slice HO449.out; subst eo12) | ((with_reducible refine gate_callee (f := 37) rfl ?_); refine ga_ (some 17) Tryd.func37 #[.slice Ao12 t447.length co12] ?_; (with_reducible refine (spec_CountPlacings.calls k _ _ t447 t450 t451 _ ?side1 ?side2 A6.out).mono ?_); (case side1 => exact kc_ (Kd.R_reads' HO449.out).2.2); (case side2 => exact (Kd.R_reads' HO449.out).2.1); rintro e w13 ⟨rfl, hb⟩; refine ⟨_, rfl, ?_⟩; replace HO449 := Aside0.mk (Kd.R_below (kr_ HO449.out) hb); replace HB := Aside0.mk (below_step (lb0_ HB.out) hb); (try clear hb); (try clear hb2); (try clear hk); (try clear hi)) | ((with_reducible refine gate_callee (f := 20) rfl ?_); refine ga_ (some 21) Tryd.func20 #[.slice A0 l0.length c0] ?_; (with_reducible refine (laws_toLabelS.calls k _ _ l0 t452 _ ?side1 ?side2 A7.out).mono ?_); (case side1 => exact kc_ (Kd.C_below HR0.out HB.out)); (case side2 => exact HC0.out); rintro e w14 ⟨v453, rfl, ho0, hb⟩; refine ⟨_, rfl, ?_⟩; have HO454 := Aside0.mk (Kd.R_lower (Kd.R_new' ho0 (Kd.R_lt (kr_ HO449.out))) (below_size (lb0_ HB.out))); replace HO449 := Aside0.mk (Kd.R_elder' (kr_ HO449.out) (Kd.R_base ho0) hb); replace HB := Aside0.mk (below_step (lb0_ HB.out) hb); (try clear hb); (try clear hb2); (try clear hk); (try clear hi); (try clear ho0); obtain ⟨Ao15, co15, eo15⟩ := Kd.R_slice HO454.out; subst eo15) | ((with_reducible refine gate_callee (f := 38) rfl ?_); refine ga_ (some 24) Tryd.func38 #[.slice Ao15 t452.length co15] ?_; (with_reducible refine (impl_CountPlacings.calls k _ _ t452 t455 t456 _ ?side1 ?side2 A8.out).mono ?_); (case side1 => exact kc_ (Kd.R_reads' HO454.out).2.2); (case side2 => exact (Kd.R_reads' HO454.out).2.1); rintro e w16 ⟨rfl, hb⟩; refine ⟨_, rfl, ?_⟩; replace HO449 := Aside0.mk (Kd.R_below (kr_ HO449.out) hb); replace HO454 := Aside0.mk (Kd.R_below (kr_ HO454.out) hb); replace HB := Aside0.mk (below_step (lb0_ HB.out) hb); (try clear hb); (try clear hb2); (try clear hk); (try clear hi)))
  (try simp only [Act.put, List.setIfInBounds_toArray, List.set_cons_zero, List.set_cons_succ])
  go_cut [34] (fun v34 wc => ∃ (kq : Nat) (x34_8 : Bool), v34 = .bool x34_8 ∧ Aside0 (laws_FnExactCountPlacings.j0 kq l0 t452 x34_8 = some r) ∧ Aside0 (kq ≤ k) ∧ Aside0 (Kd.R k29 29 wc w.heap.size (fun _ => True) (.slice Ao15 t452.length co15) t452) ∧ Aside0 (Below w.heap.size w wc))
  case first =>
   have H := HC9.out
   clear HC9
   by_cases c17 : t455 = t450
   ·
    rw [if_pos c17] at H
    have c17b0 : (t455 == t450) = true := beq_iff_eq.mpr c17
    have c17b1 : (t455 != t450) = false := bne_eq_false_iff_eq.mpr c17
    clear c17
    (first | rw [c17b0] | (simp only [i64_w, i32_w]; rw [c17b0]) | skip)
    have H' := Aside0.mk H
    clear H
    go_wp2
    go_meet
    case rel => exact ⟨_, ((t456 != t451)), (by first | rfl | (simp; done) | (simp [*]; done)), H', ⟨by first | omega | exact Nat.le_refl _⟩, ⟨krm_ HO454.out (fun _ hk => trivial)⟩, ⟨lb0_ HB.out⟩⟩
   ·
    rw [if_neg c17] at H
    have c17b0 : (t455 == t450) = false := beq_eq_false_iff_ne.mpr c17
    have c17b1 : (t455 != t450) = true := bne_iff_ne.mpr c17
    (first | rw [c17b0] | (simp only [i64_w, i32_w]; rw [c17b0]) | skip)
    have H' := Aside0.mk H
    clear H
    go_wp2
    go_meet
    case rel => exact ⟨_, (true), (by first | rfl | (simp; done) | (simp [*]; done)), H', ⟨by first | omega | exact Nat.le_refl _⟩, ⟨krm_ HO454.out (fun _ hk => trivial)⟩, ⟨lb0_ HB.out⟩⟩
  case rest =>
   clear HC9
   try clear c1
   try clear c2
   try clear p2
   try clear c3
   try clear c3b0
   try clear c8
   try clear c17
   try clear c17b0
   try clear c17b1
   obtain ⟨kq, x34_8, rfl, HA, HJ8, HO_6, HB⟩ := hcut
   cases kq with
   | zero => exact absurd HA.out (by simp [laws_FnExactCountPlacings.j0])
   | succ kj8 =>
    have H := HA.out
    clear HA
    simp only [laws_FnExactCountPlacings.j0] at H
    by_cases c18 : x34_8 = true
    ·
     subst c18
     have H1 : (none) = some r := by rw [if_pos rfl] at H; exact H
     clear H
     have H := H1
     clear H1
     exact absurd H (by simp)
    ·
     replace c18 := Bool.eq_false_iff.mpr c18
     subst c18
     have H1 : ((laws_toLabelS.f kj8 l0).bind fun t457 => ((laws_eqLabelS.f kj8 t452 t457).bind fun t460 => (if t460 = true then (some true) else (none)))) = some r := by rw [if_neg (show ¬ (false = true) by decide)] at H; exact H
     clear H
     have H := H1
     clear H1
     replace H := Option.bind_eq_some_iff.mp H
     obtain ⟨t457, A190, H⟩ := H
     replace H : ((laws_eqLabelS.f kj8 t452 t457).bind fun t460 => (if t460 = true then (some true) else (none))) = some r := H
     have A19 := Aside0.mk A190
     clear A190
     replace H := Option.bind_eq_some_iff.mp H
     obtain ⟨t460, A200, H⟩ := H
     replace H : (if t460 = true then (some true) else (none)) = some r := H
     have A20 := Aside0.mk A200
     clear A200
     by_cases c21 : t460 = true
     ·
      subst c21
      have H1 : (some true) = some r := by rw [if_pos rfl] at H; exact H
      clear H
      have H := H1
      clear H1
      obtain rfl := Option.some.inj H
      go_wp2_with (first | ((with_reducible refine gate_callee (f := 20) rfl ?_); refine ga_ (some 37) Tryd.func20 #[.slice A0 l0.length c0] ?_; (with_reducible refine (laws_toLabelS.calls kj8 _ _ l0 t457 _ ?side1 ?side2 A19.out).mono ?_); (case side1 => exact kc_ (Kd.C_below HR0.out HB.out)); (case side2 => exact HC0.out); rintro e w22 ⟨v458, rfl, ho0, hb⟩; refine ⟨_, rfl, ?_⟩; have HO459 := Aside0.mk (Kd.R_lower (Kd.R_new' ho0 (Kd.R_lt (kr_ HO_6.out))) (below_size (lb0_ HB.out))); replace HO_6 := Aside0.mk (Kd.R_elder' (kr_ HO_6.out) (Kd.R_base ho0) hb); replace HB := Aside0.mk (below_step (lb0_ HB.out) hb); (try clear hb); (try clear hb2); (try clear hk); (try clear hi); (try clear ho0); obtain ⟨Ao23, co23, eo23⟩ := Kd.R_slice HO459.out; subst eo23) | ((with_reducible refine gate_callee (f := 22) rfl ?_); refine ga_ (some 38) Tryd.func22 #[.slice Ao15 t452.length co15, .slice Ao23 t457.length co23] ?_; (with_reducible refine (laws_eqLabelS.calls kj8 _ _ t452 _ _ t457 true _ ?side1 ?side2 ?side3 ?side4 A20.out).mono ?_); (case side1 => exact kc_ (Kd.R_reads' HO_6.out).2.2); (case side2 => exact (Kd.R_reads' HO_6.out).2.1); (case side3 => exact kc_ (Kd.R_reads' HO459.out).2.2); (case side4 => exact (Kd.R_reads' HO459.out).2.1); rintro e w24 ⟨rfl, hb⟩; refine ⟨_, rfl, ?_⟩; replace HO_6 := Aside0.mk (Kd.R_below (kr_ HO_6.out) hb); replace HO459 := Aside0.mk (Kd.R_below (kr_ HO459.out) hb); replace HB := Aside0.mk (below_step (lb0_ HB.out) hb); (try clear hb); (try clear hb2); (try clear hk); (try clear hi)))
      go_ret
      exact ⟨rr_, lb0_ HB.out⟩
     ·
      replace c21 := Bool.eq_false_iff.mpr c21
      subst c21
      have H1 : (none) = some r := by rw [if_neg (show ¬ (false = true) by decide)] at H; exact H
      clear H
      have H := H1
      clear H1
      exact absurd H (by simp)
end Go.Proofs.YtjkcfpmonpkhhaaDoor.Pr

namespace Go.Proofs.YtjkcfpmonpkhhaaDoorW.Opens
open Go.ChangeShapes Go.WideShapes Go.RowKit
open Go.Deep (open_slice choose_lt)
open Go.Proofs.YtjkcfpmonpkhhaaDoorW.PrintWords
set_option linter.unusedVariables false
set_option linter.unusedSimpArgs false
def Opn {α : Type} (P : Program) (t : TypeId) (d : Kd α) (wf : α → Prop) : Prop :=
 P.cellsOf t = d.sz ∧ ∀ (H : Type) (enc : TypeId × Value → H) (W : World) (fuel : Nat) (cs : List Value) (x : DataW H × List MemPlace),
  DataW.trod enc P W 0 (fun _ => true) true fuel t cs = some x → (∀ n ∈ x.1.weights P t, n ≤ reachBytes) → ∃ y, d.K W y cs ∧ wf y
theorem Opn.int {P : Program} {t : TypeId} {k : IntKind} (hc : P.cellsOf t = 1) (ht : P.underlying t = some (.int k)) : Opn P t (Kd.int k) (fun n => (Lit.int k n).wf = true) :=
 ⟨hc, fun H enc W fuel cs x h _ => by
  obtain ⟨m, rfl, rfl, hw⟩ := DataW.trod_int ht h
  exact ⟨m, rfl, hw⟩⟩
theorem Opn.bool {P : Program} {t : TypeId} (hc : P.cellsOf t = 1) (ht : P.underlying t = some .bool) : Opn P t Kd.bool (fun _ => True) :=
 ⟨hc, fun H enc W fuel cs x h _ => by
  obtain ⟨m, rfl, rfl⟩ := DataW.trod_bool ht h
  exact ⟨m, rfl, trivial⟩⟩
theorem Opn.string {P : Program} {t : TypeId} (hc : P.cellsOf t = 1) (ht : P.underlying t = some .string) : Opn P t Kd.string (fun s => s.size ≤ 140737488351232) :=
 ⟨hc, fun H enc W fuel cs x h hw => by
  obtain ⟨m, rfl, rfl, hm⟩ := DataW.trod_string ht h
  have := hw m.data.toList.length (by simp [DataW.weights])
  rw [Array.length_toList] at this
  exact ⟨m, rfl, this⟩⟩
theorem weightsAll_mem {H : Type} {P : Program} {e : TypeId} : ∀ {l : List (DataW H)} {d : DataW H}, d ∈ l → ∀ n ∈ d.weights P e, n ∈ DataW.weightsAll P e l
 | _ :: r, d, h, n, hn => by
  simp only [DataW.weightsAll, List.mem_append]
  rcases List.mem_cons.1 h with rfl | h
  ·
   exact .inl hn
  ·
   exact .inr (weightsAll_mem h n hn)
theorem Opn.slice {α : Type} (z : α) {P : Program} {t e : TypeId} {d : Kd α} {wf : α → Prop} {B : Nat} (hc : P.cellsOf t = 1) (ht : P.underlying t = some (.slice e)) (hB : P.bytesOf e = B) (h : Opn P e d wf) :
  Opn P t (Kd.slice e d) (fun xs => xs.length ≤ maxLen ∧ xs.length * B ≤ 140737488351232 ∧ ∀ y ∈ xs, wf y) :=
 ⟨hc, fun H enc W fuel cs x hf hw => by
  haveI : Inhabited α := ⟨z⟩
  rcases open_slice ht hf with ⟨rfl, rfl⟩ | ⟨a, len, cap, m, n, D, Pl, rfl, _, hl, hm, hmm, rfl, each⟩
  ·
   exact ⟨[], ⟨none, 0, rfl, Nat.le_refl _, rfl, by simp, fun h => absurd h (Nat.lt_irrefl 0)⟩, by simp, by simp, by simp⟩
  ·
   rw [if_pos rfl] at hmm
   subst hmm
   have hw0 : ∀ n ∈ DataW.weights P t (DataW.slice (H := H) ((List.range len).map D) ((List.range (m - len)).map fun j => D (len + j))), n ≤ reachBytes := hw
   have hww : ∀ i, i < len → ∀ n ∈ (D i).weights P e, n ≤ reachBytes := by
    intro i hi n hn
    refine hw0 n ?_
    simp only [DataW.weights, ht, List.mem_cons, List.mem_append]
    exact .inr (.inl (weightsAll_mem (List.mem_map.2 ⟨i, List.mem_range.2 hi, rfl⟩) n hn))
   have hB2 : len * B ≤ 140737488351232 := by
    have := hw0 ((len + (m - len)) * B) (by simp [DataW.weights, ht, hB])
    refine Nat.le_trans (Nat.mul_le_mul_right _ (by omega)) this
   have hx : ∀ i, i < len → ∃ y, ∃ c : List Value, c.length = d.sz ∧ d.K W y c ∧ wf y ∧ ∀ j u, c[j]? = some u → W.cell? (a.add (i * d.sz + j)) = some u := by
    intro i hi
    obtain ⟨cs', h1, h2⟩ := each i (by omega)
    obtain ⟨y, hy, hwy⟩ := h.2 H enc W n cs' _ h2 (hww i hi)
    obtain ⟨_, hlen, hcell⟩ := World.cells?_some h1
    rw [h.1] at hlen hcell
    refine ⟨y, cs', hlen, hy, hwy, fun j u hu => ?_⟩
    have hj : j < d.sz := by
     have := (List.getElem?_eq_some_iff.1 hu).1
     omega
    have := hcell j hj
    rw [add_add] at this
    exact this.trans hu
   obtain ⟨f, hf'⟩ := choose_lt hx
   refine ⟨(List.range len).map f, ⟨some a, m, by simp, by simpa using hl, by simp, by simp only [maxLen] at hm; simp; omega, fun _ => ⟨a, rfl, fun j p hj => ?_⟩⟩, ?_, ?_, ?_⟩
   ·
    rw [List.getElem?_map] at hj
    have hj' : j < len := by
     by_cases hjl : j < len
     ·
      exact hjl
     ·
      rw [List.getElem?_eq_none (by simp; omega)] at hj
      cases hj
    rw [List.getElem?_range hj'] at hj
    obtain rfl := Option.some.inj hj
    obtain ⟨c, h1, h2, _, h3⟩ := hf' j hj'
    exact ⟨c, h1, h2, h3⟩
   ·
    simp; omega
   ·
    simpa using hB2
   ·
    intro y hy
    obtain ⟨i, hi, rfl⟩ := List.mem_map.1 hy
    obtain ⟨c, _, _, h2, _⟩ := hf' i (List.mem_range.1 hi)
    exact h2⟩
def FOpn {α : Type} (P : Program) (fs : List Field) (off : Nat) (d : Kd α) (wf : α → Prop) : Prop :=
 ∀ (H : Type) (enc : TypeId × Value → H) (W : World) (fuel : Nat) (cs : List Value) (xs : List (DataW H × List MemPlace)),
  xs.length = fs.length → (∀ (i : Nat) (f : Field), fs[i]? = some f → DataW.trod enc P W 0 (fun _ => true) true fuel f.type ((cs.drop f.offset).take (P.cellsOf f.type)) = xs[i]?) →
  (∀ n ∈ DataW.weightsEach P (fs.map (·.type)) (xs.map (·.1)), n ≤ reachBytes) → ∃ y, d.K W y ((cs.drop off).take d.sz) ∧ wf y
theorem FOpn.one {α : Type} {P : Program} {f : Field} {off : Nat} {d : Kd α} {wf : α → Prop} (ho : f.offset = off) (h : Opn P f.type d wf) : FOpn P [f] off d wf := by
 intro H enc W fuel cs xs hl hx hw
 match xs, hl with
 | [x], _ =>
  have h0 := hx 0 f rfl
  rw [ho, h.1] at h0
  exact h.2 H enc W fuel _ x h0 (fun n hn => hw n (by simp only [List.map, DataW.weightsEach, List.mem_append]; exact .inl hn))
theorem FOpn.cons {α β : Type} {P : Program} {f : Field} {fs : List Field} {off : Nat} {d : Kd α} {d' : Kd β} {wf : α → Prop} {wf' : β → Prop} (ho : f.offset = off) (h : Opn P f.type d wf) (h' : FOpn P fs (off + d.sz) d' wf') :
  FOpn P (f :: fs) off (Kd.pair d d') (fun x => wf x.1 ∧ wf' x.2) := by
 intro H enc W fuel cs xs hl hx hw
 match xs, hl with
 | x :: xs, hl =>
  have h0 := hx 0 f rfl
  rw [ho, h.1] at h0
  have hw' : ∀ n ∈ x.1.weights P f.type ++ DataW.weightsEach P (fs.map (·.type)) (xs.map (·.1)), n ≤ reachBytes := hw
  obtain ⟨y, hy, hwy⟩ := h.2 H enc W fuel _ x h0 (fun n hn => hw' n (List.mem_append_left _ hn))
  obtain ⟨y', hy', hwy'⟩ := h' H enc W fuel cs xs (by simpa using hl) (fun i f' hf' => hx (i + 1) f' (by simpa using hf')) (fun n hn => hw' n (List.mem_append_right _ hn))
  refine ⟨(y, y'), ⟨_, _, ?_, hy, hy'⟩, hwy, hwy'⟩
  show (cs.drop off).take (d.sz + d'.sz) = _
  rw [List.take_add, List.drop_drop]
theorem Opn.struct {α β : Type} {P : Program} {t : TypeId} {fs : Array Field} {d : Kd α} {wf : α → Prop} (f : β → α) (g : α → β) (hfg : ∀ x, f (g x) = x) (hc : P.cellsOf t = d.sz) (ht : P.underlying t = some (.struct fs)) (h : FOpn P fs.toList 0 d wf) :
  Opn P t (Kd.iso d f) (fun x => wf (f x)) :=
 ⟨hc, fun H enc W fuel cs x hf hw => by
  obtain ⟨xs, n, rfl, rfl, hl, hxs, each⟩ := DataW.trod_struct ht hf
  obtain ⟨y, hy, hwy⟩ := h H enc W n cs xs (by simpa using hxs) (fun i f' hf' => each i f' (by simpa using hf')) (fun n hn => hw n (by simp only [DataW.weights, ht]; exact hn))
  rw [List.drop_zero, List.take_of_length_le (by rw [hl, hc]; exact Nat.le_refl _)] at hy
  exact ⟨g y, (by rw [← hfg y] at hy; exact hy), (by rw [← hfg y] at hwy; exact hwy)⟩⟩
theorem par_weights {H : Type} {P : Program} {ts : List TypeId} {ds : List (DataW H)} {j : Nat} {t : TypeId} {d : DataW H} (h : (DataW.weightsEach P ts ds).all (· ≤ reachBytes) = true) (ht : ts[j]? = some t) (hd : ds[j]? = some d) :
  ∀ n ∈ d.weights P t, n ≤ reachBytes := fun n hn => of_decide_eq_true (List.all_eq_true.1 h n (DataW.weights_mem_each ht hd n hn))
theorem par_slice {α : Type} {H : Type} {enc : TypeId × Value → H} {P : Program} {W : World} {r : Reach} {b0 : Nat} {t e : TypeId} {d : Kd α} {wf : List α → Prop} {v : Value} {D : DataW H} {ps : List MemPlace}
  (ht : P.underlying t = some (.slice e)) (ho : Opn P t (Kd.slice e d) wf) (hv : Value.okWide P W r b0 t v) (hd : DataW.Trod enc P W 0 (fun _ => true) true t v D ps) (hw : ∀ n ∈ D.weights P t, n ≤ reachBytes) :
  ∃ (A : Option Addr) (l : List α) (c : Nat), v = .slice A l.length c ∧ l.length ≤ c ∧ d.C W A l.length l ∧ wf l := by
 obtain ⟨A, len, cap, rfl⟩ := okWide_slice ht hv
 obtain ⟨fuel, hf⟩ := hd
 obtain ⟨l, ⟨A', c, he, hl, hC⟩, hwl⟩ := ho.2 H enc W fuel _ _ hf hw
 have he' : [Value.slice A len cap] = [.slice A' l.length c] := he
 simp only [List.cons.injEq, Value.slice.injEq, and_true] at he'
 obtain ⟨rfl, rfl, rfl⟩ := he'
 exact ⟨_, l, _, rfl, hl, hC, hwl⟩
end Go.Proofs.YtjkcfpmonpkhhaaDoorW.Opens

namespace Go.Proofs.YtjkcfpmonpkhhaaDoor.Pr
open Go.RowKit Go.Proofs.YtjkcfpmonpkhhaaDoorW.PrintWords Go.Proofs.YtjkcfpmonpkhhaaDoorW.PrintLast Go.Proofs.YtjkcfpmonpkhhaaDoorW.Opens
set_option linter.unusedVariables false
def wf23 (x : S23) : Prop := x.f0.size ≤ 140737488351232 ∧ (Lit.int .i64 x.f1).wf = true ∧ (Lit.int .i64 x.f2).wf = true
theorem opn23 : Opn Tryd.prog 23 k23 wf23 := Opn.struct (fun x : S23 => (x.f0, x.f1, x.f2)) (fun p => ⟨p.1, p.2.1, p.2.2⟩) (fun _ => rfl) (by kernel_rfl) Tryd.underlying23 (FOpn.cons rfl (Opn.string (by kernel_rfl) Tryd.underlying9) (FOpn.cons rfl (Opn.int (by kernel_rfl) Tryd.underlying3) (FOpn.one rfl (Opn.int (by kernel_rfl) Tryd.underlying3))))
def wfL23 (l : List S23) : Prop := l.length ≤ maxLen ∧ l.length * 32 ≤ 140737488351232 ∧ ∀ y ∈ l, wf23 y
theorem opnL33 : Opn Tryd.prog 33 (Kd.slice 23 k23) wfL23 := Opn.slice z23 (by kernel_rfl) Tryd.underlying33 (by kernel_rfl) opn23
def FnExactCountPlacings.Pure : Prop := ∀ (x0 : (List S23)), wfL23 x0 → ∃ k, laws_FnExactCountPlacings.f k x0 = some true
end Go.Proofs.YtjkcfpmonpkhhaaDoor.Pr

namespace Go.Proofs.YtjkcfpmonpkhhaaDoor.Pr
open Go.RowKit Go.Proofs.YtjkcfpmonpkhhaaDoorW.PrintWords Go.Proofs.YtjkcfpmonpkhhaaDoorW.PrintLast Go.Proofs.YtjkcfpmonpkhhaaDoorW.PrintMore
attribute [local go_sem] max2_int min2_int max_two min_two max_three min_three max_four min_four   -- for this text's walks alone
set_option linter.unusedVariables false
set_option linter.unusedSimpArgs false
def sc (a b : ByteArray) : ByteArray := a ++ b
theorem sc_in (a b : ByteArray) : a ++ b = sc a b := rfl
def sx (a : ByteArray) (i j : Nat) : ByteArray := a.extract i j
theorem sx_in (a : ByteArray) (i j : Nat) : a.extract i j = sx a i j := rfl
end Go.Proofs.YtjkcfpmonpkhhaaDoor.Pr

namespace Go.Proofs.YtjkcfpmonpkhhaaDoor.Pr.Pure
open Go.RowKit Go.Proofs.YtjkcfpmonpkhhaaDoorW.PrintWords Go.Proofs.YtjkcfpmonpkhhaaDoorW.PrintLast Go.Proofs.YtjkcfpmonpkhhaaDoorW.PrintMore  Go.Lib
set_option linter.unusedVariables false
set_option linter.unusedSimpArgs false
theorem w64 {x : Int} (h1 : -9223372036854775808 ≤ x) (h2 : x ≤ 9223372036854775807) : wrap64 x = x := by
 unfold wrap64
 omega
theorem set_map_step {α β : Type} (f : α → β) (l : List α) (z : β) (i : Nat) (hi : i < l.length) (a : α) (ha : l[i]? = some a) :
  ((l.take i).map f ++ List.replicate (l.length - i) z).set i (f a) = (l.take (i + 1)).map f ++ List.replicate (l.length - (i + 1)) z := by
 have h1 : ((l.take i).map f).length = i := by simp; omega
 rw [List.set_append_right _ _ (by omega), h1, Nat.sub_self]
 obtain ⟨m, hm⟩ : ∃ m, l.length - i = m + 1 := ⟨l.length - i - 1, by omega⟩
 rw [hm, show l.length - (i + 1) = m by omega, List.replicate_succ, List.set_cons_zero, List.take_add_one, ha]
 simp
theorem getD_some {α : Type} (l : List α) (z : α) (i : Nat) (h : i < l.length) : l[i]? = some (l.getD i z) := by
 rw [List.getD_eq_getElem?_getD, List.getElem?_eq_getElem h]
 rfl
theorem obs {α β : Type} (a : α) (f : α → Option β) : (some a).bind f = f a := id (Option.bind_some a f)
def M (l : List UInt8) : ByteArray := ⟨l.toArray⟩
theorem ex_M (b : ByteArray) : ∃ l, b = M l := ⟨b.data.toList, by unfold M; rw [Array.toArray_toList]⟩
theorem M_size (l : List UInt8) : (M l).size = l.length := by simp [M, ByteArray.size]
theorem M_data (l : List UInt8) : (M l).data.toList = l := by simp [M]
theorem M_toList (l : List UInt8) : (M l).toList = l := by rw [ByteArray.toList_eq, M_data]
theorem bt_M (l : List UInt8) (i : Nat) : bt (M l) (i : Int) = ((l.getD i 0).toNat : Int) := by
 have hb := rd_bytesOf (M l) (i : Int)
 rw [← hb]
 unfold rd bytesOf
 rw [M_data, Int.toNat_natCast, List.getD_eq_getElem?_getD, List.getD_eq_getElem?_getD, List.getElem?_map]
 cases l[i]? <;> rfl
theorem drop_at (l : List UInt8) (i : Nat) (h : i < l.length) : l.drop i = l.getD i 0 :: l.drop (i + 1) := by
 rw [List.drop_eq_getElem_cons h, List.getD_eq_getElem?_getD, List.getElem?_eq_getElem h]
 rfl
theorem l1In_eq (a b c : Int) : spec_l1In.f a b c = some (decide (b ≤ a ∧ a ≤ c)) := by
 unfold spec_l1In.f
 by_cases h : b ≤ a
 ·
  rw [if_pos h]; simp [h]
 ·
  rw [if_neg (by omega)]; simp [h]
theorem within_eq (a b c : Int) : impl_within.f a b c = some (decide (b ≤ a ∧ a ≤ c)) := by
 unfold impl_within.f
 by_cases h : b ≤ a
 ·
  rw [if_pos h]; simp [h]
 ·
  rw [if_neg (by omega)]; simp [h]
end Go.Proofs.YtjkcfpmonpkhhaaDoor.Pr.Pure

namespace Go.Proofs.YtjkcfpmonpkhhaaDoor.Pr.Pure
open Go.RowKit Go.Proofs.YtjkcfpmonpkhhaaDoorW.PrintWords Go.Proofs.YtjkcfpmonpkhhaaDoorW.PrintLast Go.Proofs.YtjkcfpmonpkhhaaDoorW.PrintMore Go.Lib
set_option linter.unusedVariables false
set_option linter.unusedSimpArgs false
def small (x : UInt8) : Bool := decide (97 ≤ x.toNat) && decide (x.toNat ≤ 122)
def isW (l : List UInt8) : Bool := decide (1 ≤ l.length) && decide (l.length ≤ 10) && l.all small
theorem word_l0 (l : List UInt8) (hl : l.length ≤ 4611686018427387904) (d : Nat) : ∀ (k i : Nat), i + d = l.length → d < k → spec_l2Word.l0 k (M l) i = some (decide (1 ≤ l.length) && decide (l.length ≤ 10) && (l.drop i).all small) := by
 induction d with
 | zero =>
  intro k i hd hk
  obtain ⟨k, rfl⟩ : ∃ m, k = m + 1 := ⟨k - 1, by omega⟩
  simp only [spec_l2Word.l0]
  rw [M_size, if_neg (by omega), List.drop_of_length_le (by omega), l1In_eq, obs]
  simp only [List.all_nil, Bool.and_true]
  congr 1
  rw [Bool.eq_iff_iff]
  simp
  omega
 | succ d ih =>
  intro k i hd hk
  obtain ⟨k, rfl⟩ : ∃ m, k = m + 1 := ⟨k - 1, by omega⟩
  simp only [spec_l2Word.l0]
  rw [M_size, if_pos (by omega), if_pos (by omega), bt_M, drop_at l i (by omega)]
  generalize l.getD i 0 = x
  rw [w64 (by omega) (by omega)]
  have ih' := ih k (i + 1) (by omega) (by omega)
  rw [show ((i + 1 : Nat) : Int) = (i : Int) + 1 by omega] at ih'
  rw [List.all_cons]
  by_cases h1 : (x.toNat : Int) < 97
  ·
   have : small x = false := by
    unfold small
    have : ¬ 97 ≤ x.toNat := by omega
    simp [this]
   rw [if_pos h1, this]
   simp
  ·
   rw [if_neg h1]
   by_cases h2 : (x.toNat : Int) > 122
   ·
    have : small x = false := by
     unfold small
     have : ¬ x.toNat ≤ 122 := by omega
     simp [this]
    rw [if_pos h2, this]
    simp
   ·
    have : small x = true := by
     unfold small
     have a : 97 ≤ x.toNat := by omega
     have b : x.toNat ≤ 122 := by omega
     simp [a, b]
    rw [if_neg h2, ih', this, Bool.true_and]
theorem word_spec (l : List UInt8) (hl : l.length ≤ 4611686018427387904) {k : Nat} (hk : l.length < k) : spec_l2Word.f k (M l) = some (isW l) := by
 unfold spec_l2Word.f isW
 simpa using word_l0 l hl l.length k 0 (by omega) hk
def letters : List UInt8 := [97, 98, 99, 100, 101, 102, 103, 104, 105, 106, 107, 108, 109, 110, 111, 112, 113, 114, 115, 116, 117, 118, 119, 120, 121, 122]
set_option maxRecDepth 100000 in
theorem letters_small (x : UInt8) : letters.contains x = small x := by
 have : ∀ n : Nat, n < 256 → letters.contains (UInt8.ofNat n) = small (UInt8.ofNat n) := by decide
 have h := this x.toNat x.toNat_lt
 rwa [show UInt8.ofNat x.toNat = x from UInt8.ofNat_toNat] at h
theorem drop_all {p : UInt8 → Bool} : ∀ l : List UInt8, l.dropWhile p = [] ↔ l.all p = true
 | [] => by simp
 | x :: l => by
  by_cases h : p x = true
  ·
   rw [List.dropWhile_cons_of_pos h, drop_all l]
   simp [h]
  ·
   rw [List.dropWhile_cons_of_neg h]
   simp [h]
theorem trim_nil (l : List UInt8) : trimS l letters = [] ↔ l.all small = true := by
 have hp : (fun x => letters.contains x) = small := funext letters_small
 unfold trimS trimLeftS trimRightS
 rw [hp, drop_all]
 constructor
 ·
  intro h
  rw [List.all_reverse] at h
  have h2 : (l.reverse.dropWhile small).all small = true := h
  have h3 : l.reverse.all small = true := by
   rw [← drop_all]
   have h4 := (drop_all _).2 h2
   have : ∀ m : List UInt8, (m.dropWhile small).dropWhile small = m.dropWhile small := by
    intro m
    induction m with
    | nil => rfl
    | cons x m ih =>
     by_cases h : small x = true
     ·
      rw [List.dropWhile_cons_of_pos h, ih]
     ·
      rw [List.dropWhile_cons_of_neg h, List.dropWhile_cons_of_neg h]
   rw [this] at h4
   exact h4
  rwa [List.all_reverse] at h3
 ·
  intro h
  have h3 : l.reverse.all small = true := by rwa [List.all_reverse]
  rw [(drop_all _).2 h3]
  rfl
theorem word_impl (l : List UInt8) (hl : l.length ≤ 4611686018427387904) : impl_isWord.f (M l) = some (isW l) := by
 unfold impl_isWord.f isW
 rw [M_size]
 by_cases h1 : (l.length : Int) ≥ 1
 ·
  rw [if_pos h1]
  by_cases h2 : (l.length : Int) ≤ 10
  ·
   have ht : strings_Trim.f (M l) (M letters) = some (M (trimS l letters)) := by
    unfold strings_Trim.f
    rw [M_size, M_size, M_data, M_data, if_pos (by omega), if_pos (by decide), if_pos (by decide)]
    rfl
   rw [if_pos h2, show (⟨#[97, 98, 99, 100, 101, 102, 103, 104, 105, 106, 107, 108, 109, 110, 111, 112, 113, 114, 115, 116, 117, 118, 119, 120, 121, 122]⟩ : ByteArray) = M letters from rfl, ht, obs, M_toList]
   congr 1
   rw [Bool.eq_iff_iff]
   have a : 1 ≤ l.length := by omega
   have b : l.length ≤ 10 := by omega
   simp only [a, b, decide_true, Bool.true_and, beq_iff_eq]
   exact trim_nil l
  ·
   rw [if_neg h2]
   have b : ¬ l.length ≤ 10 := by omega
   simp [b]
 ·
  rw [if_neg h1]
  have b : ¬ 1 ≤ l.length := by omega
  simp only [b, decide_false, Bool.false_and]
def cvLabel (x : S23) : S29 := ⟨x.f0, x.f1, x.f2⟩
theorem toLabelS_l0 (l : List S23) (hl : l.length ≤ 4611686018427387904) (d : Nat) : ∀ (k i : Nat), i + d = l.length → d < k →
  laws_toLabelS.l0 k l ((l.take i).map cvLabel ++ List.replicate (l.length - i) z29) i = some (l.map cvLabel) := by
 induction d with
 | zero =>
  intro k i hd hk
  obtain ⟨k, rfl⟩ : ∃ m, k = m + 1 := ⟨k - 1, by omega⟩
  simp only [laws_toLabelS.l0]
  rw [if_neg (by omega), List.take_of_length_le (by omega), show l.length - i = 0 by omega]
  simp
 | succ d ih =>
  intro k i hd hk
  obtain ⟨k, rfl⟩ : ∃ m, k = m + 1 := ⟨k - 1, by omega⟩
  simp only [laws_toLabelS.l0, laws_toLabel.f, Option.bind_some]
  rw [if_pos (by omega), if_pos (by omega), if_pos (by simp; omega), w64 (by omega) (by omega)]
  have ha : l[i]? = some (rd_T23 l i) := getD_some l z23 i (by omega)
  rw [Int.toNat_natCast]
  have := set_map_step cvLabel l z29 i (by omega) _ ha
  rw [show (⟨(rd_T23 l i).f0, (rd_T23 l i).f1, (rd_T23 l i).f2⟩ : S29) = cvLabel (rd_T23 l i) from rfl, this]
  exact ih k (i + 1) (by omega) (by omega)
theorem toLabelS_eq {l : List S23} (hl : l.length * 32 ≤ 140737488351232) {k : Nat} (hk : l.length < k) : laws_toLabelS.f k l = some (l.map cvLabel) := by
 unfold laws_toLabelS.f
 rw [if_pos (by omega), if_pos (by omega), Int.toNat_natCast]
 have := toLabelS_l0 l (by omega) l.length k 0 (by omega) hk
 simpa using this
theorem eqLabelS_self (l : List S29) (hl : l.length ≤ 4611686018427387904) (d : Nat) : ∀ (k : Nat) (i : Int), 0 ≤ i → i + d = l.length → d < k → laws_eqLabelS.l0 k l l i = some true := by
 induction d with
 | zero =>
  intro k i h0 hd hk
  obtain ⟨k, rfl⟩ : ∃ m, k = m + 1 := ⟨k - 1, by omega⟩
  simp only [laws_eqLabelS.l0]
  rw [if_neg (by omega)]
 | succ d ih =>
  intro k i h0 hd hk
  obtain ⟨k, rfl⟩ : ∃ m, k = m + 1 := ⟨k - 1, by omega⟩
  simp only [laws_eqLabelS.l0, laws_eqLabel.f, if_true, Option.bind_some]
  rw [if_pos (by omega), if_pos (by omega), if_pos (by omega), w64 (by omega) (by omega)]
  exact ih k (i + 1) (by omega) (by omega) (by omega)
theorem eqLabelS_eq {l : List S29} (hl : l.length ≤ 4611686018427387904) {k : Nat} (hk : l.length < k) : laws_eqLabelS.f k l l = some true := by
 unfold laws_eqLabelS.f
 rw [if_pos rfl]
 exact eqLabelS_self l hl l.length k 0 (by omega) (by omega) hk
theorem szLabelS_l0 (l : List S23) (hs : ∀ x, x ∈ l → x.f0.size ≤ 140737488351232) (hl : l.length ≤ 4611686018427387904) (d : Nat) : ∀ (k i : Nat) (a : Int), i + d = l.length → d < k → 0 ≤ a → a ≤ 1048576 →
  ∃ t, laws_szLabelS.l0 k l a i = some t ∧ (0 ≤ t → ∀ j : Nat, i ≤ j → j < l.length → (rd_T23 l j).f0.size ≤ 1048576) := by
 induction d with
 | zero =>
  intro k i a hd hk h0 h1
  obtain ⟨k, rfl⟩ : ∃ m, k = m + 1 := ⟨k - 1, by omega⟩
  simp only [laws_szLabelS.l0]
  rw [if_neg (by omega)]
  exact ⟨a, rfl, fun _ j hj hjl => by omega⟩
 | succ d ih =>
  intro k i a hd hk h0 h1
  obtain ⟨k, rfl⟩ : ∃ m, k = m + 1 := ⟨k - 1, by omega⟩
  simp only [laws_szLabelS.l0]
  rw [if_pos (by omega), if_pos (by omega)]
  have hm : rd_T23 l i ∈ l := by
   show l.getD (i : Int).toNat _ ∈ l
   rw [Int.toNat_natCast, List.getD_eq_getElem?_getD, List.getElem?_eq_getElem (by omega)]
   exact List.getElem_mem _
  have hz := hs _ hm
  have hz' : ∀ j : Nat, j = i → (rd_T23 l i).f0.size ≤ 1048576 → (rd_T23 l j).f0.size ≤ 1048576 := fun j e h => by rw [e]; exact h
  generalize rd_T23 l i = y at hz hz' ⊢
  unfold laws_szLabel.f
  rw [w64 (x := a - (y.f0.size : Int)) (by omega) (by omega)]
  by_cases c : a - (y.f0.size : Int) < 0
  ·
   rw [if_pos c, Option.bind_some, if_pos (by decide)]
   exact ⟨_, rfl, fun h => absurd h (by decide)⟩
  ·
   rw [if_neg c, Option.bind_some, if_neg c, w64 (x := (i : Int) + 1) (by omega) (by omega)]
   obtain ⟨t, e, h⟩ := ih k (i + 1) (a - (y.f0.size : Int)) (by omega) (by omega) (by omega) (by omega)
   refine ⟨t, e, fun ht j hj hjl => ?_⟩
   by_cases hji : j = i
   ·
    exact hz' j hji (by omega)
   ·
    exact h ht j (by omega) hjl
theorem szLabelS_eq {l : List S23} (hs : ∀ x, x ∈ l → x.f0.size ≤ 140737488351232) (hl : l.length ≤ 4611686018427387904) {k : Nat} (hk : l.length < k) :
  ∃ t, laws_szLabelS.f k l 1048576 = some t ∧ (0 ≤ t → l.length ≤ 1048576 ∧ ∀ x, x ∈ l → x.f0.size ≤ 1048576) := by
 unfold laws_szLabelS.f
 rw [w64 (by omega) (by omega)]
 by_cases c : (1048576 : Int) - (l.length : Int) < 0
 ·
  rw [if_pos c]
  exact ⟨_, rfl, fun h => absurd h (by decide)⟩
 ·
  rw [if_neg c]
  obtain ⟨t, e, h⟩ := szLabelS_l0 l hs hl l.length k 0 (1048576 - (l.length : Int)) (by omega) hk (by omega) (by omega)
  refine ⟨t, e, fun ht => ⟨by omega, fun x hx => ?_⟩⟩
  obtain ⟨j, hj, rfl⟩ := List.mem_iff_getElem.1 hx
  have := h ht j (by omega) hj
  rw [show rd_T23 l (j : Int) = l.getD (j : Int).toNat _ from rfl, Int.toNat_natCast, List.getD_eq_getElem?_getD, List.getElem?_eq_getElem hj] at this
  exact this
def lab (l : List UInt8) (x y : Int) : Bool := isW l && decide (0 ≤ x ∧ x ≤ 99) && decide (0 ≤ y ∧ y ≤ 99)
def labB (x : S29) : Bool := lab x.f0.data.toList x.f1 x.f2
theorem lab_spec (l : List UInt8) (hl : l.length ≤ 4611686018427387904) (x y : Int) {k : Nat} (hk : l.length < k) : spec_l24One.f k (M l) x y = some (lab l x y) := by
 unfold spec_l24One.f lab
 rw [word_spec l hl hk, obs]
 cases isW l with
 | false => rfl
 | true =>
  rw [if_pos rfl, l1In_eq, obs]
  cases decide (0 ≤ x ∧ x ≤ 99) with
  | false => rfl
  | true =>
   rw [if_pos rfl, l1In_eq, obs]
   rfl
theorem lab_impl (l : List UInt8) (hl : l.length ≤ 4611686018427387904) (x y : Int) : impl_isLabel.f (M l) x y = some (lab l x y) := by
 unfold impl_isLabel.f lab
 rw [word_impl l hl, obs]
 cases isW l with
 | false => rfl
 | true =>
  rw [if_pos rfl, within_eq, obs]
  cases decide (0 ≤ x ∧ x ≤ 99) with
  | false => rfl
  | true =>
   rw [if_pos rfl, within_eq, obs]
   rfl
theorem labB_spec (x : S29) (hx : x.f0.size ≤ 1048576) {k : Nat} (hk : 1048576 < k) : spec_l24One.f k x.f0 x.f1 x.f2 = some (labB x) := by
 obtain ⟨l, hl⟩ := ex_M x.f0
 unfold labB
 rw [hl] at hx ⊢
 rw [M_size] at hx
 rw [M_data]
 exact lab_spec l (by omega) _ _ (by omega)
theorem labB_impl (x : S29) (hx : x.f0.size ≤ 1048576) : impl_isLabel.f x.f0 x.f1 x.f2 = some (labB x) := by
 obtain ⟨l, hl⟩ := ex_M x.f0
 unfold labB
 rw [hl] at hx ⊢
 rw [M_size] at hx
 rw [M_data]
 exact lab_impl l (by omega) _ _
theorem rdLab_drop (l : List S29) (i : Nat) (h : i < l.length) : l.drop i = rd_T29 l (i : Int) :: l.drop (i + 1) := by
 rw [List.drop_eq_getElem_cons h, show rd_T29 l (i : Int) = l.getD (i : Int).toNat _ from rfl, Int.toNat_natCast, List.getD_eq_getElem?_getD, List.getElem?_eq_getElem h]
 rfl
theorem good_l0 (l : List S29) (hs : ∀ x, x ∈ l → x.f0.size ≤ 1048576) (hl : l.length ≤ 4611686018427387904) (d : Nat) : ∀ (k i : Nat), i + d = l.length → 1048577 + d < k →
  spec_l24Good.l0 k l i = some ((l.drop i).all labB && decide (l.length ≤ 6)) := by
 induction d with
 | zero =>
  intro k i hd hk
  obtain ⟨k, rfl⟩ : ∃ m, k = m + 1 := ⟨k - 1, by omega⟩
  simp only [spec_l24Good.l0]
  rw [if_neg (by omega), List.drop_of_length_le (by omega), List.all_nil, Bool.true_and]
  congr 1
  rw [Bool.eq_iff_iff, decide_eq_true_eq, decide_eq_true_eq]
  omega
 | succ d ih =>
  intro k i hd hk
  obtain ⟨k, rfl⟩ : ∃ m, k = m + 1 := ⟨k - 1, by omega⟩
  simp only [spec_l24Good.l0]
  have hm : rd_T29 l i ∈ l := by
   show l.getD (i : Int).toNat _ ∈ l
   rw [Int.toNat_natCast, List.getD_eq_getElem?_getD, List.getElem?_eq_getElem (by omega)]
   exact List.getElem_mem _
  rw [if_pos (by omega), if_pos (by omega), labB_spec _ (hs _ hm) (by omega), obs, rdLab_drop l i (by omega), List.all_cons]
  cases labB (rd_T29 l i) with
  | false =>
   rw [if_neg Bool.false_ne_true]
   rfl
  | true =>
   rw [if_pos rfl, w64 (by omega) (by omega), Bool.true_and]
   exact ih k (i + 1) (by omega) (by omega)
def labs (l : List S29) : Bool := l.all labB && decide (l.length ≤ 6)
theorem good_eq {l : List S29} (hs : ∀ x, x ∈ l → x.f0.size ≤ 1048576) (hl : l.length ≤ 1048576) {k : Nat} (hk : 1048577 + l.length < k) : spec_l24Good.f k l = some (labs l) := by
 unfold spec_l24Good.f labs
 have := good_l0 l hs (by omega) l.length k 0 (by omega) hk
 simpa using this
theorem are_eq {l : List S29} (hs : ∀ x, x ∈ l → x.f0.size ≤ 1048576) : impl_AreLabels.f l = some (labs l) := by
 unfold impl_AreLabels.f labs
 have hx : ∀ x, x ∈ l → impl_isLabel.f x.f0 x.f1 x.f2 = some (labB x) := fun x h => labB_impl x (hs x h)
 by_cases c : (l.length : Int) ≤ 6
 ·
  rw [if_pos c, if_pos (List.all_eq_true.2 fun x h => by rw [hx x h]; rfl), decide_eq_true (show l.length ≤ 6 by omega), Bool.and_true]
  congr 1
  cases h : l.all labB with
  | false =>
   obtain ⟨x, h1, h2⟩ := List.all_eq_false.1 h
   rw [List.any_eq_true.2 ⟨x, h1, by rw [hx x h1]; simpa using h2⟩]
   rfl
  | true =>
   have : (l.any fun x => !(impl_isLabel.f x.f0 x.f1 x.f2).getD false) = false := List.any_eq_false.2 fun x h1 => by
    rw [hx x h1]
    simpa using List.all_eq_true.1 h x h1
   rw [this]
   rfl
 ·
  rw [if_neg c, decide_eq_false (show ¬ l.length ≤ 6 by omega), Bool.and_false]
def meetB (a b c d e f g h : Int) : Bool := (impl_meet.f a b c d e f g h).getD false
theorem meet_eq (a b c d e f g h : Int) : impl_meet.f a b c d e f g h = some (meetB a b c d e f g h) := by
 have : ∃ r, impl_meet.f a b c d e f g h = some r := by
  unfold impl_meet.f
  repeat' split
  all_goals exact ⟨_, rfl⟩
 obtain ⟨r, hr⟩ := this
 unfold meetB
 rw [hr]
 rfl
theorem meet_eq' (a b c d e f g h : Int) : spec_l24Meet.f a b c d e f g h = some (meetB a b c d e f g h) := meet_eq a b c d e f g h
def onB (b0 b1 b2 b3 : Int) : Bool := if b0 ≥ 0 then (if b1 ≥ 0 then (if wrap64 (b0 + b2) ≤ 100 then decide (wrap64 (b1 + b3) ≤ 100) else false) else false) else false
def fitB (l : List S29) (b0 b1 b2 b3 : Int) : Bool := !(l.any fun x => meetB b0 b1 b2 b3 x.f1 x.f2 1 1) && onB b0 b1 b2 b3
theorem free_l0 (l : List S29) (hl : l.length ≤ 1048576) (b0 b1 b2 b3 : Int) (d : Nat) : ∀ (k i : Nat), i + d = l.length → d < k →
  spec_l24Free.l0 k l i b0 b1 b2 b3 = some (!((l.drop i).any fun x => meetB b0 b1 b2 b3 x.f1 x.f2 1 1) && onB b0 b1 b2 b3) := by
 induction d with
 | zero =>
  intro k i hd hk
  obtain ⟨k, rfl⟩ : ∃ m, k = m + 1 := ⟨k - 1, by omega⟩
  simp only [spec_l24Free.l0]
  rw [if_neg (by omega), List.drop_of_length_le (by omega), List.any_nil, Bool.not_false, Bool.true_and]
  unfold onB
  repeat' split
  all_goals first | rfl | contradiction
 | succ d ih =>
  intro k i hd hk
  obtain ⟨k, rfl⟩ : ∃ m, k = m + 1 := ⟨k - 1, by omega⟩
  simp only [spec_l24Free.l0]
  rw [if_pos (by omega), if_pos (by omega), meet_eq', obs, rdLab_drop l i (by omega), List.any_cons]
  cases meetB b0 b1 b2 b3 (rd_T29 l i).f1 (rd_T29 l i).f2 1 1 with
  | true => rfl
  | false =>
   rw [if_neg Bool.false_ne_true, w64 (by omega) (by omega), Bool.false_or]
   exact ih k (i + 1) (by omega) (by omega)
theorem free_spec (l : List S29) (hl : l.length ≤ 1048576) (b0 b1 b2 b3 : Int) {k : Nat} (hk : l.length < k) : spec_l24Free.f k l b0 b1 b2 b3 = some (fitB l b0 b1 b2 b3) := by
 unfold spec_l24Free.f fitB
 have := free_l0 l hl b0 b1 b2 b3 l.length k 0 (by omega) hk
 simpa using this
theorem free_impl (l : List S29) (b0 b1 b2 b3 : Int) : impl_free.f l b0 b1 b2 b3 = some (fitB l b0 b1 b2 b3) := by
 unfold impl_free.f fitB onB
 by_cases c0 : b0 < 0
 ·
  rw [if_pos c0, if_neg (show ¬ b0 ≥ 0 by omega), Bool.and_false]
 ·
  rw [if_neg c0, if_pos (show b0 ≥ 0 by omega)]
  by_cases c1 : b1 < 0
  ·
   rw [if_pos c1, if_neg (show ¬ b1 ≥ 0 by omega), Bool.and_false]
  ·
   rw [if_neg c1, if_pos (show b1 ≥ 0 by omega)]
   by_cases c2 : 100 < wrap64 (b0 + b2)
   ·
    rw [if_pos c2, if_neg (show ¬ wrap64 (b0 + b2) ≤ 100 by omega), Bool.and_false]
   ·
    rw [if_neg c2, if_pos (show wrap64 (b0 + b2) ≤ 100 by omega)]
    by_cases c3 : 100 < wrap64 (b1 + b3)
    ·
     rw [if_pos c3, decide_eq_false (show ¬ wrap64 (b1 + b3) ≤ 100 by omega), Bool.and_false]
    ·
     rw [if_neg c3, if_pos (List.all_eq_true.2 fun x _ => by rw [meet_eq]; rfl), decide_eq_true (show wrap64 (b1 + b3) ≤ 100 by omega), Bool.and_true]
     rfl
def boxT (x : S29) (w : Int) : Int × Int × Int × Int :=
 ((if w ≥ 2 then wrap64 (x.f1 - (x.f0.size : Int)) else wrap64 (x.f1 + 1)), (if Int.tmod w 2 = 1 then wrap64 (x.f2 - 2) else wrap64 (x.f2 + 1)), (x.f0.size : Int), 2)
theorem box_spec (x : S29) (w : Int) : spec_l24Box.f x.f0 x.f1 x.f2 w = some (boxT x w) := rfl
theorem box_impl (x : S29) (w : Int) : impl_boxFor.f x.f0 x.f1 x.f2 w = some (boxT x w) := rfl
end Go.Proofs.YtjkcfpmonpkhhaaDoor.Pr.Pure

namespace Go.Proofs.YtjkcfpmonpkhhaaDoor.Pr.Pure
open Go.RowKit Go.Proofs.YtjkcfpmonpkhhaaDoorW.PrintWords Go.Proofs.YtjkcfpmonpkhhaaDoorW.PrintLast Go.Proofs.YtjkcfpmonpkhhaaDoorW.PrintMore Go.Lib
set_option linter.unusedVariables false
abbrev BxT := Int × Int × Int × Int
def bxT (l : List S29) (i : Nat) (w : Int) : BxT := boxT (rd_T29 l (i : Int)) w
def bST (b : BxT) : S26 := ⟨b.1, b.2.1, b.2.2.1, b.2.2.2⟩
def mtT (b c : BxT) : Bool := meetB b.1 b.2.1 b.2.2.1 b.2.2.2 c.1 c.2.1 c.2.2.1 c.2.2.2
def fitT (l : List S29) (b : BxT) : Bool := fitB l b.1 b.2.1 b.2.2.1 b.2.2.2
def anyT_ (bs : List S26) (b : BxT) : Bool := bs.any fun x => meetB b.1 b.2.1 b.2.2.1 b.2.2.2 x.f0 x.f1 x.f2 x.f3
def okT (l : List S29) (i : Nat) (w : Int) (bs : List S26) : Bool := fitT l (bxT l i w) && !(anyT_ bs (bxT l i w))
def anyH (l : List S29) (ws : List Int) (b : BxT) : Nat → Nat → Bool
 | 0, _ => false
 | d + 1, j => (decide (0 ≤ rd ws (j : Int)) && mtT b (bxT l j (rd ws (j : Int)))) || anyH l ws b d (j + 1)
theorem anyH_last (l : List S29) (ws : List Int) (b : BxT) (d : Nat) : ∀ j : Nat, anyH l ws b (d + 1) j = (anyH l ws b d j || (decide (0 ≤ rd ws ((j + d : Nat) : Int)) && mtT b (bxT l (j + d) (rd ws ((j + d : Nat) : Int))))) := by
 induction d with
 | zero =>
  intro j
  show (_ || false) = (false || _)
  rw [Bool.or_false, Bool.false_or, Nat.add_zero]
 | succ d ih =>
  intro j
  show (_ || anyH l ws b (d + 1) (j + 1)) = ((_ || anyH l ws b d (j + 1)) || _)
  rw [ih (j + 1), Bool.or_assoc, show j + 1 + d = j + (d + 1) by omega]
theorem rd_left (ws : List Int) (w : Int) (j : Nat) (h : j < ws.length) : rd (ws ++ [w]) (j : Int) = rd ws (j : Int) := by
 show (ws ++ [w]).getD (j : Int).toNat 0 = ws.getD (j : Int).toNat 0
 rw [Int.toNat_natCast, List.getD_eq_getElem?_getD, List.getD_eq_getElem?_getD, List.getElem?_append_left h]
theorem rd_end (ws : List Int) (w : Int) : rd (ws ++ [w]) (ws.length : Int) = w := by
 show (ws ++ [w]).getD (ws.length : Int).toNat 0 = w
 rw [Int.toNat_natCast, List.getD_eq_getElem?_getD, List.getElem?_append_right (Nat.le_refl _), Nat.sub_self]
 rfl
theorem anyH_ext (l : List S29) (ws : List Int) (w : Int) (b : BxT) (d : Nat) : ∀ j : Nat, j + d ≤ ws.length → anyH l (ws ++ [w]) b d j = anyH l ws b d j := by
 induction d with
 | zero => intro j _; rfl
 | succ d ih =>
  intro j h
  show (_ || anyH l (ws ++ [w]) b d (j + 1)) = (_ || anyH l ws b d (j + 1))
  rw [ih (j + 1) (by omega), rd_left ws w j (by omega)]
theorem anyH_snoc (l : List S29) (ws : List Int) (w : Int) (b : BxT) : anyH l (ws ++ [w]) b (ws.length + 1) 0 = (anyH l ws b ws.length 0 || (decide (0 ≤ w) && mtT b (bxT l ws.length w))) := by
 rw [anyH_last, anyH_ext l ws w b ws.length 0 (by omega), Nat.zero_add, rd_end]
theorem mayT_l0 (l : List S29) (ws : List Int) (hl : l.length ≤ 1048576) (b : BxT) (n : Nat) (hn : n ≤ l.length) (hw : n ≤ ws.length) (d : Nat) : ∀ (k j : Nat), j + d = n → d < k →
  spec_l24May.l0 k l ws n j b.1 b.2.1 b.2.2.1 b.2.2.2 = some (!(anyH l ws b d j)) := by
 induction d with
 | zero =>
  intro k j hd hk
  obtain ⟨k, rfl⟩ : ∃ m, k = m + 1 := ⟨k - 1, by omega⟩
  simp only [spec_l24May.l0]
  rw [if_neg (by omega)]
  rfl
 | succ d ih =>
  intro k j hd hk
  obtain ⟨k, rfl⟩ : ∃ m, k = m + 1 := ⟨k - 1, by omega⟩
  have e := ih k (j + 1) (by omega) (by omega)
  simp only [spec_l24May.l0]
  rw [if_pos (by omega), if_pos (by omega), if_pos (by omega), w64 (by omega) (by omega)]
  show _ = some (!((decide (0 ≤ rd ws (j : Int)) && mtT b (bxT l j (rd ws (j : Int)))) || anyH l ws b d (j + 1)))
  by_cases h3 : rd ws (j : Int) ≥ 0
  ·
   rw [if_pos h3, if_pos (by omega), box_spec, obs, meet_eq', obs, decide_eq_true (show 0 ≤ rd ws (j : Int) from h3), Bool.true_and]
   show (if mtT b (bxT l j (rd ws j)) = true then _ else _) = _
   cases mtT b (bxT l j (rd ws j)) with
   | true => rfl
   | false =>
    rw [if_neg Bool.false_ne_true, Bool.false_or]
    exact e
  ·
   rw [if_neg h3, decide_eq_false (show ¬ 0 ≤ rd ws (j : Int) from h3), Bool.false_and, Bool.false_or]
   exact e
theorem mayT (l : List S29) (ws : List Int) (w : Int) (hl : l.length ≤ 1048576) (hi : ws.length < l.length) {k : Nat} (hk : l.length < k) {bs : List S26} (hI : ∀ b, anyH l ws b ws.length 0 = anyT_ bs b) :
  spec_l24May.f k l (ws ++ [w]) (ws.length : Int) = some (okT l ws.length w bs) := by
 unfold spec_l24May.f
 rw [if_pos (by omega), if_pos (by omega), if_pos (by rw [List.length_append, List.length_singleton]; omega), rd_end, box_spec, obs, free_spec l hl _ _ _ _ hk, obs]
 unfold okT
 show (if fitT l (bxT l ws.length w) = true then _ else _) = _
 cases fitT l (bxT l ws.length w) with
 | false => rfl
 | true =>
  rw [if_pos rfl, Bool.true_and]
  have := mayT_l0 l (ws ++ [w]) hl (bxT l ws.length w) ws.length (by omega) (by rw [List.length_append]; omega) ws.length k 0 (by omega) (by omega)
  rw [anyH_ext l ws w _ ws.length 0 (by omega), hI] at this
  exact this
def en (l : List S29) (sel : Nat → Bool) : Nat → List Int → List S26 → List (List Int)
 | 0, ws, _ => [ws]
 | m + 1, ws, bs => if sel ws.length = true then ([0, 1, 2, 3] : List Int).flatMap (fun w => if okT l ws.length w bs = true then en l sel m (ws ++ [w]) (bs ++ [bST (bxT l ws.length w)]) else []) else en l sel m (ws ++ [-1]) bs
theorem en_len (l : List S29) (sel : Nat → Bool) (m : Nat) : ∀ ws bs, (en l sel m ws bs).length ≤ 4 ^ m := by
 induction m with
 | zero => intro ws bs; exact Nat.le_refl _
 | succ m ih =>
  intro ws bs
  unfold en
  have hp : 4 ^ (m + 1) = 4 ^ m + 4 ^ m + 4 ^ m + 4 ^ m := by rw [Nat.pow_succ]; omega
  by_cases h : sel ws.length = true
  ·
   rw [if_pos h]
   have hw : ∀ w : Int, (if okT l ws.length w bs = true then en l sel m (ws ++ [w]) (bs ++ [bST (bxT l ws.length w)]) else []).length ≤ 4 ^ m := by
    intro w
    split
    ·
     exact ih _ _
    ·
     exact Nat.zero_le _
   have h0 := hw 0
   have h1 := hw 1
   have h2 := hw 2
   have h3 := hw 3
   simp only [List.flatMap_cons, List.flatMap_nil, List.length_append, List.length_nil]
   omega
  ·
   rw [if_neg h]
   have := ih (ws ++ [-1]) bs
   omega
def selO (set : Int) (i : Nat) : Bool := decide (¬ Go.bits .and .i64 (shr .i64 set (i : Int)) 1 = 0)
theorem u64n (n : Nat) (h : n ≤ 1048576) : IntKind.u64.wrap (n : Int) = (n : Int) := by
 have e : IntKind.u64.wrap (n : Int) = (n : Int) % 18446744073709551616 := rfl
 omega
theorem own_eq (ws : List Int) (h : ws.length ≤ 1048576) : spec_l1Own.f ws = some ws := by
 unfold spec_l1Own.f
 rw [obs, if_pos (by simp; omega)]
 rfl
theorem count_eq (l : List S29) (hl : l.length ≤ 6) (set : Int) (m : Nat) : ∀ (k : Nat) (ws : List Int) (bs : List S26), ws.length + m = l.length → (∀ b, anyH l ws b ws.length 0 = anyT_ bs b) → 8 * m + 30 < k →
  spec_l24Count.f k l set ws = some ((en l (selO set) m ws bs).headD [], ((en l (selO set) m ws bs).length : Int)) := by
 induction m with
 | zero =>
  intro k ws bs hm hI hk
  obtain ⟨k, rfl⟩ : ∃ n, k = n + 1 := ⟨k - 1, by omega⟩
  simp only [spec_l24Count.f]
  rw [if_pos (by omega)]
  rfl
 | succ m ih =>
  intro k ws bs hm hI hk
  obtain ⟨k, rfl⟩ : ∃ n, k = n + 1 := ⟨k - 1, by omega⟩
  simp only [spec_l24Count.f]
  rw [if_neg (by omega), u64n ws.length (by omega), if_pos (by omega)]
  unfold en
  by_cases hs : Go.bits .and .i64 (shr .i64 set (ws.length : Int)) 1 = 0
  ·
   rw [if_pos hs, own_eq ws (by omega), obs, if_pos (by omega), show selO set ws.length = false from decide_eq_false (fun h => h hs), if_neg (by decide)]
   have e := ih k (ws ++ [-1]) bs (by rw [List.length_append, List.length_singleton]; omega) (fun b => by
    rw [List.length_append, List.length_singleton, anyH_snoc, decide_eq_false (by decide), Bool.false_and, Bool.or_false]
    exact hI b) (by omega)
   rw [e, obs]
  ·
   rw [if_neg hs, show selO set ws.length = true from decide_eq_true hs, if_pos rfl]
   -- the four ways
   have key : ∀ (d K : Nat) (A : List (List Int)) (w : Int), 0 ≤ w → w + d = 4 → 8 * m + 31 + d < K → A.length + d * 4 ^ m ≤ 100000 →
     spec_l24Count.l0 K l set ws (ws.length : Int) (A.headD []) (A.length : Int) w = some ((A ++ (([0, 1, 2, 3] : List Int).drop w.toNat).flatMap (fun w => if okT l ws.length w bs = true then en l (selO set) m (ws ++ [w]) (bs ++ [bST (bxT l ws.length w)]) else [])).headD [], ((A ++ (([0, 1, 2, 3] : List Int).drop w.toNat).flatMap (fun w => if okT l ws.length w bs = true then en l (selO set) m (ws ++ [w]) (bs ++ [bST (bxT l ws.length w)]) else [])).length : Int)) := by
    intro d
    induction d with
    | zero =>
     intro K A w h0 hd hK hA
     obtain ⟨K, rfl⟩ : ∃ n, K = n + 1 := ⟨K - 1, by omega⟩
     simp only [spec_l24Count.l0]
     rw [if_neg (by omega)]
     obtain rfl : w = 4 := by omega
     simp
    | succ d ihd =>
     intro K A w h0 hd hK hA
     obtain ⟨K, rfl⟩ : ∃ n, K = n + 1 := ⟨K - 1, by omega⟩
     have hmul : (d + 1) * 4 ^ m = d * 4 ^ m + 4 ^ m := Nat.succ_mul ..
     have hA2 : A.length + d * 4 ^ m ≤ 100000 := Nat.le_trans (Nat.add_le_add_left (by rw [hmul]; exact Nat.le_add_right _ _) _) hA
     have ed : ([0, 1, 2, 3] : List Int).drop w.toNat = w :: ([0, 1, 2, 3] : List Int).drop (w + 1).toNat := by
      have h4 : w = 0 ∨ w = 1 ∨ w = 2 ∨ w = 3 := by omega
      rcases h4 with rfl | rfl | rfl | rfl <;> rfl
     simp only [spec_l24Count.l0]
     rw [if_pos (by omega), own_eq ws (by omega), obs, if_pos (by omega), obs, mayT l ws w (by omega) (by omega) (by omega) hI, obs, w64 (x := w + 1) (by omega) (by omega), ed, List.flatMap_cons]
     by_cases ho : okT l ws.length w bs = true
     ·
      rw [ho, if_pos rfl, if_pos rfl]
      have e := ih K (ws ++ [w]) (bs ++ [bST (bxT l ws.length w)]) (by rw [List.length_append, List.length_singleton]; omega) (fun b => by
       rw [List.length_append, List.length_singleton, anyH_snoc, decide_eq_true h0, Bool.true_and, hI b]
       show _ = (bs ++ [_]).any _
       rw [List.any_append]
       congr 1
       show _ = (_ || false)
       rw [Bool.or_false]
       rfl) (by omega)
      have hlen := en_len l (selO set) m (ws ++ [w]) (bs ++ [bST (bxT l ws.length w)])
      generalize en l (selO set) m (ws ++ [w]) (bs ++ [bST (bxT l ws.length w)]) = E at e hlen
      rw [e, obs]
      simp only
      rw [w64 (by omega) (by omega)]
      have hd2 := ihd K (A ++ E) (w + 1) (by omega) (by omega) (by omega) (by rw [List.length_append]; omega)
      rw [List.length_append] at hd2
      rw [← List.append_assoc]
      cases A with
      | nil =>
       rw [if_pos (show (([] : List (List Int)).length : Int) = 0 from rfl)]
       cases E with
       | nil =>
        rw [if_neg (by decide)]
        exact hd2
       | cons p t =>
        rw [if_pos (by rw [List.length_cons]; omega)]
        have e2 : ((([] : List (List Int)).length : Int) + ((p :: t).length : Int)) = ((([] : List (List Int)).length + (p :: t).length : Nat) : Int) := by omega
        rw [e2]
        exact hd2
      | cons p t =>
       rw [if_neg (by rw [List.length_cons]; omega)]
       have e2 : (((p :: t).length : Int) + (E.length : Int)) = (((p :: t).length + E.length : Nat) : Int) := by omega
       rw [e2]
       exact hd2
     ·
      rw [Bool.eq_false_iff.mpr ho, if_neg (by decide), if_neg (by decide), List.nil_append]
      exact ihd K A (w + 1) (by omega) (by omega) (by omega) hA2
   have hpow : 4 ^ m ≤ 4 ^ 6 := Nat.pow_le_pow_right (by decide) (by omega)
   have h6 : (4 : Nat) ^ 6 = 4096 := by decide
   have := key 4 k [] 0 (by omega) (by omega) (by omega) (by rw [List.length_nil]; omega)
   simpa using this
def filt (ws : List Int) : List Int := ws.filter fun x => decide (0 ≤ x)
def sels (sel : Nat → Bool) : Nat → Nat → List Int
 | _, 0 => []
 | i, m + 1 => if sel i = true then (i : Int) :: sels sel (i + 1) m else sels sel (i + 1) m
theorem filt_neg (ws : List Int) : filt (ws ++ [-1]) = filt ws := by
 unfold filt
 rw [List.filter_append]
 simp
theorem filt_pos (ws : List Int) (w : Int) (h : 0 ≤ w) : filt (ws ++ [w]) = filt ws ++ [w] := by
 unfold filt
 rw [List.filter_append]
 simp [h]
theorem hitB_eq (bs : List S26) (b : BxT) : hitB_ bs b.1 b.2.1 b.2.2.1 b.2.2.2 = some (anyT_ bs b) := by
 unfold hitB_
 rw [if_pos (List.all_eq_true.2 fun x _ => by rw [meet_eq]; rfl)]
 rfl
theorem catM_eq (f : Int → Option (List (List Int))) (g : Int → List (List Int)) : ∀ xs, (∀ x ∈ xs, f x = some (g x)) → catM_ f xs = some (xs.flatMap g)
 | [], _ => rfl
 | x :: xs, h => by
  unfold catM_
  rw [h x List.mem_cons_self, obs, catM_eq f g xs (fun y hy => h y (List.mem_cons_of_mem _ hy)), obs, List.flatMap_cons]
theorem plc_eq (l : List S29) (hl : l.length ≤ 1048576) (sel : Nat → Bool) (idx : List Int) (m : Nat) : ∀ (ws pre : List Int) (bs : List S26), ws.length + m = l.length → idx = pre ++ sels sel ws.length m → pre.length = (filt ws).length →
  plc_ l idx (sels sel ws.length m).length (filt ws) bs = some ((en l sel m ws bs).map filt) := by
 induction m with
 | zero =>
  intro ws pre bs hm hi hp
  rfl
 | succ m ih =>
  intro ws pre bs hm hi hp
  unfold sels en
  unfold sels at hi
  by_cases hs : sel ws.length = true
  ·
   rw [if_pos hs] at hi ⊢
   rw [if_pos hs, List.length_cons]
   have hr : rd idx ((filt ws).length : Int) = (ws.length : Int) := by
    rw [hi, ← hp]
    show (pre ++ _ :: _).getD (pre.length : Int).toNat 0 = _
    rw [Int.toNat_natCast, List.getD_eq_getElem?_getD, List.getElem?_append_right (Nat.le_refl _), Nat.sub_self]
    rfl
   simp only [plc_]
   rw [hr, if_pos (by omega), List.map_flatMap]
   refine catM_eq _ _ _ (fun w hw => ?_)
   have hw0 : 0 ≤ w := by
    simp only [List.mem_cons, List.not_mem_nil, or_false] at hw
    omega
   rw [box_impl, obs]
   show ((impl_free.f l (bxT l ws.length w).1 (bxT l ws.length w).2.1 (bxT l ws.length w).2.2.1 (bxT l ws.length w).2.2.2).bind _) = _
   rw [free_impl, obs]
   show (if fitT l (bxT l ws.length w) = true then ((hitB_ bs (bxT l ws.length w).1 (bxT l ws.length w).2.1 (bxT l ws.length w).2.2.1 (bxT l ws.length w).2.2.2).bind _) else _) = _
   unfold okT
   cases fitT l (bxT l ws.length w) with
   | false => rfl
   | true =>
    rw [if_pos rfl, hitB_eq, obs, Bool.true_and]
    cases anyT_ bs (bxT l ws.length w) with
    | true => rfl
    | false =>
     rw [if_neg (by decide), Bool.not_false, if_pos rfl]
     have e := ih (ws ++ [w]) (pre ++ [(ws.length : Int)]) (bs ++ [bST (bxT l ws.length w)]) (by rw [List.length_append, List.length_singleton]; omega) (by rw [hi, List.length_append, List.length_singleton, List.append_assoc]; rfl) (by rw [List.length_append, List.length_singleton, filt_pos ws w hw0, List.length_append, List.length_singleton, hp])
     rw [List.length_append, List.length_singleton, filt_pos ws w hw0] at e
     exact e
  ·
   rw [if_neg hs] at hi ⊢
   rw [if_neg hs]
   have e := ih (ws ++ [-1]) pre bs (by rw [List.length_append, List.length_singleton]; omega) (by rw [hi, List.length_append, List.length_singleton]) (by rw [filt_neg, hp])
   rw [List.length_append, List.length_singleton, filt_neg] at e
   exact e
theorem en_all (l : List S29) (sel : Nat → Bool) (m : Nat) : ∀ (ws : List Int) (bs : List S26), (∀ i, i < ws.length + m → sel i = true) → (∀ x ∈ ws, 0 ≤ x) → ∀ p ∈ en l sel m ws bs, filt p = p := by
 induction m with
 | zero =>
  intro ws bs _ hw p hp
  obtain rfl := List.mem_singleton.1 hp
  exact List.filter_eq_self.2 (fun x hx => decide_eq_true (hw x hx))
 | succ m ih =>
  intro ws bs hs hw p hp
  unfold en at hp
  rw [if_pos (hs ws.length (by omega))] at hp
  obtain ⟨w, hwm, hp⟩ := List.mem_flatMap.1 hp
  have hw0 : 0 ≤ w := by
   simp only [List.mem_cons, List.not_mem_nil, or_false] at hwm
   omega
  split at hp
  ·
   exact ih _ _ (fun i hi => hs i (by rw [List.length_append, List.length_singleton] at hi; omega)) (fun x hx => by
    rcases List.mem_append.1 hx with hx | hx
    ·
     exact hw x hx
    ·
     rw [List.mem_singleton.1 hx]; exact hw0) p hp
  ·
   cases hp
def fullS (n : Nat) : Int := wrap64 ((shl .i64 1 (IntKind.u64.wrap (n : Int))) - 1)
theorem full_all : ((List.range 7).all fun n => (List.range n).all fun i => selO (fullS n) i) = true := by kernel_rfl
theorem full_sel {n i : Nat} (hn : n ≤ 6) (hi : i < n) : selO (fullS n) i = true :=
 List.all_eq_true.1 (List.all_eq_true.1 full_all n (List.mem_range.2 (by omega))) i (List.mem_range.2 hi)
theorem sels_full (sel : Nat → Bool) (m : Nat) : ∀ i, (∀ j, i ≤ j → j < i + m → sel j = true) → sels sel i m = (List.range' i m).map (fun (j : Nat) => (j : Int)) := by
 induction m with
 | zero => intro i _; rfl
 | succ m ih =>
  intro i h
  unfold sels
  rw [if_pos (h i (Nat.le_refl _) (by omega)), ih (i + 1) (fun j h1 h2 => h j (by omega) (by omega)), List.range'_succ]
  rfl
theorem all_l0 (n : Nat) (hn : n ≤ 1048576) (d : Nat) : ∀ (k i : Nat) (acc : List Int), i + d = n → acc.length = i → d < k → impl_allIndices.l0 k acc (n : Int) (i : Int) = some (acc ++ (List.range' i d).map (fun (j : Nat) => (j : Int))) := by
 induction d with
 | zero =>
  intro k i acc hd ha hk
  obtain ⟨k, rfl⟩ : ∃ m, k = m + 1 := ⟨k - 1, by omega⟩
  simp only [impl_allIndices.l0]
  rw [if_neg (by omega)]
  simp
 | succ d ih =>
  intro k i acc hd ha hk
  obtain ⟨k, rfl⟩ : ∃ m, k = m + 1 := ⟨k - 1, by omega⟩
  simp only [impl_allIndices.l0]
  rw [if_pos (by omega), if_pos (by omega), w64 (by omega) (by omega)]
  have e := ih k (i + 1) (acc ++ [(i : Int)]) (by omega) (by rw [List.length_append, List.length_singleton, ha]) (by omega)
  rw [List.range'_succ, List.map_cons]
  rw [List.append_assoc] at e
  exact e
def plcs (l : List S29) : List (List Int) := en l (selO (fullS l.length)) l.length [] []
theorem count_full {l : List S29} (hl : l.length ≤ 6) {k : Nat} (hk : 100 < k) : spec_l24Count.f k l (wrap64 ((shl .i64 1 (IntKind.u64.wrap ((l.length : Int)))) - 1)) ([] : List Int) = some ((plcs l).headD [], ((plcs l).length : Int)) :=
 count_eq l hl (fullS l.length) l.length k [] [] (by simp) (fun b => rfl) (by omega)
theorem plc_full {l : List S29} (hl : l.length ≤ 6) {k : Nat} (hk : 100 < k) : ∃ idx, impl_allIndices.f k (l.length : Int) = some idx ∧ idx.length = l.length ∧ plc_ l idx idx.length [] [] = some (plcs l) := by
 have e1 := all_l0 l.length (by omega) l.length k 0 [] (by omega) rfl (by omega)
 have hs : ∀ j, 0 ≤ j → j < 0 + l.length → selO (fullS l.length) j = true := fun j _ h => full_sel hl (by omega)
 have e2 := sels_full (selO (fullS l.length)) l.length 0 hs
 refine ⟨sels (selO (fullS l.length)) 0 l.length, ?_, by rw [e2, List.length_map, List.length_range'], ?_⟩
 ·
  unfold impl_allIndices.f
  rw [e2]
  simpa using e1
 ·
  have e3 := plc_eq l (by omega) (selO (fullS l.length)) (sels (selO (fullS l.length)) 0 l.length) l.length [] [] [] (by simp) (by simp) rfl
  have e4 : (en l (selO (fullS l.length)) l.length [] []).map filt = plcs l := by
   unfold plcs
   conv => rhs; rw [← List.map_id (en l (selO (fullS l.length)) l.length [] [])]
   exact List.map_congr_left (fun p hp => en_all l _ l.length [] [] (fun i hi => hs i (Nat.zero_le _) (by simpa using hi)) (fun x hx => by cases hx) p hp)
  rw [e4] at e3
  exact e3
theorem plcs_len (l : List S29) (hl : l.length ≤ 6) : (plcs l).length ≤ 4096 := by
 have h1 := en_len l (selO (fullS l.length)) l.length [] []
 have hpow : 4 ^ l.length ≤ 4 ^ 6 := Nat.pow_le_pow_right (by decide) hl
 have h6 : (4 : Nat) ^ 6 = 4096 := by decide
 unfold plcs
 omega
theorem labs_len {m : List S29} (c : labs m = true) : m.length ≤ 6 := by
 unfold labs at c
 rw [Bool.and_eq_true] at c
 exact of_decide_eq_true c.2
theorem cnt_both {m : List S29} (hm : ∀ x, x ∈ m → x.f0.size ≤ 1048576) (hl : m.length ≤ 1048576) : ∃ r b, ∀ k, 1048790 + m.length ≤ k → spec_CountPlacings.f k m = some (r, b) ∧ impl_CountPlacings.f k m = some (r, b) := by
 by_cases c : labs m = true
 ·
  have h6 := labs_len c
  refine ⟨((plcs m).length : Int), true, fun k hk => ?_⟩
  obtain ⟨idx, i1, i2, i3⟩ := plc_full h6 (k := k) (by omega)
  have hp := plcs_len m h6
  unfold spec_CountPlacings.f impl_CountPlacings.f
  have hu : 0 ≤ IntKind.u64.wrap (m.length : Int) := by rw [u64n m.length (by omega)]; omega
  rw [good_eq hm hl (by omega), are_eq hm, obs, obs, if_pos c, if_pos c, if_pos hu, count_full h6 (by omega), obs, i1, obs, if_pos (show idx.length < 1000000 by omega), i3, obs, w64 (x := ((plcs m).length : Int)) (by omega) (by omega)]
  exact ⟨rfl, rfl⟩
 ·
  refine ⟨0, false, fun k hk => ?_⟩
  unfold spec_CountPlacings.f impl_CountPlacings.f
  rw [good_eq hm hl (by omega), are_eq hm, obs, obs, if_neg c, if_neg c]
  exact ⟨rfl, rfl⟩
end Go.Proofs.YtjkcfpmonpkhhaaDoor.Pr.Pure

namespace Go.Proofs.YtjkcfpmonpkhhaaDoor.Pr.Pure
open Go.RowKit Go.Proofs.YtjkcfpmonpkhhaaDoorW.PrintWords Go.Proofs.YtjkcfpmonpkhhaaDoorW.PrintLast Go.Proofs.YtjkcfpmonpkhhaaDoorW.PrintMore Go.Proofs.YtjkcfpmonpkhhaaDoorW.Opens
set_option linter.unusedVariables false
theorem FnExactCountPlacings : FnExactCountPlacings.Pure := by
 intro l hw
 obtain ⟨_, hb, hwf⟩ := hw
 obtain ⟨K0, hK0⟩ : ∃ K0, K0 = 1048790 + l.length := ⟨_, rfl⟩
 obtain ⟨t, e, ht⟩ := szLabelS_eq (l := l) (fun x hx => (hwf x hx).1) (by omega) (k := K0 + 3) (by omega)
 refine ⟨K0 + 3, ?_⟩
 unfold laws_FnExactCountPlacings.f
 rw [e, obs]
 by_cases c : t < 0
 ·
  rw [if_pos c]
 ·
  rw [if_neg c]
  obtain ⟨hl, hx⟩ := ht (by omega)
  have hlen : (l.map cvLabel).length = l.length := List.length_map _
  have hm : ∀ x, x ∈ l.map cvLabel → x.f0.size ≤ 1048576 := fun x h => by
   obtain ⟨y, hy, rfl⟩ := List.mem_map.1 h
   exact hx y hy
  obtain ⟨r, b, hk⟩ := cnt_both hm (by omega)
  have t0 : ∀ k, K0 ≤ k → laws_toLabelS.f k l = some (l.map cvLabel) := fun k hk => toLabelS_eq hb (by omega)
  have e1 : ∀ k, K0 ≤ k → spec_CountPlacings.f k (l.map cvLabel) = some (r, b) := fun k h => (hk k (by omega)).1
  have e2 : ∀ k, K0 ≤ k → impl_CountPlacings.f k (l.map cvLabel) = some (r, b) := fun k h => (hk k (by omega)).2
  have e3 : ∀ k, K0 ≤ k → laws_eqLabelS.f k (l.map cvLabel) (l.map cvLabel) = some true := fun k h => eqLabelS_eq (by omega) (by omega)
  have hj0 : laws_FnExactCountPlacings.j0 (K0 + 3) l (l.map cvLabel) false = some true := by
   have h2 : K0 ≤ K0 + 2 := by omega
   simp only [laws_FnExactCountPlacings.j0, Bool.false_eq_true, if_false, t0 _ h2, e3 _ h2, obs, if_true]
  have h3 : K0 ≤ K0 + 3 := by omega
  rw [t0 _ h3, obs, e1 _ h3, obs, obs, e2 _ h3, obs]
  simp only [if_true, bne_self_eq_false]
  exact hj0
end Go.Proofs.YtjkcfpmonpkhhaaDoor.Pr.Pure

