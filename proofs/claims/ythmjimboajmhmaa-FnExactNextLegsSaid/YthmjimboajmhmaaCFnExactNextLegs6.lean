/-
What is proved: parts of the law FnExactNextLegs: what the functions that it reaches compute, and the plain law.
Conditions: those of each theorem.
-/
import Derived.ChangeArms
import Derived.ChangeSlices
import Derived.Deep.Slices
import Derived.RowKit
import Derived.SizedLaws
import Derived.WideShapes
import Derived.Test.YthmjimboajmhmaaCFnExactNextLegs5
set_option maxHeartbeats 8000000
set_option maxRecDepth 100000
namespace Go.Proofs.Ythmjimboajmhmaa.Pr
open Go.RowKit Go.Proofs.YthmjimboajmhmaaW.PrintWords Go.Proofs.YthmjimboajmhmaaW.PrintLast Go.Proofs.YthmjimboajmhmaaW.PrintMore
attribute [local go_sem] max2_int min2_int max_two min_two max_three min_three max_four min_four   -- for this text's walks alone
set_option linter.unusedVariables false
set_option linter.unusedSimpArgs false
section
variable {w w0 : World} {g base : Nat} {t : TypeId}
theorem set5_R {α : Type} {d : Kd α} {e : Nat} {ok : Nat → Prop} {v : Value} {xs : List α} {cs : Array Value} (h : d.R e w base ok v xs) (hb : w.heap[g]? = some (.cells cs t (0, 0))) (ht : ∀ q, q ∈ e :: d.E → q ≠ t) (a0 a1 a2 a3 a4 : Value) :
  d.R e (((((w.setCell ⟨g, 0, none⟩ a0).setCell ⟨g, 1, none⟩ a1).setCell ⟨g, 2, none⟩ a2).setCell ⟨g, 3, none⟩ a3).setCell ⟨g, 4, none⟩ a4) base ok v xs :=
 Kd.R_mono (Kd.R_far (p := ⟨g, 4, none⟩) (Kd.R_far (p := ⟨g, 3, none⟩) (Kd.R_far (p := ⟨g, 2, none⟩) (Kd.R_far (p := ⟨g, 1, none⟩) (Kd.R_far (p := ⟨g, 0, none⟩) (Kd.R_types h hb ht) (fun _ hk => hk.2) a0) (fun _ hk => hk.2) a1) (fun _ hk => hk.2) a2) (fun _ hk => hk.2) a3) (fun _ hk => hk.2) a4) (fun _ hk => hk.1)
theorem set5_blk {b0 b1 b2 b3 b4 : Value} (h : w.heap[g]? = some (.cells #[b0, b1, b2, b3, b4] t (0, 0))) (a0 a1 a2 a3 a4 : Value) :
  (((((w.setCell ⟨g, 0, none⟩ a0).setCell ⟨g, 1, none⟩ a1).setCell ⟨g, 2, none⟩ a2).setCell ⟨g, 3, none⟩ a3).setCell ⟨g, 4, none⟩ a4).heap[g]? = some (.cells #[a0, a1, a2, a3, a4] t (0, 0)) :=
 blk_put (cs := #[a0, a1, a2, a3, b4]) (blk_put (cs := #[a0, a1, a2, b3, b4]) (blk_put (cs := #[a0, a1, b2, b3, b4]) (blk_put (cs := #[a0, b1, b2, b3, b4]) (blk_put (cs := #[b0, b1, b2, b3, b4]) h 0 _ rfl) 1 _ rfl) 2 _ rfl) 3 _ rfl) 4 _ rfl
theorem set5_below (h : Below w0.heap.size w0 w) (hg : w0.heap.size ≤ g) (a0 a1 a2 a3 a4 : Value) :
  Below w0.heap.size w0 (((((w.setCell ⟨g, 0, none⟩ a0).setCell ⟨g, 1, none⟩ a1).setCell ⟨g, 2, none⟩ a2).setCell ⟨g, 3, none⟩ a3).setCell ⟨g, 4, none⟩ a4) :=
 below_set (below_set (below_set (below_set (below_set h hg) hg) hg) hg) hg
end
def impl_walkOn.f (k : Nat) (l0_0 : List S37) (l0_1 : List Bool) (l0_2 : List Bool) (a0_3 : Int) (a0_4 : Int) (a1_0 : Int) (a1_1 : Int) (a1_2 : Int) (a1_3 : Int) (a1_4 : Int) (a1_5 : Int) (a1_6 : Int) : Option (List S37 × List Bool × List Bool × Int × Int × Bool) :=
 (impl_Exploration_clone.f l0_0 l0_1 l0_2 a0_3 a0_4).bind fun x => (walk_f x.1 x.2.1 x.2.2.1 x.2.2.2.1 x.2.2.2.2 a1_0 a1_1 a1_2 a1_3 a1_4 a1_5 a1_6).bind fun y => if y.2.2.2.2.2 = true then (impl_IsExploration.f k y.1 y.2.1 y.2.2.1 y.2.2.2.1 y.2.2.2.2.1).bind fun q => if q = true then some (y.1, y.2.1, y.2.2.1, y.2.2.2.1, y.2.2.2.2.1, true) else some ([], [], [], 0, 0, false) else some ([], [], [], 0, 0, false)
theorem impl_walkOn.mono : ∀ a0 a1 a2 a3 a4 b0 b1 b2 b3 b4 b5 b6 k, LeO (impl_walkOn.f k a0 a1 a2 a3 a4 b0 b1 b2 b3 b4 b5 b6) (impl_walkOn.f (k + 1) a0 a1 a2 a3 a4 b0 b1 b2 b3 b4 b5 b6) := by
 intro a0 a1 a2 a3 a4 b0 b1 b2 b3 b4 b5 b6 k
 unfold impl_walkOn.f
 refine LeO.bind (LeO.refl _) (fun x => LeO.bind (LeO.refl _) (fun y => LeO.ite ?_ (LeO.refl _)))
 exact LeO.bind (impl_IsExploration.mono _ _ _ _ _ k) (fun _ => LeO.refl _)
theorem walkOn_a (k : Nat) (A0_0 : Option Addr) (c0_0 : Nat) (l0_0 : List (S37)) (A0_1 : Option Addr) (c0_1 : Nat) (l0_1 : List Bool) (A0_2 : Option Addr) (c0_2 : Nat) (l0_2 : List Bool) (a0_3 : Int) (a0_4 : Int) (a1_0 : Int) (a1_1 : Int) (a1_2 : Int) (a1_3 : Int) (a1_4 : Int) (a1_5 : Int) (a1_6 : Int) (L : List S37) (V D : List Bool) (p t : Int) (L' : List S37) (V' D' : List Bool) (p' t' : Int) (w : World) (hr0_0 : Kd.C k37 w A0_0 l0_0.length l0_0) (hc0_0 : l0_0.length ≤ c0_0) (hr0_1 : Kd.C Kd.bool w A0_1 l0_1.length l0_1) (hc0_1 : l0_1.length ≤ c0_1) (hr0_2 : Kd.C Kd.bool w A0_2 l0_2.length l0_2) (hc0_2 : l0_2.length ≤ c0_2) (hcl : impl_Exploration_clone.f l0_0 l0_1 l0_2 a0_3 a0_4 = some (L, V, D, p, t)) (hwf : walk_f L V D p t a1_0 a1_1 a1_2 a1_3 a1_4 a1_5 a1_6 = some (L', V', D', p', t', false)) :
  Calls Try.prog 76 #[.agg #[.slice A0_0 l0_0.length c0_0, .slice A0_1 l0_1.length c0_1, .slice A0_2 l0_2.length c0_2, .int .i64 a0_3, .int .i64 a0_4], .agg #[.int .i64 a1_0, .int .i64 a1_1, .int .i64 a1_2, .int .i64 a1_3, .int .i64 a1_4, .int .i64 a1_5, .int .i64 a1_6]] w fun e w' => ∃ v0_ v1_ v2_ : Value, e = .returned (.tuple #[.agg #[v0_, v1_, v2_, .int .i64 0, .int .i64 0], .bool false]) ∧ Kd.R k37 37 w' w.heap.size (fun _ => True) v0_ [] ∧ Kd.R Kd.bool 4 w' w.heap.size (fun k_ => some k_ ≠ (v2_ : Value).ownBlock) v1_ [] ∧ Kd.R Kd.bool 4 w' w.heap.size (fun k_ => some k_ ≠ (v1_ : Value).ownBlock) v2_ [] ∧ Below w.heap.size w w' := by
 have hu1 := Try.underlying39
 have hu2 := Try.underlying30
 have HB := Aside0.mk (Below.refl w.heap.size w)
 have HR0 := Aside0.mk hr0_0
 have HC0 := Aside0.mk hc0_0
 have HR1 := Aside0.mk hr0_1
 have HC1 := Aside0.mk hc0_1
 have HR2 := Aside0.mk hr0_2
 have HC2 := Aside0.mk hc0_2
 clear hr0_0 hc0_0 hr0_1 hc0_1 hr0_2 hc0_2
 go_enter Try.func76, Try.ntmps76
 go_upto_region 2 with (first | ((with_reducible refine gate_dst (N := 2) rfl ?_); refine box_event ?hg (N := 2) ?hd (cs := #[.slice A0_0 l0_0.length c0_0, .slice A0_1 l0_1.length c0_1, .slice A0_2 l0_2.length c0_2, .int .i64 a0_3, .int .i64 a0_4]) (t := 30) ?hr ?_; (case hd => rfl); (case hg => rfl); (case hr => first | (go_simp; done) | (go_simp; rfl)); intro gb2 hg w2 hbox hb; have BKb2 := Aside0.mk hbox; replace HB := Aside0.mk (below_step (lb0_ HB.out) hb); clear hb hbox hg) | ((with_reducible refine gate_dst (N := 3) rfl ?_); refine box_event ?hg (N := 3) ?hd (cs := #[.int .i64 a1_0, .int .i64 a1_1, .int .i64 a1_2, .int .i64 a1_3, .int .i64 a1_4, .int .i64 a1_5, .int .i64 a1_6]) (t := 39) ?hr ?_; (case hd => rfl); (case hg => rfl); (case hr => first | (go_simp; done) | (go_simp; rfl)); intro gb3 hg w3 hbox hb; have BKb3 := Aside0.mk hbox; replace BKb2 := Aside0.mk (bb_ BKb2.out hb); replace HB := Aside0.mk (below_step (lb0_ HB.out) hb); clear hb hbox hg) | ((with_reducible refine gate_dst (N := 4) rfl ?_); refine box_event ?hg (N := 4) ?hd (cs := #[.slice none 0 0, .slice none 0 0, .slice none 0 0, .int .i64 0, .int .i64 0]) (t := 30) ?hr ?_; (case hd => rfl); (case hg => rfl); (case hr => first | (go_simp; done) | (go_simp; rfl)); intro gb4 hg w4 hbox hb; have BKb4 := Aside0.mk hbox; have GE4 := Aside0.mk (bz_ hg (lb0_ HB.out)); replace BKb2 := Aside0.mk (bb_ BKb2.out hb); replace BKb3 := Aside0.mk (bb_ BKb3.out hb); have HA := Aside0.mk (below_step (lb0_ HB.out) hb); clear HB hb hbox hg; have HB := Aside0.mk (Below.refl w4.heap.size w4); obtain ⟨hcz0, hcz1, hcz2, hcz3, hcz4⟩ := cz5_ BKb2.out; obtain ⟨hfz0, hfz1, hfz2, hfz3, hfz4⟩ := fz5_ BKb2.out) | ((with_reducible refine gate_callee (f := 83) rfl ?_); refine ga_ (some 8) Try.func83 #[.agg #[.slice A0_0 l0_0.length c0_0, .slice A0_1 l0_1.length c0_1, .slice A0_2 l0_2.length c0_2, .int .i64 a0_3, .int .i64 a0_4]] ?_; refine (impl_Exploration_clone.calls _ _ l0_0 _ _ l0_1 _ _ l0_2 a0_3 a0_4 L V D p t _ (Kd.C_below HR0.out HA.out) HC0.out (Kd.C_below HR1.out HA.out) HC1.out (Kd.C_below HR2.out HA.out) HC2.out hcl).mono ?_; rintro e w5 ⟨v0, v1, v2, rfl, ho0, ho1, ho2, hb⟩; refine ⟨_, rfl, ?_⟩; clear hcz0 hcz1 hcz2 hcz3 hcz4 hfz0 hfz1 hfz2 hfz3 hfz4; obtain ⟨Ad, cd, rfl⟩ := Kd.R_slice ho0; obtain ⟨Ae, ce, rfl⟩ := Kd.R_slice ho1; obtain ⟨Af, cf, rfl⟩ := Kd.R_slice ho2; replace HB := Aside0.mk hb; have HO0 := Aside0.mk ho0; have HO1 := Aside0.mk ho1; have HO2 := Aside0.mk ho2; clear hb ho0 ho1 ho2) | ((with_reducible refine gate_dst (N := 6) rfl ?_); refine box_event ?hg (N := 6) ?hd (cs := #[.slice none 0 0, .slice none 0 0, .slice none 0 0, .int .i64 0, .int .i64 0]) (t := 30) ?hr ?_; (case hd => rfl); (case hg => rfl); (case hr => first | (go_simp; done) | (go_simp; rfl)); intro gb6 hg w6 hbox hb; have BKb6 := Aside0.mk hbox; have GE6 := Aside0.mk (bz_ hg HB.out); replace HO0 := Aside0.mk (Kd.R_below HO0.out hb); replace HO1 := Aside0.mk (Kd.R_below HO1.out hb); replace HO2 := Aside0.mk (Kd.R_below HO2.out hb); replace HB := Aside0.mk (below_step HB.out hb); clear hb hbox hg; obtain ⟨hcz0, hcz1, hcz2, hcz3, hcz4⟩ := cz5_ BKb6.out; obtain ⟨hfz0, hfz1, hfz2, hfz3, hfz4⟩ := fz5_ BKb6.out))
 clear hcz0 hcz1 hcz2 hcz3 hcz4 hfz0 hfz1 hfz2 hfz3 hfz4
 have HS : Aside0 (ExS (((((w6.setCell ⟨gb6, 0, none⟩ (.slice Ad L.length cd)).setCell ⟨gb6, 1, none⟩ (.slice Ae V.length ce)).setCell ⟨gb6, 2, none⟩ (.slice Af D.length cf)).setCell ⟨gb6, 3, none⟩ (.int .i64 p)).setCell ⟨gb6, 4, none⟩ (.int .i64 t)) w4.heap.size gb6 (.slice Ad L.length cd) (.slice Ae V.length ce) (.slice Af D.length cf) L V D p t) := ⟨⟨set5_blk BKb6.out (.slice Ad L.length cd) (.slice Ae V.length ce) (.slice Af D.length cf) (.int .i64 p) (.int .i64 t), GE6.out, set5_R HO0.out BKb6.out (by decide) (.slice Ad L.length cd) (.slice Ae V.length ce) (.slice Af D.length cf) (.int .i64 p) (.int .i64 t), set5_R HO1.out BKb6.out (by decide) (.slice Ad L.length cd) (.slice Ae V.length ce) (.slice Af D.length cf) (.int .i64 p) (.int .i64 t), set5_R HO2.out BKb6.out (by decide) (.slice Ad L.length cd) (.slice Ae V.length ce) (.slice Af D.length cf) (.int .i64 p) (.int .i64 t)⟩⟩
 replace HB : Aside0 (Below w4.heap.size w4 (((((w6.setCell ⟨gb6, 0, none⟩ (.slice Ad L.length cd)).setCell ⟨gb6, 1, none⟩ (.slice Ae V.length ce)).setCell ⟨gb6, 2, none⟩ (.slice Af D.length cf)).setCell ⟨gb6, 3, none⟩ (.int .i64 p)).setCell ⟨gb6, 4, none⟩ (.int .i64 t))) := ⟨set5_below HB.out GE6.out (.slice Ad L.length cd) (.slice Ae V.length ce) (.slice Af D.length cf) (.int .i64 p) (.int .i64 t)⟩
 clear HO0 HO1 HO2 BKb6
 generalize (((((w6.setCell ⟨gb6, 0, none⟩ (.slice Ad L.length cd)).setCell ⟨gb6, 1, none⟩ (.slice Ae V.length ce)).setCell ⟨gb6, 2, none⟩ (.slice Af D.length cf)).setCell ⟨gb6, 3, none⟩ (.int .i64 p)).setCell ⟨gb6, 4, none⟩ (.int .i64 t)) = w7 at HS HB ⊢
 obtain ⟨hcz0, hcz1, hcz2, hcz3, hcz4, hcz5, hcz6⟩ := cz7_ (blk_below BKb3.out HB.out)
 go_wp2_with ((go_at_call 105; refine (walk_calls gb6 _ _ _ L V D p t a1_0 a1_1 a1_2 a1_3 a1_4 a1_5 a1_6 L' V' D' p' t' false w4 _ HS.out HB.out hwf).mono ?_; rintro e w9 ⟨vL', rfl, hS9, hB9⟩; clear hcz0 hcz1 hcz2 hcz3 hcz4 hcz5 hcz6; obtain ⟨Aa, ca, rfl⟩ := Kd.R_slice hS9.rL; have eV : V.length = V'.length := (Kd.R_reads' hS9.rV).1; have eD : D.length = D'.length := (Kd.R_reads' hS9.rD).1; rw [eV, eD] at hS9; clear eV eD; obtain ⟨hcz0, hcz1, hcz2, hcz3, hcz4⟩ := cz5_ hS9.blk; have HS9 := Aside0.mk hS9; have HB9 := Aside0.mk hB9; clear hS9 hB9; obtain ⟨hdz0, hdz1, hdz2, hdz3, hdz4⟩ := cz5_ (blk_below BKb4.out HB9.out); obtain ⟨hfz0, hfz1, hfz2, hfz3, hfz4⟩ := fz5_ (blk_below BKb4.out HB9.out)))
 refine bodyPost_ret (results_ct rfl _ _ gb4 30 #[(.slice none 0 0), (.slice none 0 0), (.slice none 0 0), (.int .i64 0), (.int .i64 0)] (0, 0) _ rfl (set5_blk (blk_below BKb4.out HB9.out) (.slice none 0 0) (.slice none 0 0) (.slice none 0 0) (.int .i64 0) (.int .i64 0)) Try.underlying30 rfl (by kernel_rfl)) rfl ?_
 exact ⟨_, _, _, rr_, Kd.R_nil _ _ _ _ _, Kd.R_nil _ _ _ _ _, Kd.R_nil _ _ _ _ _, set5_below (below_step HA.out HB9.out) GE4.out (.slice none 0 0) (.slice none 0 0) (.slice none 0 0) (.int .i64 0) (.int .i64 0)⟩
theorem walkOn_b (k : Nat) (A0_0 : Option Addr) (c0_0 : Nat) (l0_0 : List (S37)) (A0_1 : Option Addr) (c0_1 : Nat) (l0_1 : List Bool) (A0_2 : Option Addr) (c0_2 : Nat) (l0_2 : List Bool) (a0_3 : Int) (a0_4 : Int) (a1_0 : Int) (a1_1 : Int) (a1_2 : Int) (a1_3 : Int) (a1_4 : Int) (a1_5 : Int) (a1_6 : Int) (L : List S37) (V D : List Bool) (p t : Int) (L' : List S37) (V' D' : List Bool) (p' t' : Int) (w : World) (hr0_0 : Kd.C k37 w A0_0 l0_0.length l0_0) (hc0_0 : l0_0.length ≤ c0_0) (hr0_1 : Kd.C Kd.bool w A0_1 l0_1.length l0_1) (hc0_1 : l0_1.length ≤ c0_1) (hr0_2 : Kd.C Kd.bool w A0_2 l0_2.length l0_2) (hc0_2 : l0_2.length ≤ c0_2) (hcl : impl_Exploration_clone.f l0_0 l0_1 l0_2 a0_3 a0_4 = some (L, V, D, p, t)) (hwf : walk_f L V D p t a1_0 a1_1 a1_2 a1_3 a1_4 a1_5 a1_6 = some (L', V', D', p', t', true)) (hie : impl_IsExploration.f k L' V' D' p' t' = some false) :
  Calls Try.prog 76 #[.agg #[.slice A0_0 l0_0.length c0_0, .slice A0_1 l0_1.length c0_1, .slice A0_2 l0_2.length c0_2, .int .i64 a0_3, .int .i64 a0_4], .agg #[.int .i64 a1_0, .int .i64 a1_1, .int .i64 a1_2, .int .i64 a1_3, .int .i64 a1_4, .int .i64 a1_5, .int .i64 a1_6]] w fun e w' => ∃ v0_ v1_ v2_ : Value, e = .returned (.tuple #[.agg #[v0_, v1_, v2_, .int .i64 0, .int .i64 0], .bool false]) ∧ Kd.R k37 37 w' w.heap.size (fun _ => True) v0_ [] ∧ Kd.R Kd.bool 4 w' w.heap.size (fun k_ => some k_ ≠ (v2_ : Value).ownBlock) v1_ [] ∧ Kd.R Kd.bool 4 w' w.heap.size (fun k_ => some k_ ≠ (v1_ : Value).ownBlock) v2_ [] ∧ Below w.heap.size w w' := by
 have hu1 := Try.underlying39
 have hu2 := Try.underlying30
 have HB := Aside0.mk (Below.refl w.heap.size w)
 have HR0 := Aside0.mk hr0_0
 have HC0 := Aside0.mk hc0_0
 have HR1 := Aside0.mk hr0_1
 have HC1 := Aside0.mk hc0_1
 have HR2 := Aside0.mk hr0_2
 have HC2 := Aside0.mk hc0_2
 clear hr0_0 hc0_0 hr0_1 hc0_1 hr0_2 hc0_2
 go_enter Try.func76, Try.ntmps76
 go_upto_region 2 with (first | ((with_reducible refine gate_dst (N := 2) rfl ?_); refine box_event ?hg (N := 2) ?hd (cs := #[.slice A0_0 l0_0.length c0_0, .slice A0_1 l0_1.length c0_1, .slice A0_2 l0_2.length c0_2, .int .i64 a0_3, .int .i64 a0_4]) (t := 30) ?hr ?_; (case hd => rfl); (case hg => rfl); (case hr => first | (go_simp; done) | (go_simp; rfl)); intro gb2 hg w2 hbox hb; have BKb2 := Aside0.mk hbox; replace HB := Aside0.mk (below_step (lb0_ HB.out) hb); clear hb hbox hg) | ((with_reducible refine gate_dst (N := 3) rfl ?_); refine box_event ?hg (N := 3) ?hd (cs := #[.int .i64 a1_0, .int .i64 a1_1, .int .i64 a1_2, .int .i64 a1_3, .int .i64 a1_4, .int .i64 a1_5, .int .i64 a1_6]) (t := 39) ?hr ?_; (case hd => rfl); (case hg => rfl); (case hr => first | (go_simp; done) | (go_simp; rfl)); intro gb3 hg w3 hbox hb; have BKb3 := Aside0.mk hbox; replace BKb2 := Aside0.mk (bb_ BKb2.out hb); replace HB := Aside0.mk (below_step (lb0_ HB.out) hb); clear hb hbox hg) | ((with_reducible refine gate_dst (N := 4) rfl ?_); refine box_event ?hg (N := 4) ?hd (cs := #[.slice none 0 0, .slice none 0 0, .slice none 0 0, .int .i64 0, .int .i64 0]) (t := 30) ?hr ?_; (case hd => rfl); (case hg => rfl); (case hr => first | (go_simp; done) | (go_simp; rfl)); intro gb4 hg w4 hbox hb; have BKb4 := Aside0.mk hbox; have GE4 := Aside0.mk (bz_ hg (lb0_ HB.out)); replace BKb2 := Aside0.mk (bb_ BKb2.out hb); replace BKb3 := Aside0.mk (bb_ BKb3.out hb); have HA := Aside0.mk (below_step (lb0_ HB.out) hb); clear HB hb hbox hg; have HB := Aside0.mk (Below.refl w4.heap.size w4); obtain ⟨hcz0, hcz1, hcz2, hcz3, hcz4⟩ := cz5_ BKb2.out; obtain ⟨hfz0, hfz1, hfz2, hfz3, hfz4⟩ := fz5_ BKb2.out) | ((with_reducible refine gate_callee (f := 83) rfl ?_); refine ga_ (some 8) Try.func83 #[.agg #[.slice A0_0 l0_0.length c0_0, .slice A0_1 l0_1.length c0_1, .slice A0_2 l0_2.length c0_2, .int .i64 a0_3, .int .i64 a0_4]] ?_; refine (impl_Exploration_clone.calls _ _ l0_0 _ _ l0_1 _ _ l0_2 a0_3 a0_4 L V D p t _ (Kd.C_below HR0.out HA.out) HC0.out (Kd.C_below HR1.out HA.out) HC1.out (Kd.C_below HR2.out HA.out) HC2.out hcl).mono ?_; rintro e w5 ⟨v0, v1, v2, rfl, ho0, ho1, ho2, hb⟩; refine ⟨_, rfl, ?_⟩; clear hcz0 hcz1 hcz2 hcz3 hcz4 hfz0 hfz1 hfz2 hfz3 hfz4; obtain ⟨Ad, cd, rfl⟩ := Kd.R_slice ho0; obtain ⟨Ae, ce, rfl⟩ := Kd.R_slice ho1; obtain ⟨Af, cf, rfl⟩ := Kd.R_slice ho2; replace HB := Aside0.mk hb; have HO0 := Aside0.mk ho0; have HO1 := Aside0.mk ho1; have HO2 := Aside0.mk ho2; clear hb ho0 ho1 ho2) | ((with_reducible refine gate_dst (N := 6) rfl ?_); refine box_event ?hg (N := 6) ?hd (cs := #[.slice none 0 0, .slice none 0 0, .slice none 0 0, .int .i64 0, .int .i64 0]) (t := 30) ?hr ?_; (case hd => rfl); (case hg => rfl); (case hr => first | (go_simp; done) | (go_simp; rfl)); intro gb6 hg w6 hbox hb; have BKb6 := Aside0.mk hbox; have GE6 := Aside0.mk (bz_ hg HB.out); replace HO0 := Aside0.mk (Kd.R_below HO0.out hb); replace HO1 := Aside0.mk (Kd.R_below HO1.out hb); replace HO2 := Aside0.mk (Kd.R_below HO2.out hb); replace HB := Aside0.mk (below_step HB.out hb); clear hb hbox hg; obtain ⟨hcz0, hcz1, hcz2, hcz3, hcz4⟩ := cz5_ BKb6.out; obtain ⟨hfz0, hfz1, hfz2, hfz3, hfz4⟩ := fz5_ BKb6.out))
 clear hcz0 hcz1 hcz2 hcz3 hcz4 hfz0 hfz1 hfz2 hfz3 hfz4
 have HS : Aside0 (ExS (((((w6.setCell ⟨gb6, 0, none⟩ (.slice Ad L.length cd)).setCell ⟨gb6, 1, none⟩ (.slice Ae V.length ce)).setCell ⟨gb6, 2, none⟩ (.slice Af D.length cf)).setCell ⟨gb6, 3, none⟩ (.int .i64 p)).setCell ⟨gb6, 4, none⟩ (.int .i64 t)) w4.heap.size gb6 (.slice Ad L.length cd) (.slice Ae V.length ce) (.slice Af D.length cf) L V D p t) := ⟨⟨set5_blk BKb6.out (.slice Ad L.length cd) (.slice Ae V.length ce) (.slice Af D.length cf) (.int .i64 p) (.int .i64 t), GE6.out, set5_R HO0.out BKb6.out (by decide) (.slice Ad L.length cd) (.slice Ae V.length ce) (.slice Af D.length cf) (.int .i64 p) (.int .i64 t), set5_R HO1.out BKb6.out (by decide) (.slice Ad L.length cd) (.slice Ae V.length ce) (.slice Af D.length cf) (.int .i64 p) (.int .i64 t), set5_R HO2.out BKb6.out (by decide) (.slice Ad L.length cd) (.slice Ae V.length ce) (.slice Af D.length cf) (.int .i64 p) (.int .i64 t)⟩⟩
 replace HB : Aside0 (Below w4.heap.size w4 (((((w6.setCell ⟨gb6, 0, none⟩ (.slice Ad L.length cd)).setCell ⟨gb6, 1, none⟩ (.slice Ae V.length ce)).setCell ⟨gb6, 2, none⟩ (.slice Af D.length cf)).setCell ⟨gb6, 3, none⟩ (.int .i64 p)).setCell ⟨gb6, 4, none⟩ (.int .i64 t))) := ⟨set5_below HB.out GE6.out (.slice Ad L.length cd) (.slice Ae V.length ce) (.slice Af D.length cf) (.int .i64 p) (.int .i64 t)⟩
 clear HO0 HO1 HO2 BKb6
 generalize (((((w6.setCell ⟨gb6, 0, none⟩ (.slice Ad L.length cd)).setCell ⟨gb6, 1, none⟩ (.slice Ae V.length ce)).setCell ⟨gb6, 2, none⟩ (.slice Af D.length cf)).setCell ⟨gb6, 3, none⟩ (.int .i64 p)).setCell ⟨gb6, 4, none⟩ (.int .i64 t)) = w7 at HS HB ⊢
 obtain ⟨hcz0, hcz1, hcz2, hcz3, hcz4, hcz5, hcz6⟩ := cz7_ (blk_below BKb3.out HB.out)
 go_wp2_with (first | (go_at_call 105; refine (walk_calls gb6 _ _ _ L V D p t a1_0 a1_1 a1_2 a1_3 a1_4 a1_5 a1_6 L' V' D' p' t' true w4 _ HS.out HB.out hwf).mono ?_; rintro e w9 ⟨vL', rfl, hS9, hB9⟩; clear hcz0 hcz1 hcz2 hcz3 hcz4 hcz5 hcz6; obtain ⟨Aa, ca, rfl⟩ := Kd.R_slice hS9.rL; have eV : V.length = V'.length := (Kd.R_reads' hS9.rV).1; have eD : D.length = D'.length := (Kd.R_reads' hS9.rD).1; rw [eV, eD] at hS9; clear eV eD; obtain ⟨hcz0, hcz1, hcz2, hcz3, hcz4⟩ := cz5_ hS9.blk; have HS9 := Aside0.mk hS9; have HB9 := Aside0.mk hB9; clear hS9 hB9) | (go_at_call 18; refine (impl_IsExploration.calls k _ _ L' _ _ V' _ _ D' p' t' false _ (Kd.R_reads' HS9.out.rL).2.2 (Kd.R_reads' HS9.out.rL).2.1 (Kd.R_reads' HS9.out.rV).2.2 (Kd.R_reads' HS9.out.rV).2.1 (Kd.R_reads' HS9.out.rD).2.2 (Kd.R_reads' HS9.out.rD).2.1 hie).mono ?_; rintro e w10 ⟨rfl, hb⟩; clear hcz0 hcz1 hcz2 hcz3 hcz4; replace HS9 := Aside0.mk (HS9.out.below hb); replace HB9 := Aside0.mk (below_step HB9.out hb); clear hb; obtain ⟨hcz0, hcz1, hcz2, hcz3, hcz4⟩ := cz5_ HS9.out.blk; obtain ⟨hdz0, hdz1, hdz2, hdz3, hdz4⟩ := cz5_ (blk_below BKb4.out HB9.out); obtain ⟨hfz0, hfz1, hfz2, hfz3, hfz4⟩ := fz5_ (blk_below BKb4.out HB9.out)))
 refine bodyPost_ret (results_ct rfl _ _ gb4 30 #[(.slice none 0 0), (.slice none 0 0), (.slice none 0 0), (.int .i64 0), (.int .i64 0)] (0, 0) _ rfl (set5_blk (blk_below BKb4.out HB9.out) (.slice none 0 0) (.slice none 0 0) (.slice none 0 0) (.int .i64 0) (.int .i64 0)) Try.underlying30 rfl (by kernel_rfl)) rfl ?_
 exact ⟨_, _, _, rr_, Kd.R_nil _ _ _ _ _, Kd.R_nil _ _ _ _ _, Kd.R_nil _ _ _ _ _, set5_below (below_step HA.out HB9.out) GE4.out (.slice none 0 0) (.slice none 0 0) (.slice none 0 0) (.int .i64 0) (.int .i64 0)⟩
theorem walkOn_c (k : Nat) (A0_0 : Option Addr) (c0_0 : Nat) (l0_0 : List (S37)) (A0_1 : Option Addr) (c0_1 : Nat) (l0_1 : List Bool) (A0_2 : Option Addr) (c0_2 : Nat) (l0_2 : List Bool) (a0_3 : Int) (a0_4 : Int) (a1_0 : Int) (a1_1 : Int) (a1_2 : Int) (a1_3 : Int) (a1_4 : Int) (a1_5 : Int) (a1_6 : Int) (L : List S37) (V D : List Bool) (p t : Int) (L' : List S37) (V' D' : List Bool) (p' t' : Int) (w : World) (hr0_0 : Kd.C k37 w A0_0 l0_0.length l0_0) (hc0_0 : l0_0.length ≤ c0_0) (hr0_1 : Kd.C Kd.bool w A0_1 l0_1.length l0_1) (hc0_1 : l0_1.length ≤ c0_1) (hr0_2 : Kd.C Kd.bool w A0_2 l0_2.length l0_2) (hc0_2 : l0_2.length ≤ c0_2) (hcl : impl_Exploration_clone.f l0_0 l0_1 l0_2 a0_3 a0_4 = some (L, V, D, p, t)) (hwf : walk_f L V D p t a1_0 a1_1 a1_2 a1_3 a1_4 a1_5 a1_6 = some (L', V', D', p', t', true)) (hie : impl_IsExploration.f k L' V' D' p' t' = some true) :
  Calls Try.prog 76 #[.agg #[.slice A0_0 l0_0.length c0_0, .slice A0_1 l0_1.length c0_1, .slice A0_2 l0_2.length c0_2, .int .i64 a0_3, .int .i64 a0_4], .agg #[.int .i64 a1_0, .int .i64 a1_1, .int .i64 a1_2, .int .i64 a1_3, .int .i64 a1_4, .int .i64 a1_5, .int .i64 a1_6]] w fun e w' => ∃ v0_ v1_ v2_ : Value, e = .returned (.tuple #[.agg #[v0_, v1_, v2_, .int .i64 p', .int .i64 t'], .bool true]) ∧ Kd.R k37 37 w' w.heap.size (fun _ => True) v0_ L' ∧ Kd.R Kd.bool 4 w' w.heap.size (fun k_ => some k_ ≠ (v2_ : Value).ownBlock) v1_ V' ∧ Kd.R Kd.bool 4 w' w.heap.size (fun k_ => some k_ ≠ (v1_ : Value).ownBlock) v2_ D' ∧ Below w.heap.size w w' := by
 have hu1 := Try.underlying39
 have hu2 := Try.underlying30
 have HB := Aside0.mk (Below.refl w.heap.size w)
 have HR0 := Aside0.mk hr0_0
 have HC0 := Aside0.mk hc0_0
 have HR1 := Aside0.mk hr0_1
 have HC1 := Aside0.mk hc0_1
 have HR2 := Aside0.mk hr0_2
 have HC2 := Aside0.mk hc0_2
 clear hr0_0 hc0_0 hr0_1 hc0_1 hr0_2 hc0_2
 go_enter Try.func76, Try.ntmps76
 go_upto_region 2 with (first | ((with_reducible refine gate_dst (N := 2) rfl ?_); refine box_event ?hg (N := 2) ?hd (cs := #[.slice A0_0 l0_0.length c0_0, .slice A0_1 l0_1.length c0_1, .slice A0_2 l0_2.length c0_2, .int .i64 a0_3, .int .i64 a0_4]) (t := 30) ?hr ?_; (case hd => rfl); (case hg => rfl); (case hr => first | (go_simp; done) | (go_simp; rfl)); intro gb2 hg w2 hbox hb; have BKb2 := Aside0.mk hbox; replace HB := Aside0.mk (below_step (lb0_ HB.out) hb); clear hb hbox hg) | ((with_reducible refine gate_dst (N := 3) rfl ?_); refine box_event ?hg (N := 3) ?hd (cs := #[.int .i64 a1_0, .int .i64 a1_1, .int .i64 a1_2, .int .i64 a1_3, .int .i64 a1_4, .int .i64 a1_5, .int .i64 a1_6]) (t := 39) ?hr ?_; (case hd => rfl); (case hg => rfl); (case hr => first | (go_simp; done) | (go_simp; rfl)); intro gb3 hg w3 hbox hb; have BKb3 := Aside0.mk hbox; replace BKb2 := Aside0.mk (bb_ BKb2.out hb); replace HB := Aside0.mk (below_step (lb0_ HB.out) hb); clear hb hbox hg) | ((with_reducible refine gate_dst (N := 4) rfl ?_); refine box_event ?hg (N := 4) ?hd (cs := #[.slice none 0 0, .slice none 0 0, .slice none 0 0, .int .i64 0, .int .i64 0]) (t := 30) ?hr ?_; (case hd => rfl); (case hg => rfl); (case hr => first | (go_simp; done) | (go_simp; rfl)); intro gb4 hg w4 hbox hb; have BKb4 := Aside0.mk hbox; have GE4 := Aside0.mk (bz_ hg (lb0_ HB.out)); replace BKb2 := Aside0.mk (bb_ BKb2.out hb); replace BKb3 := Aside0.mk (bb_ BKb3.out hb); have HA := Aside0.mk (below_step (lb0_ HB.out) hb); clear HB hb hbox hg; have HB := Aside0.mk (Below.refl w4.heap.size w4); obtain ⟨hcz0, hcz1, hcz2, hcz3, hcz4⟩ := cz5_ BKb2.out; obtain ⟨hfz0, hfz1, hfz2, hfz3, hfz4⟩ := fz5_ BKb2.out) | ((with_reducible refine gate_callee (f := 83) rfl ?_); refine ga_ (some 8) Try.func83 #[.agg #[.slice A0_0 l0_0.length c0_0, .slice A0_1 l0_1.length c0_1, .slice A0_2 l0_2.length c0_2, .int .i64 a0_3, .int .i64 a0_4]] ?_; refine (impl_Exploration_clone.calls _ _ l0_0 _ _ l0_1 _ _ l0_2 a0_3 a0_4 L V D p t _ (Kd.C_below HR0.out HA.out) HC0.out (Kd.C_below HR1.out HA.out) HC1.out (Kd.C_below HR2.out HA.out) HC2.out hcl).mono ?_; rintro e w5 ⟨v0, v1, v2, rfl, ho0, ho1, ho2, hb⟩; refine ⟨_, rfl, ?_⟩; clear hcz0 hcz1 hcz2 hcz3 hcz4 hfz0 hfz1 hfz2 hfz3 hfz4; obtain ⟨Ad, cd, rfl⟩ := Kd.R_slice ho0; obtain ⟨Ae, ce, rfl⟩ := Kd.R_slice ho1; obtain ⟨Af, cf, rfl⟩ := Kd.R_slice ho2; replace HB := Aside0.mk hb; have HO0 := Aside0.mk ho0; have HO1 := Aside0.mk ho1; have HO2 := Aside0.mk ho2; clear hb ho0 ho1 ho2) | ((with_reducible refine gate_dst (N := 6) rfl ?_); refine box_event ?hg (N := 6) ?hd (cs := #[.slice none 0 0, .slice none 0 0, .slice none 0 0, .int .i64 0, .int .i64 0]) (t := 30) ?hr ?_; (case hd => rfl); (case hg => rfl); (case hr => first | (go_simp; done) | (go_simp; rfl)); intro gb6 hg w6 hbox hb; have BKb6 := Aside0.mk hbox; have GE6 := Aside0.mk (bz_ hg HB.out); replace HO0 := Aside0.mk (Kd.R_below HO0.out hb); replace HO1 := Aside0.mk (Kd.R_below HO1.out hb); replace HO2 := Aside0.mk (Kd.R_below HO2.out hb); replace HB := Aside0.mk (below_step HB.out hb); clear hb hbox hg; obtain ⟨hcz0, hcz1, hcz2, hcz3, hcz4⟩ := cz5_ BKb6.out; obtain ⟨hfz0, hfz1, hfz2, hfz3, hfz4⟩ := fz5_ BKb6.out))
 clear hcz0 hcz1 hcz2 hcz3 hcz4 hfz0 hfz1 hfz2 hfz3 hfz4
 have HS : Aside0 (ExS (((((w6.setCell ⟨gb6, 0, none⟩ (.slice Ad L.length cd)).setCell ⟨gb6, 1, none⟩ (.slice Ae V.length ce)).setCell ⟨gb6, 2, none⟩ (.slice Af D.length cf)).setCell ⟨gb6, 3, none⟩ (.int .i64 p)).setCell ⟨gb6, 4, none⟩ (.int .i64 t)) w4.heap.size gb6 (.slice Ad L.length cd) (.slice Ae V.length ce) (.slice Af D.length cf) L V D p t) := ⟨⟨set5_blk BKb6.out (.slice Ad L.length cd) (.slice Ae V.length ce) (.slice Af D.length cf) (.int .i64 p) (.int .i64 t), GE6.out, set5_R HO0.out BKb6.out (by decide) (.slice Ad L.length cd) (.slice Ae V.length ce) (.slice Af D.length cf) (.int .i64 p) (.int .i64 t), set5_R HO1.out BKb6.out (by decide) (.slice Ad L.length cd) (.slice Ae V.length ce) (.slice Af D.length cf) (.int .i64 p) (.int .i64 t), set5_R HO2.out BKb6.out (by decide) (.slice Ad L.length cd) (.slice Ae V.length ce) (.slice Af D.length cf) (.int .i64 p) (.int .i64 t)⟩⟩
 replace HB : Aside0 (Below w4.heap.size w4 (((((w6.setCell ⟨gb6, 0, none⟩ (.slice Ad L.length cd)).setCell ⟨gb6, 1, none⟩ (.slice Ae V.length ce)).setCell ⟨gb6, 2, none⟩ (.slice Af D.length cf)).setCell ⟨gb6, 3, none⟩ (.int .i64 p)).setCell ⟨gb6, 4, none⟩ (.int .i64 t))) := ⟨set5_below HB.out GE6.out (.slice Ad L.length cd) (.slice Ae V.length ce) (.slice Af D.length cf) (.int .i64 p) (.int .i64 t)⟩
 clear HO0 HO1 HO2 BKb6
 generalize (((((w6.setCell ⟨gb6, 0, none⟩ (.slice Ad L.length cd)).setCell ⟨gb6, 1, none⟩ (.slice Ae V.length ce)).setCell ⟨gb6, 2, none⟩ (.slice Af D.length cf)).setCell ⟨gb6, 3, none⟩ (.int .i64 p)).setCell ⟨gb6, 4, none⟩ (.int .i64 t)) = w7 at HS HB ⊢
 obtain ⟨hcz0, hcz1, hcz2, hcz3, hcz4, hcz5, hcz6⟩ := cz7_ (blk_below BKb3.out HB.out)
 go_wp2_with (first | (go_at_call 105; refine (walk_calls gb6 _ _ _ L V D p t a1_0 a1_1 a1_2 a1_3 a1_4 a1_5 a1_6 L' V' D' p' t' true w4 _ HS.out HB.out hwf).mono ?_; rintro e w9 ⟨vL', rfl, hS9, hB9⟩; clear hcz0 hcz1 hcz2 hcz3 hcz4 hcz5 hcz6; obtain ⟨Aa, ca, rfl⟩ := Kd.R_slice hS9.rL; have eV : V.length = V'.length := (Kd.R_reads' hS9.rV).1; have eD : D.length = D'.length := (Kd.R_reads' hS9.rD).1; rw [eV, eD] at hS9; clear eV eD; obtain ⟨hcz0, hcz1, hcz2, hcz3, hcz4⟩ := cz5_ hS9.blk; have HS9 := Aside0.mk hS9; have HB9 := Aside0.mk hB9; clear hS9 hB9) | (go_at_call 18; refine (impl_IsExploration.calls k _ _ L' _ _ V' _ _ D' p' t' true _ (Kd.R_reads' HS9.out.rL).2.2 (Kd.R_reads' HS9.out.rL).2.1 (Kd.R_reads' HS9.out.rV).2.2 (Kd.R_reads' HS9.out.rV).2.1 (Kd.R_reads' HS9.out.rD).2.2 (Kd.R_reads' HS9.out.rD).2.1 hie).mono ?_; rintro e w10 ⟨rfl, hb⟩; clear hcz0 hcz1 hcz2 hcz3 hcz4; replace HS9 := Aside0.mk (HS9.out.below hb); replace HB9 := Aside0.mk (below_step HB9.out hb); clear hb; obtain ⟨hcz0, hcz1, hcz2, hcz3, hcz4⟩ := cz5_ HS9.out.blk; obtain ⟨hdz0, hdz1, hdz2, hdz3, hdz4⟩ := cz5_ (blk_below BKb4.out HB9.out); obtain ⟨hfz0, hfz1, hfz2, hfz3, hfz4⟩ := fz5_ (blk_below BKb4.out HB9.out)))
 refine bodyPost_ret (results_ct rfl _ _ gb4 30 #[(.slice Aa L'.length ca), (.slice Ae V'.length ce), (.slice Af D'.length cf), (.int .i64 p'), (.int .i64 t')] (0, 0) _ rfl (set5_blk (blk_below BKb4.out HB9.out) (.slice Aa L'.length ca) (.slice Ae V'.length ce) (.slice Af D'.length cf) (.int .i64 p') (.int .i64 t')) Try.underlying30 rfl (by kernel_rfl)) rfl ?_
 exact ⟨_, _, _, rr_, set5_R (Kd.R_lower HS9.out.rL HA.out.size) (blk_below BKb4.out HB9.out) (by decide) (.slice Aa L'.length ca) (.slice Ae V'.length ce) (.slice Af D'.length cf) (.int .i64 p') (.int .i64 t'), set5_R (Kd.R_lower HS9.out.rV HA.out.size) (blk_below BKb4.out HB9.out) (by decide) (.slice Aa L'.length ca) (.slice Ae V'.length ce) (.slice Af D'.length cf) (.int .i64 p') (.int .i64 t'), set5_R (Kd.R_lower HS9.out.rD HA.out.size) (blk_below BKb4.out HB9.out) (by decide) (.slice Aa L'.length ca) (.slice Ae V'.length ce) (.slice Af D'.length cf) (.int .i64 p') (.int .i64 t'), set5_below (below_step HA.out HB9.out) GE4.out (.slice Aa L'.length ca) (.slice Ae V'.length ce) (.slice Af D'.length cf) (.int .i64 p') (.int .i64 t')⟩
theorem impl_walkOn.calls (k : Nat) (A0_0 : Option Addr) (c0_0 : Nat) (l0_0 : List (S37)) (A0_1 : Option Addr) (c0_1 : Nat) (l0_1 : List Bool) (A0_2 : Option Addr) (c0_2 : Nat) (l0_2 : List Bool) (a0_3 : Int) (a0_4 : Int) (a1_0 : Int) (a1_1 : Int) (a1_2 : Int) (a1_3 : Int) (a1_4 : Int) (a1_5 : Int) (a1_6 : Int) (r1 : List (S37)) (r2 : List Bool) (r3 : List Bool) (r4 : Int) (r5 : Int) (r6 : Bool) (w : World) (hr0_0 : Kd.C k37 w A0_0 l0_0.length l0_0) (hc0_0 : l0_0.length ≤ c0_0) (hr0_1 : Kd.C Kd.bool w A0_1 l0_1.length l0_1) (hc0_1 : l0_1.length ≤ c0_1) (hr0_2 : Kd.C Kd.bool w A0_2 l0_2.length l0_2) (hc0_2 : l0_2.length ≤ c0_2) (h : impl_walkOn.f k l0_0 l0_1 l0_2 a0_3 a0_4 a1_0 a1_1 a1_2 a1_3 a1_4 a1_5 a1_6 = some (r1, r2, r3, r4, r5, r6)) :
  Calls Try.prog 76 #[.agg #[.slice A0_0 l0_0.length c0_0, .slice A0_1 l0_1.length c0_1, .slice A0_2 l0_2.length c0_2, .int .i64 a0_3, .int .i64 a0_4], .agg #[.int .i64 a1_0, .int .i64 a1_1, .int .i64 a1_2, .int .i64 a1_3, .int .i64 a1_4, .int .i64 a1_5, .int .i64 a1_6]] w fun e w' => ∃ v0_ v1_ v2_ : Value, e = .returned (.tuple #[.agg #[v0_, v1_, v2_, .int .i64 r4, .int .i64 r5], .bool r6]) ∧ Kd.R k37 37 w' w.heap.size (fun _ => True) v0_ r1 ∧ Kd.R Kd.bool 4 w' w.heap.size (fun k_ => some k_ ≠ (v2_ : Value).ownBlock) v1_ r2 ∧ Kd.R Kd.bool 4 w' w.heap.size (fun k_ => some k_ ≠ (v1_ : Value).ownBlock) v2_ r3 ∧ Below w.heap.size w w' := by
 unfold impl_walkOn.f at h
 obtain ⟨⟨L, V, D, p, t⟩, hcl, h⟩ := Option.bind_eq_some_iff.mp h
 obtain ⟨⟨L', V', D', p', t', b⟩, hwf, h⟩ := Option.bind_eq_some_iff.mp h
 cases b with
 | false =>
  simp only [Bool.false_eq_true, if_false, Option.some.injEq, Prod.mk.injEq] at h
  obtain ⟨rfl, rfl, rfl, rfl, rfl, rfl⟩ := h
  exact walkOn_a k A0_0 c0_0 l0_0 A0_1 c0_1 l0_1 A0_2 c0_2 l0_2 a0_3 a0_4 a1_0 a1_1 a1_2 a1_3 a1_4 a1_5 a1_6 L V D p t L' V' D' p' t' w hr0_0 hc0_0 hr0_1 hc0_1 hr0_2 hc0_2 hcl hwf
 | true =>
  simp only [if_true] at h
  obtain ⟨q, hie, h⟩ := Option.bind_eq_some_iff.mp h
  cases q with
  | false =>
   simp only [Bool.false_eq_true, if_false, Option.some.injEq, Prod.mk.injEq] at h
   obtain ⟨rfl, rfl, rfl, rfl, rfl, rfl⟩ := h
   exact walkOn_b k A0_0 c0_0 l0_0 A0_1 c0_1 l0_1 A0_2 c0_2 l0_2 a0_3 a0_4 a1_0 a1_1 a1_2 a1_3 a1_4 a1_5 a1_6 L V D p t L' V' D' p' t' w hr0_0 hc0_0 hr0_1 hc0_1 hr0_2 hc0_2 hcl hwf hie
  | true =>
   simp only [if_true, Option.some.injEq, Prod.mk.injEq] at h
   obtain ⟨rfl, rfl, rfl, rfl, rfl, rfl⟩ := h
   exact walkOn_c k A0_0 c0_0 l0_0 A0_1 c0_1 l0_1 A0_2 c0_2 l0_2 a0_3 a0_4 a1_0 a1_1 a1_2 a1_3 a1_4 a1_5 a1_6 L V D p t L' V' D' p' t' w hr0_0 hc0_0 hr0_1 hc0_1 hr0_2 hc0_2 hcl hwf hie
def impl_NextLegs.l0 : Nat → List Int → Int → Int → List (S37) → List Bool → List Bool → Int → Int → Option (List Int × Bool)
 | 0, _, _, _, _, _, _, _, _ => none
 | k + 1, x4, x13, x14, x1378000, x1378001, x1378002, x1378003, x1378004 => if x14 < x13 then ((impl_walkOn.f k x1378000 x1378001 x1378002 x1378003 x1378004 1 x14 0 0 0 0 0).bind fun bt1379 => (if bt1379.2.2.2.2.2 = true then (if x4.length < 17592186044416 then (impl_NextLegs.l0 k (x4 ++ [x14]) x13 (wrap64 (x14 + 1)) x1378000 x1378001 x1378002 x1378003 x1378004) else (none)) else (impl_NextLegs.l0 k x4 x13 (wrap64 (x14 + 1)) x1378000 x1378001 x1378002 x1378003 x1378004))) else (some (x4, true))
def impl_NextLegs.f (k : Nat) (l0_0 : List (S37)) (l0_1 : List Bool) (l0_2 : List Bool) (a0_3 : Int) (a0_4 : Int) : Option (List Int × Bool) := (impl_IsExploration.f k l0_0 l0_1 l0_2 a0_3 a0_4).bind fun t1378 => (if t1378 = true then (impl_NextLegs.l0 k ([] : List Int) (l0_0.length : Int) 0 l0_0 l0_1 l0_2 a0_3 a0_4) else (some (([] : List Int), false)))
theorem impl_NextLegs.mono_l : ∀ k, (∀ y0 y1 y2 y3 y4 y5 y6 y7, LeO (impl_NextLegs.l0 k y0 y1 y2 y3 y4 y5 y6 y7) (impl_NextLegs.l0 (k + 1) y0 y1 y2 y3 y4 y5 y6 y7))
 | 0 => fun _ _ _ _ _ _ _ _ r h => by simp [impl_NextLegs.l0] at h
 | k + 1 => by
  have ih0 := impl_NextLegs.mono_l k
  ·
   intro y0 y1 y2 y3 y4 y5 y6 y7
   unfold impl_NextLegs.l0
   repeat' first
   | (with_reducible exact ih0 _ _ _ _ _ _ _ _)
   | (with_reducible exact impl_IsExploration.mono _ _ _ _ _ _)
   | (with_reducible exact impl_walkOn.mono _ _ _ _ _ _ _ _ _ _ _ _ _)
   | (with_reducible exact LeO.refl _)
   | (with_reducible exact LeO.none _)
   | (with_reducible refine LeO.ite ?_ ?_)
   | (with_reducible refine LeO.bind ?_ (fun _ => ?_))
   | exact ih0 _ _ _ _ _ _ _ _
   | exact impl_IsExploration.mono _ _ _ _ _ _
   | exact impl_walkOn.mono _ _ _ _ _ _ _ _ _ _ _ _ _
   | exact LeO.none _
   | refine LeO.ite ?_ ?_
   | refine LeO.bind ?_ (fun _ => ?_)
theorem impl_NextLegs.mono : ∀ a0 a1 a2 a3 a4 k, LeO (impl_NextLegs.f k a0 a1 a2 a3 a4) (impl_NextLegs.f (k + 1) a0 a1 a2 a3 a4) := by
 intro a0 a1 a2 a3 a4 k
 have ih0 := impl_NextLegs.mono_l k
 unfold impl_NextLegs.f
 repeat' first
   | (with_reducible exact ih0 _ _ _ _ _ _ _ _)
   | (with_reducible exact impl_IsExploration.mono _ _ _ _ _ _)
   | (with_reducible exact impl_walkOn.mono _ _ _ _ _ _ _ _ _ _ _ _ _)
   | (with_reducible exact LeO.refl _)
   | (with_reducible exact LeO.none _)
   | (with_reducible refine LeO.ite ?_ ?_)
   | (with_reducible refine LeO.bind ?_ (fun _ => ?_))
   | exact ih0 _ _ _ _ _ _ _ _
   | exact impl_IsExploration.mono _ _ _ _ _ _
   | exact impl_walkOn.mono _ _ _ _ _ _ _ _ _ _ _ _ _
   | exact LeO.none _
   | refine LeO.ite ?_ ?_
   | refine LeO.bind ?_ (fun _ => ?_)
theorem impl_NextLegs.calls (k : Nat) (A0_0 : Option Addr) (c0_0 : Nat) (l0_0 : List (S37)) (A0_1 : Option Addr) (c0_1 : Nat) (l0_1 : List Bool) (A0_2 : Option Addr) (c0_2 : Nat) (l0_2 : List Bool) (a0_3 : Int) (a0_4 : Int) (r1 : List Int) (r2 : Bool) (w : World) (hr0_0 : Kd.C k37 w A0_0 l0_0.length l0_0) (hc0_0 : l0_0.length ≤ c0_0) (hr0_1 : Kd.C Kd.bool w A0_1 l0_1.length l0_1) (hc0_1 : l0_1.length ≤ c0_1) (hr0_2 : Kd.C Kd.bool w A0_2 l0_2.length l0_2) (hc0_2 : l0_2.length ≤ c0_2) (h : impl_NextLegs.f k l0_0 l0_1 l0_2 a0_3 a0_4 = some (r1, r2)) :
  Calls Try.prog 49 #[.agg #[.slice A0_0 l0_0.length c0_0, .slice A0_1 l0_1.length c0_1, .slice A0_2 l0_2.length c0_2, .int .i64 a0_3, .int .i64 a0_4]] w fun e w' => ∃ v0_ : Value, e = .returned (.tuple #[v0_, .bool r2]) ∧ Kd.R (Kd.int .i64) 3 w' w.heap.size (fun _ => True) v0_ r1 ∧ Below w.heap.size w w' := by
 have hu30 := Try.underlying30
 have hu39 := Try.underlying39
 have HR0_0 := Aside0.mk hr0_0
 have HC0_0 := Aside0.mk hc0_0
 clear hr0_0 hc0_0
 have HR0_1 := Aside0.mk hr0_1
 have HC0_1 := Aside0.mk hc0_1
 clear hr0_1 hc0_1
 have HR0_2 := Aside0.mk hr0_2
 have HC0_2 := Aside0.mk hc0_2
 clear hr0_2 hc0_2
 have HB := Aside0.mk (Below.refl w.heap.size w)
 have H : ((impl_IsExploration.f k l0_0 l0_1 l0_2 a0_3 a0_4).bind fun t1378 => (if t1378 = true then (impl_NextLegs.l0 k ([] : List Int) (l0_0.length : Int) 0 l0_0 l0_1 l0_2 a0_3 a0_4) else (some (([] : List Int), false)))) = some (r1, r2) := h
 clear h
 replace H := Option.bind_eq_some_iff.mp H
 obtain ⟨t1378, A20, H⟩ := H
 replace H : (if t1378 = true then (impl_NextLegs.l0 k ([] : List Int) (l0_0.length : Int) 0 l0_0 l0_1 l0_2 a0_3 a0_4) else (some (([] : List Int), false))) = some (r1, r2) := H
 have A2 := Aside0.mk A20
 clear A20
 by_cases c3 : t1378 = true
 ·
  subst c3
  have H1 : (impl_NextLegs.l0 k ([] : List Int) (l0_0.length : Int) 0 l0_0 l0_1 l0_2 a0_3 a0_4) = some (r1, r2) := by rw [if_pos rfl] at H; exact H
  clear H
  have H := H1
  clear H1
  have H' := Aside0.mk H
  clear H
  go_enter Try.func49, Try.ntmps49
  go_wp2_with (first | ((with_reducible refine gate_dst (N := 1) rfl ?_); refine box_event ?hg (N := 1) ?hd (cs := #[.slice A0_0 l0_0.length c0_0, .slice A0_1 l0_1.length c0_1, .slice A0_2 l0_2.length c0_2, .int .i64 a0_3, .int .i64 a0_4]) (t := 30) ?hr ?_; (case hd => rfl); (case hg => rfl); (case hr => first | (go_simp; done) | (go_simp; rfl)); intro gb1377 hg w4 hbox hb; have BK1377 := Aside0.mk (hbox); have GW1377 := Aside0.mk ((bz_ hg (lb0_ HB.out))); have GE1377 := Aside0.mk ((bz_ hg (lb0_ HB.out))); replace HB := Aside0.mk (below_step (lb0_ HB.out) hb); clear hb hbox hg; obtain ⟨hcz5_0, hcz5_1, hcz5_2, hcz5_3, hcz5_4⟩ := cz5_ BK1377.out; obtain ⟨hfz5_0, hfz5_1, hfz5_2, hfz5_3, hfz5_4⟩ := fz5_ BK1377.out) | ((with_reducible refine gate_callee (f := 18) rfl ?_); refine ga_ (some 9) Try.func18 #[.agg #[.slice A0_0 l0_0.length c0_0, .slice A0_1 l0_1.length c0_1, .slice A0_2 l0_2.length c0_2, .int .i64 a0_3, .int .i64 a0_4]] ?_; (with_reducible refine (impl_IsExploration.calls k _ _ l0_0 _ _ l0_1 _ _ l0_2 a0_3 a0_4 true _ ?side1 ?side2 ?side3 ?side4 ?side5 ?side6 A2.out).mono ?_); (case side1 => exact kc_ (Kd.C_below HR0_0.out HB.out)); (case side2 => exact HC0_0.out); (case side3 => exact kc_ (Kd.C_below HR0_1.out HB.out)); (case side4 => exact HC0_1.out); (case side5 => exact kc_ (Kd.C_below HR0_2.out HB.out)); (case side6 => exact HC0_2.out); rintro e w6 ⟨rfl, hb⟩; refine ⟨_, rfl, ?_⟩; replace BK1377 := Aside0.mk (bb_ (bk_ BK1377.out) hb); replace HB := Aside0.mk (below_step (lb1_ HB.out GE1377.out) hb); (try clear hb); (try clear hb2); (try clear hk); (try clear hi); obtain ⟨hcz7_0, hcz7_1, hcz7_2, hcz7_3, hcz7_4⟩ := cz5_ BK1377.out; obtain ⟨hfz7_0, hfz7_1, hfz7_2, hfz7_3, hfz7_4⟩ := fz5_ BK1377.out))
  go_loopg [4, 14] k (fun kq v4 v14 w' => ∃ (x4_1 : List Int) (x14_1 : Int), v14 = .int .i64 x14_1 ∧ Aside0 (impl_NextLegs.l0 kq x4_1 (l0_0.length : Int) x14_1 l0_0 l0_1 l0_2 a0_3 a0_4 = some (r1, r2)) ∧ Aside0 (kq ≤ k) ∧ Aside0 (Kd.R (Kd.int .i64) 3 w' w.heap.size (fun _ => True) v4 x4_1) ∧ Aside0 (w'.heap[gb1377]? = some (.cells #[(.slice A0_0 l0_0.length c0_0), (.slice A0_1 l0_1.length c0_1), (.slice A0_2 l0_2.length c0_2), .int .i64 a0_3, .int .i64 a0_4] 30 (0, 0))) ∧ Aside0 (Below w.heap.size w w'))
  case atStart => exact ⟨(([] : List Int)), (0), (by first | rfl | (simp; done) | (simp [*]; done)), H', ⟨Nat.le_refl _⟩, ⟨by first | exact Kd.R_nil _ _ _ _ _ | exact Kd.N_nil _ _ _ _ _ | exact Kd.V_nil _ _ _ _ _ | exact Kd.Q_nil _ _ _ _ _ | exact Kd.S_nil _ _ _ _ _⟩, ⟨bk_ BK1377.out⟩, ⟨lb1_ HB.out GE1377.out⟩⟩
  case round =>
   clear H'
   try clear c1
   try clear p2
   try clear c3
   try clear c4
   try clear hcz5_0 hcz5_1 hcz5_2 hcz5_3 hcz5_4
   try clear hcz7_0 hcz7_1 hcz7_2 hcz7_3 hcz7_4
   try clear hfz5_0 hfz5_1 hfz5_2 hfz5_3 hfz5_4
   try clear hfz7_0 hfz7_1 hfz7_2 hfz7_3 hfz7_4
   obtain ⟨x4_1, x14_1, rfl, HA, HK1, HO_4, BK1377, HB⟩ := hrel
   cases gk with
   | zero => exact absurd HA.out (by simp [impl_NextLegs.l0])
   | succ k1 =>
    have H := HA.out
    clear HA
    simp only [impl_NextLegs.l0] at H
    by_cases c8 : x14_1 < (l0_0.length : Int)
    ·
     rw [if_pos c8] at H
     have c8b0 : decide (x14_1 < (l0_0.length : Int)) = true := decide_eq_true c8
     clear c8
     replace H := Option.bind_eq_some_iff.mp H
     obtain ⟨⟨t1379, t1382, t1385, t1388, t1389, t1390⟩, A90, H⟩ := H
     replace H : (if t1390 = true then (if x4_1.length < 17592186044416 then (impl_NextLegs.l0 k1 (x4_1 ++ [x14_1]) (l0_0.length : Int) (wrap64 (x14_1 + 1)) l0_0 l0_1 l0_2 a0_3 a0_4) else (none)) else (impl_NextLegs.l0 k1 x4_1 (l0_0.length : Int) (wrap64 (x14_1 + 1)) l0_0 l0_1 l0_2 a0_3 a0_4)) = some (r1, r2) := H
     have A9 := Aside0.mk A90
     clear A90
     by_cases c10 : t1390 = true
     ·
      subst c10
      have H1 : (if x4_1.length < 17592186044416 then (impl_NextLegs.l0 k1 (x4_1 ++ [x14_1]) (l0_0.length : Int) (wrap64 (x14_1 + 1)) l0_0 l0_1 l0_2 a0_3 a0_4) else (none)) = some (r1, r2) := by rw [if_pos rfl] at H; exact H
      clear H
      have H := H1
      clear H1
      by_cases c11 : x4_1.length < 17592186044416
      ·
       rw [if_pos c11] at H
       have LMc11 := Aside0.mk c11
       clear c11
       obtain ⟨y1392, hy1392⟩ : ∃ y_ : List Int, y_ = (x4_1 ++ [x14_1]) := ⟨_, rfl⟩
       replace H : (impl_NextLegs.l0 k1 y1392 (l0_0.length : Int) (wrap64 (x14_1 + 1)) l0_0 l0_1 l0_2 a0_3 a0_4) = some (r1, r2) := by first | (rw [hy1392]; with_reducible exact H) | (have H2_ := (Option.bind_some _ _).symm.trans H; rw [hy1392]; with_reducible exact H2_) | (have H2_ := (Option.bind_some _ _).symm.trans H; with_reducible exact H2_) | with_reducible exact H | (rw [hy1392]; exact H) | exact H
       have Ny1392 := Aside0.mk hy1392
       clear hy1392
       have H' := Aside0.mk H
       clear H
       obtain ⟨hcz12_0, hcz12_1, hcz12_2, hcz12_3, hcz12_4⟩ := cz5_ BK1377.out
       obtain ⟨hfz12_0, hfz12_1, hfz12_2, hfz12_3, hfz12_4⟩ := fz5_ BK1377.out
       go_wp2_with (first | ((with_reducible refine gate_callee (f := 76) rfl ?_); refine ga_ (some 21) Try.func76 #[.agg #[.slice A0_0 l0_0.length c0_0, .slice A0_1 l0_1.length c0_1, .slice A0_2 l0_2.length c0_2, .int .i64 a0_3, .int .i64 a0_4], .agg #[.int .i64 1, .int .i64 x14_1, .int .i64 0, .int .i64 0, .int .i64 0, .int .i64 0, .int .i64 0]] ?_; (with_reducible refine (impl_walkOn.calls k1 _ _ l0_0 _ _ l0_1 _ _ l0_2 a0_3 a0_4 1 x14_1 0 0 0 0 0 t1379 t1382 t1385 t1388 t1389 true _ ?side1 ?side2 ?side3 ?side4 ?side5 ?side6 A9.out).mono ?_); (case side1 => exact kc_ (Kd.C_below HR0_0.out HB.out)); (case side2 => exact HC0_0.out); (case side3 => exact kc_ (Kd.C_below HR0_1.out HB.out)); (case side4 => exact HC0_1.out); (case side5 => exact kc_ (Kd.C_below HR0_2.out HB.out)); (case side6 => exact HC0_2.out); rintro e w13 ⟨v1380, v1383, v1386, rfl, ho0, ho1, ho2, hb⟩; refine ⟨_, rfl, ?_⟩; replace HO_4 := Aside0.mk (Kd.R_below (kr_ HO_4.out) hb); have HO1381 := Aside0.mk (Kd.R_lower ho0 (below_size (lb1_ HB.out GE1377.out))); have HO1384 := Aside0.mk (Kd.R_lower ho1 (below_size (lb1_ HB.out GE1377.out))); have HO1387 := Aside0.mk (Kd.R_lower ho2 (below_size (lb1_ HB.out GE1377.out))); replace BK1377 := Aside0.mk (bb_ (bk_ BK1377.out) hb); replace HB := Aside0.mk (below_step (lb1_ HB.out GE1377.out) hb); (try clear hb); (try clear hb2); (try clear hk); (try clear hi); (try clear ho0); (try clear ho1); (try clear ho2)) | ((with_reducible refine gate_dst (N := 6) rfl ?_); refine box_event ?hg (N := 6) ?hd (cs := #[.slice none 0 0, .slice none 0 0, .slice none 0 0, .int .i64 0, .int .i64 0]) (t := 30) ?hr ?_; (case hd => rfl); (case hg => rfl); (case hr => first | (go_simp; done) | (go_simp; rfl)); intro gb1391 hg w14 hbox hb; replace HO_4 := Aside0.mk (Kd.R_below (kr_ HO_4.out) hb); replace HO1381 := Aside0.mk (Kd.R_below (kr_ HO1381.out) hb); replace HO1384 := Aside0.mk (Kd.R_below (kr_ HO1384.out) hb); replace HO1387 := Aside0.mk (Kd.R_below (kr_ HO1387.out) hb); have BK1391 := Aside0.mk (hbox); have GW1391 := Aside0.mk ((bz_ hg (lb1_ HB.out GE1377.out))); have GE1391 := Aside0.mk ((bz_ hg (lb1_ HB.out GE1377.out))); replace HB := Aside0.mk (below_step (lb1_ HB.out GE1377.out) hb); have NB1377_1391 := Aside0.mk (nl_ hg BK1377.out); have NB1391_1377 := Aside0.mk (ng_ hg BK1377.out); replace BK1377 := Aside0.mk (bb_ (bk_ BK1377.out) hb); clear hb hbox hg; obtain ⟨Ao15, co15, eo15⟩ := Kd.R_slice HO1381.out; subst eo15; have hnb16 := NB1391_1377.out; have hnc16 := NB1377_1391.out; obtain ⟨hcz17_0, hcz17_1, hcz17_2, hcz17_3, hcz17_4⟩ := cz5_ BK1391.out; obtain ⟨hfz17_0, hfz17_1, hfz17_2, hfz17_3, hfz17_4⟩ := fz5_ BK1391.out; obtain ⟨Ao18, co18, eo18⟩ := Kd.R_slice HO1384.out; subst eo18; obtain ⟨Ao19, co19, eo19⟩ := Kd.R_slice HO1387.out; subst eo19) | ((with_reducible refine gate_builtin (b := .append) (xs := #[.tmp 25, .tmp 27]) rfl ?_); at_builtin; refine Kd.R_append (Kd.int .i64) (w0 := w) w.heap.size rfl (.tmp 25) (.tmp 27) 60 3 (.int .i64 0) 8 rfl Try.underlying60 info3 rfl (by decide) (by omega) u4 x4_1 x14_1 [.int .i64 x14_1] (fun _ => True) (fun _ => False) rfl (by first | (go_simp; done) | (go_simp; rfl)) ?aP (fun _ hk => hk.elim) ?aF ?aO ?aB ?aS ?aL ?_; (case aP => exact rfl); (case aB => exact (lb2_ HB.out GE1377.out GE1391.out)); (case aF => exact (fun _ _ => trivial)); (case aO => exact (by (with_reducible repeat (first | apply Kd.R_alloc | apply Kd.R_drewN | apply Kd.R_drew)); exact Kd.R_mono (r5_ HO_4.out BK1391.out (by decide) _ _ _ _ _) (fun _ hk => trivial))); (case aS => exact (below_size (lb2_ HB.out GE1377.out GE1391.out))); (case aL => have := LMc11.out; omega); intro v1393 w20 ho hb hg hat; rw [← Ny1392.out] at ho; replace BK1377 := Aside0.mk (blk_grown (g := gb1377) (o := .cells #[.slice A0_0 l0_0.length c0_0, .slice A0_1 l0_1.length c0_1, .slice A0_2 l0_2.length c0_2, .int .i64 a0_3, .int .i64 a0_4] 30 (0, 0)) (by (with_reducible repeat (first | refine blk_drewN ?_ _ | refine blk_drew ?_ | refine blk_alloc ?_ _)); exact (f5_ BK1377.out NB1377_1391.out _ _ _ _ _)) hg (Kd.R_ne HO_4.out BK1377.out (by decide))); replace HO1381 := Aside0.mk (Kd.R_over' (kg_ HO1381.out BK1391.out) (Kd.R_typed (kg_ HO_4.out BK1391.out)) (by decide) hg); replace HO1384 := Aside0.mk (Kd.R_over' (kg_ HO1384.out BK1391.out) (Kd.R_typed (kg_ HO_4.out BK1391.out)) (by decide) hg); replace HO1387 := Aside0.mk (Kd.R_over' (kg_ HO1387.out BK1391.out) (Kd.R_typed (kg_ HO_4.out BK1391.out)) (by decide) hg); replace BK1391 := Aside0.mk (blk_grown (g := gb1391) (o := .cells #[.slice Ao15 t1379.length co15, .slice Ao18 t1382.length co18, .slice Ao19 t1385.length co19, .int .i64 t1388, .int .i64 t1389] 30 (0, 0)) (by (with_reducible repeat (first | refine blk_drewN ?_ _ | refine blk_drew ?_ | refine blk_alloc ?_ _)); exact (p5_ BK1391.out _ _ _ _ _)) hg (Kd.R_ne HO_4.out BK1391.out (by decide))); replace HB := Aside0.mk (hb); have HO1394 := Aside0.mk (ho); clear HO_4; clear ho hb hg hat))
       go_roundg k1
       case measure => have := HK1.out; omega
       case rel => exact ⟨(y1392), (wrap64 (x14_1 + 1)), (by first | rfl | (simp; done) | (simp [*]; done)), H', ⟨by have := HK1.out; omega⟩, ⟨kr_ HO1394.out⟩, ⟨bk_ BK1377.out⟩, ⟨lb2_ HB.out GE1377.out GE1391.out⟩⟩
      ·
       rw [if_neg c11] at H
       exact absurd H (by simp)
     ·
      replace c10 := Bool.eq_false_iff.mpr c10
      subst c10
      have H1 : (impl_NextLegs.l0 k1 x4_1 (l0_0.length : Int) (wrap64 (x14_1 + 1)) l0_0 l0_1 l0_2 a0_3 a0_4) = some (r1, r2) := by rw [if_neg (show ¬ (false = true) by decide)] at H; exact H
      clear H
      have H := H1
      clear H1
      have H' := Aside0.mk H
      clear H
      obtain ⟨hcz21_0, hcz21_1, hcz21_2, hcz21_3, hcz21_4⟩ := cz5_ BK1377.out
      obtain ⟨hfz21_0, hfz21_1, hfz21_2, hfz21_3, hfz21_4⟩ := fz5_ BK1377.out
      go_wp2_with (first | ((with_reducible refine gate_callee (f := 76) rfl ?_); refine ga_ (some 21) Try.func76 #[.agg #[.slice A0_0 l0_0.length c0_0, .slice A0_1 l0_1.length c0_1, .slice A0_2 l0_2.length c0_2, .int .i64 a0_3, .int .i64 a0_4], .agg #[.int .i64 1, .int .i64 x14_1, .int .i64 0, .int .i64 0, .int .i64 0, .int .i64 0, .int .i64 0]] ?_; (with_reducible refine (impl_walkOn.calls k1 _ _ l0_0 _ _ l0_1 _ _ l0_2 a0_3 a0_4 1 x14_1 0 0 0 0 0 t1379 t1382 t1385 t1388 t1389 false _ ?side1 ?side2 ?side3 ?side4 ?side5 ?side6 A9.out).mono ?_); (case side1 => exact kc_ (Kd.C_below HR0_0.out HB.out)); (case side2 => exact HC0_0.out); (case side3 => exact kc_ (Kd.C_below HR0_1.out HB.out)); (case side4 => exact HC0_1.out); (case side5 => exact kc_ (Kd.C_below HR0_2.out HB.out)); (case side6 => exact HC0_2.out); rintro e w22 ⟨v1380, v1383, v1386, rfl, ho0, ho1, ho2, hb⟩; refine ⟨_, rfl, ?_⟩; replace HO_4 := Aside0.mk (Kd.R_below (kr_ HO_4.out) hb); have HO1381 := Aside0.mk (Kd.R_lower ho0 (below_size (lb1_ HB.out GE1377.out))); have HO1384 := Aside0.mk (Kd.R_lower ho1 (below_size (lb1_ HB.out GE1377.out))); have HO1387 := Aside0.mk (Kd.R_lower ho2 (below_size (lb1_ HB.out GE1377.out))); replace BK1377 := Aside0.mk (bb_ (bk_ BK1377.out) hb); replace HB := Aside0.mk (below_step (lb1_ HB.out GE1377.out) hb); (try clear hb); (try clear hb2); (try clear hk); (try clear hi); (try clear ho0); (try clear ho1); (try clear ho2)) | ((with_reducible refine gate_dst (N := 6) rfl ?_); refine box_event ?hg (N := 6) ?hd (cs := #[.slice none 0 0, .slice none 0 0, .slice none 0 0, .int .i64 0, .int .i64 0]) (t := 30) ?hr ?_; (case hd => rfl); (case hg => rfl); (case hr => first | (go_simp; done) | (go_simp; rfl)); intro gb1391 hg w23 hbox hb; replace HO_4 := Aside0.mk (Kd.R_below (kr_ HO_4.out) hb); replace HO1381 := Aside0.mk (Kd.R_below (kr_ HO1381.out) hb); replace HO1384 := Aside0.mk (Kd.R_below (kr_ HO1384.out) hb); replace HO1387 := Aside0.mk (Kd.R_below (kr_ HO1387.out) hb); have BK1391 := Aside0.mk (hbox); have GW1391 := Aside0.mk ((bz_ hg (lb1_ HB.out GE1377.out))); have GE1391 := Aside0.mk ((bz_ hg (lb1_ HB.out GE1377.out))); replace HB := Aside0.mk (below_step (lb1_ HB.out GE1377.out) hb); have NB1377_1391 := Aside0.mk (nl_ hg BK1377.out); have NB1391_1377 := Aside0.mk (ng_ hg BK1377.out); replace BK1377 := Aside0.mk (bb_ (bk_ BK1377.out) hb); clear hb hbox hg; obtain ⟨Ao24, co24, eo24⟩ := Kd.R_slice HO1381.out; subst eo24; have hnb25 := NB1391_1377.out; have hnc25 := NB1377_1391.out; obtain ⟨hcz26_0, hcz26_1, hcz26_2, hcz26_3, hcz26_4⟩ := cz5_ BK1391.out; obtain ⟨hfz26_0, hfz26_1, hfz26_2, hfz26_3, hfz26_4⟩ := fz5_ BK1391.out; obtain ⟨Ao27, co27, eo27⟩ := Kd.R_slice HO1384.out; subst eo27; obtain ⟨Ao28, co28, eo28⟩ := Kd.R_slice HO1387.out; subst eo28))
      go_roundg k1
      case measure => have := HK1.out; omega
      case rel => exact ⟨(x4_1), (wrap64 (x14_1 + 1)), (by first | rfl | (simp; done) | (simp [*]; done)), H', ⟨by have := HK1.out; omega⟩, ⟨by (with_reducible repeat (first | apply Kd.R_alloc | apply Kd.R_drewN | apply Kd.R_drew)); exact Kd.R_mono (r5_ HO_4.out BK1391.out (by decide) _ _ _ _ _) (fun _ hk => trivial)⟩, ⟨by (with_reducible repeat (first | refine blk_drewN ?_ _ | refine blk_drew ?_ | refine blk_alloc ?_ _)); exact (f5_ BK1377.out NB1377_1391.out _ _ _ _ _)⟩, ⟨lb2_ HB.out GE1377.out GE1391.out⟩⟩
    ·
     rw [if_neg c8] at H
     have c8b0 : decide (x14_1 < (l0_0.length : Int)) = false := decide_eq_false c8
     clear c8
     simp only [Option.some.injEq, Prod.mk.injEq] at H
     obtain ⟨rfl, rfl⟩ := H
     go_wp2
     go_ret2
     exact ⟨_, rr_, kr_ HO_4.out, lb1_ HB.out GE1377.out⟩
 ·
  replace c3 := Bool.eq_false_iff.mpr c3
  subst c3
  have H1 : (some (([] : List Int), false)) = some (r1, r2) := by rw [if_neg (show ¬ (false = true) by decide)] at H; exact H
  clear H
  have H := H1
  clear H1
  simp only [Option.some.injEq, Prod.mk.injEq] at H
  obtain ⟨rfl, rfl⟩ := H
  go_enter Try.func49, Try.ntmps49
  go_wp2_with (first | ((with_reducible refine gate_dst (N := 1) rfl ?_); refine box_event ?hg (N := 1) ?hd (cs := #[.slice A0_0 l0_0.length c0_0, .slice A0_1 l0_1.length c0_1, .slice A0_2 l0_2.length c0_2, .int .i64 a0_3, .int .i64 a0_4]) (t := 30) ?hr ?_; (case hd => rfl); (case hg => rfl); (case hr => first | (go_simp; done) | (go_simp; rfl)); intro gb1377 hg w29 hbox hb; have BK1377 := Aside0.mk (hbox); have GW1377 := Aside0.mk ((bz_ hg (lb0_ HB.out))); have GE1377 := Aside0.mk ((bz_ hg (lb0_ HB.out))); replace HB := Aside0.mk (below_step (lb0_ HB.out) hb); clear hb hbox hg; obtain ⟨hcz30_0, hcz30_1, hcz30_2, hcz30_3, hcz30_4⟩ := cz5_ BK1377.out; obtain ⟨hfz30_0, hfz30_1, hfz30_2, hfz30_3, hfz30_4⟩ := fz5_ BK1377.out) | ((with_reducible refine gate_callee (f := 18) rfl ?_); refine ga_ (some 9) Try.func18 #[.agg #[.slice A0_0 l0_0.length c0_0, .slice A0_1 l0_1.length c0_1, .slice A0_2 l0_2.length c0_2, .int .i64 a0_3, .int .i64 a0_4]] ?_; (with_reducible refine (impl_IsExploration.calls k _ _ l0_0 _ _ l0_1 _ _ l0_2 a0_3 a0_4 false _ ?side1 ?side2 ?side3 ?side4 ?side5 ?side6 A2.out).mono ?_); (case side1 => exact kc_ (Kd.C_below HR0_0.out HB.out)); (case side2 => exact HC0_0.out); (case side3 => exact kc_ (Kd.C_below HR0_1.out HB.out)); (case side4 => exact HC0_1.out); (case side5 => exact kc_ (Kd.C_below HR0_2.out HB.out)); (case side6 => exact HC0_2.out); rintro e w31 ⟨rfl, hb⟩; refine ⟨_, rfl, ?_⟩; replace BK1377 := Aside0.mk (bb_ (bk_ BK1377.out) hb); replace HB := Aside0.mk (below_step (lb1_ HB.out GE1377.out) hb); (try clear hb); (try clear hb2); (try clear hk); (try clear hi)))
  go_ret2
  exact ⟨_, rr_, by first | exact Kd.R_nil _ _ _ _ _ | exact Kd.N_nil _ _ _ _ _ | exact Kd.V_nil _ _ _ _ _ | exact Kd.Q_nil _ _ _ _ _ | exact Kd.S_nil _ _ _ _ _, lb1_ HB.out GE1377.out⟩
mutual
def laws_FnExactNextLegs.j0 : Nat → List Int → Bool → List Int → Bool → Bool → List (S65) → List Bool → List Bool → Int → Int → List (S37) → List Bool → List Bool → Int → Int → Option (Bool)
 | 0, _, _, _, _, _, _, _, _, _, _, _, _, _, _, _ => none
 | k + 1, x4, x5, x7, x8, x40, x1396000, x1396001, x1396002, x1396003, x1396004, x1424000, x1424001, x1424002, x1424003, x1424004 => if x40 = true then (none) else ((laws_toExploration.f k x1396000 x1396001 x1396002 x1396003 x1396004).bind fun bt1429 => ((laws_eqExploration.f k x1424000 x1424001 x1424002 x1424003 x1424004 bt1429.1 bt1429.2.1 bt1429.2.2.1 bt1429.2.2.2.1 bt1429.2.2.2.2).bind fun t1440 => (if t1440 = true then ((laws_markExploration.f k x1424000 x1424001 x1424002 x1424003 x1424004 1).bind fun bt1441 => (if bt1441.1 < 0 then (laws_FnExactNextLegs.j1 k x4 x5 x7 true x1396000 x1396001 x1396002 x1396003 x1396004) else ((laws_eqIntS.f k x7 x4).bind fun t1445 => (if t1445 = true then (laws_FnExactNextLegs.j1 k x4 x5 x7 (x8 != x5) x1396000 x1396001 x1396002 x1396003 x1396004) else (laws_FnExactNextLegs.j1 k x4 x5 x7 true x1396000 x1396001 x1396002 x1396003 x1396004))))) else (none))))
def laws_FnExactNextLegs.j1 : Nat → List Int → Bool → List Int → Bool → List (S65) → List Bool → List Bool → Int → Int → Option (Bool)
 | 0, _, _, _, _, _, _, _, _, _ => none
 | k + 1, x4, x5, x7, x61, x1396000, x1396001, x1396002, x1396003, x1396004 => if x61 = true then (none) else ((laws_markIntS.f k x7 1).bind fun bt1446 => ((laws_heldIntS.f k bt1446.2 1).bind fun t1448 => (if t1448 < 0 then (none) else (if t1448 = bt1446.1 then ((laws_toExploration.f k x1396000 x1396001 x1396002 x1396003 x1396004).bind fun bt1449 => ((impl_NextLegs.f k bt1449.1 bt1449.2.1 bt1449.2.2.1 bt1449.2.2.2.1 bt1449.2.2.2.2).bind fun bt1460 => ((laws_eqIntS.f k bt1460.1 x4).bind fun t1464 => (if t1464 = true then (laws_FnExactNextLegs.j2 k bt1446.2 bt1446.1 (bt1460.2 != x5)) else (laws_FnExactNextLegs.j2 k bt1446.2 bt1446.1 true))))) else (none)))))
def laws_FnExactNextLegs.j2 : Nat → List Int → Int → Bool → Option (Bool)
 | 0, _, _, _ => none
 | k + 1, x7, x10, x87 => if x87 = true then (none) else ((laws_heldIntS.f k x7 1).bind fun t1465 => (if t1465 < 0 then (none) else (if t1465 = x10 then (some true) else (none))))
end
def laws_FnExactNextLegs.f (k : Nat) (l0_0 : List (S65)) (l0_1 : List Bool) (l0_2 : List Bool) (a0_3 : Int) (a0_4 : Int) : Option (Bool) := (laws_szExploration.f l0_0 l0_1 l0_2 a0_3 a0_4 1048576).bind fun t1396 => (if t1396 < 0 then (some true) else ((laws_toExploration.f k l0_0 l0_1 l0_2 a0_3 a0_4).bind fun bt1397 => ((spec_NextLegs.f k bt1397.1 bt1397.2.1 bt1397.2.2.1 bt1397.2.2.2.1 bt1397.2.2.2.2).bind fun bt1408 => ((laws_toExploration.f k l0_0 l0_1 l0_2 a0_3 a0_4).bind fun bt1412 => ((impl_NextLegs.f k bt1412.1 bt1412.2.1 bt1412.2.2.1 bt1412.2.2.2.1 bt1412.2.2.2.2).bind fun bt1424 => ((laws_eqIntS.f k bt1424.1 bt1408.1).bind fun t1428 => (if t1428 = true then (laws_FnExactNextLegs.j0 k bt1408.1 bt1408.2 bt1424.1 bt1424.2 (bt1424.2 != bt1408.2) l0_0 l0_1 l0_2 a0_3 a0_4 bt1412.1 bt1412.2.1 bt1412.2.2.1 bt1412.2.2.2.1 bt1412.2.2.2.2) else (laws_FnExactNextLegs.j0 k bt1408.1 bt1408.2 bt1424.1 bt1424.2 true l0_0 l0_1 l0_2 a0_3 a0_4 bt1412.1 bt1412.2.1 bt1412.2.2.1 bt1412.2.2.2.1 bt1412.2.2.2.2))))))))
set_option maxHeartbeats 64000000 in
set_option maxRecDepth 100000 in
theorem laws_FnExactNextLegs.calls (k : Nat) (A0_0 : Option Addr) (c0_0 : Nat) (l0_0 : List (S65)) (A0_1 : Option Addr) (c0_1 : Nat) (l0_1 : List Bool) (A0_2 : Option Addr) (c0_2 : Nat) (l0_2 : List Bool) (a0_3 : Int) (a0_4 : Int) (r : Bool) (w : World) (hr0_0 : Kd.C k65 w A0_0 l0_0.length l0_0) (hc0_0 : l0_0.length ≤ c0_0) (hr0_1 : Kd.C Kd.bool w A0_1 l0_1.length l0_1) (hc0_1 : l0_1.length ≤ c0_1) (hr0_2 : Kd.C Kd.bool w A0_2 l0_2.length l0_2) (hc0_2 : l0_2.length ≤ c0_2) (h : laws_FnExactNextLegs.f k l0_0 l0_1 l0_2 a0_3 a0_4 = some r) :
  Calls Try.prog 10 #[.agg #[.slice A0_0 l0_0.length c0_0, .slice A0_1 l0_1.length c0_1, .slice A0_2 l0_2.length c0_2, .int .i64 a0_3, .int .i64 a0_4]] w fun e w' => e = .returned (.bool r) ∧ Below w.heap.size w w' := by
 have hu25 := Try.underlying25
 have hu30 := Try.underlying30
 have HR0_0 := Aside0.mk hr0_0
 have HC0_0 := Aside0.mk hc0_0
 clear hr0_0 hc0_0
 have HR0_1 := Aside0.mk hr0_1
 have HC0_1 := Aside0.mk hc0_1
 clear hr0_1 hc0_1
 have HR0_2 := Aside0.mk hr0_2
 have HC0_2 := Aside0.mk hc0_2
 clear hr0_2 hc0_2
 have HB := Aside0.mk (Below.refl w.heap.size w)
 have H : ((laws_szExploration.f l0_0 l0_1 l0_2 a0_3 a0_4 1048576).bind fun t1396 => (if t1396 < 0 then (some true) else ((laws_toExploration.f k l0_0 l0_1 l0_2 a0_3 a0_4).bind fun bt1397 => ((spec_NextLegs.f k bt1397.1 bt1397.2.1 bt1397.2.2.1 bt1397.2.2.2.1 bt1397.2.2.2.2).bind fun bt1408 => ((laws_toExploration.f k l0_0 l0_1 l0_2 a0_3 a0_4).bind fun bt1412 => ((impl_NextLegs.f k bt1412.1 bt1412.2.1 bt1412.2.2.1 bt1412.2.2.2.1 bt1412.2.2.2.2).bind fun bt1424 => ((laws_eqIntS.f k bt1424.1 bt1408.1).bind fun t1428 => (if t1428 = true then (laws_FnExactNextLegs.j0 k bt1408.1 bt1408.2 bt1424.1 bt1424.2 (bt1424.2 != bt1408.2) l0_0 l0_1 l0_2 a0_3 a0_4 bt1412.1 bt1412.2.1 bt1412.2.2.1 bt1412.2.2.2.1 bt1412.2.2.2.2) else (laws_FnExactNextLegs.j0 k bt1408.1 bt1408.2 bt1424.1 bt1424.2 true l0_0 l0_1 l0_2 a0_3 a0_4 bt1412.1 bt1412.2.1 bt1412.2.2.1 bt1412.2.2.2.1 bt1412.2.2.2.2))))))))) = some r := h
 clear h
 replace H := Option.bind_eq_some_iff.mp H
 obtain ⟨t1396, A20, H⟩ := H
 replace H : (if t1396 < 0 then (some true) else ((laws_toExploration.f k l0_0 l0_1 l0_2 a0_3 a0_4).bind fun bt1397 => ((spec_NextLegs.f k bt1397.1 bt1397.2.1 bt1397.2.2.1 bt1397.2.2.2.1 bt1397.2.2.2.2).bind fun bt1408 => ((laws_toExploration.f k l0_0 l0_1 l0_2 a0_3 a0_4).bind fun bt1412 => ((impl_NextLegs.f k bt1412.1 bt1412.2.1 bt1412.2.2.1 bt1412.2.2.2.1 bt1412.2.2.2.2).bind fun bt1424 => ((laws_eqIntS.f k bt1424.1 bt1408.1).bind fun t1428 => (if t1428 = true then (laws_FnExactNextLegs.j0 k bt1408.1 bt1408.2 bt1424.1 bt1424.2 (bt1424.2 != bt1408.2) l0_0 l0_1 l0_2 a0_3 a0_4 bt1412.1 bt1412.2.1 bt1412.2.2.1 bt1412.2.2.2.1 bt1412.2.2.2.2) else (laws_FnExactNextLegs.j0 k bt1408.1 bt1408.2 bt1424.1 bt1424.2 true l0_0 l0_1 l0_2 a0_3 a0_4 bt1412.1 bt1412.2.1 bt1412.2.2.1 bt1412.2.2.2.1 bt1412.2.2.2.2)))))))) = some r := H
 have A2 := Aside0.mk A20
 clear A20
 by_cases c3 : t1396 < 0
 ·
  rw [if_pos c3] at H
  have c3b0 : decide (t1396 < 0) = true := decide_eq_true c3
  clear c3
  obtain rfl := Option.some.inj H
  go_enter Try.func10, Try.ntmps10
  go_wp2_with (first | ((with_reducible refine gate_dst (N := 1) rfl ?_); refine box_event ?hg (N := 1) ?hd (cs := #[.slice A0_0 l0_0.length c0_0, .slice A0_1 l0_1.length c0_1, .slice A0_2 l0_2.length c0_2, .int .i64 a0_3, .int .i64 a0_4]) (t := 25) ?hr ?_; (case hd => rfl); (case hg => rfl); (case hr => first | (go_simp; done) | (go_simp; rfl)); intro gb1395 hg w4 hbox hb; have BK1395 := Aside0.mk (hbox); have GW1395 := Aside0.mk ((bz_ hg (lb0_ HB.out))); have GE1395 := Aside0.mk ((bz_ hg (lb0_ HB.out))); replace HB := Aside0.mk (below_step (lb0_ HB.out) hb); clear hb hbox hg; obtain ⟨hcz5_0, hcz5_1, hcz5_2, hcz5_3, hcz5_4⟩ := cz5_ BK1395.out; obtain ⟨hfz5_0, hfz5_1, hfz5_2, hfz5_3, hfz5_4⟩ := fz5_ BK1395.out) | ((with_reducible refine gate_callee (f := 15) rfl ?_); refine ga_ (some 16) Try.func15 #[.agg #[.slice A0_0 l0_0.length c0_0, .slice A0_1 l0_1.length c0_1, .slice A0_2 l0_2.length c0_2, .int .i64 a0_3, .int .i64 a0_4], .int .i64 1048576] ?_; (with_reducible refine (laws_szExploration.calls _ _ l0_0 _ _ l0_1 _ _ l0_2 a0_3 a0_4 1048576 t1396 _ ?side1 ?side2 ?side3 ?side4 ?side5 ?side6 A2.out).mono ?_); (case side1 => exact kc_ (Kd.C_below HR0_0.out HB.out)); (case side2 => exact HC0_0.out); (case side3 => exact kc_ (Kd.C_below HR0_1.out HB.out)); (case side4 => exact HC0_1.out); (case side5 => exact kc_ (Kd.C_below HR0_2.out HB.out)); (case side6 => exact HC0_2.out); rintro e w6 ⟨rfl, hb⟩; refine ⟨_, rfl, ?_⟩; replace BK1395 := Aside0.mk (bb_ (bk_ BK1395.out) hb); replace HB := Aside0.mk (below_step (lb1_ HB.out GE1395.out) hb); (try clear hb); (try clear hb2); (try clear hk); (try clear hi)))
  go_ret
  exact ⟨rr_, lb1_ HB.out GE1395.out⟩
 ·
  rw [if_neg c3] at H
  have c3b0 : decide (t1396 < 0) = false := decide_eq_false c3
  clear c3
  replace H := Option.bind_eq_some_iff.mp H
  obtain ⟨⟨t1397, t1400, t1403, t1406, t1407⟩, A70, H⟩ := H
  replace H : ((spec_NextLegs.f k t1397 t1400 t1403 t1406 t1407).bind fun bt1408 => ((laws_toExploration.f k l0_0 l0_1 l0_2 a0_3 a0_4).bind fun bt1412 => ((impl_NextLegs.f k bt1412.1 bt1412.2.1 bt1412.2.2.1 bt1412.2.2.2.1 bt1412.2.2.2.2).bind fun bt1424 => ((laws_eqIntS.f k bt1424.1 bt1408.1).bind fun t1428 => (if t1428 = true then (laws_FnExactNextLegs.j0 k bt1408.1 bt1408.2 bt1424.1 bt1424.2 (bt1424.2 != bt1408.2) l0_0 l0_1 l0_2 a0_3 a0_4 bt1412.1 bt1412.2.1 bt1412.2.2.1 bt1412.2.2.2.1 bt1412.2.2.2.2) else (laws_FnExactNextLegs.j0 k bt1408.1 bt1408.2 bt1424.1 bt1424.2 true l0_0 l0_1 l0_2 a0_3 a0_4 bt1412.1 bt1412.2.1 bt1412.2.2.1 bt1412.2.2.2.1 bt1412.2.2.2.2)))))) = some r := H
  have A7 := Aside0.mk A70
  clear A70
  replace H := Option.bind_eq_some_iff.mp H
  obtain ⟨⟨t1408, t1411⟩, A80, H⟩ := H
  replace H : ((laws_toExploration.f k l0_0 l0_1 l0_2 a0_3 a0_4).bind fun bt1412 => ((impl_NextLegs.f k bt1412.1 bt1412.2.1 bt1412.2.2.1 bt1412.2.2.2.1 bt1412.2.2.2.2).bind fun bt1424 => ((laws_eqIntS.f k bt1424.1 t1408).bind fun t1428 => (if t1428 = true then (laws_FnExactNextLegs.j0 k t1408 t1411 bt1424.1 bt1424.2 (bt1424.2 != t1411) l0_0 l0_1 l0_2 a0_3 a0_4 bt1412.1 bt1412.2.1 bt1412.2.2.1 bt1412.2.2.2.1 bt1412.2.2.2.2) else (laws_FnExactNextLegs.j0 k t1408 t1411 bt1424.1 bt1424.2 true l0_0 l0_1 l0_2 a0_3 a0_4 bt1412.1 bt1412.2.1 bt1412.2.2.1 bt1412.2.2.2.1 bt1412.2.2.2.2))))) = some r := H
  have A8 := Aside0.mk A80
  clear A80
  replace H := Option.bind_eq_some_iff.mp H
  obtain ⟨⟨t1412, t1415, t1418, t1421, t1422⟩, A90, H⟩ := H
  replace H : ((impl_NextLegs.f k t1412 t1415 t1418 t1421 t1422).bind fun bt1424 => ((laws_eqIntS.f k bt1424.1 t1408).bind fun t1428 => (if t1428 = true then (laws_FnExactNextLegs.j0 k t1408 t1411 bt1424.1 bt1424.2 (bt1424.2 != t1411) l0_0 l0_1 l0_2 a0_3 a0_4 t1412 t1415 t1418 t1421 t1422) else (laws_FnExactNextLegs.j0 k t1408 t1411 bt1424.1 bt1424.2 true l0_0 l0_1 l0_2 a0_3 a0_4 t1412 t1415 t1418 t1421 t1422)))) = some r := H
  have A9 := Aside0.mk A90
  clear A90
  replace H := Option.bind_eq_some_iff.mp H
  obtain ⟨⟨t1424, t1427⟩, A100, H⟩ := H
  replace H : ((laws_eqIntS.f k t1424 t1408).bind fun t1428 => (if t1428 = true then (laws_FnExactNextLegs.j0 k t1408 t1411 t1424 t1427 (t1427 != t1411) l0_0 l0_1 l0_2 a0_3 a0_4 t1412 t1415 t1418 t1421 t1422) else (laws_FnExactNextLegs.j0 k t1408 t1411 t1424 t1427 true l0_0 l0_1 l0_2 a0_3 a0_4 t1412 t1415 t1418 t1421 t1422))) = some r := H
  have A10 := Aside0.mk A100
  clear A100
  have HC11 := Aside0.mk H
  clear H
  go_enter Try.func10, Try.ntmps10
  go_upto_region 8 with (first | ((with_reducible refine gate_dst (N := 1) rfl ?_); refine box_event ?hg (N := 1) ?hd (cs := #[.slice A0_0 l0_0.length c0_0, .slice A0_1 l0_1.length c0_1, .slice A0_2 l0_2.length c0_2, .int .i64 a0_3, .int .i64 a0_4]) (t := 25) ?hr ?_; (case hd => rfl); (case hg => rfl); (case hr => first | (go_simp; done) | (go_simp; rfl)); intro gb1395 hg w12 hbox hb; have BK1395 := Aside0.mk (hbox); have GW1395 := Aside0.mk ((bz_ hg (lb0_ HB.out))); have GE1395 := Aside0.mk ((bz_ hg (lb0_ HB.out))); replace HB := Aside0.mk (below_step (lb0_ HB.out) hb); clear hb hbox hg; obtain ⟨hcz13_0, hcz13_1, hcz13_2, hcz13_3, hcz13_4⟩ := cz5_ BK1395.out; obtain ⟨hfz13_0, hfz13_1, hfz13_2, hfz13_3, hfz13_4⟩ := fz5_ BK1395.out) | ((with_reducible refine gate_callee (f := 15) rfl ?_); refine ga_ (some 16) Try.func15 #[.agg #[.slice A0_0 l0_0.length c0_0, .slice A0_1 l0_1.length c0_1, .slice A0_2 l0_2.length c0_2, .int .i64 a0_3, .int .i64 a0_4], .int .i64 1048576] ?_; (with_reducible refine (laws_szExploration.calls _ _ l0_0 _ _ l0_1 _ _ l0_2 a0_3 a0_4 1048576 t1396 _ ?side1 ?side2 ?side3 ?side4 ?side5 ?side6 A2.out).mono ?_); (case side1 => exact kc_ (Kd.C_below HR0_0.out HB.out)); (case side2 => exact HC0_0.out); (case side3 => exact kc_ (Kd.C_below HR0_1.out HB.out)); (case side4 => exact HC0_1.out); (case side5 => exact kc_ (Kd.C_below HR0_2.out HB.out)); (case side6 => exact HC0_2.out); rintro e w14 ⟨rfl, hb⟩; refine ⟨_, rfl, ?_⟩; replace BK1395 := Aside0.mk (bb_ (bk_ BK1395.out) hb); replace HB := Aside0.mk (below_step (lb1_ HB.out GE1395.out) hb); (try clear hb); (try clear hb2); (try clear hk); (try clear hi); obtain ⟨hcz15_0, hcz15_1, hcz15_2, hcz15_3, hcz15_4⟩ := cz5_ BK1395.out; obtain ⟨hfz15_0, hfz15_1, hfz15_2, hfz15_3, hfz15_4⟩ := fz5_ BK1395.out) | ((with_reducible refine gate_callee (f := 17) rfl ?_); refine ga_ (some 21) Try.func17 #[.agg #[.slice A0_0 l0_0.length c0_0, .slice A0_1 l0_1.length c0_1, .slice A0_2 l0_2.length c0_2, .int .i64 a0_3, .int .i64 a0_4]] ?_; (with_reducible refine (laws_toExploration.calls k _ _ l0_0 _ _ l0_1 _ _ l0_2 a0_3 a0_4 t1397 t1400 t1403 t1406 t1407 _ ?side1 ?side2 ?side3 ?side4 ?side5 ?side6 A7.out).mono ?_); (case side1 => exact kc_ (Kd.C_below HR0_0.out HB.out)); (case side2 => exact HC0_0.out); (case side3 => exact kc_ (Kd.C_below HR0_1.out HB.out)); (case side4 => exact HC0_1.out); (case side5 => exact kc_ (Kd.C_below HR0_2.out HB.out)); (case side6 => exact HC0_2.out); rintro e w16 ⟨v1398, v1401, v1404, rfl, ho0, ho1, ho2, hb⟩; refine ⟨_, rfl, ?_⟩; have HO1399 := Aside0.mk (Kd.R_lower ho0 (below_size (lb1_ HB.out GE1395.out))); have HO1402 := Aside0.mk (Kd.R_lower ho1 (below_size (lb1_ HB.out GE1395.out))); have HO1405 := Aside0.mk (Kd.R_lower ho2 (below_size (lb1_ HB.out GE1395.out))); replace BK1395 := Aside0.mk (bb_ (bk_ BK1395.out) hb); replace HB := Aside0.mk (below_step (lb1_ HB.out GE1395.out) hb); (try clear hb); (try clear hb2); (try clear hk); (try clear hi); (try clear ho0); (try clear ho1); (try clear ho2); obtain ⟨Ao17, co17, eo17⟩ := Kd.R_slice HO1399.out; subst eo17; obtain ⟨Ao18, co18, eo18⟩ := Kd.R_slice HO1402.out; subst eo18; obtain ⟨Ao19, co19, eo19⟩ := Kd.R_slice HO1405.out; subst eo19) | ((with_reducible refine gate_callee (f := 48) rfl ?_); refine ga_ (some 22) Try.func48 #[.agg #[.slice Ao17 t1397.length co17, .slice Ao18 t1400.length co18, .slice Ao19 t1403.length co19, .int .i64 t1406, .int .i64 t1407]] ?_; (with_reducible refine (spec_NextLegs.calls k _ _ t1397 _ _ t1400 _ _ t1403 t1406 t1407 t1408 t1411 _ ?side1 ?side2 ?side3 ?side4 ?side5 ?side6 A8.out).mono ?_); (case side1 => exact kc_ (Kd.R_reads' HO1399.out).2.2); (case side2 => exact (Kd.R_reads' HO1399.out).2.1); (case side3 => exact kc_ (Kd.R_reads' HO1402.out).2.2); (case side4 => exact (Kd.R_reads' HO1402.out).2.1); (case side5 => exact kc_ (Kd.R_reads' HO1405.out).2.2); (case side6 => exact (Kd.R_reads' HO1405.out).2.1); rintro e w20 ⟨v1409, rfl, ho0, hb⟩; refine ⟨_, rfl, ?_⟩; replace HO1399 := Aside0.mk (Kd.R_below (kr_ HO1399.out) hb); replace HO1402 := Aside0.mk (Kd.R_below (kr_ HO1402.out) hb); replace HO1405 := Aside0.mk (Kd.R_below (kr_ HO1405.out) hb); have HO1410 := Aside0.mk (Kd.R_lower ho0 (below_size (lb1_ HB.out GE1395.out))); replace BK1395 := Aside0.mk (bb_ (bk_ BK1395.out) hb); replace HB := Aside0.mk (below_step (lb1_ HB.out GE1395.out) hb); (try clear hb); (try clear hb2); (try clear hk); (try clear hi); (try clear ho0); obtain ⟨hcz21_0, hcz21_1, hcz21_2, hcz21_3, hcz21_4⟩ := cz5_ BK1395.out; obtain ⟨hfz21_0, hfz21_1, hfz21_2, hfz21_3, hfz21_4⟩ := fz5_ BK1395.out) | ((with_reducible refine gate_callee (f := 17) rfl ?_); refine ga_ (some 26) Try.func17 #[.agg #[.slice A0_0 l0_0.length c0_0, .slice A0_1 l0_1.length c0_1, .slice A0_2 l0_2.length c0_2, .int .i64 a0_3, .int .i64 a0_4]] ?_; (with_reducible refine (laws_toExploration.calls k _ _ l0_0 _ _ l0_1 _ _ l0_2 a0_3 a0_4 t1412 t1415 t1418 t1421 t1422 _ ?side1 ?side2 ?side3 ?side4 ?side5 ?side6 A9.out).mono ?_); (case side1 => exact kc_ (Kd.C_below HR0_0.out HB.out)); (case side2 => exact HC0_0.out); (case side3 => exact kc_ (Kd.C_below HR0_1.out HB.out)); (case side4 => exact HC0_1.out); (case side5 => exact kc_ (Kd.C_below HR0_2.out HB.out)); (case side6 => exact HC0_2.out); rintro e w22 ⟨v1413, v1416, v1419, rfl, ho0, ho1, ho2, hb⟩; refine ⟨_, rfl, ?_⟩; replace HO1410 := Aside0.mk (Kd.R_below (kr_ HO1410.out) hb); have HO1414 := Aside0.mk (Kd.R_lower (Kd.R_new' ho0 (Kd.R_lt (kr_ HO1399.out))) (below_size (lb1_ HB.out GE1395.out))); replace HO1399 := Aside0.mk (Kd.R_elder' (kr_ HO1399.out) (Kd.R_base ho0) hb); have HO1417 := Aside0.mk (Kd.R_lower (Kd.R_new' (Kd.R_new' ho1 (Kd.R_lt (kr_ HO1402.out))) (Kd.R_lt (kr_ HO1405.out))) (below_size (lb1_ HB.out GE1395.out))); have HO1420 := Aside0.mk (Kd.R_lower (Kd.R_new' (Kd.R_new' ho2 (Kd.R_lt (kr_ HO1402.out))) (Kd.R_lt (kr_ HO1405.out))) (below_size (lb1_ HB.out GE1395.out))); replace HO1402 := Aside0.mk (Kd.R_mono (Kd.R_told (Kd.R_told (Kd.R_old (kr_ HO1402.out) hb) (Kd.R_base ho1)) (Kd.R_base ho2)) (fun _ h_ => h_.1)); replace HO1405 := Aside0.mk (Kd.R_mono (Kd.R_told (Kd.R_told (Kd.R_old (kr_ HO1405.out) hb) (Kd.R_base ho1)) (Kd.R_base ho2)) (fun _ h_ => h_.1)); replace BK1395 := Aside0.mk (bb_ (bk_ BK1395.out) hb); replace HB := Aside0.mk (below_step (lb1_ HB.out GE1395.out) hb); (try clear hb); (try clear hb2); (try clear hk); (try clear hi); (try clear ho0); (try clear ho1); (try clear ho2)) | ((with_reducible refine gate_dst (N := 6) rfl ?_); refine box_event ?hg (N := 6) ?hd (cs := #[.slice none 0 0, .slice none 0 0, .slice none 0 0, .int .i64 0, .int .i64 0]) (t := 30) ?hr ?_; (case hd => rfl); (case hg => rfl); (case hr => first | (go_simp; done) | (go_simp; rfl)); intro gb1423 hg w23 hbox hb; replace HO1399 := Aside0.mk (Kd.R_below (kr_ HO1399.out) hb); replace HO1402 := Aside0.mk (Kd.R_below (kr_ HO1402.out) hb); replace HO1405 := Aside0.mk (Kd.R_below (kr_ HO1405.out) hb); replace HO1410 := Aside0.mk (Kd.R_below (kr_ HO1410.out) hb); replace HO1414 := Aside0.mk (Kd.R_below (kr_ HO1414.out) hb); replace HO1417 := Aside0.mk (Kd.R_below (kr_ HO1417.out) hb); replace HO1420 := Aside0.mk (Kd.R_below (kr_ HO1420.out) hb); have BK1423 := Aside0.mk (hbox); have GW1423 := Aside0.mk ((bz_ hg (lb1_ HB.out GE1395.out))); have GE1423 := Aside0.mk ((bz_ hg (lb1_ HB.out GE1395.out))); replace HB := Aside0.mk (below_step (lb1_ HB.out GE1395.out) hb); have NB1395_1423 := Aside0.mk (nl_ hg BK1395.out); have NB1423_1395 := Aside0.mk (ng_ hg BK1395.out); replace BK1395 := Aside0.mk (bb_ (bk_ BK1395.out) hb); clear hb hbox hg; obtain ⟨Ao24, co24, eo24⟩ := Kd.R_slice HO1414.out; subst eo24; have hnb25 := NB1423_1395.out; have hnc25 := NB1395_1423.out; obtain ⟨hcz26_0, hcz26_1, hcz26_2, hcz26_3, hcz26_4⟩ := cz5_ BK1423.out; obtain ⟨hfz26_0, hfz26_1, hfz26_2, hfz26_3, hfz26_4⟩ := fz5_ BK1423.out; obtain ⟨Ao27, co27, eo27⟩ := Kd.R_slice HO1417.out; subst eo27; obtain ⟨Ao28, co28, eo28⟩ := Kd.R_slice HO1420.out; subst eo28) | ((with_reducible refine gate_callee (f := 49) rfl ?_); refine ga_ (some 29) Try.func49 #[.agg #[.slice Ao24 t1412.length co24, .slice Ao27 t1415.length co27, .slice Ao28 t1418.length co28, .int .i64 t1421, .int .i64 t1422]] ?_; (with_reducible refine (impl_NextLegs.calls k _ _ t1412 _ _ t1415 _ _ t1418 t1421 t1422 t1424 t1427 _ ?side1 ?side2 ?side3 ?side4 ?side5 ?side6 A10.out).mono ?_); (case side1 => refine (Kd.R_reads' (e := 37) (base := w.heap.size) (ok := fun k_ => (True ∧ some k_ ≠ (.slice Ao17 t1397.length co17 : Value).ownBlock)) (n := t1412.length) (c := co24) ?_).2.2; exact (kg_ HO1414.out BK1423.out)); (case side2 => exact (Kd.R_reads' HO1414.out).2.1); (case side3 => refine (Kd.R_reads' (e := 4) (base := w.heap.size) (ok := fun k_ => ((some k_ ≠ (.slice Ao28 t1418.length co28 : Value).ownBlock ∧ some k_ ≠ (.slice Ao18 t1400.length co18 : Value).ownBlock) ∧ some k_ ≠ (.slice Ao19 t1403.length co19 : Value).ownBlock)) (n := t1415.length) (c := co27) ?_).2.2; exact (kg_ HO1417.out BK1423.out)); (case side4 => exact (Kd.R_reads' HO1417.out).2.1); (case side5 => refine (Kd.R_reads' (e := 4) (base := w.heap.size) (ok := fun k_ => ((some k_ ≠ (.slice Ao27 t1415.length co27 : Value).ownBlock ∧ some k_ ≠ (.slice Ao18 t1400.length co18 : Value).ownBlock) ∧ some k_ ≠ (.slice Ao19 t1403.length co19 : Value).ownBlock)) (n := t1418.length) (c := co28) ?_).2.2; exact (kg_ HO1420.out BK1423.out)); (case side6 => exact (Kd.R_reads' HO1420.out).2.1); rintro e w29 ⟨v1425, rfl, ho0, hb⟩; refine ⟨_, rfl, ?_⟩; replace HO1399 := Aside0.mk (Kd.R_below (kg_ HO1399.out BK1423.out) hb); replace HO1402 := Aside0.mk (Kd.R_below (kg_ HO1402.out BK1423.out) hb); replace HO1405 := Aside0.mk (Kd.R_below (kg_ HO1405.out BK1423.out) hb); replace HO1414 := Aside0.mk (Kd.R_below (kg_ HO1414.out BK1423.out) hb); replace HO1417 := Aside0.mk (Kd.R_below (kg_ HO1417.out BK1423.out) hb); replace HO1420 := Aside0.mk (Kd.R_below (kg_ HO1420.out BK1423.out) hb); have HO1426 := Aside0.mk (Kd.R_lower (Kd.R_new' ho0 (Kd.R_lt (kg_ HO1410.out BK1423.out))) (below_size (lb2_ HB.out GE1395.out GE1423.out))); replace HO1410 := Aside0.mk (Kd.R_elder' (kg_ HO1410.out BK1423.out) (Kd.R_base ho0) hb); replace BK1395 := Aside0.mk (blk_below (g := gb1395) (o := .cells #[.slice A0_0 l0_0.length c0_0, .slice A0_1 l0_1.length c0_1, .slice A0_2 l0_2.length c0_2, .int .i64 a0_3, .int .i64 a0_4] 25 (0, 0)) (by (with_reducible repeat (first | refine blk_drewN ?_ _ | refine blk_drew ?_ | refine blk_alloc ?_ _)); exact (f5_ BK1395.out NB1395_1423.out _ _ _ _ _)) hb); replace BK1423 := Aside0.mk (blk_below (g := gb1423) (o := .cells #[.slice Ao24 t1412.length co24, .slice Ao27 t1415.length co27, .slice Ao28 t1418.length co28, .int .i64 t1421, .int .i64 t1422] 30 (0, 0)) (by (with_reducible repeat (first | refine blk_drewN ?_ _ | refine blk_drew ?_ | refine blk_alloc ?_ _)); exact (p5_ BK1423.out _ _ _ _ _)) hb); replace HB := Aside0.mk (below_step (lb2_ HB.out GE1395.out GE1423.out) hb); (try clear hb); (try clear hb2); (try clear hk); (try clear hi); (try clear ho0)))
  (try simp only [Act.put, List.setIfInBounds_toArray, List.set_cons_zero, List.set_cons_succ])
  go_cut [40] (fun v40 wc => ∃ (kq : Nat) (x40_10 : Bool), v40 = .bool x40_10 ∧ Aside0 (laws_FnExactNextLegs.j0 kq t1408 t1411 t1424 t1427 x40_10 l0_0 l0_1 l0_2 a0_3 a0_4 t1412 t1415 t1418 t1421 t1422 = some r) ∧ Aside0 (kq ≤ k) ∧ Aside0 (Kd.R (Kd.int .i64) 3 wc w.heap.size (fun k_ => some k_ ≠ (v1425 : Value).ownBlock) v1409 t1408) ∧ Aside0 (Kd.R (Kd.int .i64) 3 wc w.heap.size (fun k_ => some k_ ≠ (v1409 : Value).ownBlock) v1425 t1424) ∧ Aside0 (Kd.R k37 37 wc w.heap.size (fun _ => True) (.slice Ao24 t1412.length co24) t1412) ∧ Aside0 (Kd.R Kd.bool 4 wc w.heap.size (fun k_ => some k_ ≠ ((.slice Ao28 t1418.length co28) : Value).ownBlock) (.slice Ao27 t1415.length co27) t1415) ∧ Aside0 (Kd.R Kd.bool 4 wc w.heap.size (fun k_ => some k_ ≠ ((.slice Ao27 t1415.length co27) : Value).ownBlock) (.slice Ao28 t1418.length co28) t1418) ∧ Aside0 (wc.heap[gb1395]? = some (.cells #[(.slice A0_0 l0_0.length c0_0), (.slice A0_1 l0_1.length c0_1), (.slice A0_2 l0_2.length c0_2), .int .i64 a0_3, .int .i64 a0_4] 25 (0, 0))) ∧ Aside0 (wc.heap[gb1423]? = some (.cells #[(.slice Ao24 t1412.length co24), (.slice Ao27 t1415.length co27), (.slice Ao28 t1418.length co28), .int .i64 t1421, .int .i64 t1422] 30 (0, 0))) ∧ Aside0 (Below w.heap.size w wc))
  case first =>
   have H := HC11.out
   clear HC11
   replace H := Option.bind_eq_some_iff.mp H
   obtain ⟨t1428, A300, H⟩ := H
   replace H : (if t1428 = true then (laws_FnExactNextLegs.j0 k t1408 t1411 t1424 t1427 (t1427 != t1411) l0_0 l0_1 l0_2 a0_3 a0_4 t1412 t1415 t1418 t1421 t1422) else (laws_FnExactNextLegs.j0 k t1408 t1411 t1424 t1427 true l0_0 l0_1 l0_2 a0_3 a0_4 t1412 t1415 t1418 t1421 t1422)) = some r := H
   have A30 := Aside0.mk A300
   clear A300
   by_cases c31 : t1428 = true
   ·
    subst c31
    have H1 : (laws_FnExactNextLegs.j0 k t1408 t1411 t1424 t1427 (t1427 != t1411) l0_0 l0_1 l0_2 a0_3 a0_4 t1412 t1415 t1418 t1421 t1422) = some r := by rw [if_pos rfl] at H; exact H
    clear H
    have H := H1
    clear H1
    have H' := Aside0.mk H
    clear H
    obtain ⟨Ao32, co32, eo32⟩ := Kd.R_slice HO1426.out
    subst eo32
    obtain ⟨Ao33, co33, eo33⟩ := Kd.R_slice HO1410.out
    subst eo33
    go_wp2_with (first | ((with_reducible refine gate_callee (f := 45) rfl ?_); refine ga_ (some 34) Try.func45 #[.slice Ao32 t1424.length co32, .slice Ao33 t1408.length co33] ?_; (with_reducible refine (laws_eqIntS.calls k _ _ t1424 _ _ t1408 true _ ?side1 ?side2 ?side3 ?side4 A30.out).mono ?_); (case side1 => exact kc_ (Kd.R_reads' HO1426.out).2.2); (case side2 => exact (Kd.R_reads' HO1426.out).2.1); (case side3 => exact kc_ (Kd.R_reads' HO1410.out).2.2); (case side4 => exact (Kd.R_reads' HO1410.out).2.1); rintro e w' ⟨rfl, ⟨nd, rfl⟩⟩; refine ⟨_, rfl, ?_⟩))
    go_meet
    case rel => exact ⟨_, ((t1427 != t1411)), (by first | rfl | (simp; done) | (simp [*]; done)), H', ⟨by first | omega | exact Nat.le_refl _⟩, ⟨krm_ HO1410.out (fun _ hk => hk.2)⟩, ⟨krm_ HO1426.out (fun _ hk => hk.2)⟩, ⟨krm_ HO1414.out (fun _ hk => trivial)⟩, ⟨krm_ HO1417.out (fun _ hk => hk.1.1)⟩, ⟨krm_ HO1420.out (fun _ hk => hk.1.1)⟩, ⟨bk_ BK1395.out⟩, ⟨bk_ BK1423.out⟩, ⟨lb2_ HB.out GE1395.out GE1423.out⟩⟩
   ·
    replace c31 := Bool.eq_false_iff.mpr c31
    subst c31
    have H1 : (laws_FnExactNextLegs.j0 k t1408 t1411 t1424 t1427 true l0_0 l0_1 l0_2 a0_3 a0_4 t1412 t1415 t1418 t1421 t1422) = some r := by rw [if_neg (show ¬ (false = true) by decide)] at H; exact H
    clear H
    have H := H1
    clear H1
    have H' := Aside0.mk H
    clear H
    obtain ⟨Ao34, co34, eo34⟩ := Kd.R_slice HO1426.out
    subst eo34
    obtain ⟨Ao35, co35, eo35⟩ := Kd.R_slice HO1410.out
    subst eo35
    go_wp2_with (first | ((with_reducible refine gate_callee (f := 45) rfl ?_); refine ga_ (some 34) Try.func45 #[.slice Ao34 t1424.length co34, .slice Ao35 t1408.length co35] ?_; (with_reducible refine (laws_eqIntS.calls k _ _ t1424 _ _ t1408 false _ ?side1 ?side2 ?side3 ?side4 A30.out).mono ?_); (case side1 => exact kc_ (Kd.R_reads' HO1426.out).2.2); (case side2 => exact (Kd.R_reads' HO1426.out).2.1); (case side3 => exact kc_ (Kd.R_reads' HO1410.out).2.2); (case side4 => exact (Kd.R_reads' HO1410.out).2.1); rintro e w' ⟨rfl, ⟨nd, rfl⟩⟩; refine ⟨_, rfl, ?_⟩))
    go_meet
    case rel => exact ⟨_, (true), (by first | rfl | (simp; done) | (simp [*]; done)), H', ⟨by first | omega | exact Nat.le_refl _⟩, ⟨krm_ HO1410.out (fun _ hk => hk.2)⟩, ⟨krm_ HO1426.out (fun _ hk => hk.2)⟩, ⟨krm_ HO1414.out (fun _ hk => trivial)⟩, ⟨krm_ HO1417.out (fun _ hk => hk.1.1)⟩, ⟨krm_ HO1420.out (fun _ hk => hk.1.1)⟩, ⟨bk_ BK1395.out⟩, ⟨bk_ BK1423.out⟩, ⟨lb2_ HB.out GE1395.out GE1423.out⟩⟩
  case rest =>
   clear HC11
   try clear c1
   try clear c2
   try clear p2
   try clear c3
   try clear c3b0
   try clear c4
   try clear c10
   try clear c15
   try clear c17
   try clear c25
   try clear c31
   try clear hcz13_0 hcz13_1 hcz13_2 hcz13_3 hcz13_4
   try clear hcz15_0 hcz15_1 hcz15_2 hcz15_3 hcz15_4
   try clear hcz21_0 hcz21_1 hcz21_2 hcz21_3 hcz21_4
   try clear hcz26_0 hcz26_1 hcz26_2 hcz26_3 hcz26_4
   try clear hcz5_0 hcz5_1 hcz5_2 hcz5_3 hcz5_4
   try clear hfz13_0 hfz13_1 hfz13_2 hfz13_3 hfz13_4
   try clear hfz15_0 hfz15_1 hfz15_2 hfz15_3 hfz15_4
   try clear hfz21_0 hfz21_1 hfz21_2 hfz21_3 hfz21_4
   try clear hfz26_0 hfz26_1 hfz26_2 hfz26_3 hfz26_4
   try clear hfz5_0 hfz5_1 hfz5_2 hfz5_3 hfz5_4
   obtain ⟨kq, x40_10, rfl, HA, HJ10, HO_4, HO_7, HO_1424000, HO_1424001, HO_1424002, BK1395, BK1423, HB⟩ := hcut
   cases kq with
   | zero => exact absurd HA.out (by simp [laws_FnExactNextLegs.j0])
   | succ kj10 =>
    have H := HA.out
    clear HA
    simp only [laws_FnExactNextLegs.j0] at H
    by_cases c36 : x40_10 = true
    ·
     subst c36
     have H1 : (none) = some r := by rw [if_pos rfl] at H; exact H
     clear H
     have H := H1
     clear H1
     exact absurd H (by simp)
    ·
     replace c36 := Bool.eq_false_iff.mpr c36
     subst c36
     have H1 : ((laws_toExploration.f kj10 l0_0 l0_1 l0_2 a0_3 a0_4).bind fun bt1429 => ((laws_eqExploration.f kj10 t1412 t1415 t1418 t1421 t1422 bt1429.1 bt1429.2.1 bt1429.2.2.1 bt1429.2.2.2.1 bt1429.2.2.2.2).bind fun t1440 => (if t1440 = true then ((laws_markExploration.f kj10 t1412 t1415 t1418 t1421 t1422 1).bind fun bt1441 => (if bt1441.1 < 0 then (laws_FnExactNextLegs.j1 kj10 t1408 t1411 t1424 true l0_0 l0_1 l0_2 a0_3 a0_4) else ((laws_eqIntS.f kj10 t1424 t1408).bind fun t1445 => (if t1445 = true then (laws_FnExactNextLegs.j1 kj10 t1408 t1411 t1424 (t1427 != t1411) l0_0 l0_1 l0_2 a0_3 a0_4) else (laws_FnExactNextLegs.j1 kj10 t1408 t1411 t1424 true l0_0 l0_1 l0_2 a0_3 a0_4))))) else (none)))) = some r := by rw [if_neg (show ¬ (false = true) by decide)] at H; exact H
     clear H
     have H := H1
     clear H1
     replace H := Option.bind_eq_some_iff.mp H
     obtain ⟨⟨t1429, t1432, t1435, t1438, t1439⟩, A370, H⟩ := H
     replace H : ((laws_eqExploration.f kj10 t1412 t1415 t1418 t1421 t1422 t1429 t1432 t1435 t1438 t1439).bind fun t1440 => (if t1440 = true then ((laws_markExploration.f kj10 t1412 t1415 t1418 t1421 t1422 1).bind fun bt1441 => (if bt1441.1 < 0 then (laws_FnExactNextLegs.j1 kj10 t1408 t1411 t1424 true l0_0 l0_1 l0_2 a0_3 a0_4) else ((laws_eqIntS.f kj10 t1424 t1408).bind fun t1445 => (if t1445 = true then (laws_FnExactNextLegs.j1 kj10 t1408 t1411 t1424 (t1427 != t1411) l0_0 l0_1 l0_2 a0_3 a0_4) else (laws_FnExactNextLegs.j1 kj10 t1408 t1411 t1424 true l0_0 l0_1 l0_2 a0_3 a0_4))))) else (none))) = some r := H
     have A37 := Aside0.mk A370
     clear A370
     replace H := Option.bind_eq_some_iff.mp H
     obtain ⟨t1440, A380, H⟩ := H
     replace H : (if t1440 = true then ((laws_markExploration.f kj10 t1412 t1415 t1418 t1421 t1422 1).bind fun bt1441 => (if bt1441.1 < 0 then (laws_FnExactNextLegs.j1 kj10 t1408 t1411 t1424 true l0_0 l0_1 l0_2 a0_3 a0_4) else ((laws_eqIntS.f kj10 t1424 t1408).bind fun t1445 => (if t1445 = true then (laws_FnExactNextLegs.j1 kj10 t1408 t1411 t1424 (t1427 != t1411) l0_0 l0_1 l0_2 a0_3 a0_4) else (laws_FnExactNextLegs.j1 kj10 t1408 t1411 t1424 true l0_0 l0_1 l0_2 a0_3 a0_4))))) else (none)) = some r := H
     have A38 := Aside0.mk A380
     clear A380
     by_cases c39 : t1440 = true
     ·
      subst c39
      have H1 : ((laws_markExploration.f kj10 t1412 t1415 t1418 t1421 t1422 1).bind fun bt1441 => (if bt1441.1 < 0 then (laws_FnExactNextLegs.j1 kj10 t1408 t1411 t1424 true l0_0 l0_1 l0_2 a0_3 a0_4) else ((laws_eqIntS.f kj10 t1424 t1408).bind fun t1445 => (if t1445 = true then (laws_FnExactNextLegs.j1 kj10 t1408 t1411 t1424 (t1427 != t1411) l0_0 l0_1 l0_2 a0_3 a0_4) else (laws_FnExactNextLegs.j1 kj10 t1408 t1411 t1424 true l0_0 l0_1 l0_2 a0_3 a0_4))))) = some r := by rw [if_pos rfl] at H; exact H
      clear H
      have H := H1
      clear H1
      replace H := Option.bind_eq_some_iff.mp H
      obtain ⟨⟨t1441, t1442, t1443, t1444⟩, A400, H⟩ := H
      replace H : (if t1441 < 0 then (laws_FnExactNextLegs.j1 kj10 t1408 t1411 t1424 true l0_0 l0_1 l0_2 a0_3 a0_4) else ((laws_eqIntS.f kj10 t1424 t1408).bind fun t1445 => (if t1445 = true then (laws_FnExactNextLegs.j1 kj10 t1408 t1411 t1424 (t1427 != t1411) l0_0 l0_1 l0_2 a0_3 a0_4) else (laws_FnExactNextLegs.j1 kj10 t1408 t1411 t1424 true l0_0 l0_1 l0_2 a0_3 a0_4)))) = some r := H
      have A40 := Aside0.mk A400
      clear A400
      have HC41 := Aside0.mk H
      clear H
      try go_wp2
      replace HO_4 := Aside0.mk (Kd.R_drew HO_4.out)
      replace HO_7 := Aside0.mk (Kd.R_drew HO_7.out)
      replace HO_1424000 := Aside0.mk (Kd.R_drew HO_1424000.out)
      replace HO_1424001 := Aside0.mk (Kd.R_drew HO_1424001.out)
      replace HO_1424002 := Aside0.mk (Kd.R_drew HO_1424002.out)
      replace BK1395 := Aside0.mk (blk_drew BK1395.out)
      replace BK1423 := Aside0.mk (blk_drew BK1423.out)
      replace HB := Aside0.mk (below_drew1 HB.out)
      refine start_ (n := 5) (S := fun w' => w'.cell? ⟨gb1423, 0, none⟩ = some (.slice Ao24 t1412.length co24) ∧ w'.cell? ⟨gb1423, 1, none⟩ = some (.slice Ao27 t1415.length co27) ∧ w'.cell? ⟨gb1423, 2, none⟩ = some (.slice Ao28 t1418.length co28) ∧ w'.cell? ⟨gb1423, 3, none⟩ = some (.int .i64 t1421) ∧ w'.cell? ⟨gb1423, 4, none⟩ = some (.int .i64 t1422) ∧ w'.cell? ⟨gb1395, 0, none⟩ = some (.slice A0_0 l0_0.length c0_0) ∧ w'.cell? ⟨gb1395, 1, none⟩ = some (.slice A0_1 l0_1.length c0_1) ∧ w'.cell? ⟨gb1395, 2, none⟩ = some (.slice A0_2 l0_2.length c0_2) ∧ w'.cell? ⟨gb1395, 3, none⟩ = some (.int .i64 a0_3) ∧ w'.cell? ⟨gb1395, 4, none⟩ = some (.int .i64 a0_4)) (ds := []) #[false, false, false, false, false] (by kernel_rfl) rfl rfl ⟨(blk_cell BK1423.out 0).trans rfl, (blk_cell BK1423.out 1).trans rfl, (blk_cell BK1423.out 2).trans rfl, (blk_cell BK1423.out 3).trans rfl, (blk_cell BK1423.out 4).trans rfl, (blk_cell BK1395.out 0).trans rfl, (blk_cell BK1395.out 1).trans rfl, (blk_cell BK1395.out 2).trans rfl, (blk_cell BK1395.out 3).trans rfl, (blk_cell BK1395.out 4).trans rfl⟩ (fun hHeld => ?_)
      generalize wc.drew = w42 at HO_4 HO_7 HO_1424000 HO_1424001 HO_1424002 BK1395 BK1423 HB hHeld ⊢
      refine take_ (i := 0) (N := some 41) (v := ?_) (a' := ?_) #[true, false, false, false, false] rfl rfl (by kernel_rfl) (fun _ _ _ h => h) (Or.inl ⟨by rfl, ?_⟩) hHeld ?_ ?_
      rotate_left
      ·
       rintro w' ⟨s0, s1, s2, s3, s4, s5, s6, s7, s8, s9⟩
       go_simp
       with_reducible rfl
      rotate_left
      ·
       simp only [Act.put, List.setIfInBounds_toArray, List.set_cons_zero, List.set_cons_succ, i64_w, i32_w]
       rfl
      refine take_ (i := 1) (N := some 42) (v := ?_) (a' := ?_) #[true, true, false, false, false] rfl rfl (by kernel_rfl) (fun _ _ _ h => h) (Or.inl ⟨by rfl, ?_⟩) hHeld ?_ ?_
      rotate_left
      ·
       rintro w' ⟨s0, s1, s2, s3, s4, s5, s6, s7, s8, s9⟩
       go_simp
       with_reducible rfl
      rotate_left
      ·
       simp only [Act.put, List.setIfInBounds_toArray, List.set_cons_zero, List.set_cons_succ, i64_w, i32_w]
       rfl
      refine one_ (i := 2) (N := some 43) #[true, true, true, false, false] rfl rfl (by kernel_rfl) (by decide) (fun K hK => ?_)
      refine gs_ Try.func17 #[.agg #[.slice A0_0 l0_0.length c0_0, .slice A0_1 l0_1.length c0_1, .slice A0_2 l0_2.length c0_2, .int .i64 a0_3, .int .i64 a0_4]] ?_
      with_reducible refine (laws_toExploration.calls kj10 _ _ l0_0 _ _ l0_1 _ _ l0_2 a0_3 a0_4 t1429 t1432 t1435 t1438 t1439 _ ?side1 ?side2 ?side3 ?side4 ?side5 ?side6 A37.out).mono ?_
      (case side1 => exact kc_ (Kd.C_below HR0_0.out HB.out))
      (case side2 => exact HC0_0.out)
      (case side3 => exact kc_ (Kd.C_below HR0_1.out HB.out))
      (case side4 => exact HC0_1.out)
      (case side5 => exact kc_ (Kd.C_below HR0_2.out HB.out))
      (case side6 => exact HC0_2.out)
      rintro e w43 ⟨v1430, v1433, v1436, rfl, ho0, ho1, ho2, hb⟩
      refine ⟨_, rfl, ?_⟩
      replace HO_4 := Aside0.mk (Kd.R_below (kr_ HO_4.out) hb)
      replace HO_7 := Aside0.mk (Kd.R_below (kr_ HO_7.out) hb)
      have HO1431 := Aside0.mk (Kd.R_lower (Kd.R_new' ho0 (Kd.R_lt (kr_ HO_1424000.out))) (below_size (lb2_ HB.out GE1395.out GE1423.out)))
      replace HO_1424000 := Aside0.mk (Kd.R_elder' (kr_ HO_1424000.out) (Kd.R_base ho0) hb)
      have HO1434 := Aside0.mk (Kd.R_lower (Kd.R_new' (Kd.R_new' ho1 (Kd.R_lt (kr_ HO_1424001.out))) (Kd.R_lt (kr_ HO_1424002.out))) (below_size (lb2_ HB.out GE1395.out GE1423.out)))
      have HO1437 := Aside0.mk (Kd.R_lower (Kd.R_new' (Kd.R_new' ho2 (Kd.R_lt (kr_ HO_1424001.out))) (Kd.R_lt (kr_ HO_1424002.out))) (below_size (lb2_ HB.out GE1395.out GE1423.out)))
      replace HO_1424001 := Aside0.mk (Kd.R_mono (Kd.R_told (Kd.R_told (Kd.R_old (kr_ HO_1424001.out) hb) (Kd.R_base ho1)) (Kd.R_base ho2)) (fun _ h_ => h_.1))
      replace HO_1424002 := Aside0.mk (Kd.R_mono (Kd.R_told (Kd.R_told (Kd.R_old (kr_ HO_1424002.out) hb) (Kd.R_base ho1)) (Kd.R_base ho2)) (fun _ h_ => h_.1))
      replace BK1395 := Aside0.mk (bb_ (bk_ BK1395.out) hb)
      replace BK1423 := Aside0.mk (bb_ (bk_ BK1423.out) hb)
      replace HB := Aside0.mk (below_step (lb2_ HB.out GE1395.out GE1423.out) hb)
      (try clear hb)
      (try clear hb2)
      (try clear hk)
      (try clear hi)
      (try clear ho0)
      (try clear ho1)
      (try clear ho2)
      obtain ⟨Ao44, co44, eo44⟩ := Kd.R_slice HO1431.out
      (first | subst eo44 | (injection eo44 with f1_ f2_ f3_; have f4_ := f1_.symm; have f5_ := f3_.symm; clear f1_ f2_ f3_; subst f4_; subst f5_))
      obtain ⟨Ao45, co45, eo45⟩ := Kd.R_slice HO1434.out
      (first | subst eo45 | (injection eo45 with f1_ f2_ f3_; have f4_ := f1_.symm; have f5_ := f3_.symm; clear f1_ f2_ f3_; subst f4_; subst f5_))
      obtain ⟨Ao46, co46, eo46⟩ := Kd.R_slice HO1437.out
      (first | subst eo46 | (injection eo46 with f1_ f2_ f3_; have f4_ := f1_.symm; have f5_ := f3_.symm; clear f1_ f2_ f3_; subst f4_; subst f5_))
      refine hK.out _ _ ⟨(blk_cell BK1423.out 0).trans rfl, (blk_cell BK1423.out 1).trans rfl, (blk_cell BK1423.out 2).trans rfl, (blk_cell BK1423.out 3).trans rfl, (blk_cell BK1423.out 4).trans rfl, (blk_cell BK1395.out 0).trans rfl, (blk_cell BK1395.out 1).trans rfl, (blk_cell BK1395.out 2).trans rfl, (blk_cell BK1395.out 3).trans rfl, (blk_cell BK1395.out 4).trans rfl⟩ (fun hHeld => ?_)
      clear hK K
      refine na_ ?_
      refine one_ (i := 3) (N := some 44) #[true, true, true, true, false] rfl rfl (by kernel_rfl) (by decide) (fun K hK => ?_)
      refine gs_ Try.func19 #[.agg #[.slice Ao24 t1412.length co24, .slice Ao27 t1415.length co27, .slice Ao28 t1418.length co28, .int .i64 t1421, .int .i64 t1422], .agg #[.slice Ao44 t1429.length co44, .slice Ao45 t1432.length co45, .slice Ao46 t1435.length co46, .int .i64 t1438, .int .i64 t1439]] ?_
      with_reducible refine (laws_eqExploration.calls kj10 _ _ t1412 _ _ t1415 _ _ t1418 t1421 t1422 _ _ t1429 _ _ t1432 _ _ t1435 t1438 t1439 true _ ?side1 ?side2 ?side3 ?side4 ?side5 ?side6 ?side7 ?side8 ?side9 ?side10 ?side11 ?side12 A38.out).mono ?_
      (case side1 => exact kc_ (Kd.R_reads' HO_1424000.out).2.2)
      (case side2 => exact (Kd.R_reads' HO_1424000.out).2.1)
      (case side3 => exact kc_ (Kd.R_reads' HO_1424001.out).2.2)
      (case side4 => exact (Kd.R_reads' HO_1424001.out).2.1)
      (case side5 => exact kc_ (Kd.R_reads' HO_1424002.out).2.2)
      (case side6 => exact (Kd.R_reads' HO_1424002.out).2.1)
      (case side7 => exact kc_ (Kd.R_reads' HO1431.out).2.2)
      (case side8 => exact (Kd.R_reads' HO1431.out).2.1)
      (case side9 => exact kc_ (Kd.R_reads' HO1434.out).2.2)
      (case side10 => exact (Kd.R_reads' HO1434.out).2.1)
      (case side11 => exact kc_ (Kd.R_reads' HO1437.out).2.2)
      (case side12 => exact (Kd.R_reads' HO1437.out).2.1)
      rintro e w47 ⟨rfl, hb⟩
      refine ⟨_, rfl, ?_⟩
      replace HO_4 := Aside0.mk (Kd.R_below (kr_ HO_4.out) hb)
      replace HO_7 := Aside0.mk (Kd.R_below (kr_ HO_7.out) hb)
      replace HO_1424000 := Aside0.mk (Kd.R_below (kr_ HO_1424000.out) hb)
      replace HO_1424001 := Aside0.mk (Kd.R_below (kr_ HO_1424001.out) hb)
      replace HO_1424002 := Aside0.mk (Kd.R_below (kr_ HO_1424002.out) hb)
      replace HO1431 := Aside0.mk (Kd.R_below (kr_ HO1431.out) hb)
      replace HO1434 := Aside0.mk (Kd.R_below (kr_ HO1434.out) hb)
      replace HO1437 := Aside0.mk (Kd.R_below (kr_ HO1437.out) hb)
      replace BK1395 := Aside0.mk (bb_ (bk_ BK1395.out) hb)
      replace BK1423 := Aside0.mk (bb_ (bk_ BK1423.out) hb)
      replace HB := Aside0.mk (below_step (lb2_ HB.out GE1395.out GE1423.out) hb)
      (try clear hb)
      (try clear hb2)
      (try clear hk)
      (try clear hi)
      refine hK.out _ _ ⟨(blk_cell BK1423.out 0).trans rfl, (blk_cell BK1423.out 1).trans rfl, (blk_cell BK1423.out 2).trans rfl, (blk_cell BK1423.out 3).trans rfl, (blk_cell BK1423.out 4).trans rfl, (blk_cell BK1395.out 0).trans rfl, (blk_cell BK1395.out 1).trans rfl, (blk_cell BK1395.out 2).trans rfl, (blk_cell BK1395.out 3).trans rfl, (blk_cell BK1395.out 4).trans rfl⟩ (fun hHeld => ?_)
      clear hK K
      refine na_ ?_
      refine pure_ (i := 4) (N := some 45) (v := ?_) (a' := ?_) #[true, true, true, true, true] rfl rfl (by kernel_rfl) (fun _ _ _ h => h) (Or.inl ⟨by rfl, ?_⟩) ?_ ?_
      rotate_left
      ·
       intro w'
       go_simp
       with_reducible rfl
      rotate_left
      ·
       simp only [Act.put, List.setIfInBounds_toArray, List.set_cons_zero, List.set_cons_succ, i64_w, i32_w]
       rfl
      refine done_ (by kernel_rfl) ?_
      have hnb48 := NB1423_1395.out
      have hnc48 := NB1395_1423.out
      obtain ⟨hcz49_0, hcz49_1, hcz49_2, hcz49_3, hcz49_4⟩ := cz5_ BK1423.out
      obtain ⟨hfz49_0, hfz49_1, hfz49_2, hfz49_3, hfz49_4⟩ := fz5_ BK1423.out
      go_upto_region 14 with (first | ((with_reducible refine gate_callee (f := 41) rfl ?_); refine ga_ (some 48) Try.func41 #[.agg #[.slice Ao24 t1412.length co24, .slice Ao27 t1415.length co27, .slice Ao28 t1418.length co28, .int .i64 t1421, .int .i64 t1422], .int .i64 1] ?_; (with_reducible refine (laws_markExploration.calls kj10 (fun k_ => some k_ = (.slice Ao24 t1412.length co24 : Value).ownBlock) (.slice Ao24 t1412.length co24) t1412 (fun k_ => some k_ = (.slice Ao27 t1415.length co27 : Value).ownBlock) (.slice Ao27 t1415.length co27) t1415 (fun k_ => some k_ = (.slice Ao28 t1418.length co28 : Value).ownBlock) (.slice Ao28 t1418.length co28) t1418 t1421 t1422 1 t1441 t1442 t1443 t1444 w _ ?side1 ?side2 ?side3 ?side4 ?side5 ?side6 A40.out).mono ?_); (case side1 => exact lb2_ HB.out GE1395.out GE1423.out); (case side2 => exact Kd.R_tight rfl HO_1424000.out); (case side3 => exact Kd.R_tight rfl HO_1424001.out); (case side4 => exact fun k_ e_ => (HO_1424001.out.1 k_ e_.symm).1.1); (case side5 => exact Kd.R_tight rfl HO_1424002.out); (case side6 => exact fun k_ e_ => (HO_1424002.out.1 k_ e_.symm).1.1); rintro e w50 ⟨rfl, hy0, hy1, hy2, hb, hkp⟩; refine ⟨_, rfl, ?_⟩; replace HO_4 := Aside0.mk (Kd.R_mono (ok' := fun k_ => some k_ ≠ (v1425 : Value).ownBlock) (Kd.R_keptB ((Kd.R_apart' (Kd.R_apart' (Kd.R_apart' HO_4.out (Kd.R_typed HO_1424000.out) (by decide)) (Kd.R_typed HO_1424001.out) (by decide)) (Kd.R_typed HO_1424002.out) (by decide))) hkp (fun k_ hk_ hs_ => Or.elim hs_ (fun e_ => (hk_.1.1.2) e_) (fun e_ => Or.elim e_ (fun e_ => (hk_.1.2) e_) (fun e_ => (hk_.2) e_)))) (fun k_ hk_ => hk_.1.1.1.1)); replace HO_7 := Aside0.mk (Kd.R_mono (ok' := fun k_ => some k_ ≠ (v1409 : Value).ownBlock) (Kd.R_keptB ((Kd.R_apart' (Kd.R_apart' (Kd.R_apart' HO_7.out (Kd.R_typed HO_1424000.out) (by decide)) (Kd.R_typed HO_1424001.out) (by decide)) (Kd.R_typed HO_1424002.out) (by decide))) hkp (fun k_ hk_ hs_ => Or.elim hs_ (fun e_ => (hk_.1.1.2) e_) (fun e_ => Or.elim e_ (fun e_ => (hk_.1.2) e_) (fun e_ => (hk_.2) e_)))) (fun k_ hk_ => hk_.1.1.1.1)); replace BK1395 := Aside0.mk (blk_kept (bk_ BK1395.out) hkp (fun hs_ => Or.elim hs_ (fun e_ => (fun e_ => (Kd.R_ne HO_1424000.out BK1395.out (by decide)) e_) e_) (fun e_ => Or.elim e_ (fun e_ => (fun e_ => (Kd.R_ne HO_1424001.out BK1395.out (by decide)) e_) e_) (fun e_ => (fun e_ => (Kd.R_ne HO_1424002.out BK1395.out (by decide)) e_) e_)))); replace BK1423 := Aside0.mk (blk_kept (bk_ BK1423.out) hkp (fun hs_ => Or.elim hs_ (fun e_ => (fun e_ => (Kd.R_ne HO_1424000.out BK1423.out (by decide)) e_) e_) (fun e_ => Or.elim e_ (fun e_ => (fun e_ => (Kd.R_ne HO_1424001.out BK1423.out (by decide)) e_) e_) (fun e_ => (fun e_ => (Kd.R_ne HO_1424002.out BK1423.out (by decide)) e_) e_)))); replace HO1431 := Aside0.mk (Kd.R_mono (ok' := fun k_ => some k_ ≠ (.slice Ao24 t1412.length co24 : Value).ownBlock) (Kd.R_keptB ((Kd.R_apart' (Kd.R_apart' HO1431.out (Kd.R_typed HO_1424001.out) (by decide)) (Kd.R_typed HO_1424002.out) (by decide))) hkp (fun k_ hk_ hs_ => Or.elim hs_ (fun e_ => (hk_.1.1.2) e_) (fun e_ => Or.elim e_ (fun e_ => (hk_.1.2) e_) (fun e_ => (hk_.2) e_)))) (fun k_ hk_ => hk_.1.1.1.2)); replace HO_1424001 := Aside0.mk (Kd.R_reok rfl hy1 (fun k_ e_ => HO_1424001.out.1 k_ e_)); replace HO_1424002 := Aside0.mk (Kd.R_reok rfl hy2 (fun k_ e_ => HO_1424002.out.1 k_ e_)); replace HO1434 := Aside0.mk (Kd.R_mono (ok' := fun k_ => some k_ ≠ (.slice Ao27 t1415.length co27 : Value).ownBlock ∧ some k_ ≠ (.slice Ao28 t1418.length co28 : Value).ownBlock ∧ some k_ ≠ (.slice Ao46 t1435.length co46 : Value).ownBlock) (Kd.R_keptB ((Kd.R_apart' HO1434.out (Kd.R_typed HO_1424000.out) (by decide))) hkp (fun k_ hk_ hs_ => Or.elim hs_ (fun e_ => (hk_.2) e_) (fun e_ => Or.elim e_ (fun e_ => (hk_.1.1.2) e_) (fun e_ => (hk_.1.2) e_)))) (fun k_ hk_ => ⟨hk_.1.1.1.2, hk_.1.1.2, hk_.1.1.1.1⟩)); replace HO1437 := Aside0.mk (Kd.R_mono (ok' := fun k_ => some k_ ≠ (.slice Ao27 t1415.length co27 : Value).ownBlock ∧ some k_ ≠ (.slice Ao28 t1418.length co28 : Value).ownBlock ∧ some k_ ≠ (.slice Ao45 t1432.length co45 : Value).ownBlock) (Kd.R_keptB ((Kd.R_apart' HO1437.out (Kd.R_typed HO_1424000.out) (by decide))) hkp (fun k_ hk_ hs_ => Or.elim hs_ (fun e_ => (hk_.2) e_) (fun e_ => Or.elim e_ (fun e_ => (hk_.1.1.2) e_) (fun e_ => (hk_.1.2) e_)))) (fun k_ hk_ => ⟨hk_.1.1.1.2, hk_.1.1.2, hk_.1.1.1.1⟩)); replace HO_1424000 := Aside0.mk (Kd.R_reok rfl hy0 (fun k_ e_ => HO_1424000.out.1 k_ e_)); replace HB := Aside0.mk (hb); (try clear hb); (try clear hkp); (try clear hy0); (try clear hy1); (try clear hy2)))
      (try simp only [Act.put, List.setIfInBounds_toArray, List.set_cons_zero, List.set_cons_succ])
      go_cut [61] (fun v61 wc => ∃ (kq : Nat) (x61_40 : Bool), v61 = .bool x61_40 ∧ Aside0 (laws_FnExactNextLegs.j1 kq t1408 t1411 t1424 x61_40 l0_0 l0_1 l0_2 a0_3 a0_4 = some r) ∧ Aside0 (kq ≤ kj10) ∧ Aside0 (Kd.R (Kd.int .i64) 3 wc w.heap.size (fun k_ => some k_ ≠ (v1425 : Value).ownBlock) v1409 t1408) ∧ Aside0 (Kd.R (Kd.int .i64) 3 wc w.heap.size (fun k_ => some k_ ≠ (v1409 : Value).ownBlock) v1425 t1424) ∧ Aside0 (Kd.R k37 37 wc w.heap.size (fun _ => True) (.slice Ao24 t1412.length co24) t1442) ∧ Aside0 (Kd.R Kd.bool 4 wc w.heap.size (fun k_ => some k_ ≠ ((.slice Ao28 t1418.length co28) : Value).ownBlock) (.slice Ao27 t1415.length co27) t1443) ∧ Aside0 (Kd.R Kd.bool 4 wc w.heap.size (fun k_ => some k_ ≠ ((.slice Ao27 t1415.length co27) : Value).ownBlock) (.slice Ao28 t1418.length co28) t1444) ∧ Aside0 (wc.heap[gb1395]? = some (.cells #[(.slice A0_0 l0_0.length c0_0), (.slice A0_1 l0_1.length c0_1), (.slice A0_2 l0_2.length c0_2), .int .i64 a0_3, .int .i64 a0_4] 25 (0, 0))) ∧ Aside0 (wc.heap[gb1423]? = some (.cells #[(.slice Ao24 t1412.length co24), (.slice Ao27 t1415.length co27), (.slice Ao28 t1418.length co28), .int .i64 t1421, .int .i64 t1422] 30 (0, 0))) ∧ Aside0 (Below w.heap.size w wc))
      case first =>
       have H := HC41.out
       clear HC41
       by_cases c51 : t1441 < 0
       ·
        rw [if_pos c51] at H
        have c51b0 : decide (t1441 < 0) = true := decide_eq_true c51; clear c51
        (first | rw [c51b0] | (simp only [i64_w, i32_w]; rw [c51b0]) | skip)
        have H' := Aside0.mk H; clear H
        go_wp2
        go_meet
        case rel => exact ⟨_, (true), (by first | rfl | (simp; done) | (simp [*]; done)), H', ⟨by have := HJ10.out; first | omega | exact Nat.le_refl _⟩, ⟨kr_ HO_4.out⟩, ⟨kr_ HO_7.out⟩, ⟨krm_ HO_1424000.out (fun _ hk => trivial)⟩, ⟨krm_ HO_1424001.out (fun _ hk => hk.1.1)⟩, ⟨krm_ HO_1424002.out (fun _ hk => hk.1.1)⟩, ⟨bk_ BK1395.out⟩, ⟨bk_ BK1423.out⟩, ⟨lb2_ HB.out GE1395.out GE1423.out⟩⟩
       ·
        rw [if_neg c51] at H
        have c51b0 : decide (t1441 < 0) = false := decide_eq_false c51; clear c51
        (first | rw [c51b0] | (simp only [i64_w, i32_w]; rw [c51b0]) | skip)
        replace H := Option.bind_eq_some_iff.mp H; obtain ⟨t1445, A520, H⟩ := H; replace H : (if t1445 = true then (laws_FnExactNextLegs.j1 kj10 t1408 t1411 t1424 (t1427 != t1411) l0_0 l0_1 l0_2 a0_3 a0_4) else (laws_FnExactNextLegs.j1 kj10 t1408 t1411 t1424 true l0_0 l0_1 l0_2 a0_3 a0_4)) = some r := H; have A52 := Aside0.mk A520; clear A520
        by_cases c53 : t1445 = true
        ·
         subst c53
         have H1 : (laws_FnExactNextLegs.j1 kj10 t1408 t1411 t1424 (t1427 != t1411) l0_0 l0_1 l0_2 a0_3 a0_4) = some r := by rw [if_pos rfl] at H; exact H
         clear H; have H := H1; clear H1; have H' := Aside0.mk H; clear H; obtain ⟨Ao54, co54, eo54⟩ := Kd.R_slice HO_7.out; subst eo54; obtain ⟨Ao55, co55, eo55⟩ := Kd.R_slice HO_4.out; subst eo55
         go_wp2_with (first | (go_at_call 45; (with_reducible refine (laws_eqIntS.calls kj10 _ _ t1424 _ _ t1408 true _ ?side1 ?side2 ?side3 ?side4 A52.out).mono ?_); (case side1 => exact kc_ (Kd.R_reads' HO_7.out).2.2); (case side2 => exact (Kd.R_reads' HO_7.out).2.1); (case side3 => exact kc_ (Kd.R_reads' HO_4.out).2.2); (case side4 => exact (Kd.R_reads' HO_4.out).2.1); rintro e w' ⟨rfl, ⟨nd, rfl⟩⟩))
         go_meet
         case rel => exact ⟨_, ((t1427 != t1411)), (by first | rfl | (simp; done) | (simp [*]; done)), H', ⟨by have := HJ10.out; first | omega | exact Nat.le_refl _⟩, ⟨kr_ HO_4.out⟩, ⟨kr_ HO_7.out⟩, ⟨krm_ HO_1424000.out (fun _ hk => trivial)⟩, ⟨krm_ HO_1424001.out (fun _ hk => hk.1.1)⟩, ⟨krm_ HO_1424002.out (fun _ hk => hk.1.1)⟩, ⟨bk_ BK1395.out⟩, ⟨bk_ BK1423.out⟩, ⟨lb2_ HB.out GE1395.out GE1423.out⟩⟩
        ·
         replace c53 := Bool.eq_false_iff.mpr c53; subst c53
         have H1 : (laws_FnExactNextLegs.j1 kj10 t1408 t1411 t1424 true l0_0 l0_1 l0_2 a0_3 a0_4) = some r := by rw [if_neg (show ¬ (false = true) by decide)] at H; exact H
         clear H; have H := H1; clear H1; have H' := Aside0.mk H; clear H; obtain ⟨Ao56, co56, eo56⟩ := Kd.R_slice HO_7.out; subst eo56; obtain ⟨Ao57, co57, eo57⟩ := Kd.R_slice HO_4.out; subst eo57
         go_wp2_with (first | (go_at_call 45; (with_reducible refine (laws_eqIntS.calls kj10 _ _ t1424 _ _ t1408 false _ ?side1 ?side2 ?side3 ?side4 A52.out).mono ?_); (case side1 => exact kc_ (Kd.R_reads' HO_7.out).2.2); (case side2 => exact (Kd.R_reads' HO_7.out).2.1); (case side3 => exact kc_ (Kd.R_reads' HO_4.out).2.2); (case side4 => exact (Kd.R_reads' HO_4.out).2.1); rintro e w' ⟨rfl, ⟨nd, rfl⟩⟩))
         go_meet
         case rel => exact ⟨_, (true), (by first | rfl | (simp; done) | (simp [*]; done)), H', ⟨by have := HJ10.out; first | omega | exact Nat.le_refl _⟩, ⟨kr_ HO_4.out⟩, ⟨kr_ HO_7.out⟩, ⟨krm_ HO_1424000.out (fun _ hk => trivial)⟩, ⟨krm_ HO_1424001.out (fun _ hk => hk.1.1)⟩, ⟨krm_ HO_1424002.out (fun _ hk => hk.1.1)⟩, ⟨bk_ BK1395.out⟩, ⟨bk_ BK1423.out⟩, ⟨lb2_ HB.out GE1395.out GE1423.out⟩⟩
      case rest =>
       clear HC41
       try clear c1
       try clear c2
       try clear p2
       try clear c3
       try clear c3b0
       try clear c4
       try clear c5
       try clear c10
       try clear c15
       try clear c17
       try clear c19
       try clear c25
       try clear c31
       try clear c36
       try clear c39
       try clear c41
       try clear c45
       try clear c48
       try clear c49
       try clear c51
       try clear c51b0
       try clear c53
       try clear hcz13_0 hcz13_1 hcz13_2 hcz13_3 hcz13_4
       try clear hcz15_0 hcz15_1 hcz15_2 hcz15_3 hcz15_4
       try clear hcz21_0 hcz21_1 hcz21_2 hcz21_3 hcz21_4
       try clear hcz26_0 hcz26_1 hcz26_2 hcz26_3 hcz26_4
       try clear hcz49_0 hcz49_1 hcz49_2 hcz49_3 hcz49_4
       try clear hcz5_0 hcz5_1 hcz5_2 hcz5_3 hcz5_4
       try clear hfz13_0 hfz13_1 hfz13_2 hfz13_3 hfz13_4
       try clear hfz15_0 hfz15_1 hfz15_2 hfz15_3 hfz15_4
       try clear hfz21_0 hfz21_1 hfz21_2 hfz21_3 hfz21_4
       try clear hfz26_0 hfz26_1 hfz26_2 hfz26_3 hfz26_4
       try clear hfz49_0 hfz49_1 hfz49_2 hfz49_3 hfz49_4
       try clear hfz5_0 hfz5_1 hfz5_2 hfz5_3 hfz5_4
       try clear p2
       obtain ⟨kq, x61_40, rfl, HA, HJ40, HO_4, HO_7, HO_1424000, HO_1424001, HO_1424002, BK1395, BK1423, HB⟩ := hcut
       have hl1424000_40 := (Kd.R_reads' HO_1424000.out).1
       rw [hl1424000_40] at HO_1424000
       (try simp only [hl1424000_40])
       (try simp only [hl1424000_40] at BK1395)
       (try simp only [hl1424000_40] at BK1423)
       (try simp only [hl1424000_40] at HO_4)
       (try simp only [hl1424000_40] at HO_7)
       (try simp only [hl1424000_40] at HO_1424001)
       (try simp only [hl1424000_40] at HO_1424002)
       have hl1424001_40 := (Kd.R_reads' HO_1424001.out).1
       rw [hl1424001_40] at HO_1424001
       (try simp only [hl1424001_40])
       (try simp only [hl1424001_40] at BK1395)
       (try simp only [hl1424001_40] at BK1423)
       (try simp only [hl1424001_40] at HO_4)
       (try simp only [hl1424001_40] at HO_7)
       (try simp only [hl1424001_40] at HO_1424000)
       (try simp only [hl1424001_40] at HO_1424002)
       have hl1424002_40 := (Kd.R_reads' HO_1424002.out).1
       rw [hl1424002_40] at HO_1424002
       (try simp only [hl1424002_40])
       (try simp only [hl1424002_40] at BK1395)
       (try simp only [hl1424002_40] at BK1423)
       (try simp only [hl1424002_40] at HO_4)
       (try simp only [hl1424002_40] at HO_7)
       (try simp only [hl1424002_40] at HO_1424000)
       (try simp only [hl1424002_40] at HO_1424001)
       cases kq with
       | zero => exact absurd HA.out (by simp [laws_FnExactNextLegs.j1])
       | succ kj40 =>
        have H := HA.out; clear HA; simp only [laws_FnExactNextLegs.j1] at H
        by_cases c58 : x61_40 = true
        ·
         subst c58
         have H1 : (none) = some r := by rw [if_pos rfl] at H; exact H
         clear H; have H := H1; clear H1; exact absurd H (by simp)
        ·
         replace c58 := Bool.eq_false_iff.mpr c58; subst c58
         have H1 : ((laws_markIntS.f kj40 t1424 1).bind fun bt1446 => ((laws_heldIntS.f kj40 bt1446.2 1).bind fun t1448 => (if t1448 < 0 then (none) else (if t1448 = bt1446.1 then ((laws_toExploration.f kj40 l0_0 l0_1 l0_2 a0_3 a0_4).bind fun bt1449 => ((impl_NextLegs.f kj40 bt1449.1 bt1449.2.1 bt1449.2.2.1 bt1449.2.2.2.1 bt1449.2.2.2.2).bind fun bt1460 => ((laws_eqIntS.f kj40 bt1460.1 t1408).bind fun t1464 => (if t1464 = true then (laws_FnExactNextLegs.j2 kj40 bt1446.2 bt1446.1 (bt1460.2 != t1411)) else (laws_FnExactNextLegs.j2 kj40 bt1446.2 bt1446.1 true))))) else (none))))) = some r := by rw [if_neg (show ¬ (false = true) by decide)] at H; exact H
         clear H; have H := H1; clear H1; replace H := Option.bind_eq_some_iff.mp H; obtain ⟨⟨t1446, t1447⟩, A590, H⟩ := H; replace H : ((laws_heldIntS.f kj40 t1447 1).bind fun t1448 => (if t1448 < 0 then (none) else (if t1448 = t1446 then ((laws_toExploration.f kj40 l0_0 l0_1 l0_2 a0_3 a0_4).bind fun bt1449 => ((impl_NextLegs.f kj40 bt1449.1 bt1449.2.1 bt1449.2.2.1 bt1449.2.2.2.1 bt1449.2.2.2.2).bind fun bt1460 => ((laws_eqIntS.f kj40 bt1460.1 t1408).bind fun t1464 => (if t1464 = true then (laws_FnExactNextLegs.j2 kj40 t1447 t1446 (bt1460.2 != t1411)) else (laws_FnExactNextLegs.j2 kj40 t1447 t1446 true))))) else (none)))) = some r := H; have A59 := Aside0.mk A590; clear A590; replace H := Option.bind_eq_some_iff.mp H; obtain ⟨t1448, A600, H⟩ := H; replace H : (if t1448 < 0 then (none) else (if t1448 = t1446 then ((laws_toExploration.f kj40 l0_0 l0_1 l0_2 a0_3 a0_4).bind fun bt1449 => ((impl_NextLegs.f kj40 bt1449.1 bt1449.2.1 bt1449.2.2.1 bt1449.2.2.2.1 bt1449.2.2.2.2).bind fun bt1460 => ((laws_eqIntS.f kj40 bt1460.1 t1408).bind fun t1464 => (if t1464 = true then (laws_FnExactNextLegs.j2 kj40 t1447 t1446 (bt1460.2 != t1411)) else (laws_FnExactNextLegs.j2 kj40 t1447 t1446 true))))) else (none))) = some r := H; have A60 := Aside0.mk A600; clear A600
         by_cases c61 : t1448 < 0
         ·
          rw [if_pos c61] at H
          exact absurd H (by simp)
         ·
          rw [if_neg c61] at H
          have c61b0 : decide (t1448 < 0) = false := decide_eq_false c61; clear c61
          by_cases c62 : t1448 = t1446
          ·
           rw [if_pos c62] at H
           have c62b0 : (t1448 == t1446) = true := beq_iff_eq.mpr c62; have c62b1 : (t1448 != t1446) = false := bne_eq_false_iff_eq.mpr c62; clear c62; replace H := Option.bind_eq_some_iff.mp H; obtain ⟨⟨t1449, t1452, t1455, t1458, t1459⟩, A630, H⟩ := H; replace H : ((impl_NextLegs.f kj40 t1449 t1452 t1455 t1458 t1459).bind fun bt1460 => ((laws_eqIntS.f kj40 bt1460.1 t1408).bind fun t1464 => (if t1464 = true then (laws_FnExactNextLegs.j2 kj40 t1447 t1446 (bt1460.2 != t1411)) else (laws_FnExactNextLegs.j2 kj40 t1447 t1446 true)))) = some r := H; have A63 := Aside0.mk A630; clear A630; replace H := Option.bind_eq_some_iff.mp H; obtain ⟨⟨t1460, t1463⟩, A640, H⟩ := H; replace H : ((laws_eqIntS.f kj40 t1460 t1408).bind fun t1464 => (if t1464 = true then (laws_FnExactNextLegs.j2 kj40 t1447 t1446 (t1463 != t1411)) else (laws_FnExactNextLegs.j2 kj40 t1447 t1446 true))) = some r := H; have A64 := Aside0.mk A640; clear A640; have HC65 := Aside0.mk H; clear H; obtain ⟨Ao66, co66, eo66⟩ := Kd.R_slice HO_7.out; subst eo66
           go_upto_region 25 with (first | ((with_reducible refine gate_callee (f := 46) rfl ?_); refine ga_ (some 64) Try.func46 #[.slice Ao66 t1424.length co66, .int .i64 1] ?_; (with_reducible refine (laws_markIntS.calls kj40 (fun k_ => some k_ = (.slice Ao66 t1424.length co66 : Value).ownBlock) (.slice Ao66 t1424.length co66) t1424 1 t1446 t1447 w _ ?side1 ?side2 A59.out).mono ?_); (case side1 => exact lb2_ HB.out GE1395.out GE1423.out); (case side2 => exact Kd.R_tight rfl HO_7.out); rintro e w67 ⟨rfl, hy0, hb, hkp⟩; refine ⟨_, rfl, ?_⟩; replace HO_4 := Aside0.mk (Kd.R_mono (ok' := fun k_ => some k_ ≠ (.slice Ao66 t1424.length co66 : Value).ownBlock) (Kd.R_keptB (HO_4.out) hkp (fun k_ hk_ hs_ => (hk_) hs_)) (fun k_ hk_ => hk_.1)); replace HO_1424000 := Aside0.mk (Kd.R_mono (ok' := fun k_ => True) (Kd.R_keptB ((Kd.R_apart' HO_1424000.out (Kd.R_typed HO_7.out) (by decide))) hkp (fun k_ hk_ hs_ => (hk_.2) hs_)) (fun k_ hk_ => trivial)); replace HO_1424001 := Aside0.mk (Kd.R_mono (ok' := fun k_ => some k_ ≠ (.slice Ao28 t1444.length co28 : Value).ownBlock) (Kd.R_keptB ((Kd.R_apart' HO_1424001.out (Kd.R_typed HO_7.out) (by decide))) hkp (fun k_ hk_ hs_ => (hk_.2) hs_)) (fun k_ hk_ => hk_.1.1)); replace HO_1424002 := Aside0.mk (Kd.R_mono (ok' := fun k_ => some k_ ≠ (.slice Ao27 t1443.length co27 : Value).ownBlock) (Kd.R_keptB ((Kd.R_apart' HO_1424002.out (Kd.R_typed HO_7.out) (by decide))) hkp (fun k_ hk_ hs_ => (hk_.2) hs_)) (fun k_ hk_ => hk_.1.1)); replace BK1395 := Aside0.mk (blk_kept (bk_ BK1395.out) hkp (fun hs_ => (fun e_ => (Kd.R_ne HO_7.out BK1395.out (by decide)) e_) hs_)); replace BK1423 := Aside0.mk (blk_kept (bk_ BK1423.out) hkp (fun hs_ => (fun e_ => (Kd.R_ne HO_7.out BK1423.out (by decide)) e_) hs_)); replace HO_7 := Aside0.mk (Kd.R_reok rfl hy0 (fun k_ e_ => HO_7.out.1 k_ e_)); replace HB := Aside0.mk (hb); (try clear hb); (try clear hkp); (try clear hy0)) | ((with_reducible refine gate_callee (f := 47) rfl ?_); refine goesL_ (some 67) rfl rfl Try.func47 (by kernel_rfl) rfl #[.slice Ao66 t1447.length co66, .int .i64 1] rfl (by (try simp only [List.map_toArray, List.map_cons, List.map_nil]); first | done | (rw [show t1447.length = t1424.length from (Kd.R_reads' HO_7.out).1.symm] <;> rfl) | rfl | (simp only [List.length_drop, List.length_take]; rfl)) ?_; (with_reducible refine (laws_heldIntS.calls kj40 _ _ t1447 1 t1448 _ ?side1 ?side2 A60.out).mono ?_); (case side1 => exact kc_ (Kd.R_reads' HO_7.out).2.2); (case side2 => rw [show t1447.length = t1424.length from (Kd.R_reads' HO_7.out).1.symm]; exact (Kd.R_reads' HO_7.out).2.1); rintro e w' ⟨rfl, ⟨nd, rfl⟩⟩; refine ⟨_, rfl, ?_⟩; have hnb68 := NB1395_1423.out; have hnc68 := NB1423_1395.out; obtain ⟨hcz69_0, hcz69_1, hcz69_2, hcz69_3, hcz69_4⟩ := cz5_ BK1395.out; obtain ⟨hfz69_0, hfz69_1, hfz69_2, hfz69_3, hfz69_4⟩ := fz5_ BK1395.out) | ((with_reducible refine gate_callee (f := 17) rfl ?_); refine ga_ (some 75) Try.func17 #[.agg #[.slice A0_0 l0_0.length c0_0, .slice A0_1 l0_1.length c0_1, .slice A0_2 l0_2.length c0_2, .int .i64 a0_3, .int .i64 a0_4]] ?_; (with_reducible refine (laws_toExploration.calls kj40 _ _ l0_0 _ _ l0_1 _ _ l0_2 a0_3 a0_4 t1449 t1452 t1455 t1458 t1459 _ ?side1 ?side2 ?side3 ?side4 ?side5 ?side6 A63.out).mono ?_); (case side1 => exact kc_ (Kd.C_below HR0_0.out (lb2_ HB.out GE1395.out GE1423.out))); (case side2 => exact HC0_0.out); (case side3 => exact kc_ (Kd.C_below HR0_1.out (lb2_ HB.out GE1395.out GE1423.out))); (case side4 => exact HC0_1.out); (case side5 => exact kc_ (Kd.C_below HR0_2.out (lb2_ HB.out GE1395.out GE1423.out))); (case side6 => exact HC0_2.out); rintro e w70 ⟨v1450, v1453, v1456, rfl, ho0, ho1, ho2, hb⟩; refine ⟨_, rfl, ?_⟩; replace HO_4 := Aside0.mk (Kd.R_below (kr_ HO_4.out) hb); replace HO_7 := Aside0.mk (Kd.R_below (kr_ HO_7.out) hb); have HO1451 := Aside0.mk (Kd.R_lower (Kd.R_new' ho0 (Kd.R_lt (kr_ HO_1424000.out))) (below_size (lb2_ HB.out GE1395.out GE1423.out))); replace HO_1424000 := Aside0.mk (Kd.R_elder' (kr_ HO_1424000.out) (Kd.R_base ho0) hb); have HO1454 := Aside0.mk (Kd.R_lower (Kd.R_new' (Kd.R_new' ho1 (Kd.R_lt (kr_ HO_1424001.out))) (Kd.R_lt (kr_ HO_1424002.out))) (below_size (lb2_ HB.out GE1395.out GE1423.out))); have HO1457 := Aside0.mk (Kd.R_lower (Kd.R_new' (Kd.R_new' ho2 (Kd.R_lt (kr_ HO_1424001.out))) (Kd.R_lt (kr_ HO_1424002.out))) (below_size (lb2_ HB.out GE1395.out GE1423.out))); replace HO_1424001 := Aside0.mk (Kd.R_mono (Kd.R_told (Kd.R_told (Kd.R_old (kr_ HO_1424001.out) hb) (Kd.R_base ho1)) (Kd.R_base ho2)) (fun _ h_ => h_.1)); replace HO_1424002 := Aside0.mk (Kd.R_mono (Kd.R_told (Kd.R_told (Kd.R_old (kr_ HO_1424002.out) hb) (Kd.R_base ho1)) (Kd.R_base ho2)) (fun _ h_ => h_.1)); replace BK1395 := Aside0.mk (bb_ (bk_ BK1395.out) hb); replace BK1423 := Aside0.mk (bb_ (bk_ BK1423.out) hb); replace HB := Aside0.mk (below_step (lb2_ HB.out GE1395.out GE1423.out) hb); (try clear hb); (try clear hb2); (try clear hk); (try clear hi); (try clear ho0); (try clear ho1); (try clear ho2); obtain ⟨Ao71, co71, eo71⟩ := Kd.R_slice HO1451.out; subst eo71; obtain ⟨Ao72, co72, eo72⟩ := Kd.R_slice HO1454.out; subst eo72; obtain ⟨Ao73, co73, eo73⟩ := Kd.R_slice HO1457.out; subst eo73) | ((with_reducible refine gate_callee (f := 49) rfl ?_); refine ga_ (some 76) Try.func49 #[.agg #[.slice Ao71 t1449.length co71, .slice Ao72 t1452.length co72, .slice Ao73 t1455.length co73, .int .i64 t1458, .int .i64 t1459]] ?_; (with_reducible refine (impl_NextLegs.calls kj40 _ _ t1449 _ _ t1452 _ _ t1455 t1458 t1459 t1460 t1463 _ ?side1 ?side2 ?side3 ?side4 ?side5 ?side6 A64.out).mono ?_); (case side1 => exact kc_ (Kd.R_reads' HO1451.out).2.2); (case side2 => exact (Kd.R_reads' HO1451.out).2.1); (case side3 => exact kc_ (Kd.R_reads' HO1454.out).2.2); (case side4 => exact (Kd.R_reads' HO1454.out).2.1); (case side5 => exact kc_ (Kd.R_reads' HO1457.out).2.2); (case side6 => exact (Kd.R_reads' HO1457.out).2.1); rintro e w74 ⟨v1461, rfl, ho0, hb⟩; refine ⟨_, rfl, ?_⟩; replace HO_1424000 := Aside0.mk (Kd.R_below (kr_ HO_1424000.out) hb); replace HO_1424001 := Aside0.mk (Kd.R_below (kr_ HO_1424001.out) hb); replace HO_1424002 := Aside0.mk (Kd.R_below (kr_ HO_1424002.out) hb); replace HO1451 := Aside0.mk (Kd.R_below (kr_ HO1451.out) hb); replace HO1454 := Aside0.mk (Kd.R_below (kr_ HO1454.out) hb); replace HO1457 := Aside0.mk (Kd.R_below (kr_ HO1457.out) hb); have HO1462 := Aside0.mk (Kd.R_lower (Kd.R_new' (Kd.R_new' ho0 (Kd.R_lt (kr_ HO_4.out))) (Kd.R_lt (kr_ HO_7.out))) (below_size (lb2_ HB.out GE1395.out GE1423.out))); replace HO_4 := Aside0.mk (Kd.R_elder' (kr_ HO_4.out) (Kd.R_base ho0) hb); replace HO_7 := Aside0.mk (Kd.R_elder' (kr_ HO_7.out) (Kd.R_base ho0) hb); replace BK1395 := Aside0.mk (bb_ (bk_ BK1395.out) hb); replace BK1423 := Aside0.mk (bb_ (bk_ BK1423.out) hb); replace HB := Aside0.mk (below_step (lb2_ HB.out GE1395.out GE1423.out) hb); (try clear hb); (try clear hb2); (try clear hk); (try clear hi); (try clear ho0)))
           (try simp only [Act.put, List.setIfInBounds_toArray, List.set_cons_zero, List.set_cons_succ])
           go_cut [87] (fun v87 wc => ∃ (kq : Nat) (x87_64 : Bool), v87 = .bool x87_64 ∧ Aside0 (laws_FnExactNextLegs.j2 kq t1447 t1446 x87_64 = some r) ∧ Aside0 (kq ≤ kj40) ∧ Aside0 (Kd.R (Kd.int .i64) 3 wc w.heap.size (fun _ => True) (.slice Ao66 t1424.length co66) t1447) ∧ Aside0 (Kd.R k37 37 wc w.heap.size (fun _ => True) (.slice Ao24 t1442.length co24) t1442) ∧ Aside0 (Kd.R Kd.bool 4 wc w.heap.size (fun k_ => some k_ ≠ ((.slice Ao28 t1444.length co28) : Value).ownBlock) (.slice Ao27 t1443.length co27) t1443) ∧ Aside0 (Kd.R Kd.bool 4 wc w.heap.size (fun k_ => some k_ ≠ ((.slice Ao27 t1443.length co27) : Value).ownBlock) (.slice Ao28 t1444.length co28) t1444) ∧ Aside0 (wc.heap[gb1395]? = some (.cells #[(.slice A0_0 l0_0.length c0_0), (.slice A0_1 l0_1.length c0_1), (.slice A0_2 l0_2.length c0_2), .int .i64 a0_3, .int .i64 a0_4] 25 (0, 0))) ∧ Aside0 (wc.heap[gb1423]? = some (.cells #[(.slice Ao24 t1442.length co24), (.slice Ao27 t1443.length co27), (.slice Ao28 t1444.length co28), .int .i64 t1421, .int .i64 t1422] 30 (0, 0))) ∧ Aside0 (Below w.heap.size w wc))
           case first =>
            have H := HC65.out; clear HC65; replace H := Option.bind_eq_some_iff.mp H; obtain ⟨t1464, A750, H⟩ := H; replace H : (if t1464 = true then (laws_FnExactNextLegs.j2 kj40 t1447 t1446 (t1463 != t1411)) else (laws_FnExactNextLegs.j2 kj40 t1447 t1446 true)) = some r := H; have A75 := Aside0.mk A750; clear A750
            by_cases c76 : t1464 = true
            ·
             subst c76
             have H1 : (laws_FnExactNextLegs.j2 kj40 t1447 t1446 (t1463 != t1411)) = some r := by rw [if_pos rfl] at H; exact H
             clear H; have H := H1; clear H1; have H' := Aside0.mk H; clear H; obtain ⟨Ao77, co77, eo77⟩ := Kd.R_slice HO1462.out; subst eo77; obtain ⟨Ao78, co78, eo78⟩ := Kd.R_slice HO_4.out; subst eo78
             go_wp2_with (first | ((with_reducible refine gate_callee (f := 45) rfl ?_); refine ga_ (some 81) Try.func45 #[.slice Ao77 t1460.length co77, .slice Ao78 t1408.length co78] ?_; (with_reducible refine (laws_eqIntS.calls kj40 _ _ t1460 _ _ t1408 true _ ?side1 ?side2 ?side3 ?side4 A75.out).mono ?_); (case side1 => exact kc_ (Kd.R_reads' HO1462.out).2.2); (case side2 => exact (Kd.R_reads' HO1462.out).2.1); (case side3 => exact kc_ (Kd.R_reads' HO_4.out).2.2); (case side4 => exact (Kd.R_reads' HO_4.out).2.1); rintro e w' ⟨rfl, ⟨nd, rfl⟩⟩; refine ⟨_, rfl, ?_⟩))
             go_meet
             case rel => exact ⟨_, ((t1463 != t1411)), (by first | rfl | (simp; done) | (simp [*]; done)), H', ⟨by have := HJ10.out; have := HJ40.out; first | omega | exact Nat.le_refl _⟩, ⟨by (try simp only [hl1424000_40]); (try simp only [hl1424001_40]); (try simp only [hl1424002_40]); (with_reducible repeat (first | apply Kd.R_alloc | apply Kd.R_drewN | apply Kd.R_drew)); exact Kd.R_mono HO_7.out (fun _ hk => trivial)⟩, ⟨by (try simp only [hl1424000_40]); (try simp only [hl1424001_40]); (try simp only [hl1424002_40]); (with_reducible repeat (first | apply Kd.R_alloc | apply Kd.R_drewN | apply Kd.R_drew)); exact Kd.R_mono HO_1424000.out (fun _ hk => trivial)⟩, ⟨by (try simp only [hl1424000_40]); (try simp only [hl1424001_40]); (try simp only [hl1424002_40]); (with_reducible repeat (first | apply Kd.R_alloc | apply Kd.R_drewN | apply Kd.R_drew)); exact Kd.R_mono HO_1424001.out (fun _ hk => hk.1.1)⟩, ⟨by (try simp only [hl1424000_40]); (try simp only [hl1424001_40]); (try simp only [hl1424002_40]); (with_reducible repeat (first | apply Kd.R_alloc | apply Kd.R_drewN | apply Kd.R_drew)); exact Kd.R_mono HO_1424002.out (fun _ hk => hk.1.1)⟩, ⟨by (try simp only [hl1424000_40]); (try simp only [hl1424001_40]); (try simp only [hl1424002_40]); (with_reducible repeat (first | refine blk_drewN ?_ _ | refine blk_drew ?_ | refine blk_alloc ?_ _)); exact BK1395.out⟩, ⟨by (try simp only [hl1424000_40]); (try simp only [hl1424001_40]); (try simp only [hl1424002_40]); (with_reducible repeat (first | refine blk_drewN ?_ _ | refine blk_drew ?_ | refine blk_alloc ?_ _)); exact BK1423.out⟩, ⟨lb2_ HB.out GE1395.out GE1423.out⟩⟩
            ·
             replace c76 := Bool.eq_false_iff.mpr c76; subst c76
             have H1 : (laws_FnExactNextLegs.j2 kj40 t1447 t1446 true) = some r := by rw [if_neg (show ¬ (false = true) by decide)] at H; exact H
             clear H; have H := H1; clear H1; have H' := Aside0.mk H; clear H; obtain ⟨Ao79, co79, eo79⟩ := Kd.R_slice HO1462.out; subst eo79; obtain ⟨Ao80, co80, eo80⟩ := Kd.R_slice HO_4.out; subst eo80
             go_wp2_with (first | ((with_reducible refine gate_callee (f := 45) rfl ?_); refine ga_ (some 81) Try.func45 #[.slice Ao79 t1460.length co79, .slice Ao80 t1408.length co80] ?_; (with_reducible refine (laws_eqIntS.calls kj40 _ _ t1460 _ _ t1408 false _ ?side1 ?side2 ?side3 ?side4 A75.out).mono ?_); (case side1 => exact kc_ (Kd.R_reads' HO1462.out).2.2); (case side2 => exact (Kd.R_reads' HO1462.out).2.1); (case side3 => exact kc_ (Kd.R_reads' HO_4.out).2.2); (case side4 => exact (Kd.R_reads' HO_4.out).2.1); rintro e w' ⟨rfl, ⟨nd, rfl⟩⟩; refine ⟨_, rfl, ?_⟩))
             go_meet
             case rel => exact ⟨_, (true), (by first | rfl | (simp; done) | (simp [*]; done)), H', ⟨by have := HJ10.out; have := HJ40.out; first | omega | exact Nat.le_refl _⟩, ⟨by (try simp only [hl1424000_40]); (try simp only [hl1424001_40]); (try simp only [hl1424002_40]); (with_reducible repeat (first | apply Kd.R_alloc | apply Kd.R_drewN | apply Kd.R_drew)); exact Kd.R_mono HO_7.out (fun _ hk => trivial)⟩, ⟨by (try simp only [hl1424000_40]); (try simp only [hl1424001_40]); (try simp only [hl1424002_40]); (with_reducible repeat (first | apply Kd.R_alloc | apply Kd.R_drewN | apply Kd.R_drew)); exact Kd.R_mono HO_1424000.out (fun _ hk => trivial)⟩, ⟨by (try simp only [hl1424000_40]); (try simp only [hl1424001_40]); (try simp only [hl1424002_40]); (with_reducible repeat (first | apply Kd.R_alloc | apply Kd.R_drewN | apply Kd.R_drew)); exact Kd.R_mono HO_1424001.out (fun _ hk => hk.1.1)⟩, ⟨by (try simp only [hl1424000_40]); (try simp only [hl1424001_40]); (try simp only [hl1424002_40]); (with_reducible repeat (first | apply Kd.R_alloc | apply Kd.R_drewN | apply Kd.R_drew)); exact Kd.R_mono HO_1424002.out (fun _ hk => hk.1.1)⟩, ⟨by (try simp only [hl1424000_40]); (try simp only [hl1424001_40]); (try simp only [hl1424002_40]); (with_reducible repeat (first | refine blk_drewN ?_ _ | refine blk_drew ?_ | refine blk_alloc ?_ _)); exact BK1395.out⟩, ⟨by (try simp only [hl1424000_40]); (try simp only [hl1424001_40]); (try simp only [hl1424002_40]); (with_reducible repeat (first | refine blk_drewN ?_ _ | refine blk_drew ?_ | refine blk_alloc ?_ _)); exact BK1423.out⟩, ⟨lb2_ HB.out GE1395.out GE1423.out⟩⟩
           case rest =>
            clear HC65
            try clear c1
            try clear c2
            try clear p2
            try clear c3
            try clear c3b0
            try clear c4
            try clear c5
            try clear c6
            try clear c7
            try clear c10
            try clear c15
            try clear c17
            try clear c19
            try clear c25
            try clear c31
            try clear c36
            try clear c39
            try clear c41
            try clear c45
            try clear c46
            try clear c47
            try clear c48
            try clear c49
            try clear c51
            try clear c51b0
            try clear c53
            try clear c58
            try clear c61
            try clear c61b0
            try clear c62
            try clear c62b0
            try clear c62b1
            try clear c68
            try clear c76
            try clear hcz13_0 hcz13_1 hcz13_2 hcz13_3 hcz13_4
            try clear hcz15_0 hcz15_1 hcz15_2 hcz15_3 hcz15_4
            try clear hcz21_0 hcz21_1 hcz21_2 hcz21_3 hcz21_4
            try clear hcz26_0 hcz26_1 hcz26_2 hcz26_3 hcz26_4
            try clear hcz49_0 hcz49_1 hcz49_2 hcz49_3 hcz49_4
            try clear hcz5_0 hcz5_1 hcz5_2 hcz5_3 hcz5_4
            try clear hcz69_0 hcz69_1 hcz69_2 hcz69_3 hcz69_4
            try clear hfz13_0 hfz13_1 hfz13_2 hfz13_3 hfz13_4
            try clear hfz15_0 hfz15_1 hfz15_2 hfz15_3 hfz15_4
            try clear hfz21_0 hfz21_1 hfz21_2 hfz21_3 hfz21_4
            try clear hfz26_0 hfz26_1 hfz26_2 hfz26_3 hfz26_4
            try clear hfz49_0 hfz49_1 hfz49_2 hfz49_3 hfz49_4
            try clear hfz5_0 hfz5_1 hfz5_2 hfz5_3 hfz5_4
            try clear hfz69_0 hfz69_1 hfz69_2 hfz69_3 hfz69_4
            try clear p2
            obtain ⟨kq, x87_64, rfl, HA, HJ64, HO_7, HO_1424000, HO_1424001, HO_1424002, BK1395, BK1423, HB⟩ := hcut; have hl7_64 := (Kd.R_reads' HO_7.out).1
            rw [hl7_64] at HO_7
            (try simp only [hl7_64]); (try simp only [hl7_64] at BK1395); (try simp only [hl7_64] at BK1423); (try simp only [hl7_64] at HO_1424000); (try simp only [hl7_64] at HO_1424001); (try simp only [hl7_64] at HO_1424002)
            cases kq with
            | zero => exact absurd HA.out (by simp [laws_FnExactNextLegs.j2])
            | succ kj64 =>
             have H := HA.out; clear HA; simp only [laws_FnExactNextLegs.j2] at H
             by_cases c81 : x87_64 = true
             ·
              subst c81
              have H1 : (none) = some r := by rw [if_pos rfl] at H; exact H
              clear H; have H := H1; clear H1; exact absurd H (by simp)
             ·
              replace c81 := Bool.eq_false_iff.mpr c81; subst c81
              have H1 : ((laws_heldIntS.f kj64 t1447 1).bind fun t1465 => (if t1465 < 0 then (none) else (if t1465 = t1446 then (some true) else (none)))) = some r := by rw [if_neg (show ¬ (false = true) by decide)] at H; exact H
              clear H; have H := H1; clear H1; replace H := Option.bind_eq_some_iff.mp H; obtain ⟨t1465, A820, H⟩ := H; replace H : (if t1465 < 0 then (none) else (if t1465 = t1446 then (some true) else (none))) = some r := H; have A82 := Aside0.mk A820; clear A820
              by_cases c83 : t1465 < 0
              ·
               rw [if_pos c83] at H
               exact absurd H (by simp)
              ·
               rw [if_neg c83] at H
               have c83b0 : decide (t1465 < 0) = false := decide_eq_false c83; clear c83
               by_cases c84 : t1465 = t1446
               ·
                rw [if_pos c84] at H
                have c84b0 : (t1465 == t1446) = true := beq_iff_eq.mpr c84; have c84b1 : (t1465 != t1446) = false := bne_eq_false_iff_eq.mpr c84; clear c84; obtain rfl := Option.some.inj H
                go_wp2_with (first | ((with_reducible refine gate_callee (f := 47) rfl ?_); refine ga_ (some 90) Try.func47 #[.slice Ao66 t1447.length co66, .int .i64 1] ?_; (with_reducible refine (laws_heldIntS.calls kj64 _ _ t1447 1 t1465 _ ?side1 ?side2 A82.out).mono ?_); (case side1 => exact kc_ (Kd.R_reads' HO_7.out).2.2); (case side2 => exact (Kd.R_reads' HO_7.out).2.1); rintro e w' ⟨rfl, ⟨nd, rfl⟩⟩; refine ⟨_, rfl, ?_⟩))
                go_ret
                exact ⟨rr_, lb2_ HB.out GE1395.out GE1423.out⟩
               ·
                rw [if_neg c84] at H
                exact absurd H (by simp)
          ·
           rw [if_neg c62] at H
           exact absurd H (by simp)
     ·
      replace c39 := Bool.eq_false_iff.mpr c39
      subst c39
      have H1 : (none) = some r := by rw [if_neg (show ¬ (false = true) by decide)] at H; exact H
      clear H
      have H := H1
      clear H1
      exact absurd H (by simp)
end Go.Proofs.Ythmjimboajmhmaa.Pr

namespace Go.Proofs.YthmjimboajmhmaaW.Opens
open Go.ChangeShapes Go.WideShapes Go.RowKit
open Go.Deep (open_slice choose_lt)
open Go.Proofs.YthmjimboajmhmaaW.PrintWords
set_option linter.unusedVariables false
set_option linter.unusedSimpArgs false
def Opn {α : Type} (P : Program) (t : TypeId) (d : Kd α) (wf : α → Prop) : Prop :=
 P.cellsOf t = d.sz ∧ ∀ (H : Type) (enc : TypeId × Value → H) (W : World) (fuel : Nat) (cs : List Value) (x : DataW H × List MemPlace),
  DataW.trod enc P W 0 (fun _ => true) true fuel t cs = some x → (∀ n ∈ x.1.weights P t, n ≤ reachBytes) → ∃ y, d.K W y cs ∧ wf y
theorem Opn.int {P : Program} {t : TypeId} {k : IntKind} (hc : P.cellsOf t = 1) (ht : P.underlying t = some (.int k)) : Opn P t (Kd.int k) (fun n => (Lit.int k n).wf = true) :=
 ⟨hc, fun H enc W fuel cs x h _ => by
  obtain ⟨m, rfl, rfl, hw⟩ := DataW.trod_int ht h
  exact ⟨m, rfl, hw⟩⟩
theorem Opn.bool {P : Program} {t : TypeId} (hc : P.cellsOf t = 1) (ht : P.underlying t = some .bool) : Opn P t Kd.bool (fun _ => True) :=
 ⟨hc, fun H enc W fuel cs x h _ => by
  obtain ⟨m, rfl, rfl⟩ := DataW.trod_bool ht h
  exact ⟨m, rfl, trivial⟩⟩
theorem weightsAll_mem {H : Type} {P : Program} {e : TypeId} : ∀ {l : List (DataW H)} {d : DataW H}, d ∈ l → ∀ n ∈ d.weights P e, n ∈ DataW.weightsAll P e l
 | _ :: r, d, h, n, hn => by
  simp only [DataW.weightsAll, List.mem_append]
  rcases List.mem_cons.1 h with rfl | h
  ·
   exact .inl hn
  ·
   exact .inr (weightsAll_mem h n hn)
theorem Opn.slice {α : Type} (z : α) {P : Program} {t e : TypeId} {d : Kd α} {wf : α → Prop} {B : Nat} (hc : P.cellsOf t = 1) (ht : P.underlying t = some (.slice e)) (hB : P.bytesOf e = B) (h : Opn P e d wf) :
  Opn P t (Kd.slice e d) (fun xs => xs.length ≤ maxLen ∧ xs.length * B ≤ 140737488351232 ∧ ∀ y ∈ xs, wf y) :=
 ⟨hc, fun H enc W fuel cs x hf hw => by
  haveI : Inhabited α := ⟨z⟩
  rcases open_slice ht hf with ⟨rfl, rfl⟩ | ⟨a, len, cap, m, n, D, Pl, rfl, _, hl, hm, hmm, rfl, each⟩
  ·
   exact ⟨[], ⟨none, 0, rfl, Nat.le_refl _, rfl, by simp, fun h => absurd h (Nat.lt_irrefl 0)⟩, by simp, by simp, by simp⟩
  ·
   rw [if_pos rfl] at hmm
   subst hmm
   have hw0 : ∀ n ∈ DataW.weights P t (DataW.slice (H := H) ((List.range len).map D) ((List.range (m - len)).map fun j => D (len + j))), n ≤ reachBytes := hw
   have hww : ∀ i, i < len → ∀ n ∈ (D i).weights P e, n ≤ reachBytes := by
    intro i hi n hn
    refine hw0 n ?_
    simp only [DataW.weights, ht, List.mem_cons, List.mem_append]
    exact .inr (.inl (weightsAll_mem (List.mem_map.2 ⟨i, List.mem_range.2 hi, rfl⟩) n hn))
   have hB2 : len * B ≤ 140737488351232 := by
    have := hw0 ((len + (m - len)) * B) (by simp [DataW.weights, ht, hB])
    refine Nat.le_trans (Nat.mul_le_mul_right _ (by omega)) this
   have hx : ∀ i, i < len → ∃ y, ∃ c : List Value, c.length = d.sz ∧ d.K W y c ∧ wf y ∧ ∀ j u, c[j]? = some u → W.cell? (a.add (i * d.sz + j)) = some u := by
    intro i hi
    obtain ⟨cs', h1, h2⟩ := each i (by omega)
    obtain ⟨y, hy, hwy⟩ := h.2 H enc W n cs' _ h2 (hww i hi)
    obtain ⟨_, hlen, hcell⟩ := World.cells?_some h1
    rw [h.1] at hlen hcell
    refine ⟨y, cs', hlen, hy, hwy, fun j u hu => ?_⟩
    have hj : j < d.sz := by
     have := (List.getElem?_eq_some_iff.1 hu).1
     omega
    have := hcell j hj
    rw [add_add] at this
    exact this.trans hu
   obtain ⟨f, hf'⟩ := choose_lt hx
   refine ⟨(List.range len).map f, ⟨some a, m, by simp, by simpa using hl, by simp, by simp only [maxLen] at hm; simp; omega, fun _ => ⟨a, rfl, fun j p hj => ?_⟩⟩, ?_, ?_, ?_⟩
   ·
    rw [List.getElem?_map] at hj
    have hj' : j < len := by
     by_cases hjl : j < len
     ·
      exact hjl
     ·
      rw [List.getElem?_eq_none (by simp; omega)] at hj
      cases hj
    rw [List.getElem?_range hj'] at hj
    obtain rfl := Option.some.inj hj
    obtain ⟨c, h1, h2, _, h3⟩ := hf' j hj'
    exact ⟨c, h1, h2, h3⟩
   ·
    simp; omega
   ·
    simpa using hB2
   ·
    intro y hy
    obtain ⟨i, hi, rfl⟩ := List.mem_map.1 hy
    obtain ⟨c, _, _, h2, _⟩ := hf' i (List.mem_range.1 hi)
    exact h2⟩
def FOpn {α : Type} (P : Program) (fs : List Field) (off : Nat) (d : Kd α) (wf : α → Prop) : Prop :=
 ∀ (H : Type) (enc : TypeId × Value → H) (W : World) (fuel : Nat) (cs : List Value) (xs : List (DataW H × List MemPlace)),
  xs.length = fs.length → (∀ (i : Nat) (f : Field), fs[i]? = some f → DataW.trod enc P W 0 (fun _ => true) true fuel f.type ((cs.drop f.offset).take (P.cellsOf f.type)) = xs[i]?) →
  (∀ n ∈ DataW.weightsEach P (fs.map (·.type)) (xs.map (·.1)), n ≤ reachBytes) → ∃ y, d.K W y ((cs.drop off).take d.sz) ∧ wf y
theorem FOpn.one {α : Type} {P : Program} {f : Field} {off : Nat} {d : Kd α} {wf : α → Prop} (ho : f.offset = off) (h : Opn P f.type d wf) : FOpn P [f] off d wf := by
 intro H enc W fuel cs xs hl hx hw
 match xs, hl with
 | [x], _ =>
  have h0 := hx 0 f rfl
  rw [ho, h.1] at h0
  exact h.2 H enc W fuel _ x h0 (fun n hn => hw n (by simp only [List.map, DataW.weightsEach, List.mem_append]; exact .inl hn))
theorem FOpn.cons {α β : Type} {P : Program} {f : Field} {fs : List Field} {off : Nat} {d : Kd α} {d' : Kd β} {wf : α → Prop} {wf' : β → Prop} (ho : f.offset = off) (h : Opn P f.type d wf) (h' : FOpn P fs (off + d.sz) d' wf') :
  FOpn P (f :: fs) off (Kd.pair d d') (fun x => wf x.1 ∧ wf' x.2) := by
 intro H enc W fuel cs xs hl hx hw
 match xs, hl with
 | x :: xs, hl =>
  have h0 := hx 0 f rfl
  rw [ho, h.1] at h0
  have hw' : ∀ n ∈ x.1.weights P f.type ++ DataW.weightsEach P (fs.map (·.type)) (xs.map (·.1)), n ≤ reachBytes := hw
  obtain ⟨y, hy, hwy⟩ := h.2 H enc W fuel _ x h0 (fun n hn => hw' n (List.mem_append_left _ hn))
  obtain ⟨y', hy', hwy'⟩ := h' H enc W fuel cs xs (by simpa using hl) (fun i f' hf' => hx (i + 1) f' (by simpa using hf')) (fun n hn => hw' n (List.mem_append_right _ hn))
  refine ⟨(y, y'), ⟨_, _, ?_, hy, hy'⟩, hwy, hwy'⟩
  show (cs.drop off).take (d.sz + d'.sz) = _
  rw [List.take_add, List.drop_drop]
theorem Opn.struct {α β : Type} {P : Program} {t : TypeId} {fs : Array Field} {d : Kd α} {wf : α → Prop} (f : β → α) (g : α → β) (hfg : ∀ x, f (g x) = x) (hc : P.cellsOf t = d.sz) (ht : P.underlying t = some (.struct fs)) (h : FOpn P fs.toList 0 d wf) :
  Opn P t (Kd.iso d f) (fun x => wf (f x)) :=
 ⟨hc, fun H enc W fuel cs x hf hw => by
  obtain ⟨xs, n, rfl, rfl, hl, hxs, each⟩ := DataW.trod_struct ht hf
  obtain ⟨y, hy, hwy⟩ := h H enc W n cs xs (by simpa using hxs) (fun i f' hf' => each i f' (by simpa using hf')) (fun n hn => hw n (by simp only [DataW.weights, ht]; exact hn))
  rw [List.drop_zero, List.take_of_length_le (by rw [hl, hc]; exact Nat.le_refl _)] at hy
  exact ⟨g y, (by rw [← hfg y] at hy; exact hy), (by rw [← hfg y] at hwy; exact hwy)⟩⟩
theorem par_weights {H : Type} {P : Program} {ts : List TypeId} {ds : List (DataW H)} {j : Nat} {t : TypeId} {d : DataW H} (h : (DataW.weightsEach P ts ds).all (· ≤ reachBytes) = true) (ht : ts[j]? = some t) (hd : ds[j]? = some d) :
  ∀ n ∈ d.weights P t, n ≤ reachBytes := fun n hn => of_decide_eq_true (List.all_eq_true.1 h n (DataW.weights_mem_each ht hd n hn))
theorem par_struct {α : Type} {H : Type} {enc : TypeId × Value → H} {P : Program} {W : World} {r : Reach} {b0 : Nat} {t : TypeId} {fs : Array Field} {d : Kd α} {wf : α → Prop} {v : Value} {D : DataW H} {ps : List MemPlace}
  (ht : P.underlying t = some (.struct fs)) (ho : Opn P t d wf) (hv : Value.okWide P W r b0 t v) (hd : DataW.Trod enc P W 0 (fun _ => true) true t v D ps) (hw : ∀ n ∈ D.weights P t, n ≤ reachBytes) :
  ∃ (cs : List Value) (x : α), v = .agg cs.toArray ∧ d.K W x cs ∧ wf x := by
 obtain ⟨cs, rfl, _⟩ := okWide_struct ht hv
 obtain ⟨fuel, hf⟩ := hd
 obtain ⟨y, hy, hwy⟩ := ho.2 H enc W fuel _ _ hf hw
 exact ⟨cs.toList, y, by simp, hy, hwy⟩
end Go.Proofs.YthmjimboajmhmaaW.Opens

namespace Go.Proofs.Ythmjimboajmhmaa.Pr
open Go.RowKit Go.Proofs.YthmjimboajmhmaaW.PrintWords Go.Proofs.YthmjimboajmhmaaW.PrintLast Go.Proofs.YthmjimboajmhmaaW.Opens
set_option linter.unusedVariables false
structure S25 where
 f0 : (List S65)
 f1 : (List Bool)
 f2 : (List Bool)
 f3 : Int
 f4 : Int
def k25 : Kd S25 := Kd.iso (Kd.pair (Kd.slice 65 k65) (Kd.pair (Kd.slice 4 Kd.bool) (Kd.pair (Kd.slice 4 Kd.bool) (Kd.pair (Kd.int .i64) (Kd.int .i64))))) (fun x : S25 => (x.f0, x.f1, x.f2, x.f3, x.f4))
def wf65 (x : S65) : Prop := (Lit.int .i64 x.f0).wf = true ∧ (Lit.int .i64 x.f1).wf = true ∧ (Lit.int .i64 x.f2).wf = true ∧ (Lit.int .i64 x.f3).wf = true ∧ (Lit.int .i64 x.f4).wf = true
theorem opn65 : Opn Try.prog 65 k65 wf65 := Opn.struct (fun x : S65 => (x.f0, x.f1, x.f2, x.f3, x.f4)) (fun p => ⟨p.1, p.2.1, p.2.2.1, p.2.2.2.1, p.2.2.2.2⟩) (fun _ => rfl) (by kernel_rfl) Try.underlying65 (FOpn.cons rfl (Opn.int (by kernel_rfl) Try.underlying3) (FOpn.cons rfl (Opn.int (by kernel_rfl) Try.underlying3) (FOpn.cons rfl (Opn.int (by kernel_rfl) Try.underlying3) (FOpn.cons rfl (Opn.int (by kernel_rfl) Try.underlying3) (FOpn.one rfl (Opn.int (by kernel_rfl) Try.underlying3))))))
def wfL65 (l : List S65) : Prop := l.length ≤ maxLen ∧ l.length * 40 ≤ 140737488351232 ∧ ∀ y ∈ l, wf65 y
theorem opnL22 : Opn Try.prog 22 (Kd.slice 65 k65) wfL65 := Opn.slice z65 (by kernel_rfl) Try.underlying22 (by kernel_rfl) opn65
def wfL4 (l : List Bool) : Prop := l.length ≤ maxLen ∧ l.length * 1 ≤ 140737488351232 ∧ ∀ y ∈ l, True
theorem opnL23 : Opn Try.prog 23 (Kd.slice 4 Kd.bool) wfL4 := Opn.slice false (by kernel_rfl) Try.underlying23 (by kernel_rfl) (Opn.bool (by kernel_rfl) Try.underlying4)
def wf25 (x : S25) : Prop := wfL65 x.f0 ∧ wfL4 x.f1 ∧ wfL4 x.f2 ∧ (Lit.int .i64 x.f3).wf = true ∧ (Lit.int .i64 x.f4).wf = true
theorem opn25 : Opn Try.prog 25 k25 wf25 := Opn.struct (fun x : S25 => (x.f0, x.f1, x.f2, x.f3, x.f4)) (fun p => ⟨p.1, p.2.1, p.2.2.1, p.2.2.2.1, p.2.2.2.2⟩) (fun _ => rfl) (by kernel_rfl) Try.underlying25 (FOpn.cons rfl opnL22 (FOpn.cons rfl opnL23 (FOpn.cons rfl opnL23 (FOpn.cons rfl (Opn.int (by kernel_rfl) Try.underlying3) (FOpn.one rfl (Opn.int (by kernel_rfl) Try.underlying3))))))
theorem kq25_open {w : World} {x : S25} {cs : List Value} (h : k25.K w x cs) : ∃ (A0 : Option Addr) (c0 : Nat) (A1 : Option Addr) (c1 : Nat) (A2 : Option Addr) (c2 : Nat), cs = [.slice A0 x.f0.length c0, .slice A1 x.f1.length c1, .slice A2 x.f2.length c2, .int .i64 x.f3, .int .i64 x.f4] ∧ x.f0.length ≤ c0 ∧ Kd.C k65 w A0 x.f0.length x.f0 ∧ x.f1.length ≤ c1 ∧ Kd.C Kd.bool w A1 x.f1.length x.f1 ∧ x.f2.length ≤ c2 ∧ Kd.C Kd.bool w A2 x.f2.length x.f2 := by
 obtain ⟨_, _, rfl, ⟨A0, c0, rfl, hl0, hC0⟩, ⟨_, _, rfl, ⟨A1, c1, rfl, hl1, hC1⟩, ⟨_, _, rfl, ⟨A2, c2, rfl, hl2, hC2⟩, ⟨_, _, rfl, rfl, rfl⟩⟩⟩⟩ := h
 exact ⟨A0, c0, A1, c1, A2, c2, rfl, hl0, hC0, hl1, hC1, hl2, hC2⟩
def FnExactNextLegs.Pure : Prop := ∀ (x0 : S25), wf25 x0 → ∃ k, laws_FnExactNextLegs.f k x0.f0 x0.f1 x0.f2 x0.f3 x0.f4 = some true
end Go.Proofs.Ythmjimboajmhmaa.Pr

namespace Go.Proofs.Ythmjimboajmhmaa.Pr.Pure
open Go.RowKit Go.Proofs.YthmjimboajmhmaaW.PrintWords Go.Proofs.YthmjimboajmhmaaW.PrintLast Go.Proofs.YthmjimboajmhmaaW.PrintMore
set_option linter.unusedVariables false
set_option linter.unusedSimpArgs false
def FAR : Int := 1073741824
structure Arc where
 a : Int
 b : Int
 t : Int
def step1 (D : List Int) (a b t : Int) : List Int := if rd D a + t < rd D b then D.set b.toNat (rd D a + t) else D
def rnd (A : List Arc) (D : List Int) : List Int := A.foldl (fun D e => step1 D e.a e.b e.t) D
def it (A : List Arc) : Nat → List Int → List Int
 | 0, D => D
 | k + 1, D => rnd A (it A k D)
def In8 (i : Int) : Prop := 0 ≤ i ∧ i < 8
def OkA (A : List Arc) : Prop := ∀ e, e ∈ A → In8 e.a ∧ In8 e.b ∧ 1 ≤ e.t ∧ e.t ≤ 500
theorem rd_set {D : List Int} (hl : D.length = 8) {b i : Int} (hb : In8 b) (hi : In8 i) (x : Int) : rd (D.set b.toNat x) i = if i = b then x else rd D i := by
 unfold rd
 obtain ⟨hb0, hb1⟩ := hb
 obtain ⟨hi0, hi1⟩ := hi
 rw [List.getD_eq_getElem?_getD, List.getD_eq_getElem?_getD]
 by_cases e : i = b
 ·
  subst e
  rw [if_pos rfl, List.getElem?_set_self (by omega)]
  rfl
 ·
  rw [if_neg e, List.getElem?_set_ne (by omega)]
theorem len_step1 (D : List Int) (a b t : Int) : (step1 D a b t).length = D.length := by
 unfold step1
 split
 ·
  rw [List.length_set]
 ·
  rfl
theorem len_rnd (A : List Arc) : ∀ D : List Int, (rnd A D).length = D.length := by
 induction A with
 | nil => intro D; rfl
 | cons e A ih =>
  intro D
  show (rnd A (step1 D e.a e.b e.t)).length = _
  rw [ih, len_step1]
theorem rd_step1 {D : List Int} (hl : D.length = 8) {a b i : Int} (hb : In8 b) (hi : In8 i) (t : Int) : rd (step1 D a b t) i = if i = b ∧ rd D a + t < rd D b then rd D a + t else rd D i := by
 unfold step1
 by_cases h : rd D a + t < rd D b
 ·
  rw [if_pos h, rd_set hl hb hi]
  by_cases e : i = b
  ·
   rw [if_pos e, if_pos ⟨e, h⟩]
  ·
   rw [if_neg e, if_neg (fun z => e z.1)]
 ·
  rw [if_neg h, if_neg (fun z => h z.2)]
theorem step1_le {D : List Int} (hl : D.length = 8) {a b i : Int} (hb : In8 b) (hi : In8 i) (t : Int) : rd (step1 D a b t) i ≤ rd D i := by
 rw [rd_step1 hl hb hi]
 split
 ·
  rename_i h
  obtain ⟨rfl, h⟩ := h
  omega
 ·
  omega
theorem rnd_le (A : List Arc) (hA : OkA A) : ∀ (D : List Int), D.length = 8 → ∀ i, In8 i → rd (rnd A D) i ≤ rd D i := by
 induction A with
 | nil => intro D _ i _; exact Int.le_refl _
 | cons e A ih =>
  intro D hl i hi
  have h1 := ih (fun x hx => hA x (List.mem_cons_of_mem _ hx)) (step1 D e.a e.b e.t) (by rw [len_step1, hl]) i hi
  have h2 := step1_le (a := e.a) (t := e.t) hl (hA e List.mem_cons_self).2.1 hi
  exact Int.le_trans h1 h2
theorem rnd_arc (A : List Arc) (hA : OkA A) : ∀ (D : List Int), D.length = 8 → ∀ e, e ∈ A → rd (rnd A D) e.b ≤ rd D e.a + e.t := by
 induction A with
 | nil => intro D _ e he; cases he
 | cons x A ih =>
  intro D hl e he
  have hA' : OkA A := fun x hx => hA x (List.mem_cons_of_mem _ hx)
  have hx := hA x List.mem_cons_self
  have hl' : (step1 D x.a x.b x.t).length = 8 := by rw [len_step1, hl]
  show rd (rnd A (step1 D x.a x.b x.t)) e.b ≤ _
  rcases List.mem_cons.1 he with rfl | he'
  ·
   have h1 := rnd_le A hA' _ hl' e.b hx.2.1
   rw [rd_step1 hl hx.2.1 hx.2.1] at h1
   split at h1
   ·
    exact h1
   ·
    rename_i h
    have : ¬ (rd D e.a + e.t < rd D e.b) := fun z => h ⟨rfl, z⟩
    omega
  ·
   have h1 := ih hA' _ hl' e he'
   have h2 := step1_le (a := x.a) (t := x.t) hl hx.2.1 (hA e he).1
   omega
structure Inv (A : List Arc) (D : List Int) : Prop where
 len : D.length = 8
 lo : ∀ i, In8 i → 0 ≤ rd D i
 hi : ∀ i, In8 i → rd D i ≤ FAR
 zero : rd D 0 = 0
 tight : ∀ v, In8 v → v ≠ 0 → rd D v < FAR → ∃ e, e ∈ A ∧ e.b = v ∧ rd D e.a + e.t ≤ rd D v
theorem step_inv {A : List Arc} (hA : OkA A) {D : List Int} (h : Inv A D) {e : Arc} (he : e ∈ A) : Inv A (step1 D e.a e.b e.t) := by
 obtain ⟨ha, hb, ht, ht'⟩ := hA e he
 have hz : In8 0 := ⟨by omega, by omega⟩
 have la := h.lo e.a ha
 have hle := fun i hi => step1_le (a := e.a) (t := e.t) h.len hb (i := i) hi
 refine ⟨by rw [len_step1, h.len], fun i hi => ?_, fun i hi => Int.le_trans (hle i hi) (h.hi i hi), ?_, fun v hv hv0 hf => ?_⟩
 ·
  rw [rd_step1 h.len hb hi]
  split
  ·
   omega
  ·
   exact h.lo i hi
 ·
  rw [rd_step1 h.len hb hz]
  split
  ·
   rename_i z
   obtain ⟨z1, z2⟩ := z
   rw [← z1, h.zero] at z2
   omega
  ·
   exact h.zero
 ·
  by_cases hc : v = e.b ∧ rd D e.a + e.t < rd D e.b
  ·
   refine ⟨e, he, hc.1.symm, ?_⟩
   have := hle e.a ha
   have h2 := rd_step1 (a := e.a) (t := e.t) h.len hb hv
   rw [if_pos hc] at h2
   omega
  ·
   have h2 := rd_step1 (a := e.a) (t := e.t) h.len hb hv
   rw [if_neg hc] at h2
   rw [h2] at hf ⊢
   obtain ⟨x, hx, hxb, hxl⟩ := h.tight v hv hv0 hf
   exact ⟨x, hx, hxb, by have := hle x.a (hA x hx).1; omega⟩
theorem rnd_inv' {A : List Arc} (hA : OkA A) (B : List Arc) : (∀ e, e ∈ B → e ∈ A) → ∀ D, Inv A D → Inv A (rnd B D) := by
 induction B with
 | nil => intro _ D h; exact h
 | cons e B ih =>
  intro hB D h
  exact ih (fun x hx => hB x (List.mem_cons_of_mem _ hx)) _ (step_inv hA h (hB e List.mem_cons_self))
theorem rnd_inv {A : List Arc} (hA : OkA A) {D : List Int} (h : Inv A D) : Inv A (rnd A D) := rnd_inv' hA A (fun _ he => he) D h
theorem it_inv {A : List Arc} (hA : OkA A) {D : List Int} (h : Inv A D) : ∀ k, Inv A (it A k D)
 | 0 => h
 | k + 1 => rnd_inv hA (it_inv hA h k)
theorem cases8 {i : Int} (h : In8 i) : i = 0 ∨ i = 1 ∨ i = 2 ∨ i = 3 ∨ i = 4 ∨ i = 5 ∨ i = 6 ∨ i = 7 := by
 obtain ⟨h1, h2⟩ := h
 omega
theorem ext8 {D E : List Int} (hD : D.length = 8) (hE : E.length = 8) (h : ∀ i, In8 i → rd D i = rd E i) : D = E := by
 apply List.ext_getElem (by omega)
 intro i h1 h2
 have := h (i : Int) ⟨by omega, by omega⟩
 unfold rd at this
 rw [Int.toNat_natCast, List.getD_eq_getElem?_getD, List.getD_eq_getElem?_getD, List.getElem?_eq_getElem h1, List.getElem?_eq_getElem h2] at this
 exact this
def sum8 (D : List Int) : Int := rd D 0 + rd D 1 + rd D 2 + rd D 3 + rd D 4 + rd D 5 + rd D 6 + rd D 7
theorem le_or {D E : List Int} (hD : D.length = 8) (hE : E.length = 8) (h : ∀ i, In8 i → rd E i ≤ rd D i) : E = D ∨ sum8 E < sum8 D := by
 by_cases hq : ∀ i, In8 i → rd E i = rd D i
 ·
  exact .inl (ext8 hE hD hq)
 ·
  right
  obtain ⟨i, hi⟩ := Classical.not_forall.1 hq
  obtain ⟨hi8, hne⟩ := Classical.not_imp.1 hi
  have hlt : rd E i < rd D i := by have := h i hi8; omega
  have h0 := h 0 ⟨by omega, by omega⟩
  have h1 := h 1 ⟨by omega, by omega⟩
  have h2 := h 2 ⟨by omega, by omega⟩
  have h3 := h 3 ⟨by omega, by omega⟩
  have h4 := h 4 ⟨by omega, by omega⟩
  have h5 := h 5 ⟨by omega, by omega⟩
  have h6 := h 6 ⟨by omega, by omega⟩
  have h7 := h 7 ⟨by omega, by omega⟩
  unfold sum8
  rcases cases8 hi8 with rfl | rfl | rfl | rfl | rfl | rfl | rfl | rfl <;> omega
theorem sum8_nonneg {A : List Arc} {D : List Int} (h : Inv A D) : 0 ≤ sum8 D := by
 have h0 := h.lo 0 ⟨by omega, by omega⟩
 have h1 := h.lo 1 ⟨by omega, by omega⟩
 have h2 := h.lo 2 ⟨by omega, by omega⟩
 have h3 := h.lo 3 ⟨by omega, by omega⟩
 have h4 := h.lo 4 ⟨by omega, by omega⟩
 have h5 := h.lo 5 ⟨by omega, by omega⟩
 have h6 := h.lo 6 ⟨by omega, by omega⟩
 have h7 := h.lo 7 ⟨by omega, by omega⟩
 unfold sum8
 omega
theorem it_succ (A : List Arc) : ∀ (k : Nat) (D : List Int), it A (k + 1) D = it A k (rnd A D)
 | 0, D => rfl
 | k + 1, D => by
  show rnd A (it A (k + 1) D) = rnd A (it A k (rnd A D))
  rw [it_succ A k D]
theorem exists_fix {A : List Arc} (hA : OkA A) (n : Nat) : ∀ D, Inv A D → sum8 D ≤ n → ∃ N, rnd A (it A N D) = it A N D := by
 induction n with
 | zero =>
  intro D h hs
  rcases le_or h.len (by rw [len_rnd, h.len]) (rnd_le A hA D h.len) with e | e
  ·
   exact ⟨0, e⟩
  ·
   have := sum8_nonneg (rnd_inv hA h)
   omega
 | succ n ih =>
  intro D h hs
  rcases le_or h.len (by rw [len_rnd, h.len]) (rnd_le A hA D h.len) with e | e
  ·
   exact ⟨0, e⟩
  ·
   obtain ⟨N, hN⟩ := ih (rnd A D) (rnd_inv hA h) (by omega)
   refine ⟨N + 1, ?_⟩
   rw [it_succ]
   exact hN
theorem it_fix {A : List Arc} {D : List Int} (h : rnd A D = D) : ∀ k, it A k D = D
 | 0 => rfl
 | k + 1 => by
  show rnd A (it A k D) = D
  rw [it_fix h k, h]
theorem it_add (A : List Arc) (D : List Int) (j : Nat) : ∀ k, it A (j + k) D = it A k (it A j D)
 | 0 => rfl
 | k + 1 => by
  show rnd A (it A (j + k) D) = rnd A (it A k (it A j D))
  rw [it_add A D j k]
theorem it_anti {A : List Arc} (hA : OkA A) {D : List Int} (h : Inv A D) (j : Nat) : ∀ k i, In8 i → rd (it A (j + k) D) i ≤ rd (it A j D) i
 | 0, i, hi => Int.le_refl _
 | k + 1, i, hi => Int.le_trans (rnd_le A hA _ (it_inv hA h (j + k)).len i hi) (it_anti hA h j k i hi)
def cnt (d : List Int) (i v : Int) : Nat := if rd d i < rd d v then 1 else 0
theorem cnt_mono (d : List Int) {u v : Int} (h : rd d u < rd d v) (i : Int) : cnt d i u ≤ cnt d i v := by
 unfold cnt
 split <;> split <;> omega
theorem cnt_le (d : List Int) (i v : Int) : cnt d i v ≤ 1 := by
 unfold cnt
 split <;> omega
theorem cnt_self (d : List Int) (v : Int) : cnt d v v = 0 := by
 unfold cnt
 rw [if_neg (by omega)]
theorem cnt_yes (d : List Int) {u v : Int} (h : rd d u < rd d v) : cnt d u v = 1 := by
 unfold cnt
 rw [if_pos h]
def rank (d : List Int) (v : Int) : Nat := cnt d 0 v + cnt d 1 v + cnt d 2 v + cnt d 3 v + cnt d 4 v + cnt d 5 v + cnt d 6 v + cnt d 7 v
theorem rank_lt (d : List Int) {u v : Int} (hu : In8 u) (h : rd d u < rd d v) : rank d u < rank d v := by
 have m := cnt_mono d h
 have m0 := m 0
 have m1 := m 1
 have m2 := m 2
 have m3 := m 3
 have m4 := m 4
 have m5 := m 5
 have m6 := m 6
 have m7 := m 7
 have s := cnt_self d u
 have y := cnt_yes d h
 clear m h
 unfold rank
 rcases cases8 hu with rfl | rfl | rfl | rfl | rfl | rfl | rfl | rfl <;> omega
theorem rank_le (d : List Int) {v : Int} (hv : In8 v) : rank d v ≤ 7 := by
 have m := fun i => cnt_le d i v
 have m0 := m 0
 have m1 := m 1
 have m2 := m 2
 have m3 := m 3
 have m4 := m 4
 have m5 := m 5
 have m6 := m 6
 have m7 := m 7
 have s := cnt_self d v
 clear m
 unfold rank
 rcases cases8 hv with rfl | rfl | rfl | rfl | rfl | rfl | rfl | rfl <;> omega
def D0 : List Int := [0, FAR, FAR, FAR, FAR, FAR, FAR, FAR]
theorem D0_far {v : Int} (hv : In8 v) (h0 : v ≠ 0) : rd D0 v = FAR := by
 rcases cases8 hv with rfl | rfl | rfl | rfl | rfl | rfl | rfl | rfl
 ·
  exact absurd rfl h0
 all_goals rfl
theorem D0_inv (A : List Arc) : Inv A D0 := by
 refine ⟨rfl, fun i hi => ?_, fun i hi => ?_, rfl, fun v hv h0 hf => ?_⟩
 ·
  by_cases h : i = 0
  ·
   rw [h]; decide
  ·
   rw [D0_far hi h]; decide
 ·
  by_cases h : i = 0
  ·
   rw [h]; decide
  ·
   rw [D0_far hi h]; decide
 ·
  rw [D0_far hv h0] at hf
  omega
theorem it_rank {A : List Arc} (hA : OkA A) {d : List Int} (hd : Inv A d) (hle : ∀ k i, In8 i → rd d i ≤ rd (it A k D0) i) : ∀ (k : Nat) (v : Int), In8 v → rank d v ≤ k → rd (it A k D0) v = rd d v := by
 intro k
 induction k with
 | zero =>
  intro v hv hr
  by_cases h0 : v = 0
  ·
   rw [h0, hd.zero]; rfl
  ·
   show rd D0 v = _
   rw [D0_far hv h0]
   have h1 := hd.hi v hv
   by_cases hf : rd d v < FAR
   ·
    obtain ⟨e, he, rfl, hl⟩ := hd.tight v hv h0 hf
    obtain ⟨ha, hb, ht, _⟩ := hA e he
    have := rank_lt d ha (show rd d e.a < rd d e.b by omega)
    omega
   ·
    omega
 | succ k ih =>
  intro v hv hr
  have h1 := hle (k + 1) v hv
  have h2 := (it_inv hA (D0_inv A) (k + 1)).hi v hv
  by_cases h0 : v = 0
  ·
   rw [h0, hd.zero, (it_inv hA (D0_inv A) (k + 1)).zero]
  ·
   by_cases hf : rd d v < FAR
   ·
    obtain ⟨e, he, rfl, hl⟩ := hd.tight v hv h0 hf
    obtain ⟨ha, hb, ht, _⟩ := hA e he
    have h3 := rank_lt d ha (show rd d e.a < rd d e.b by omega)
    have h4 := ih e.a ha (by omega)
    have h5 := rnd_arc A hA _ (it_inv hA (D0_inv A) k).len e he
    have h6 : rd (it A (k + 1) D0) e.b ≤ rd (it A k D0) e.a + e.t := h5
    omega
   ·
    have := hd.hi v hv
    omega
theorem fix7 {A : List Arc} (hA : OkA A) : rnd A (it A 7 D0) = it A 7 D0 := by
 obtain ⟨N, hN⟩ := exists_fix hA (sum8 D0).toNat D0 (D0_inv A) (by have := sum8_nonneg (D0_inv A); omega)
 have hi := it_inv hA (D0_inv A) N
 have hle : ∀ k i, In8 i → rd (it A N D0) i ≤ rd (it A k D0) i := by
  intro k i hi8
  rcases Nat.le_total k N with h | h
  ·
   have := it_anti hA (D0_inv A) k (N - k) i hi8
   rwa [show k + (N - k) = N by omega] at this
  ·
   have := it_add A D0 N (k - N)
   rw [show N + (k - N) = k by omega, it_fix hN] at this
   rw [this]
   exact Int.le_refl _
 have e : it A 7 D0 = it A N D0 := ext8 (it_inv hA (D0_inv A) 7).len hi.len (fun i h8 => it_rank hA hi hle 7 i h8 (rank_le _ h8))
 rw [e, hN]
def dec (x : Int) : Int := if x = FAR then -1 else x
def Bd (c : Int) (D : List Int) : Prop := ∀ i, In8 i → rd D i = FAR ∨ rd D i ≤ c
theorem Bd.mono {c c' : Int} {D : List Int} (h : Bd c D) (hc : c ≤ c') : Bd c' D := fun i hi => by
 rcases h i hi with h | h
 ·
  exact .inl h
 ·
  exact .inr (by omega)
theorem step_bd {c : Int} {D : List Int} (hl : D.length = 8) (h : Bd c D) {a b t : Int} (ha : In8 a) (hb : In8 b) (ht : t ≤ 500) (hh : ∀ i, In8 i → rd D i ≤ FAR) (ht0 : 0 ≤ t) : Bd (c + 500) (step1 D a b t) := fun i hi => by
 rw [rd_step1 hl hb hi]
 split
 ·
  rename_i z
  rcases h a ha with e | e
  ·
   have := hh b hb
   omega
  ·
   exact .inr (by omega)
 ·
  rcases h i hi with e | e
  ·
   exact .inl e
  ·
   exact .inr (by omega)
theorem rd_map {D : List Int} (hl : D.length = 8) {i : Int} (hi : In8 i) : rd (D.map dec) i = dec (rd D i) := by
 obtain ⟨h0, h1⟩ := hi
 unfold rd
 rw [List.getD_eq_getElem?_getD, List.getD_eq_getElem?_getD, List.getElem?_map, List.getElem?_eq_getElem (by omega)]
 rfl
theorem dec_nonneg {x : Int} (h : 0 ≤ x) (h' : x ≤ FAR) : dec x ≥ 0 ↔ x < FAR := by
 unfold dec
 split <;> omega
theorem map_set_dec (D : List Int) (n : Nat) (x : Int) (hx : x ≠ FAR) : (D.map dec).set n x = (D.set n x).map dec := by
 rw [List.map_set]
 congr 1
 unfold dec
 rw [if_neg hx]
theorem cond_dec {c : Int} {D : List Int} (hl : D.length = 8) (hlo : ∀ i, In8 i → 0 ≤ rd D i) (hhi : ∀ i, In8 i → rd D i ≤ FAR) (hb : Bd c D) (hc : c + 500 < FAR) {a b t : Int} (ha : In8 a) (hb8 : In8 b) (ht : 1 ≤ t) (ht' : t ≤ 500) :
  (rd (D.map dec) a ≥ 0 ↔ rd D a < FAR) ∧ (rd D a < FAR → rd (D.map dec) a = rd D a ∧ (rd (D.map dec) b < 0 ∨ rd D a + t < rd (D.map dec) b ↔ rd D a + t < rd D b) ∧ rd D a + t < FAR) ∧ (¬ rd D a < FAR → ¬ rd D a + t < rd D b) := by
 rw [rd_map hl ha, rd_map hl hb8]
 have a0 := hlo a ha
 have a1 := hhi a ha
 have b0 := hlo b hb8
 have b1 := hhi b hb8
 have a2 := hb a ha
 unfold FAR at *
 refine ⟨dec_nonneg a0 a1, fun h => ⟨?_, ?_, ?_⟩, fun h => by omega⟩
 ·
  unfold dec FAR
  rw [if_neg (by omega)]
 ·
  unfold dec FAR
  split <;> omega
 ·
  omega
theorem relax_comm {D : List Int} (hl : D.length = 8) {a b t : Int} (ha : In8 a) (hb : In8 b) (ht : 1 ≤ t) : step1 (step1 D b a t) a b t = step1 (step1 D a b t) b a t := by
 apply ext8 (by rw [len_step1, len_step1, hl]) (by rw [len_step1, len_step1, hl])
 intro i hi
 have l1 : (step1 D b a t).length = 8 := by rw [len_step1, hl]
 have l2 : (step1 D a b t).length = 8 := by rw [len_step1, hl]
 rw [rd_step1 l1 hb hi, rd_step1 l2 ha hi, rd_step1 hl ha ha, rd_step1 hl ha hb, rd_step1 hl ha hi, rd_step1 hl hb hb, rd_step1 hl hb ha, rd_step1 hl hb hi]
 by_cases e : a = b
 ·
  subst e
  simp only [true_and]
 ·
  have e' : ¬ b = a := fun h => e h.symm
  simp only [e, e', false_and, if_false, true_and]
  by_cases c1 : rd D b + t < rd D a
  ·
   simp only [c1, if_true, and_true]
   have c2 : ¬ rd D a + t < rd D b := by omega
   have c3 : ¬ rd D b + t + t < rd D b := by omega
   simp only [c2, c3, and_false, if_false, c1, and_true]
  ·
   by_cases c2 : rd D a + t < rd D b
   ·
    have c3 : ¬ rd D a + t + t < rd D a := by omega
    simp only [c1, c2, c3, and_false, and_true, if_false, if_true]
   ·
    simp only [c1, c2, and_false, if_false]
theorem w64 {x : Int} (h1 : -9223372036854775808 ≤ x) (h2 : x ≤ 9223372036854775807) : wrap64 x = x := by
 unfold wrap64
 omega
theorem set_map_step {α β : Type} (f : α → β) (l : List α) (z : β) (i : Nat) (hi : i < l.length) (a : α) (ha : l[i]? = some a) :
  ((l.take i).map f ++ List.replicate (l.length - i) z).set i (f a) = (l.take (i + 1)).map f ++ List.replicate (l.length - (i + 1)) z := by
 have h1 : ((l.take i).map f).length = i := by simp; omega
 rw [List.set_append_right _ _ (by omega), h1, Nat.sub_self]
 obtain ⟨m, hm⟩ : ∃ m, l.length - i = m + 1 := ⟨l.length - i - 1, by omega⟩
 rw [hm, show l.length - (i + 1) = m by omega, List.replicate_succ, List.set_cons_zero, List.take_add_one, ha]
 simp
theorem getD_some {α : Type} (l : List α) (z : α) (i : Nat) (h : i < l.length) : l[i]? = some (l.getD i z) := by
 rw [List.getD_eq_getElem?_getD, List.getElem?_eq_getElem h]
 rfl
def cvLeg (x : S65) : S37 := ⟨x.f0, x.f1, x.f2, x.f3, x.f4⟩
theorem toLegS_l0 (l : List S65) (hl : l.length ≤ 4611686018427387904) (d : Nat) : ∀ (k i : Nat), i + d = l.length → d < k →
  laws_toLegS.l0 k l ((l.take i).map cvLeg ++ List.replicate (l.length - i) z37) i = some (l.map cvLeg) := by
 induction d with
 | zero =>
  intro k i hd hk
  obtain ⟨k, rfl⟩ : ∃ m, k = m + 1 := ⟨k - 1, by omega⟩
  simp only [laws_toLegS.l0]
  rw [if_neg (by omega), List.take_of_length_le (by omega), show l.length - i = 0 by omega]
  simp
 | succ d ih =>
  intro k i hd hk
  obtain ⟨k, rfl⟩ : ∃ m, k = m + 1 := ⟨k - 1, by omega⟩
  simp only [laws_toLegS.l0, laws_toLeg.f, Option.bind_some]
  rw [if_pos (by omega), if_pos (by omega), if_pos (by simp; omega), w64 (by omega) (by omega)]
  have ha : l[i]? = some (rd_T65 l i) := getD_some l z65 i (by omega)
  rw [Int.toNat_natCast]
  have := set_map_step cvLeg l z37 i (by omega) _ ha
  rw [show (⟨(rd_T65 l i).f0, (rd_T65 l i).f1, (rd_T65 l i).f2, (rd_T65 l i).f3, (rd_T65 l i).f4⟩ : S37) = cvLeg (rd_T65 l i) from rfl, this]
  exact ih k (i + 1) (by omega) (by omega)
theorem toLegS_eq {l : List S65} (hl : l.length * 40 ≤ 140737488351232) {k : Nat} (hk : l.length < k) : laws_toLegS.f k l = some (l.map cvLeg) := by
 unfold laws_toLegS.f
 rw [if_pos (by omega), if_pos (by omega), Int.toNat_natCast]
 have := toLegS_l0 l (by omega) l.length k 0 (by omega) hk
 simpa using this
theorem eqLegS_self (l : List S37) (hl : l.length ≤ 4611686018427387904) (d : Nat) : ∀ (k : Nat) (i : Int), 0 ≤ i → i + d = l.length → d < k → laws_eqLegS.l0 k l l i = some true := by
 induction d with
 | zero =>
  intro k i h0 hd hk
  obtain ⟨k, rfl⟩ : ∃ m, k = m + 1 := ⟨k - 1, by omega⟩
  simp only [laws_eqLegS.l0]
  rw [if_neg (by omega)]
 | succ d ih =>
  intro k i h0 hd hk
  obtain ⟨k, rfl⟩ : ∃ m, k = m + 1 := ⟨k - 1, by omega⟩
  simp only [laws_eqLegS.l0, laws_eqLeg.f, if_true, Option.bind_some]
  rw [if_pos (by omega), if_pos (by omega), if_pos (by omega), w64 (by omega) (by omega)]
  exact ih k (i + 1) (by omega) (by omega) (by omega)
theorem eqLegS_eq {l : List S37} (hl : l.length ≤ 4611686018427387904) {k : Nat} (hk : l.length < k) : laws_eqLegS.f k l l = some true := by
 unfold laws_eqLegS.f
 rw [if_pos rfl]
 exact eqLegS_self l hl l.length k 0 (by omega) (by omega) hk
theorem toBoolS_l0 (l : List Bool) (hl : l.length ≤ 4611686018427387904) (d : Nat) : ∀ (k i : Nat), i + d = l.length → d < k →
  laws_toBoolS.l0 k l (l.take i ++ List.replicate (l.length - i) false) i = some l := by
 induction d with
 | zero =>
  intro k i hd hk
  obtain ⟨k, rfl⟩ : ∃ m, k = m + 1 := ⟨k - 1, by omega⟩
  simp only [laws_toBoolS.l0]
  rw [if_neg (by omega), List.take_of_length_le (by omega), show l.length - i = 0 by omega]
  simp
 | succ d ih =>
  intro k i hd hk
  obtain ⟨k, rfl⟩ : ∃ m, k = m + 1 := ⟨k - 1, by omega⟩
  simp only [laws_toBoolS.l0]
  rw [if_pos (by omega), if_pos (by omega), if_pos (by simp; omega), w64 (by omega) (by omega)]
  have ha : l[i]? = some (rdOf false l i) := getD_some l false i (by omega)
  rw [Int.toNat_natCast]
  have := set_map_step (fun x : Bool => x) l false i (by omega) _ ha
  rw [List.map_id'', List.map_id''] at this
  ·
   rw [this]
   exact ih k (i + 1) (by omega) (by omega)
  ·
   exact fun _ => rfl
  ·
   exact fun _ => rfl
theorem toBoolS_eq {l : List Bool} (hl : l.length ≤ 140737488351232) {k : Nat} (hk : l.length < k) : laws_toBoolS.f k l = some l := by
 unfold laws_toBoolS.f
 rw [if_pos (by omega), if_pos (by omega), Int.toNat_natCast]
 have := toBoolS_l0 l (by omega) l.length k 0 (by omega) hk
 simpa using this
theorem eqBoolS_self (l : List Bool) (hl : l.length ≤ 4611686018427387904) (d : Nat) : ∀ (k : Nat) (i : Int), 0 ≤ i → i + d = l.length → d < k → laws_eqBoolS.l0 k l l i = some true := by
 induction d with
 | zero =>
  intro k i h0 hd hk
  obtain ⟨k, rfl⟩ : ∃ m, k = m + 1 := ⟨k - 1, by omega⟩
  simp only [laws_eqBoolS.l0]
  rw [if_neg (by omega)]
 | succ d ih =>
  intro k i h0 hd hk
  obtain ⟨k, rfl⟩ : ∃ m, k = m + 1 := ⟨k - 1, by omega⟩
  simp only [laws_eqBoolS.l0, bne_self_eq_false, Bool.false_eq_true, if_false]
  rw [if_pos (by omega), if_pos (by omega), if_pos (by omega), w64 (by omega) (by omega)]
  exact ih k (i + 1) (by omega) (by omega) (by omega)
theorem eqBoolS_eq {l : List Bool} (hl : l.length ≤ 4611686018427387904) {k : Nat} (hk : l.length < k) : laws_eqBoolS.f k l l = some true := by
 unfold laws_eqBoolS.f
 rw [if_pos rfl]
 exact eqBoolS_self l hl l.length k 0 (by omega) (by omega) hk
theorem toExploration_eq {l : List S65} {v d : List Bool} {a b : Int} (hl : l.length * 40 ≤ 140737488351232) (hv : v.length ≤ 140737488351232) (hd : d.length ≤ 140737488351232) {k : Nat} (hk : l.length < k) (hk1 : v.length < k) (hk2 : d.length < k) :
  laws_toExploration.f k l v d a b = some (l.map cvLeg, v, d, a, b) := by
 unfold laws_toExploration.f
 rw [toLegS_eq hl hk, toBoolS_eq hv hk1, toBoolS_eq hd hk2]
 rfl
theorem eqExploration_eq {l : List S37} {v d : List Bool} {a b : Int} (hl : l.length ≤ 4611686018427387904) (hv : v.length ≤ 4611686018427387904) (hd : d.length ≤ 4611686018427387904) {k : Nat} (hk : l.length < k) (hk1 : v.length < k) (hk2 : d.length < k) :
  laws_eqExploration.f k l v d a b l v d a b = some true := by
 unfold laws_eqExploration.f
 rw [eqLegS_eq hl hk, eqBoolS_eq hv hk1, eqBoolS_eq hd hk2]
 simp
theorem l1In_eq (a b c : Int) : spec_l1In.f a b c = some (decide (b ≤ a ∧ a ≤ c)) := by
 unfold spec_l1In.f
 by_cases h : a ≥ b
 ·
  rw [if_pos h]; simp [show b ≤ a from h]
 ·
  rw [if_neg h]; simp [show ¬ b ≤ a from h]
theorem within_eq (a b c : Int) : impl_within.f a b c = some (decide (b ≤ a ∧ a ≤ c)) := by
 unfold impl_within.f
 by_cases h : a ≥ b
 ·
  rw [if_pos h]; simp [show b ≤ a from h]
 ·
  rw [if_neg h]; simp [show ¬ b ≤ a from h]
theorem station_eq (a : Int) : spec_l4Station.f a = some (decide (0 ≤ a ∧ a ≤ 7)) := by
 unfold spec_l4Station.f; rw [l1In_eq]; rfl
theorem isStation_eq (a : Int) : impl_isStation.f a = some (decide (0 ≤ a ∧ a ≤ 7)) := by
 unfold impl_isStation.f; rw [within_eq]; rfl
def LegOk (x : S37) : Prop := (0 ≤ x.f0 ∧ x.f0 ≤ 7) ∧ (0 ≤ x.f1 ∧ x.f1 ≤ 7) ∧ x.f0 ≠ x.f1 ∧ (1 ≤ x.f2 ∧ x.f2 ≤ 500) ∧ (0 ≤ x.f3 ∧ x.f3 ≤ 359) ∧ (-90 ≤ x.f4 ∧ x.f4 ≤ 90)
theorem leg_spec (x : S37) : ∃ b, spec_l4Leg.f x.f0 x.f1 x.f2 x.f3 x.f4 = some b ∧ (b = true ↔ LegOk x) := by
 unfold spec_l4Leg.f spec_l2Bearing.f LegOk
 simp only [station_eq, l1In_eq, Option.bind_some, decide_eq_true_eq]
 by_cases h1 : 0 ≤ x.f0 ∧ x.f0 ≤ 7
 ·
  rw [if_pos h1]
  by_cases h2 : 0 ≤ x.f1 ∧ x.f1 ≤ 7
  ·
   rw [if_pos h2]
   by_cases h3 : x.f0 = x.f1
   ·
    rw [if_pos h3]
    exact ⟨_, rfl, fun h => (by cases h), fun h => absurd h3 h.2.2.1⟩
   ·
    rw [if_neg h3]
    by_cases h4 : 1 ≤ x.f2 ∧ x.f2 ≤ 500
    ·
     rw [if_pos h4]
     by_cases h5 : 0 ≤ x.f3 ∧ x.f3 ≤ 359
     ·
      rw [if_pos h5]
      refine ⟨_, rfl, ?_⟩
      rw [decide_eq_true_eq]
      exact ⟨fun h => ⟨h1, h2, h3, h4, h5, h⟩, fun h => h.2.2.2.2.2⟩
     ·
      rw [if_neg h5]
      exact ⟨_, rfl, fun h => (by cases h), fun h => absurd h.2.2.2.2.1 h5⟩
    ·
     rw [if_neg h4]
     exact ⟨_, rfl, fun h => (by cases h), fun h => absurd h.2.2.2.1 h4⟩
  ·
   rw [if_neg h2]
   exact ⟨_, rfl, fun h => (by cases h), fun h => absurd h.2.1 h2⟩
 ·
  rw [if_neg h1]
  exact ⟨_, rfl, fun h => (by cases h), fun h => absurd h.1 h1⟩
theorem leg_impl (a b c d e : Int) : impl_IsLeg.f a b c d e = spec_l4Leg.f a b c d e := by
 unfold impl_IsLeg.f spec_l4Leg.f impl_isBearing.f spec_l2Bearing.f
 simp only [station_eq, isStation_eq, within_eq, l1In_eq]
theorem legs_spec (l : List S37) (hl : l.length ≤ 4611686018427387904) (d : Nat) : ∀ (k : Nat) (i : Int), 0 ≤ i → i + d = l.length → d < k →
  ∃ b, spec_l4Legs.l0 k l i = some b ∧ (b = true ↔ (∀ j : Int, i ≤ j → j < l.length → LegOk (rd_T37 l j)) ∧ l.length ≤ 12) := by
 induction d with
 | zero =>
  intro k i h0 hd hk
  obtain ⟨k, rfl⟩ : ∃ m, k = m + 1 := ⟨k - 1, by omega⟩
  refine ⟨_, by simp only [spec_l4Legs.l0]; rw [if_neg (by omega)], ?_⟩
  rw [decide_eq_true_eq]
  constructor
  ·
   intro h
   exact ⟨fun j h1 h2 => by omega, by omega⟩
  ·
   intro h
   omega
 | succ d ih =>
  intro k i h0 hd hk
  obtain ⟨k, rfl⟩ : ∃ m, k = m + 1 := ⟨k - 1, by omega⟩
  obtain ⟨b, hb, hiff⟩ := ih k (i + 1) (by omega) (by omega) (by omega)
  obtain ⟨x, hx, hxi⟩ := leg_spec (rd_T37 l i)
  simp only [spec_l4Legs.l0]
  rw [if_pos (show i < (l.length : Int) by omega), if_pos h0, hx, w64 (by omega) (by omega)]
  simp only [Option.bind_some]
  cases x with
  | false =>
   rw [if_neg (by decide)]
   exact ⟨_, rfl, fun h => (by cases h), fun h => (by have := hxi.2 (h.1 i (by omega) (by omega)); cases this)⟩
  | true =>
   rw [if_pos rfl]
   refine ⟨b, hb, ?_⟩
   rw [hiff]
   refine ⟨fun h => ⟨fun j h1 h2 => ?_, h.2⟩, fun h => ⟨fun j h1 h2 => h.1 j (by omega) h2, h.2⟩⟩
   by_cases e : j = i
   ·
    rw [e]; exact hxi.1 rfl
   ·
    exact h.1 j (by omega) h2
theorem legs_impl (l : List S37) : ∀ (k : Nat) (i : Int), impl_areLegs.l0 k l l (l.length : Int) i = spec_l4Legs.l0 k l i
 | 0, i => by simp only [impl_areLegs.l0, spec_l4Legs.l0]
 | k + 1, i => by
  simp only [impl_areLegs.l0, spec_l4Legs.l0, leg_impl, legs_impl l k]
  by_cases h1 : i < (l.length : Int)
  ·
   simp only [if_pos h1]
  ·
   simp only [if_neg h1]
def usable (v : List Bool) (g : S37) : Bool := rdOf false v g.f0 && rdOf false v g.f1
def arcsOf (v : List Bool) : List S37 → List Arc
 | [] => []
 | g :: l => if usable v g = true then ⟨g.f0, g.f1, g.f2⟩ :: ⟨g.f1, g.f0, g.f2⟩ :: arcsOf v l else arcsOf v l
def LegsOk (l : List S37) : Prop := ∀ x, x ∈ l → LegOk x
theorem legsOk_of {l : List S37} (h : ∀ j : Int, 0 ≤ j → j < l.length → LegOk (rd_T37 l j)) : LegsOk l := by
 intro x hx
 obtain ⟨i, hi, rfl⟩ := List.mem_iff_getElem.1 hx
 have := h (i : Int) (by omega) (by omega)
 have e : rd_T37 l (i : Int) = l[i] := by
  show l.getD (i : Int).toNat _ = _
  rw [Int.toNat_natCast, List.getD_eq_getElem?_getD, List.getElem?_eq_getElem hi]
  rfl
 rwa [e] at this
theorem rdLeg_mem {l : List S37} {i : Int} (h0 : 0 ≤ i) (h1 : i < l.length) : rd_T37 l i ∈ l := by
 show l.getD i.toNat _ ∈ l
 rw [List.getD_eq_getElem?_getD, List.getElem?_eq_getElem (by omega)]
 exact List.getElem_mem _
theorem drop_rdLeg (l : List S37) (i : Nat) (h : i < l.length) : l.drop i = rd_T37 l (i : Int) :: l.drop (i + 1) := by
 rw [List.drop_eq_getElem_cons h]
 congr 1
 show _ = l.getD (i : Int).toNat _
 rw [Int.toNat_natCast, List.getD_eq_getElem?_getD, List.getElem?_eq_getElem h]
 rfl
theorem arcs_ok (v : List Bool) (l : List S37) (h : LegsOk l) : OkA (arcsOf v l) := by
 induction l with
 | nil => intro e he; cases he
 | cons g l ih =>
  have hg := h g List.mem_cons_self
  have ih := ih (fun x hx => h x (List.mem_cons_of_mem _ hx))
  intro e he
  unfold arcsOf at he
  split at he
  ·
   rcases List.mem_cons.1 he with rfl | he
   ·
    exact ⟨⟨hg.1.1, by have := hg.1.2; show g.f0 < 8; omega⟩, ⟨hg.2.1.1, by have := hg.2.1.2; show g.f1 < 8; omega⟩, hg.2.2.2.1⟩
   ·
    rcases List.mem_cons.1 he with rfl | he
    ·
     exact ⟨⟨hg.2.1.1, by have := hg.2.1.2; show g.f1 < 8; omega⟩, ⟨hg.1.1, by have := hg.1.2; show g.f0 < 8; omega⟩, hg.2.2.2.1⟩
    ·
     exact ih e he
  ·
   exact ih e he
def far8 (D : List Int) : Prop := D.length = 8 ∧ (∀ i, In8 i → 0 ≤ rd D i) ∧ (∀ i, In8 i → rd D i ≤ FAR)
theorem far8_step {D : List Int} (h : far8 D) {a b t : Int} (ha : In8 a) (hb : In8 b) (ht : 0 ≤ t) : far8 (step1 D a b t) := by
 refine ⟨by rw [len_step1, h.1], fun i hi => ?_, fun i hi => Int.le_trans (step1_le h.1 hb hi t) (h.2.2 i hi)⟩
 rw [rd_step1 h.1 hb hi]
 have := h.2.1 a ha
 split
 ·
  omega
 ·
  exact h.2.1 i hi
theorem set_same8 {D : List Int} (h : D.length = 8) {b : Int} (hb : In8 b) : D.set b.toNat (rd D b) = D := by
 apply ext8 (by rw [List.length_set, h]) h
 intro i hi
 rw [rd_set h hb hi]
 split
 ·
  rename_i e
  rw [e]
 ·
  rfl
theorem mn_step {D : List Int} (h : far8 D) {a b t : Int} (ha : In8 a) (hb : In8 b) (ht : 0 ≤ t) (ht' : t ≤ 500) : D.set b.toNat (mn (rd D b) (wrap64 (rd D a + t))) = step1 D a b t := by
 have a0 := h.2.1 a ha
 have a1 := h.2.2 a ha
 unfold FAR at a1
 rw [w64 (by omega) (by omega)]
 unfold mn step1
 by_cases hc : rd D a + t < rd D b
 ·
  rw [if_pos hc, if_pos hc]
 ·
  rw [if_neg hc, if_neg hc, set_same8 h.1 hb]
theorem in8 {a : Int} (h0 : 0 ≤ a) (h1 : a ≤ 7) : In8 a := ⟨h0, by omega⟩
theorem wayOut_l1 (l : List S37) (hl : LegsOk l) (hn : l.length ≤ 12) (v d : List Bool) (hv : v.length = 8) (a b r : Int) (n : Nat) : ∀ (k i : Nat) (D : List Int), i + n = l.length → n < k → far8 D →
  ∃ k', k ≤ k' + n + 1 ∧ k' < k ∧ impl_Exploration_wayOut.l1 k D r l (l.length : Int) i l v d a b = impl_Exploration_wayOut.l0 k' (rnd (arcsOf v (l.drop i)) D) (wrap64 (r + 1)) l v d a b := by
 induction n with
 | zero =>
  intro k i D hi hk hD
  obtain ⟨k, rfl⟩ : ∃ m, k = m + 1 := ⟨k - 1, by omega⟩
  refine ⟨k, by omega, by omega, ?_⟩
  simp only [impl_Exploration_wayOut.l1]
  rw [if_neg (by omega), List.drop_eq_nil_of_le (by omega)]
  rfl
 | succ n ih =>
  intro k i D hi hk hD
  obtain ⟨k, rfl⟩ : ∃ m, k = m + 1 := ⟨k - 1, by omega⟩
  rw [drop_rdLeg l i (by omega)]
  have hg := hl _ (rdLeg_mem (l := l) (i := (i : Int)) (by omega) (by omega))
  generalize hge : rd_T37 l (i : Int) = g at hg
  have i0 := in8 hg.1.1 hg.1.2
  have i1 := in8 hg.2.1.1 hg.2.1.2
  obtain ⟨g00, g01⟩ := hg.1
  obtain ⟨g10, g11⟩ := hg.2.1
  obtain ⟨ht, ht'⟩ := hg.2.2.2.1
  simp only [impl_Exploration_wayOut.l1, hge]
  rw [if_pos (by omega), if_pos (by omega), if_pos (by omega), if_pos (by omega), if_pos (by omega), w64 (x := (i : Int) + 1) (by omega) (by omega)]
  unfold arcsOf usable
  cases h0 : rdOf false v g.f0 with
  | false =>
   rw [if_neg (by decide)]
   obtain ⟨k', h1, h2, h3⟩ := ih k (i + 1) D (by omega) (by omega) hD
   exact ⟨k', by omega, by omega, h3⟩
  | true =>
   rw [if_pos rfl, if_pos (by omega), if_pos (by omega)]
   cases h1 : rdOf false v g.f1 with
   | false =>
    rw [if_neg (by decide)]
    obtain ⟨k', h1, h2, h3⟩ := ih k (i + 1) D (by omega) (by omega) hD
    exact ⟨k', by omega, by omega, h3⟩
   | true =>
    have hl8 := hD.1
    rw [if_pos rfl, if_pos (by omega), if_pos (by omega), mn_step hD i1 i0 (by omega) ht']
    simp only [Option.bind_some]
    rw [mn_step (far8_step hD i1 i0 (by omega)) i0 i1 (by omega) ht', relax_comm hl8 i0 i1 ht]
    obtain ⟨k', h1, h2, h3⟩ := ih k (i + 1) (step1 (step1 D g.f0 g.f1 g.f2) g.f1 g.f0 g.f2) (by omega) (by omega) (far8_step (far8_step hD i0 i1 (by omega)) i1 i0 (by omega))
    exact ⟨k', by omega, by omega, h3⟩
theorem wayOut_l0 (l : List S37) (hl : LegsOk l) (hn : l.length ≤ 12) (v d : List Bool) (hv : v.length = 8) (a b : Int) (ha : In8 a) (n : Nat) : ∀ (k r : Nat), r + n = 8 → n * 16 < k →
  impl_Exploration_wayOut.l0 k (it (arcsOf v l) r D0) r l v d a b = some (rd (it (arcsOf v l) 8 D0) a, decide (rd (it (arcsOf v l) 8 D0) a < FAR)) := by
 induction n with
 | zero =>
  intro k r hr hk
  obtain ⟨k, rfl⟩ : ∃ m, k = m + 1 := ⟨k - 1, by omega⟩
  obtain rfl : r = 8 := by omega
  have := (it_inv (arcs_ok v l hl) (D0_inv _) 8).len
  simp only [impl_Exploration_wayOut.l0]
  rw [if_neg (by decide), if_pos ha.1, if_pos (by have := ha.2; omega)]
  rfl
 | succ n ih =>
  intro k r hr hk
  obtain ⟨k, rfl⟩ : ∃ m, k = m + 1 := ⟨k - 1, by omega⟩
  simp only [impl_Exploration_wayOut.l0]
  rw [if_pos (by omega)]
  have I := it_inv (arcs_ok v l hl) (D0_inv _) r
  obtain ⟨k', h1, h2, h3⟩ := wayOut_l1 l hl hn v d hv a b r l.length k 0 (it (arcsOf v l) r D0) (by omega) (by omega) ⟨I.len, I.lo, I.hi⟩
  rw [show ((0 : Nat) : Int) = 0 from rfl] at h3
  rw [h3, w64 (by omega) (by omega), List.drop_zero]
  exact ih k' (r + 1) (by omega) (by omega)
theorem wayOut_eq {l : List S37} (hl : LegsOk l) (hn : l.length ≤ 12) {v : List Bool} (d : List Bool) (hv : v.length = 8) {a : Int} (b : Int) (ha : In8 a) {k : Nat} (hk : 200 ≤ k) :
  impl_Exploration_wayOut.f k l v d a b = some (rd (it (arcsOf v l) 7 D0) a, decide (rd (it (arcsOf v l) 7 D0) a < FAR)) := by
 have h := wayOut_l0 l hl hn v d hv a b ha 8 k 0 (by omega) (by omega)
 have e : it (arcsOf v l) 8 D0 = it (arcsOf v l) 7 D0 := fix7 (arcs_ok v l hl)
 rw [e] at h
 exact h
def stF (F : List Int) (a b t : Int) : List Int := if rd F a ≥ 0 ∧ (rd F b < 0 ∨ wrap64 (rd F a + t) < rd F b) then F.set b.toNat (wrap64 (rd F a + t)) else F
def cF (F : List Int) (a b t : Int) : Bool := decide (rd F a ≥ 0 ∧ (rd F b < 0 ∨ wrap64 (rd F a + t) < rd F b))
theorem out_l2 (l : List S37) (v : List Bool) (p : Int) (F : List Int) (ag : Bool) (i : Int) (h0 : 0 ≤ i) (hi : i < l.length) (hl : l.length ≤ 12) (hF : F.length = 8) (hv : v.length = 8) (i0 : In8 (rd_T37 l i).f0) (i1 : In8 (rd_T37 l i).f1) (k : Nat) :
  ∃ k', k ≤ k' ∧ k' ≤ k + 1 ∧ spec_l25Out.l2 (k + 3) l v p F ag i = (if usable v (rd_T37 l i) = true then spec_l25Out.l2 k' l v p (stF (stF F (rd_T37 l i).f0 (rd_T37 l i).f1 (rd_T37 l i).f2) (rd_T37 l i).f1 (rd_T37 l i).f0 (rd_T37 l i).f2) (ag || cF F (rd_T37 l i).f0 (rd_T37 l i).f1 (rd_T37 l i).f2 || cF (stF F (rd_T37 l i).f0 (rd_T37 l i).f1 (rd_T37 l i).f2) (rd_T37 l i).f1 (rd_T37 l i).f0 (rd_T37 l i).f2) (i + 1) else spec_l25Out.l2 k' l v p F ag (i + 1)) := by
 simp only [spec_l25Out.l2, w64 (x := i + 1) (by omega) (by omega)]
 generalize hge : rd_T37 l i = g at i0 i1
 obtain ⟨i00, i01⟩ := i0
 obtain ⟨i10, i11⟩ := i1
 rw [if_pos hi, if_pos h0, if_pos i00, if_pos (by omega)]
 unfold usable
 cases h0' : rdOf false v g.f0 with
 | false =>
  refine ⟨k + 1, by omega, by omega, ?_⟩
  rw [if_neg (by decide), if_neg (by simp)]
  simp only [spec_l25Out.j3, if_true, w64 (x := i + 1) (by omega) (by omega)]
 | true =>
  rw [if_pos rfl, if_pos i10, if_pos (by omega)]
  cases h1' : rdOf false v g.f1 with
  | false =>
   refine ⟨k + 1, by omega, by omega, ?_⟩
   rw [if_neg (by decide)]
   simp only [spec_l25Out.j3, Bool.not_false, if_true, w64 (x := i + 1) (by omega) (by omega)]
  | true =>
   refine ⟨k, by omega, by omega, ?_⟩
   rw [if_pos (by decide)]
   have tail : ∀ (Y : List Int) (ag' : Bool) (m : Int), m = 8 → (if rd Y g.f1 ≥ 0 then (if 0 ≤ g.f0 then (if g.f0 < m then (if rd Y g.f0 < 0 then spec_l25Out.l2 k l v p (Y.set g.f0.toNat (wrap64 (rd Y g.f1 + g.f2))) true (i + 1) else (if wrap64 (rd Y g.f1 + g.f2) < rd Y g.f0 then spec_l25Out.l2 k l v p (Y.set g.f0.toNat (wrap64 (rd Y g.f1 + g.f2))) true (i + 1) else spec_l25Out.l2 k l v p Y ag' (i + 1))) else none) else none) else spec_l25Out.l2 k l v p Y ag' (i + 1)) = spec_l25Out.l2 k l v p (stF Y g.f1 g.f0 g.f2) (ag' || cF Y g.f1 g.f0 g.f2) (i + 1) := by
    intro Y ag' m hY
    unfold stF cF
    by_cases c1 : rd Y g.f1 ≥ 0
    ·
     rw [if_pos c1, if_pos i00, if_pos (by omega)]
     by_cases c2 : rd Y g.f0 < 0
     ·
      rw [if_pos c2, if_pos ⟨c1, .inl c2⟩, decide_eq_true ⟨c1, .inl c2⟩, Bool.or_true]
     ·
      rw [if_neg c2]
      by_cases c3 : wrap64 (rd Y g.f1 + g.f2) < rd Y g.f0
      ·
       rw [if_pos c3, if_pos ⟨c1, .inr c3⟩, decide_eq_true ⟨c1, .inr c3⟩, Bool.or_true]
      ·
       have hn : ¬ (rd Y g.f1 ≥ 0 ∧ (rd Y g.f0 < 0 ∨ wrap64 (rd Y g.f1 + g.f2) < rd Y g.f0)) := fun h => by rcases h.2 with z | z <;> contradiction
       rw [if_neg c3, if_neg hn, decide_eq_false hn, Bool.or_false]
    ·
     have hn : ¬ (rd Y g.f1 ≥ 0 ∧ (rd Y g.f0 < 0 ∨ wrap64 (rd Y g.f1 + g.f2) < rd Y g.f0)) := fun h => c1 h.1
     rw [if_neg c1, if_neg hn, decide_eq_false hn, Bool.or_false]
   have main : ∀ (c : Bool), (c = true → (rd F g.f0 ≥ 0 ∧ (rd F g.f1 < 0 ∨ wrap64 (rd F g.f0 + g.f2) < rd F g.f1))) → (c = false → ¬ (rd F g.f0 ≥ 0 ∧ (rd F g.f1 < 0 ∨ wrap64 (rd F g.f0 + g.f2) < rd F g.f1))) → spec_l25Out.j4 (k + 1) l v p F ag i g.f0 g.f1 (wrap64 (rd F g.f0 + g.f2)) c = spec_l25Out.l2 k l v p (stF (stF F g.f0 g.f1 g.f2) g.f1 g.f0 g.f2) (ag || cF F g.f0 g.f1 g.f2 || cF (stF F g.f0 g.f1 g.f2) g.f1 g.f0 g.f2) (i + 1) := by
    intro c hc1 hc2
    simp only [spec_l25Out.j4, hge, w64 (x := i + 1) (by omega) (by omega)]
    cases c with
    | true =>
     have hc := hc1 rfl
     rw [if_pos rfl, if_pos i10, if_pos (by omega)]
     simp only [Option.bind_some]
     rw [if_pos h0, if_pos hi, tail (F.set g.f1.toNat (wrap64 (rd F g.f0 + g.f2))) true (F.length : Int) (by omega)]
     have e : stF F g.f0 g.f1 g.f2 = F.set g.f1.toNat (wrap64 (rd F g.f0 + g.f2)) := by
      unfold stF
      rw [if_pos hc]
     have e2 : cF F g.f0 g.f1 g.f2 = true := decide_eq_true hc
     rw [e, e2, Bool.or_true]
    | false =>
     have hc := hc2 rfl
     rw [if_neg (by decide), if_pos i10, if_pos (by omega), if_pos h0, if_pos hi, tail F ag (F.length : Int) (by omega)]
     have e : stF F g.f0 g.f1 g.f2 = F := by
      unfold stF
      rw [if_neg hc]
     have e2 : cF F g.f0 g.f1 g.f2 = false := decide_eq_false hc
     rw [e, e2, Bool.or_false]
   simp only [spec_l25Out.j3, hge, Bool.not_true, Bool.false_eq_true, if_false]
   rw [if_pos i00, if_pos (by omega), if_pos h0, if_pos hi]
   by_cases c1 : rd F g.f0 ≥ 0
   ·
    rw [if_pos c1, if_pos i10, if_pos (by omega)]
    by_cases c2 : rd F g.f1 < 0
    ·
     rw [if_pos c2, main true (fun _ => ⟨c1, .inl c2⟩) (fun h => by cases h)]
    ·
     rw [if_neg c2]
     by_cases c3 : wrap64 (rd F g.f0 + g.f2) < rd F g.f1
     ·
      rw [decide_eq_true c3, main true (fun _ => ⟨c1, .inr c3⟩) (fun h => by cases h)]
     ·
      rw [decide_eq_false c3, main false (fun h => by cases h) (fun _ h => by rcases h.2 with z | z <;> contradiction)]
   ·
    rw [if_neg c1, main false (fun h => by cases h) (fun _ h => c1 h.1)]
theorem stF_dec {c : Int} {D : List Int} (h : far8 D) (hb : Bd c D) (hc : c + 500 < FAR) {a b t : Int} (ha : In8 a) (hb8 : In8 b) (ht : 1 ≤ t) (ht' : t ≤ 500) :
  stF (D.map dec) a b t = (step1 D a b t).map dec ∧ (cF (D.map dec) a b t = true ↔ rd D a + t < rd D b) := by
 obtain ⟨h1, h2, h3⟩ := cond_dec h.1 h.2.1 h.2.2 hb hc ha hb8 ht ht'
 have a0 := h.2.1 a ha
 unfold stF cF step1
 rw [decide_eq_true_eq]
 by_cases hf : rd D a < FAR
 ·
  obtain ⟨e, e2, e3⟩ := h2 hf
  have hw : wrap64 (rd (D.map dec) a + t) = rd D a + t := by
   rw [e, w64 (by omega) (by unfold FAR at e3; omega)]
  have hcnd : (rd (D.map dec) a ≥ 0 ∧ (rd (D.map dec) b < 0 ∨ rd D a + t < rd (D.map dec) b)) ↔ rd D a + t < rd D b := ⟨fun z => e2.1 z.2, fun z => ⟨h1.2 hf, e2.2 z⟩⟩
  rw [hw]
  by_cases hlt : rd D a + t < rd D b
  ·
   rw [if_pos (hcnd.2 hlt), if_pos hlt, map_set_dec _ _ _ (by omega)]
   exact ⟨rfl, hcnd⟩
  ·
   rw [if_neg (fun z => hlt (hcnd.1 z)), if_neg hlt]
   exact ⟨rfl, hcnd⟩
 ·
  have hn := h3 hf
  rw [if_neg (fun z => hf (h1.1 z.1)), if_neg hn]
  exact ⟨rfl, fun z => absurd (h1.1 z.1) hf, fun z => absurd z hn⟩
theorem out_round (l : List S37) (hl : LegsOk l) (hn : l.length ≤ 12) (v : List Bool) (hv : v.length = 8) (p : Int) (n : Nat) : ∀ (k i : Nat) (D : List Int) (ag : Bool) (c : Int), i + n = l.length → 3 * n < k → far8 D → Bd c D → c + 1000 * n < FAR →
  ∃ k' ag', k ≤ k' + 3 * n + 1 ∧ k' < k ∧ spec_l25Out.l2 k l v p (D.map dec) ag i = spec_l25Out.l1 k' l v p ((rnd (arcsOf v (l.drop i)) D).map dec) ag' ∧ Bd (c + 1000 * n) (rnd (arcsOf v (l.drop i)) D) ∧ (ag' = true → ag = true ∨ sum8 (rnd (arcsOf v (l.drop i)) D) < sum8 D) ∧ (ag' = false → ag = false ∧ rnd (arcsOf v (l.drop i)) D = D) := by
 induction n with
 | zero =>
  intro k i D ag c hi hk hD hb hc
  obtain ⟨k, rfl⟩ : ∃ m, k = m + 1 := ⟨k - 1, by omega⟩
  refine ⟨k, ag, by omega, by omega, ?_, ?_, fun h => .inl h, fun h => ⟨h, ?_⟩⟩
  ·
   simp only [spec_l25Out.l2]
   rw [if_neg (by omega), List.drop_eq_nil_of_le (by omega)]
   rfl
  ·
   rw [List.drop_eq_nil_of_le (by omega)]
   exact hb.mono (by omega)
  ·
   rw [List.drop_eq_nil_of_le (by omega)]
   rfl
 | succ n ih =>
  intro k i D ag c hi hk hD hb hc
  obtain ⟨k, rfl⟩ : ∃ m, k = m + 3 := ⟨k - 3, by omega⟩
  have hg := hl _ (rdLeg_mem (l := l) (i := (i : Int)) (by omega) (by omega))
  have i0 := in8 hg.1.1 hg.1.2
  have i1 := in8 hg.2.1.1 hg.2.1.2
  obtain ⟨ht, ht'⟩ := hg.2.2.2.1
  obtain ⟨k1, hk1, hk2, e⟩ := out_l2 l v p (D.map dec) ag i (by omega) (by omega) hn (by rw [List.length_map, hD.1]) hv i0 i1 k
  rw [drop_rdLeg l i (by omega)]
  generalize hge : rd_T37 l (i : Int) = g at hg i0 i1 ht ht' e
  rw [e]
  cases hu : usable v g with
  | false =>
   rw [if_neg (by decide)]
   obtain ⟨k', ag', h1, h2, h3, h4, h5, h6⟩ := ih k1 (i + 1) D ag c (by omega) (by omega) hD hb (by omega)
   have ea : arcsOf v (g :: l.drop (i + 1)) = arcsOf v (l.drop (i + 1)) := by
    show (if usable v g = true then _ else _) = _
    rw [hu, if_neg (by decide)]
   rw [ea]
   exact ⟨k', ag', by omega, by omega, h3, h4.mono (by omega), h5, h6⟩
  | true =>
   rw [if_pos rfl]
   have ea : ∀ E, rnd (arcsOf v (g :: l.drop (i + 1))) E = rnd (arcsOf v (l.drop (i + 1))) (step1 (step1 E g.f0 g.f1 g.f2) g.f1 g.f0 g.f2) := by
    intro E
    show rnd (if usable v g = true then _ else _) _ = _
    rw [hu, if_pos rfl]
    rfl
   rw [ea D]
   obtain ⟨s1, s2⟩ := stF_dec hD hb (by omega) i0 i1 ht ht'
   have hD1 := far8_step hD i0 i1 (t := g.f2) (by omega)
   have hb1 := step_bd hD.1 hb i0 i1 ht' hD.2.2 (by omega)
   obtain ⟨s3, s4⟩ := stF_dec hD1 hb1 (by omega) i1 i0 ht ht'
   have hD2 := far8_step hD1 i1 i0 (t := g.f2) (by omega)
   have hb2 := step_bd hD1.1 hb1 i1 i0 ht' hD1.2.2 (by omega)
   rw [s1, s3]
   have hrest : ∀ i, In8 i → rd (step1 (step1 D g.f0 g.f1 g.f2) g.f1 g.f0 g.f2) i ≤ rd D i := fun j hj => Int.le_trans (step1_le hD1.1 i0 hj _) (step1_le hD.1 i1 hj _)
   have hrnd : ∀ j, In8 j → rd (rnd (arcsOf v (l.drop (i + 1))) (step1 (step1 D g.f0 g.f1 g.f2) g.f1 g.f0 g.f2)) j ≤ rd D j := fun j hj => Int.le_trans (rnd_le _ (arcs_ok v _ (fun x hx => hl x (List.mem_of_mem_drop hx))) _ hD2.1 j hj) (hrest j hj)
   have hrl : (rnd (arcsOf v (l.drop (i + 1))) (step1 (step1 D g.f0 g.f1 g.f2) g.f1 g.f0 g.f2)).length = 8 := by rw [len_rnd, hD2.1]
   have hdec1 : rd D g.f0 + g.f2 < rd D g.f1 → sum8 (rnd (arcsOf v (l.drop (i + 1))) (step1 (step1 D g.f0 g.f1 g.f2) g.f1 g.f0 g.f2)) < sum8 D := by
    intro h
    rcases le_or hD.1 hrl hrnd with z | z
    ·
     exfalso
     have h7 := rd_step1 (a := g.f0) (t := g.f2) hD.1 i1 i1
     rw [if_pos ⟨rfl, h⟩] at h7
     have h8 := step1_le (a := g.f1) (t := g.f2) hD1.1 i0 i1
     have h9 := rnd_le (arcsOf v (l.drop (i + 1))) (arcs_ok v _ (fun x hx => hl x (List.mem_of_mem_drop hx))) _ hD2.1 g.f1 i1
     rw [z] at h9
     omega
    ·
     exact z
   have hdec2 : rd (step1 D g.f0 g.f1 g.f2) g.f1 + g.f2 < rd (step1 D g.f0 g.f1 g.f2) g.f0 → sum8 (rnd (arcsOf v (l.drop (i + 1))) (step1 (step1 D g.f0 g.f1 g.f2) g.f1 g.f0 g.f2)) < sum8 D := by
    intro h
    rcases le_or hD.1 hrl hrnd with z | z
    ·
     exfalso
     have h7 := rd_step1 (a := g.f1) (t := g.f2) hD1.1 i0 i0
     rw [if_pos ⟨rfl, h⟩] at h7
     have h8 := step1_le (a := g.f0) (t := g.f2) hD.1 i1 i0
     have h9 := rnd_le (arcsOf v (l.drop (i + 1))) (arcs_ok v _ (fun x hx => hl x (List.mem_of_mem_drop hx))) _ hD2.1 g.f0 i0
     rw [z] at h9
     omega
    ·
     exact z
   obtain ⟨k', ag', h1, h2, h3, h4, h5, h6⟩ := ih k1 (i + 1) (step1 (step1 D g.f0 g.f1 g.f2) g.f1 g.f0 g.f2) (ag || cF (D.map dec) g.f0 g.f1 g.f2 || cF ((step1 D g.f0 g.f1 g.f2).map dec) g.f1 g.f0 g.f2) (c + 500 + 500) (by omega) (by omega) hD2 hb2 (by omega)
   refine ⟨k', ag', by omega, by omega, h3, h4.mono (by omega), fun h => ?_, fun h => ?_⟩
   ·
    rcases h5 h with z | z
    ·
     rw [Bool.or_eq_true, Bool.or_eq_true] at z
     rcases z with (z | z) | z
     ·
      exact .inl z
     ·
      exact .inr (hdec1 (s2.1 z))
     ·
      exact .inr (hdec2 (s4.1 z))
    ·
     have q : sum8 (step1 (step1 D g.f0 g.f1 g.f2) g.f1 g.f0 g.f2) ≤ sum8 D := by
      rcases le_or hD.1 hD2.1 hrest with q | q
      ·
       rw [q]; exact Int.le_refl _
      ·
       omega
     exact .inr (by omega)
   ·
    obtain ⟨z1, z2⟩ := h6 h
    rw [Bool.or_eq_false_iff, Bool.or_eq_false_iff] at z1
    obtain ⟨⟨za, zb⟩, zc⟩ := z1
    refine ⟨za, z2.trans ?_⟩
    have n1 : ¬ (rd D g.f0 + g.f2 < rd D g.f1) := fun q => by rw [s2.2 q] at zb; cases zb
    have e1 : step1 D g.f0 g.f1 g.f2 = D := by
     unfold step1
     rw [if_neg n1]
    have n2 : ¬ (rd (step1 D g.f0 g.f1 g.f2) g.f1 + g.f2 < rd (step1 D g.f0 g.f1 g.f2) g.f0) := fun q => by rw [s4.2 q] at zc; cases zc
    have e2 : step1 (step1 D g.f0 g.f1 g.f2) g.f1 g.f0 g.f2 = step1 D g.f0 g.f1 g.f2 := by
     rw [show step1 (step1 D g.f0 g.f1 g.f2) g.f1 g.f0 g.f2 = if rd (step1 D g.f0 g.f1 g.f2) g.f1 + g.f2 < rd (step1 D g.f0 g.f1 g.f2) g.f0 then _ else _ from rfl, if_neg n2]
    rw [e2, e1]
theorem D0_bd (A : List Arc) : Bd 0 D0 := fun i hi => by
 by_cases h : i = 0
 ·
  rw [h]; right; decide
 ·
  exact .inl (D0_far hi h)
theorem out_l1 (l : List S37) (hl : LegsOk l) (hn : l.length ≤ 12) (v : List Bool) (hv : v.length = 8) (p : Int) (hp : In8 p) (n : Nat) : ∀ (k r : Nat), r + n = 7 → 40 * n + 40 < k → Bd (12000 * r) (it (arcsOf v l) r D0) →
  spec_l25Out.l1 k l v p ((it (arcsOf v l) r D0).map dec) true = some (dec (rd (it (arcsOf v l) 7 D0) p)) := by
 have hok := arcs_ok v l hl
 have fin : ∀ (k : Nat) (r : Nat), r ≤ 7 → it (arcsOf v l) (r + 1) D0 = it (arcsOf v l) r D0 → spec_l25Out.l1 (k + 1) l v p ((it (arcsOf v l) (r + 1) D0).map dec) false = some (dec (rd (it (arcsOf v l) 7 D0) p)) := by
  intro k r hr he
  have hlen := (it_inv hok (D0_inv _) r).len
  have e7 : it (arcsOf v l) 7 D0 = it (arcsOf v l) r D0 := by
   have := it_add (arcsOf v l) D0 r (7 - r)
   rw [show r + (7 - r) = 7 by omega, it_fix he] at this
   exact this
  simp only [spec_l25Out.l1, Bool.false_eq_true, if_false]
  have h1 := hp.1
  have h2 := hp.2
  rw [he, if_pos h1, if_pos (by rw [List.length_map, hlen]; exact h2), rd_map hlen hp, e7]
 induction n with
 | zero =>
  intro k r hr hk hb
  obtain ⟨k, rfl⟩ : ∃ m, k = m + 1 := ⟨k - 1, by omega⟩
  have e8 : rnd (arcsOf v l) (it (arcsOf v l) r D0) = it (arcsOf v l) r D0 := by
   rw [show r = 7 by omega]
   exact fix7 hok
  simp only [spec_l25Out.l1, if_true]
  have I := it_inv hok (D0_inv _) r
  obtain ⟨k', ag', h1, h2, h3, h4, h5, h6⟩ := out_round l hl hn v hv p l.length k 0 (it (arcsOf v l) r D0) false (12000 * r) (by omega) (by omega) ⟨I.len, I.lo, I.hi⟩ hb (by unfold FAR; omega)
  rw [show ((0 : Nat) : Int) = 0 from rfl, List.drop_zero] at h3
  rw [List.drop_zero] at h5 h6
  rw [h3]
  cases ag' with
  | true =>
   exfalso
   rcases h5 rfl with z | z
   ·
    cases z
   ·
    rw [e8] at z
    omega
  | false =>
   have a1 : r ≤ 7 := by clear h3 h4 h5 h6 hb; omega
   have a2 : k' = k' - 1 + 1 := by clear h3 h4 h5 h6 hb; omega
   rw [a2]
   exact fin (k' - 1) r a1 e8
 | succ n ih =>
  intro k r hr hk hb
  obtain ⟨k, rfl⟩ : ∃ m, k = m + 1 := ⟨k - 1, by omega⟩
  simp only [spec_l25Out.l1, if_true]
  have I := it_inv hok (D0_inv _) r
  obtain ⟨k', ag', h1, h2, h3, h4, h5, h6⟩ := out_round l hl hn v hv p l.length k 0 (it (arcsOf v l) r D0) false (12000 * r) (by omega) (by omega) ⟨I.len, I.lo, I.hi⟩ hb (by unfold FAR; omega)
  rw [show ((0 : Nat) : Int) = 0 from rfl, List.drop_zero] at h3
  rw [List.drop_zero] at h4 h5 h6
  rw [h3]
  cases ag' with
  | true =>
   have hb' : Bd (12000 * ((r + 1 : Nat) : Int)) (it (arcsOf v l) (r + 1) D0) := Bd.mono (c := 12000 * r + 1000 * l.length) h4 (by omega)
   have a1 : r + 1 + n = 7 := by clear h3 h4 h5 h6 hb' hb; omega
   have a2 : 40 * n + 40 < k' := by clear h3 h4 h5 h6 hb' hb; omega
   have hq := ih k' (r + 1) a1 a2 hb'
   exact hq
  | false =>
   have a1 : r ≤ 7 := by clear h3 h4 h5 h6 hb; omega
   have a2 : k' = k' - 1 + 1 := by clear h3 h4 h5 h6 hb; omega
   rw [a2]
   exact fin (k' - 1) r a1 (h6 rfl).2
theorem out_l0 (l : List S37) (v : List Bool) (p : Int) (n : Nat) : ∀ (k j : Nat), j + n = 8 → n < k →
  ∃ k', k = k' + n + 1 ∧ spec_l25Out.l0 k l v p (List.replicate j (-1)) j = spec_l25Out.l1 k' l v p (D0.map dec) true := by
 induction n with
 | zero =>
  intro k j hj hk
  obtain ⟨k, rfl⟩ : ∃ m, k = m + 1 := ⟨k - 1, by omega⟩
  obtain rfl : j = 8 := by omega
  refine ⟨k, by omega, ?_⟩
  simp only [spec_l25Out.l0]
  rw [if_neg (by decide), if_pos (by decide)]
  rfl
 | succ n ih =>
  intro k j hj hk
  obtain ⟨k, rfl⟩ : ∃ m, k = m + 1 := ⟨k - 1, by omega⟩
  simp only [spec_l25Out.l0]
  rw [if_pos (by omega), if_pos (by rw [List.length_replicate]; omega), w64 (by omega) (by omega)]
  obtain ⟨k', h1, h2⟩ := ih k (j + 1) (by omega) (by omega)
  refine ⟨k', by omega, ?_⟩
  rw [List.replicate_succ'] at h2
  exact h2
theorem out_eq {l : List S37} (hl : LegsOk l) (hn : l.length ≤ 12) {v : List Bool} (hv : v.length = 8) {p : Int} (hp : In8 p) {k : Nat} (hk : 400 ≤ k) :
  spec_l25Out.f k l v p = some (dec (rd (it (arcsOf v l) 7 D0) p)) := by
 obtain ⟨k', h1, h2⟩ := out_l0 l v p 8 k 0 (by omega) (by omega)
 unfold spec_l25Out.f
 rw [show ([] : List Int) = List.replicate 0 (-1) from rfl, show (0 : Int) = ((0 : Nat) : Int) from rfl, h2]
 exact out_l1 l hl hn v hv p hp 7 k' 0 (by omega) (by omega) (D0_bd (arcsOf v l))
def way (l : List S37) (v : List Bool) (p : Int) : Int := rd (it (arcsOf v l) 7 D0) p
theorem way_bd {l : List S37} (hl : LegsOk l) (v : List Bool) {p : Int} (hp : In8 p) : 0 ≤ way l v p ∧ way l v p ≤ FAR := by
 have I := it_inv (arcs_ok v l hl) (D0_inv _) 7
 exact ⟨I.lo p hp, I.hi p hp⟩
structure ExplOk (l : List S37) (v d : List Bool) (p t : Int) : Prop where
 legs : LegsOk l
 len : l.length ≤ 12
 hv : v.length = 8
 hd : d.length = 8
 hp : In8 p
 ht : 0 ≤ t ∧ t ≤ 100000
 hway : way l v p < FAR
 hlight : way l v p ≤ t
 v0 : rdOf false v 0 = true
 vp : rdOf false v p = true
theorem good_eq (l : List S37) (hl : l.length ≤ 4611686018427387904) (v d : List Bool) (p t : Int) {k : Nat} (hk : l.length + 410 ≤ k) :
  ∃ b, spec_l25Good.f k l v d p t = some b ∧ impl_IsExploration.f k l v d p t = some b ∧ (b = true ↔ ExplOk l v d p t) := by
 obtain ⟨x, hx, hxi⟩ := legs_spec l hl l.length k 0 (by omega) (by omega) (by omega)
 obtain ⟨k, rfl⟩ : ∃ m, k = m + 1 := ⟨k - 1, by omega⟩
 have hno : ¬ ExplOk l v d p t → ∃ b, some false = some b ∧ some false = some b ∧ (b = true ↔ ExplOk l v d p t) := fun h => ⟨false, rfl, rfl, fun z => (by cases z), fun z => absurd z h⟩
 unfold spec_l25Good.f impl_IsExploration.f spec_l4Legs.f impl_areLegs.f
 rw [legs_impl, hx]
 simp only [Option.bind_some, station_eq, isStation_eq, l1In_eq, within_eq]
 cases x with
 | false =>
  simp only [spec_l25Good.j0, impl_IsExploration.j0, Bool.false_eq_true, if_false, if_true]
  refine hno fun h => ?_
  have := hxi.2 ⟨fun j h1 h2 => h.legs _ (rdLeg_mem h1 h2), h.len⟩
  cases this
 | true =>
  obtain ⟨hlo, hlen⟩ := hxi.1 rfl
  have hlegs := legsOk_of hlo
  simp only [if_true, spec_l25Good.j0, impl_IsExploration.j0]
  by_cases h1 : (v.length : Int) = 8
  ·
   rw [if_pos h1, if_pos h1]
   by_cases h2 : (d.length : Int) = 8
   ·
    rw [if_pos h2, if_pos h2]
    by_cases h3 : 0 ≤ p ∧ p ≤ 7
    ·
     rw [decide_eq_true h3, if_pos rfl, if_pos rfl]
     by_cases h4 : 0 ≤ t ∧ t ≤ 100000
     ·
      have hv8 : v.length = 8 := by omega
      have hp8 := in8 h3.1 h3.2
      rw [decide_eq_true h4]
      simp only [Bool.not_true, Bool.false_eq_true, if_false]
      have hvp : (0 : Int) < (v.length : Int) := by omega
      simp only [if_pos hvp]
      cases h5 : rdOf false v 0 with
      | false =>
       simp only [Bool.false_eq_true, if_false]
       exact hno fun h => by have := h.v0; rw [h5] at this; cases this
      | true =>
       have hpv : p < (v.length : Int) := by omega
       simp only [if_true, if_pos h3.1, if_pos hpv]
       cases h6 : rdOf false v p with
       | false =>
        simp only [Bool.false_eq_true, if_false]
        exact hno fun h => by have := h.vp; rw [h6] at this; cases this
       | true =>
        simp only [if_true]
        rw [out_eq hlegs hlen hv8 hp8 (by omega), wayOut_eq hlegs hlen d hv8 t hp8 (by omega)]
        simp only [Option.bind_some]; obtain ⟨w0, w1⟩ := way_bd hlegs v hp8
        have hex : way l v p < FAR → way l v p ≤ t → ExplOk l v d p t := fun a b => ⟨hlegs, hlen, hv8, by omega, hp8, h4, a, b, h5, h6⟩
        rw [show rd (it (arcsOf v l) 7 D0) p = way l v p from rfl]
        by_cases h7 : way l v p < FAR
        ·
         have e : dec (way l v p) = way l v p := by
          unfold dec
          rw [if_neg (by omega)]
         rw [e, if_pos w0, decide_eq_true h7, if_pos rfl]
         refine ⟨_, rfl, rfl, ?_⟩
         rw [decide_eq_true_eq]
         exact ⟨fun h => hex h7 h, fun h => h.hlight⟩
        ·
         have e : dec (way l v p) = -1 := by
          unfold dec
          rw [if_pos (by omega)]
         rw [e, if_neg (by decide), decide_eq_false h7, if_neg (by decide)]
         exact hno fun h => h7 h.hway
     ·
      rw [decide_eq_false h4]
      simp only [Bool.not_false, if_true]
      exact hno fun h => h4 h.ht
    ·
     rw [decide_eq_false h3]
     simp only [Bool.false_eq_true, if_false, if_true]
     exact hno fun h => h3 ⟨h.hp.1, by have := h.hp.2; omega⟩
   ·
    rw [if_neg h2, if_neg h2]
    exact hno fun h => h2 (by have := h.hd; omega)
  ·
   rw [if_neg h1, if_neg h1]
   exact hno fun h => h1 (by have := h.hv; omega)
theorem set_app {α : Type} (pre ys : List α) (y z : α) (i : Nat) (h : pre.length = i) : (pre ++ y :: ys).set ((i : Int)).toNat z = pre ++ z :: ys := by
 rw [Int.toNat_natCast, List.set_append_right _ _ (by omega), h, Nat.sub_self, List.set_cons_zero]
theorem getD_app {α : Type} (pre ys : List α) (y d : α) (i : Nat) (h : pre.length = i) : (pre ++ y :: ys).getD ((i : Int)).toNat d = y := by
 rw [Int.toNat_natCast, List.getD_eq_getElem?_getD, List.getElem?_append_right (by omega), h, Nat.sub_self]
 rfl
theorem len_app {α : Type} (pre ys : List α) (y : α) : ((pre ++ y :: ys).length : Int) = (pre.length : Int) + (ys.length : Int) + 1 := by
 simp
 omega
def upLeg (a : Int) : Nat → List S37
 | 0 => []
 | n + 1 => ⟨a, a + 1, a + 1 + 1, a + 1 + 1 + 1, a + 1 + 1 + 1 + 1⟩ :: upLeg (a + 1 + 1 + 1 + 1 + 1) n
theorem markLegS_up0 (d : Nat) : ∀ (k i : Nat) (pre suf : List S37) (a : Int), pre.length = i → suf.length = d → d < k → i + d ≤ 1152921504606846976 → 0 ≤ a → a + 5 * d ≤ 4611686018427387904 →
  laws_markLegS.l0 k (pre ++ suf) a i = some (a + 5 * d, pre ++ upLeg a d) := by
 induction d with
 | zero =>
  intro k i pre suf a hp hs hk hb h0 h1
  obtain ⟨k, rfl⟩ : ∃ m, k = m + 1 := ⟨k - 1, by omega⟩
  obtain rfl : suf = [] := List.length_eq_zero_iff.1 hs
  simp only [laws_markLegS.l0]
  rw [if_neg (by simp; omega)]
  simp [upLeg]
 | succ d ih =>
  intro k i pre suf a hp hs hk hb h0 h1
  obtain ⟨k, rfl⟩ : ∃ m, k = m + 1 := ⟨k - 1, by omega⟩
  obtain ⟨y, ys, rfl⟩ : ∃ y ys, suf = y :: ys := List.exists_cons_of_length_pos (by omega)
  have hys : ys.length = d := by simpa using hs
  have er : ∀ z, rd_T37 (pre ++ z :: ys) (i : Int) = z := fun z => getD_app pre ys z z37 i hp
  have es : ∀ y z, (pre ++ y :: ys).set ((i : Int)).toNat z = pre ++ z :: ys := fun y z => set_app pre ys y z i hp
  have c1 : (i : Int) < ((pre ++ y :: ys).length : Int) := by rw [len_app]; omega
  have c2 : (0 : Int) ≤ (i : Int) := by omega
  simp only [laws_markLegS.l0, Option.bind_some, er, es]
  rw [if_pos c1, if_pos c2]
  rw [w64 (x := a + 1) (by omega) (by omega), w64 (x := a + 1 + 1) (by omega) (by omega), w64 (x := a + 1 + 1 + 1) (by omega) (by omega), w64 (x := a + 1 + 1 + 1 + 1) (by omega) (by omega), w64 (x := a + 1 + 1 + 1 + 1 + 1) (by omega) (by omega), w64 (x := (i : Int) + 1) (by omega) (by omega)]
  have := ih k (i + 1) (pre ++ [⟨a, a + 1, a + 1 + 1, a + 1 + 1 + 1, a + 1 + 1 + 1 + 1⟩]) ys (a + 1 + 1 + 1 + 1 + 1) (by simp; omega) hys (by omega) (by omega) (by omega) (by omega)
  rw [List.append_assoc, List.append_assoc, List.singleton_append, List.singleton_append] at this
  rw [show ((i : Int) + 1) = ((i + 1 : Nat) : Int) by omega, this]
  simp only [upLeg, Option.some.injEq, Prod.mk.injEq, and_true]
  omega
theorem markLegS_up {l : List S37} (hl : l.length ≤ 70368744177664) {k : Nat} (hk : l.length < k) {a : Int} (h0 : 0 ≤ a) (h1 : a ≤ 1125899906842624) : laws_markLegS.f k l a = some (a + 5 * l.length, upLeg a l.length) := by
 unfold laws_markLegS.f
 have := markLegS_up0 l.length k 0 [] l a rfl rfl hk (by omega) h0 (by omega)
 simpa using this
def upBool (a : Int) : Nat → List Bool
 | 0 => []
 | n + 1 => (Int.tmod a 3 == 0) :: upBool (a + 1) n
theorem markBoolS_up0 (d : Nat) : ∀ (k i : Nat) (pre suf : List Bool) (a : Int), pre.length = i → suf.length = d → d < k → i + d ≤ 1152921504606846976 → 0 ≤ a → a + d ≤ 4611686018427387904 →
  laws_markBoolS.l0 k (pre ++ suf) a i = some (a + d, pre ++ upBool a d) := by
 induction d with
 | zero =>
  intro k i pre suf a hp hs hk hb h0 h1
  obtain ⟨k, rfl⟩ : ∃ m, k = m + 1 := ⟨k - 1, by omega⟩
  obtain rfl : suf = [] := List.length_eq_zero_iff.1 hs
  simp only [laws_markBoolS.l0]
  rw [if_neg (by simp; omega)]
  simp [upBool]
 | succ d ih =>
  intro k i pre suf a hp hs hk hb h0 h1
  obtain ⟨k, rfl⟩ : ∃ m, k = m + 1 := ⟨k - 1, by omega⟩
  obtain ⟨y, ys, rfl⟩ : ∃ y ys, suf = y :: ys := List.exists_cons_of_length_pos (by omega)
  have hys : ys.length = d := by simpa using hs
  have es : ∀ y z, (pre ++ y :: ys).set ((i : Int)).toNat z = pre ++ z :: ys := fun y z => set_app pre ys y z i hp
  have c1 : (i : Int) < ((pre ++ y :: ys).length : Int) := by rw [len_app]; omega
  have c2 : (0 : Int) ≤ (i : Int) := by omega
  simp only [laws_markBoolS.l0, es]
  rw [if_pos c1, if_pos c2]
  rw [w64 (x := a + 1) (by omega) (by omega), w64 (x := (i : Int) + 1) (by omega) (by omega)]
  have := ih k (i + 1) (pre ++ [Int.tmod a 3 == 0]) ys (a + 1) (by simp; omega) hys (by omega) (by omega) (by omega) (by omega)
  rw [List.append_assoc, List.append_assoc, List.singleton_append, List.singleton_append] at this
  rw [show ((i : Int) + 1) = ((i + 1 : Nat) : Int) by omega, this]
  simp only [upBool, Option.some.injEq, Prod.mk.injEq, and_true]
  omega
theorem markBoolS_up {l : List Bool} (hl : l.length ≤ 140737488355328) {k : Nat} (hk : l.length < k) {a : Int} (h0 : 0 ≤ a) (h1 : a ≤ 1125899906842624) : laws_markBoolS.f k l a = some (a + l.length, upBool a l.length) := by
 unfold laws_markBoolS.f
 have := markBoolS_up0 l.length k 0 [] l a rfl rfl hk (by omega) h0 (by omega)
 simpa using this
theorem markExploration_eq {l : List S37} {v d : List Bool} (p t : Int) (hl : l.length ≤ 70368744177) (hv : v.length ≤ 70368744177) (hd : d.length ≤ 70368744177) {k : Nat} (hk : l.length < k) (hk1 : v.length < k) (hk2 : d.length < k) :
  laws_markExploration.f k l v d p t 1 = some ((1 : Int) + 5 * (l.length : Int) + (v.length : Int) + (d.length : Int), upLeg 1 l.length, upBool ((1 : Int) + 5 * (l.length : Int)) v.length, upBool ((1 : Int) + 5 * (l.length : Int) + (v.length : Int)) d.length) := by
 unfold laws_markExploration.f
 rw [markLegS_up (by omega) hk (by omega) (by omega)]
 simp only [Option.bind_some]
 rw [markBoolS_up (by omega) hk1 (by omega) (by omega)]
 simp only [Option.bind_some]
 rw [markBoolS_up (by omega) hk2 (by omega) (by omega)]
 rfl
theorem own_eq (l : List S37) (v d : List Bool) (p t : Int) (hl : l.length ≤ 1000000) (hv : v.length ≤ 1000000) (hd : d.length ≤ 1000000) : spec_l25Own.f l v d p t = some (l, v, d, p, t) := by
 unfold spec_l25Own.f
 simp only [Option.bind_some, List.nil_append, List.length_nil, Nat.zero_add]
 rw [if_pos (by omega), if_pos (by omega), if_pos (by omega)]
theorem clone_eq (l : List S37) (v d : List Bool) (p t : Int) (hl : l.length ≤ 1000000) (hv : v.length ≤ 1000000) (hd : d.length ≤ 1000000) : impl_Exploration_clone.f l v d p t = some (l, v, d, p, t) := by
 unfold impl_Exploration_clone.f impl_Leg_87.f slices_Clone_bool_bool.f
 rw [if_pos (by omega), if_pos (by omega), if_pos (by omega)]
 rfl
theorem go_moves {l : List S37} {v d : List Bool} {p t a b tp c s m : Int} (h : a = p ∨ b = p) (h0 : 0 ≤ wrap64 (wrap64 (a + b) - p)) (h1 : wrap64 (wrap64 (a + b) - p) < (v.length : Int)) :
  spec_l25Go.f l v d p t a b tp c s m = some (l, v.set (wrap64 (wrap64 (a + b) - p)).toNat true, d, wrap64 (wrap64 (a + b) - p), wrap64 (t - m), true) := by
 unfold spec_l25Go.f
 by_cases q : a = p
 ·
  rw [if_pos q, if_pos h0, if_pos h1]
 ·
  rw [if_neg q, if_pos (h.resolve_left q), if_pos h0, if_pos h1]
theorem go_not {l : List S37} {v d : List Bool} {p t a b tp c s m : Int} (ha : a ≠ p) (hb : b ≠ p) : spec_l25Go.f l v d p t a b tp c s m = some (l, v, d, p, t, false) := by
 unfold spec_l25Go.f
 rw [if_neg ha, if_neg hb]
def Steps (K : Nat) (l : List S37) (v d : List Bool) (p t k i a b tp c s : Int) : Prop :=
 ∃ L V D P T q, spec_l25Make.f K l v d p t k i a b tp c s = some (L, V, D, P, T, q) ∧ impl_walkOn.f K l v d p t k i a b tp c s = some (if q = true then (L, V, D, P, T, true) else ([], [], [], 0, 0, false)) ∧ L.length ≤ 13 ∧ V.length = 8 ∧ D.length = 8 ∧ (q = true → ExplOk L V D P T)
theorem zero_leg (k i : Int) (h2 : k ≠ 2) (h3 : k = 3 → i = 0) : ¬ ((k ≠ 2 ∧ ¬ ((0 : Int) = 0 ∧ (0 : Int) = 0 ∧ (0 : Int) = 0 ∧ (0 : Int) = 0 ∧ (0 : Int) = 0)) ∨ ((k = 2 ∨ k = 3) ∧ i ≠ 0)) := by
 rintro (⟨_, z⟩ | ⟨z | z, zi⟩)
 ·
  exact z ⟨rfl, rfl, rfl, rfl, rfl⟩
 ·
  exact h2 z
 ·
  exact zi (h3 z)
theorem walkOn_of {K : Nat} {l L : List S37} {v d V D : List Bool} {p t k i a b tp c s P T : Int} {q : Bool} (hl : l.length ≤ 1000000) (hv : v.length ≤ 1000000) (hd : d.length ≤ 1000000) (hw : walk_f l v d p t k i a b tp c s = some (L, V, D, P, T, true)) (hq : impl_IsExploration.f K L V D P T = some q) :
  impl_walkOn.f K l v d p t k i a b tp c s = some (if q = true then (L, V, D, P, T, true) else ([], [], [], 0, 0, false)) := by
 unfold impl_walkOn.f
 rw [clone_eq l v d p t hl hv hd]
 simp only [Option.bind_some]
 rw [hw]
 simp only [Option.bind_some, if_true]
 rw [hq]
 simp only [Option.bind_some]
 cases q <;> rfl
theorem walkOn_no {K : Nat} {l L : List S37} {v d V D : List Bool} {p t k i a b tp c s P T : Int} (hl : l.length ≤ 1000000) (hv : v.length ≤ 1000000) (hd : d.length ≤ 1000000) (hw : walk_f l v d p t k i a b tp c s = some (L, V, D, P, T, false)) :
  impl_walkOn.f K l v d p t k i a b tp c s = some ([], [], [], 0, 0, false) := by
 unfold impl_walkOn.f
 rw [clone_eq l v d p t hl hv hd]
 simp only [Option.bind_some]
 rw [hw]
 simp only [Option.bind_some, Bool.false_eq_true, if_false]
theorem make1 {l : List S37} {v d : List Bool} {p t : Int} (g : ExplOk l v d p t) {i : Int} (h0 : 0 ≤ i) (h1 : i < (l.length : Int)) {K : Nat} (hK : 450 ≤ K) : Steps K l v d p t 1 i 0 0 0 0 0 := by
 have hlen := g.len
 have hv := g.hv
 have hd := g.hd
 obtain ⟨p0, p1⟩ := g.hp
 obtain ⟨⟨a0, a1⟩, ⟨b0, b1⟩, _, ⟨c0, c1⟩, _, _⟩ := g.legs _ (rdLeg_mem h0 h1)
 have hin : 0 ≤ i ∧ i ≤ wrap64 ((l.length : Int) - 1) := ⟨h0, by unfold wrap64; omega⟩
 have hs0 : spec_l25Make.f K l v d p t 1 i 0 0 0 0 0 = (spec_l25Go.f l v d p t (rd_T37 l i).f0 (rd_T37 l i).f1 (rd_T37 l i).f2 (rd_T37 l i).f3 (rd_T37 l i).f4 (rd_T37 l i).f2).bind fun r => if r.2.2.2.2.2 = true then (spec_l25Good.f K r.1 r.2.1 r.2.2.1 r.2.2.2.1 r.2.2.2.2.1).bind fun x => some (r.1, r.2.1, r.2.2.1, r.2.2.2.1, r.2.2.2.2.1, x) else some (r.1, r.2.1, r.2.2.1, r.2.2.2.1, r.2.2.2.2.1, false) := by
  unfold spec_l25Make.f
  rw [own_eq l v d p t (by omega) (by omega) (by omega)]
  simp only [Option.bind_some]
  rw [if_pos trivial, if_pos h0, if_pos h1]
 have hw0 : walk_f l v d p t 1 i 0 0 0 0 0 = if (rd_T37 l i).f0 ≠ p ∧ (rd_T37 l i).f1 ≠ p then some (l, v, d, p, t, false) else if 0 ≤ wrap64 (wrap64 ((rd_T37 l i).f0 + (rd_T37 l i).f1) - p) ∧ wrap64 (wrap64 ((rd_T37 l i).f0 + (rd_T37 l i).f1) - p) < (v.length : Int) then some (l, v.set (wrap64 (wrap64 ((rd_T37 l i).f0 + (rd_T37 l i).f1) - p)).toNat true, d, wrap64 (wrap64 ((rd_T37 l i).f0 + (rd_T37 l i).f1) - p), wrap64 (t - wrap64 (1 * (rd_T37 l i).f2)), true) else none := by
  unfold walk_f
  rw [if_neg (zero_leg 1 i (by decide) (fun z => absurd z (by decide))), if_pos rfl, if_pos hin]
 generalize rd_T37 l i = y at *
 by_cases hn : y.f0 ≠ p ∧ y.f1 ≠ p
 ·
  rw [if_pos hn] at hw0
  rw [go_not hn.1 hn.2] at hs0
  simp only [Option.bind_some, Bool.false_eq_true, if_false] at hs0
  exact ⟨_, _, _, _, _, false, hs0, walkOn_no (by omega) (by omega) (by omega) hw0, by omega, hv, hd, fun z => by cases z⟩
 ·
  have hor : y.f0 = p ∨ y.f1 = p := by
   by_cases z : y.f0 = p
   ·
    exact .inl z
   ·
    exact .inr (Classical.byContradiction fun z2 => hn ⟨z, z2⟩)
  have e0 : 0 ≤ wrap64 (wrap64 (y.f0 + y.f1) - p) := by unfold wrap64; omega
  have e1 : wrap64 (wrap64 (y.f0 + y.f1) - p) < (v.length : Int) := by unfold wrap64; omega
  have et : wrap64 (1 * y.f2) = y.f2 := by unfold wrap64; omega
  rw [if_neg hn, if_pos ⟨e0, e1⟩, et] at hw0
  rw [go_moves hor e0 e1] at hs0
  obtain ⟨b, g1, g2, g3⟩ := good_eq l (by omega) (v.set (wrap64 (wrap64 (y.f0 + y.f1) - p)).toNat true) d (wrap64 (wrap64 (y.f0 + y.f1) - p)) (wrap64 (t - y.f2)) (k := K) (by omega)
  simp only [Option.bind_some, if_true] at hs0
  rw [g1, Option.bind_some] at hs0
  exact ⟨_, _, _, _, _, b, hs0, walkOn_of (by omega) (by omega) (by omega) hw0 g2, by omega, by rw [List.length_set]; exact hv, hd, fun z => g3.1 z⟩
end Go.Proofs.Ythmjimboajmhmaa.Pr.Pure

namespace Go.Proofs.Ythmjimboajmhmaa.Pr.Pure
open Go.RowKit Go.Proofs.YthmjimboajmhmaaW.PrintWords Go.Proofs.YthmjimboajmhmaaW.PrintLast Go.Proofs.YthmjimboajmhmaaW.PrintMore Go.Proofs.YthmjimboajmhmaaW.Opens
set_option linter.unusedVariables false
set_option linter.unusedSimpArgs false
def upFrom (a : Int) : Nat → List Int
 | 0 => []
 | n + 1 => a :: upFrom (a + 1) n
theorem upFrom_len (n : Nat) : ∀ a, (upFrom a n).length = n := by
 induction n with
 | zero => intro a; rfl
 | succ n ih => intro a; simp [upFrom, ih]
theorem upFrom_get (n : Nat) : ∀ (a : Int) (j : Nat), j < n → (upFrom a n)[j]? = some (a + j) := by
 induction n with
 | zero => intro a j h; omega
 | succ n ih =>
  intro a j h
  cases j with
  | zero => simp [upFrom]
  | succ j =>
   simp only [upFrom, List.getElem?_cons_succ]
   rw [ih (a + 1) j (by omega)]
   congr 1
   omega
theorem markIntS_l0 (d : Nat) : ∀ (k i : Nat) (pre suf : List Int) (a : Int), pre.length = i → suf.length = d → d < k → i + d ≤ 4611686018427387904 → 0 ≤ a → a + d ≤ 4611686018427387904 →
  laws_markIntS.l0 k (pre ++ suf) a i = some (a + d, pre ++ upFrom a d) := by
 induction d with
 | zero =>
  intro k i pre suf a hp hs hk hb h0 h1
  obtain ⟨k, rfl⟩ : ∃ m, k = m + 1 := ⟨k - 1, by omega⟩
  obtain rfl : suf = [] := List.length_eq_zero_iff.1 hs
  simp only [laws_markIntS.l0]
  rw [if_neg (by simp; omega)]
  simp [upFrom]
 | succ d ih =>
  intro k i pre suf a hp hs hk hb h0 h1
  obtain ⟨k, rfl⟩ : ∃ m, k = m + 1 := ⟨k - 1, by omega⟩
  obtain ⟨y, ys, rfl⟩ : ∃ y ys, suf = y :: ys := List.exists_cons_of_length_pos (by omega)
  simp only [laws_markIntS.l0]
  rw [if_pos (by simp; omega), if_pos (by omega), w64 (x := a + 1) (by omega) (by omega), w64 (x := (i : Int) + 1) (by omega) (by omega), Int.toNat_natCast]
  have e : (pre ++ y :: ys).set i a = (pre ++ [a]) ++ ys := by
   rw [List.set_append_right _ _ (by omega), hp, Nat.sub_self, List.set_cons_zero]
   simp
  rw [e]
  have := ih k (i + 1) (pre ++ [a]) ys (a + 1) (by simp; omega) (by simpa using hs) (by omega) (by omega) (by omega) (by omega)
  rw [show ((i : Int) + 1) = ((i + 1 : Nat) : Int) by omega, this]
  simp only [upFrom, List.append_assoc, List.singleton_append]
  congr 2
  omega
theorem markIntS_eq {l : List Int} (hl : l.length ≤ 70368744177664) {k : Nat} (hk : l.length < k) {a : Int} (h0 : 0 ≤ a) (h1 : a ≤ 1125899906842624) : laws_markIntS.f k l a = some (a + l.length, upFrom a l.length) := by
 unfold laws_markIntS.f
 have := markIntS_l0 l.length k 0 [] l a rfl rfl hk (by omega) h0 (by omega)
 simpa using this
theorem heldIntS_l0 (n : Nat) (b : Int) (d : Nat) : ∀ (k i : Nat), i + d = n → d < k → n ≤ 4611686018427387904 → 0 ≤ b → b + n ≤ 4611686018427387904 →
  laws_heldIntS.l0 k (upFrom b n) (b + i) i = some (b + n) := by
 induction d with
 | zero =>
  intro k i hd hk hn h0 h1
  obtain ⟨k, rfl⟩ : ∃ m, k = m + 1 := ⟨k - 1, by omega⟩
  simp only [laws_heldIntS.l0]
  rw [if_neg (by rw [upFrom_len]; omega)]
  congr 2
  omega
 | succ d ih =>
  intro k i hd hk hn h0 h1
  obtain ⟨k, rfl⟩ : ∃ m, k = m + 1 := ⟨k - 1, by omega⟩
  have e : rd (upFrom b n) (i : Int) = b + i := by
   simp only [rd, Int.toNat_natCast, List.getD_eq_getElem?_getD]
   rw [upFrom_get n b i (by omega)]
   rfl
  simp only [laws_heldIntS.l0]
  rw [if_pos (by rw [upFrom_len]; omega), if_pos (by omega), if_pos e, w64 (x := b + i + 1) (by omega) (by omega), w64 (x := (i : Int) + 1) (by omega) (by omega)]
  have := ih k (i + 1) (by omega) (by omega) hn h0 h1
  rw [show b + (i : Int) + 1 = b + ((i + 1 : Nat) : Int) by omega, show ((i : Int) + 1) = ((i + 1 : Nat) : Int) by omega]
  exact this
theorem heldIntS_eq {n : Nat} (hn : n ≤ 70368744177664) {k : Nat} (hk : n < k) {a : Int} (h0 : 0 ≤ a) (h1 : a ≤ 1125899906842624) : laws_heldIntS.f k (upFrom a n) a = some (a + n) := by
 unfold laws_heldIntS.f
 have := heldIntS_l0 n a n k 0 (by omega) hk (by omega) h0 (by omega)
 simpa using this
theorem eqIntS_self (l : List Int) (hl : l.length ≤ 4611686018427387904) (d : Nat) : ∀ (k : Nat) (i : Int), 0 ≤ i → i + d = l.length → d < k → laws_eqIntS.l0 k l l i = some true := by
 induction d with
 | zero =>
  intro k i h0 hd hk
  obtain ⟨k, rfl⟩ : ∃ m, k = m + 1 := ⟨k - 1, by omega⟩
  simp only [laws_eqIntS.l0]
  rw [if_neg (by omega)]
 | succ d ih =>
  intro k i h0 hd hk
  obtain ⟨k, rfl⟩ : ∃ m, k = m + 1 := ⟨k - 1, by omega⟩
  simp only [laws_eqIntS.l0, if_true]
  rw [if_pos (by omega), if_pos (by omega), if_pos (by omega), w64 (by omega) (by omega)]
  exact ih k (i + 1) (by omega) (by omega) (by omega)
theorem eqIntS_eq {l : List Int} (hl : l.length ≤ 4611686018427387904) {k : Nat} (hk : l.length < k) : laws_eqIntS.f k l l = some true := by
 unfold laws_eqIntS.f
 rw [if_pos rfl]
 exact eqIntS_self l hl l.length k 0 (by omega) (by omega) hk
theorem next_loop {l : List S37} {v d : List Bool} {p t : Int} (g : ExplOk l v d p t) (n : Nat) : ∀ (k i : Nat) (acc : List Int), i + n = l.length → n + 460 < k → acc.length ≤ i →
  ∃ r, spec_NextLegs.l0 k acc (i : Int) l v d p t = some (r, true) ∧ impl_NextLegs.l0 k acc (l.length : Int) (i : Int) l v d p t = some (r, true) ∧ r.length ≤ l.length := by
 have hlen := g.len
 induction n with
 | zero =>
  intro k i acc hi hk ha
  obtain ⟨k, rfl⟩ : ∃ m, k = m + 1 := ⟨k - 1, by omega⟩
  simp only [spec_NextLegs.l0, impl_NextLegs.l0]
  rw [if_neg (by omega), if_neg (by omega)]
  exact ⟨_, rfl, rfl, by omega⟩
 | succ n ih =>
  intro k i acc hi hk ha
  obtain ⟨k, rfl⟩ : ∃ m, k = m + 1 := ⟨k - 1, by omega⟩
  obtain ⟨L, V, D, P, T, q, h1, h2, _, _, _, _⟩ := make1 g (i := (i : Int)) (by omega) (by omega) (K := k) (by omega)
  have hw : wrap64 ((i : Int) + 1) = ((i + 1 : Nat) : Int) := by unfold wrap64; omega
  simp only [spec_NextLegs.l0, impl_NextLegs.l0]
  have hlt : (i : Int) < (l.length : Int) := by omega
  have hac : acc.length < 17592186044416 := by omega
  simp only [if_pos hlt, h1, h2, Option.bind_some, hw]
  cases q with
  | false =>
   simp only [Bool.false_eq_true, if_false]
   exact ih k (i + 1) acc (by omega) (by omega) (by omega)
  | true =>
   simp only [if_true, if_pos hac]
   exact ih k (i + 1) (acc ++ [(i : Int)]) (by omega) (by omega) (by rw [List.length_append]; simp only [List.length_cons, List.length_nil]; omega)
theorem next_both (l : List S37) (hl : l.length ≤ 4611686018427387904) (v d : List Bool) (p t : Int) {k : Nat} (hk : l.length + 480 ≤ k) :
  ∃ r b, spec_NextLegs.f k l v d p t = some (r, b) ∧ impl_NextLegs.f k l v d p t = some (r, b) ∧ r.length ≤ 12 := by
 obtain ⟨b, e1, e2, hb⟩ := good_eq l hl v d p t (k := k) (by omega)
 unfold spec_NextLegs.f impl_NextLegs.f
 simp only [Option.bind_some]
 rw [e1, e2]
 simp only [Option.bind_some]
 cases b with
 | false =>
  simp only [Bool.false_eq_true, if_false]
  exact ⟨_, _, rfl, rfl, by simp⟩
 | true =>
  simp only [if_true]
  have ok := hb.1 rfl
  obtain ⟨r, h1, h2, h3⟩ := next_loop ok l.length k 0 [] (by omega) (by omega) (by simp)
  have := ok.len
  exact ⟨r, true, h1, h2, by omega⟩
theorem FnExactNextLegs : FnExactNextLegs.Pure := by
 intro x h
 obtain ⟨⟨_, hb0, hw0⟩, ⟨_, hb1, hw1⟩, ⟨_, hb2, hw2⟩, i3, i4⟩ := h
 have hm : (x.f0.map cvLeg).length = x.f0.length := List.length_map _
 obtain ⟨J, hJ⟩ : ∃ K, K = x.f0.length + x.f1.length + x.f2.length + 600 := ⟨_, rfl⟩
 obtain ⟨r, b, e1', e2', hr⟩ := next_both (x.f0.map cvLeg) (by omega) x.f1 x.f2 x.f3 x.f4 (k := J) (by omega)
 have E1 : ∀ k, J ≤ k → spec_NextLegs.f k (x.f0.map cvLeg) x.f1 x.f2 x.f3 x.f4 = some (r, b) := fun k hk => at_rounds (fun k => spec_NextLegs.mono _ _ _ _ _ k) hk e1'
 have E2 : ∀ k, J ≤ k → impl_NextLegs.f k (x.f0.map cvLeg) x.f1 x.f2 x.f3 x.f4 = some (r, b) := fun k hk => at_rounds (fun k => impl_NextLegs.mono _ _ _ _ _ k) hk e2'
 have t : ∀ k, J ≤ k → laws_toExploration.f k x.f0 x.f1 x.f2 x.f3 x.f4 = some (x.f0.map cvLeg, x.f1, x.f2, x.f3, x.f4) := fun k hk => toExploration_eq (l := x.f0) (v := x.f1) (d := x.f2) (a := x.f3) (b := x.f4) hb0 (by omega) (by omega) (k := k) (by omega) (by omega) (by omega)
 have q : ∀ k, J ≤ k → laws_eqExploration.f k (x.f0.map cvLeg) x.f1 x.f2 x.f3 x.f4 (x.f0.map cvLeg) x.f1 x.f2 x.f3 x.f4 = some true := fun k hk => eqExploration_eq (l := x.f0.map cvLeg) (v := x.f1) (d := x.f2) (a := x.f3) (b := x.f4) (by omega) (by omega) (by omega) (k := k) (by omega) (by omega) (by omega)
 have qi : ∀ k, J ≤ k → laws_eqIntS.f k r r = some true := fun k hk => eqIntS_eq (by omega) (by omega)
 have mi : ∀ k, J ≤ k → laws_markIntS.f k r 1 = some (1 + (r.length : Int), upFrom 1 r.length) := fun k hk => markIntS_eq (l := r) (by omega) (by omega) (a := 1) (by omega) (by omega)
 have hi : ∀ k, J ≤ k → laws_heldIntS.f k (upFrom 1 r.length) 1 = some (1 + (r.length : Int)) := fun k hk => heldIntS_eq (by omega) (by omega) (by omega) (by omega)
 refine ⟨J + 3, ?_⟩
 unfold laws_FnExactNextLegs.f laws_szExploration.f laws_szLegS.f laws_szBoolS.f
 by_cases s1 : wrap64 (1048576 - (x.f0.length : Int)) < 0
 ·
  rw [if_pos s1]
  simp
 ·
  rw [if_neg s1]
  simp only [Option.bind_some]
  rw [if_neg s1]
  by_cases s2 : wrap64 (wrap64 (1048576 - (x.f0.length : Int)) - (x.f1.length : Int)) < 0
  ·
   rw [if_pos s2]
   simp
  ·
   rw [if_neg s2]
   simp only [Option.bind_some]
   rw [if_neg s2]
   by_cases s3 : wrap64 (wrap64 (wrap64 (1048576 - (x.f0.length : Int)) - (x.f1.length : Int)) - (x.f2.length : Int)) < 0
   ·
    rw [if_pos s3]
    simp
   ·
    rw [if_neg s3]
    simp only [Option.bind_some]
    rw [if_neg s3]
    have hl0 : x.f0.length ≤ 1048576 := by
     unfold wrap64 at s1
     omega
    have hl1 : x.f1.length ≤ 1048576 := by
     unfold wrap64 at s1 s2
     omega
    have hl2 : x.f2.length ≤ 1048576 := by
     unfold wrap64 at s1 s2 s3
     omega
    have mx : ∀ k, J ≤ k → laws_markExploration.f k (x.f0.map cvLeg) x.f1 x.f2 x.f3 x.f4 1 = some ((1 : Int) + 5 * ((x.f0.map cvLeg).length : Int) + (x.f1.length : Int) + (x.f2.length : Int), upLeg 1 (x.f0.map cvLeg).length, upBool ((1 : Int) + 5 * ((x.f0.map cvLeg).length : Int)) x.f1.length, upBool ((1 : Int) + 5 * ((x.f0.map cvLeg).length : Int) + (x.f1.length : Int)) x.f2.length) := fun k hk => markExploration_eq x.f3 x.f4 (by omega) (by omega) (by omega) (by omega) (by omega) (by omega)
    have hj2 : laws_FnExactNextLegs.j2 (J + 1) (upFrom 1 r.length) (1 + (r.length : Int)) false = some true := by
     simp only [laws_FnExactNextLegs.j2, Bool.false_eq_true, if_false, hi J (Nat.le_refl _), Option.bind_some]
     rw [if_neg (by omega)]
     simp
    have hj1 : laws_FnExactNextLegs.j1 (J + 2) r b r false x.f0 x.f1 x.f2 x.f3 x.f4 = some true := by
     rw [show J + 2 = (J + 1) + 1 from rfl]
     simp only [laws_FnExactNextLegs.j1, Bool.false_eq_true, if_false, mi (J + 1) (by omega), hi (J + 1) (by omega), t (J + 1) (by omega), E2 (J + 1) (by omega), qi (J + 1) (by omega), Option.bind_some, if_true, bne_self_eq_false]
     rw [if_neg (by omega)]
     exact hj2
    have hj0 : laws_FnExactNextLegs.j0 (J + 3) r b r b false x.f0 x.f1 x.f2 x.f3 x.f4 (x.f0.map cvLeg) x.f1 x.f2 x.f3 x.f4 = some true := by
     rw [show J + 3 = (J + 2) + 1 from rfl]
     simp only [laws_FnExactNextLegs.j0, Bool.false_eq_true, if_false, t (J + 2) (by omega), q (J + 2) (by omega), mx (J + 2) (by omega), qi (J + 2) (by omega), Option.bind_some, if_true, bne_self_eq_false]
     rw [if_neg (by omega)]
     exact hj1
    simp only [if_neg s3, t (J + 3) (by omega), E1 (J + 3) (by omega), E2 (J + 3) (by omega), qi (J + 3) (by omega), Option.bind_some, if_true, bne_self_eq_false]
    exact hj0
end Go.Proofs.Ythmjimboajmhmaa.Pr.Pure

