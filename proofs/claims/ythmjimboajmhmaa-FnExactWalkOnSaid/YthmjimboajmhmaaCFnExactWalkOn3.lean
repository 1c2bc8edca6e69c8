/-
What is proved: parts of the law FnExactWalkOn: what the functions that it reaches compute, and the plain law.
Conditions: those of each theorem.
-/
import Derived.Test.YthmjimboajmhmaaCFnExactWalkOn2
namespace Go.Proofs.Ythmjimboajmhmaa.Pr
open Go.RowKit Go.Proofs.YthmjimboajmhmaaW.PrintWords Go.Proofs.YthmjimboajmhmaaW.PrintLast Go.Proofs.YthmjimboajmhmaaW.PrintMore
attribute [local go_sem] max2_int min2_int max_two min_two max_three min_three max_four min_four   -- for this text's walks alone
set_option linter.unusedVariables false
set_option linter.unusedSimpArgs false
def spec_l25Go.f (l0_0 : List (S37)) (l0_1 : List Bool) (l0_2 : List Bool) (a0_3 : Int) (a0_4 : Int) (a1_0 : Int) (a1_1 : Int) (a1_2 : Int) (a1_3 : Int) (a1_4 : Int) (a2 : Int) : Option ((List (S37)) × List Bool × List Bool × Int × Int × Bool) := if a1_0 = a0_3 then (if 0 ≤ (wrap64 ((wrap64 (a1_0 + a1_1)) - a0_3)) then (if (wrap64 ((wrap64 (a1_0 + a1_1)) - a0_3)) < (l0_1.length : Int) then (some (l0_0, (l0_1.set ((wrap64 ((wrap64 (a1_0 + a1_1)) - a0_3)) : Int).toNat true), l0_2, wrap64 ((wrap64 (a1_0 + a1_1)) - a0_3), wrap64 (a0_4 - a2), true)) else (none)) else (none)) else (if a1_1 = a0_3 then (if 0 ≤ (wrap64 ((wrap64 (a1_0 + a1_1)) - a0_3)) then (if (wrap64 ((wrap64 (a1_0 + a1_1)) - a0_3)) < (l0_1.length : Int) then (some (l0_0, (l0_1.set ((wrap64 ((wrap64 (a1_0 + a1_1)) - a0_3)) : Int).toNat true), l0_2, wrap64 ((wrap64 (a1_0 + a1_1)) - a0_3), wrap64 (a0_4 - a2), true)) else (none)) else (none)) else (some (l0_0, l0_1, l0_2, a0_3, a0_4, false)))
set_option maxHeartbeats 8000000 in
set_option maxRecDepth 100000 in
theorem spec_l25Go.calls (P0_0_ : Nat → Prop) (u9000_ : Value) (l0_0 : List (S37)) (P0_1_ : Nat → Prop) (u9001_ : Value) (l0_1 : List Bool) (P0_2_ : Nat → Prop) (u9002_ : Value) (l0_2 : List Bool) (a0_3 : Int) (a0_4 : Int) (a1_0 : Int) (a1_1 : Int) (a1_2 : Int) (a1_3 : Int) (a1_4 : Int) (a2 : Int) (r1 : List (S37)) (r2 : List Bool) (r3 : List Bool) (r4 : Int) (r5 : Int) (r6 : Bool) (w0 w : World) (hB : Below w0.heap.size w0 w) (ho0_0 : Kd.R k37 37 w w0.heap.size P0_0_ u9000_ l0_0) (ho0_1 : Kd.R Kd.bool 4 w w0.heap.size P0_1_ u9001_ l0_1) (hp0_1_0_2 : ∀ k_, P0_1_ k_ → ¬ P0_2_ k_) (ho0_2 : Kd.R Kd.bool 4 w w0.heap.size P0_2_ u9002_ l0_2) (hp0_2_0_1 : ∀ k_, P0_2_ k_ → ¬ P0_1_ k_) (h : spec_l25Go.f l0_0 l0_1 l0_2 a0_3 a0_4 a1_0 a1_1 a1_2 a1_3 a1_4 a2 = some (r1, r2, r3, r4, r5, r6)) :
  Calls Try.prog 107 #[.agg #[u9000_, u9001_, u9002_, .int .i64 a0_3, .int .i64 a0_4], .agg #[.int .i64 a1_0, .int .i64 a1_1, .int .i64 a1_2, .int .i64 a1_3, .int .i64 a1_4], .int .i64 a2] w fun e w' => ∃ v0_ v1_ v2_ : Value, e = .returned (.tuple #[.agg #[v0_, v1_, v2_, .int .i64 r4, .int .i64 r5], .bool r6]) ∧ Kd.R k37 37 w' w0.heap.size (fun k_ => ((P0_0_ k_ ∨ P0_1_ k_ ∨ P0_2_ k_) ∨ w.heap.size ≤ k_)) v0_ r1 ∧ Kd.R Kd.bool 4 w' w0.heap.size (fun k_ => ((P0_0_ k_ ∨ P0_1_ k_ ∨ P0_2_ k_) ∨ w.heap.size ≤ k_) ∧ some k_ ≠ (v2_ : Value).ownBlock) v1_ r2 ∧ Kd.R Kd.bool 4 w' w0.heap.size (fun k_ => ((P0_0_ k_ ∨ P0_1_ k_ ∨ P0_2_ k_) ∨ w.heap.size ≤ k_) ∧ some k_ ≠ (v1_ : Value).ownBlock) v2_ r3 ∧ Below w0.heap.size w0 w' ∧ Kept w w' (fun k_ => P0_0_ k_ ∨ P0_1_ k_ ∨ P0_2_ k_) := by
 have hu30 := Try.underlying30
 have hu37 := Try.underlying37
 have HO0_0 := Aside0.mk (show Kd.R k37 37 w w0.heap.size (fun k_ => ((P0_0_ k_ ∨ P0_1_ k_ ∨ P0_2_ k_) ∨ w.heap.size ≤ k_)) u9000_ l0_0 from Kd.R_mono ho0_0 (fun k_ hk => (.inl (.inl hk))))
 have HO0_1 := Aside0.mk (show Kd.R Kd.bool 4 w w0.heap.size (fun k_ => ((P0_0_ k_ ∨ P0_1_ k_ ∨ P0_2_ k_) ∨ w.heap.size ≤ k_) ∧ some k_ ≠ (u9002_ : Value).ownBlock) u9001_ l0_1 from Kd.R_mono ho0_1 (fun k_ hk => ⟨(.inl (.inr (.inl hk))), fun e_ => hp0_1_0_2 k_ hk (ho0_2.1 k_ e_.symm)⟩))
 have HO0_2 := Aside0.mk (show Kd.R Kd.bool 4 w w0.heap.size (fun k_ => ((P0_0_ k_ ∨ P0_1_ k_ ∨ P0_2_ k_) ∨ w.heap.size ≤ k_) ∧ some k_ ≠ (u9001_ : Value).ownBlock) u9002_ l0_2 from Kd.R_mono ho0_2 (fun k_ hk => ⟨(.inl (.inr (.inr hk))), fun e_ => hp0_2_0_1 k_ hk (ho0_1.1 k_ e_.symm)⟩))
 have HK := Aside0.mk (Kept.refl w (fun k_ => P0_0_ k_ ∨ P0_1_ k_ ∨ P0_2_ k_))
 have HW0 := Aside0.mk hB.size
 have HB := Aside0.mk hB
 clear hB
 have H : (if a1_0 = a0_3 then (if 0 ≤ (wrap64 ((wrap64 (a1_0 + a1_1)) - a0_3)) then (if (wrap64 ((wrap64 (a1_0 + a1_1)) - a0_3)) < (l0_1.length : Int) then (some (l0_0, (l0_1.set ((wrap64 ((wrap64 (a1_0 + a1_1)) - a0_3)) : Int).toNat true), l0_2, wrap64 ((wrap64 (a1_0 + a1_1)) - a0_3), wrap64 (a0_4 - a2), true)) else (none)) else (none)) else (if a1_1 = a0_3 then (if 0 ≤ (wrap64 ((wrap64 (a1_0 + a1_1)) - a0_3)) then (if (wrap64 ((wrap64 (a1_0 + a1_1)) - a0_3)) < (l0_1.length : Int) then (some (l0_0, (l0_1.set ((wrap64 ((wrap64 (a1_0 + a1_1)) - a0_3)) : Int).toNat true), l0_2, wrap64 ((wrap64 (a1_0 + a1_1)) - a0_3), wrap64 (a0_4 - a2), true)) else (none)) else (none)) else (some (l0_0, l0_1, l0_2, a0_3, a0_4, false)))) = some (r1, r2, r3, r4, r5, r6) := h
 clear h
 by_cases c4 : a1_0 = a0_3
 ·
  rw [if_pos c4] at H
  have c4b0 : (a1_0 == a0_3) = true := beq_iff_eq.mpr c4
  have c4b1 : (a1_0 != a0_3) = false := bne_eq_false_iff_eq.mpr c4
  clear c4
  obtain ⟨ji5, hji5⟩ : ∃ j_ : Int, (wrap64 ((wrap64 (a1_0 + a1_1)) - a0_3)) = j_ := ⟨_, rfl⟩
  replace H : (if 0 ≤ (ji5) then (if (ji5) < (l0_1.length : Int) then (some (l0_0, (l0_1.set ((ji5) : Int).toNat true), l0_2, ji5, wrap64 (a0_4 - a2), true)) else (none)) else (none)) = some (r1, r2, r3, r4, r5, r6) := by first | (rw [hji5] at H; exact H) | (simp only [hji5] at H ⊢; exact H)
  have hji5w : (IntKind.i64.wrap ((wrap64 (a1_0 + a1_1)) - a0_3)) = ji5 := (i64_w _).trans hji5
  by_cases c6 : 0 ≤ (ji5)
  ·
   rw [if_pos c6] at H
   have c6b0 : decide (0 ≤ (ji5)) = true := decide_eq_true c6
   clear c6
   by_cases c7 : (ji5) < (l0_1.length : Int)
   ·
    rw [if_pos c7] at H
    have c7b0 : decide ((ji5) < (l0_1.length : Int)) = true := decide_eq_true c7
    clear c7
    obtain ⟨y287, hy287⟩ : ∃ y_ : List Bool, y_ = (l0_1.set ((ji5) : Int).toNat true) := ⟨_, rfl⟩
    replace H : (some (l0_0, y287, l0_2, ji5, wrap64 (a0_4 - a2), true)) = some (r1, r2, r3, r4, r5, r6) := by first | (rw [hy287]; with_reducible exact H) | (have H2_ := (Option.bind_some _ _).symm.trans H; rw [hy287]; with_reducible exact H2_) | (have H2_ := (Option.bind_some _ _).symm.trans H; with_reducible exact H2_) | with_reducible exact H | (rw [hy287]; exact H) | exact H
    have Ny287 := Aside0.mk hy287
    clear hy287
    simp only [Option.some.injEq, Prod.mk.injEq] at H
    obtain ⟨rfl, rfl, rfl, rfl, rfl, rfl⟩ := H
    obtain ⟨Ao9, co9, eo9⟩ := Kd.R_slice HO0_0.out
    subst eo9
    obtain ⟨Ao10, co10, eo10⟩ := Kd.R_slice HO0_1.out
    subst eo10
    obtain ⟨Ao11, co11, eo11⟩ := Kd.R_slice HO0_2.out
    subst eo11
    go_enter Try.func107, Try.ntmps107
    go_wp2_with (first | ((with_reducible refine gate_dst (N := 3) rfl ?_); refine box_event ?hg (N := 3) ?hd (cs := #[.slice Ao9 l0_0.length co9, .slice Ao10 l0_1.length co10, .slice Ao11 l0_2.length co11, .int .i64 a0_3, .int .i64 a0_4]) (t := 30) ?hr ?_; (case hd => rfl); (case hg => rfl); (case hr => first | (go_simp; done) | (go_simp; rfl)); intro gb284 hg w12 hbox hb; replace HO0_0 := Aside0.mk (Kd.R_below (kr_ HO0_0.out) hb); replace HO0_1 := Aside0.mk (Kd.R_below (kr_ HO0_1.out) hb); replace HO0_2 := Aside0.mk (Kd.R_below (kr_ HO0_2.out) hb); have BK284 := Aside0.mk (hbox); have GW284 := Aside0.mk ((by rw [hg]; exact (by first | exact HK.out.1 | exact (show Kept w _ (fun k_ => P0_0_ k_ ∨ P0_1_ k_ ∨ P0_2_ k_) from kt_ HK.out).1) : w.heap.size ≤ gb284)); replace HK := Aside0.mk (Kept.below (S := (fun k_ => P0_0_ k_ ∨ P0_1_ k_ ∨ P0_2_ k_)) (kt_ HK.out) hb); have GE284 := Aside0.mk ((by rw [hg]; exact (below_size (lb0_ HB.out)) : w0.heap.size ≤ gb284)); replace HB := Aside0.mk (below_step (lb0_ HB.out) hb); clear hb hbox hg) | ((with_reducible refine gate_dst (N := 4) rfl ?_); refine box_event ?hg (N := 4) ?hd (cs := #[.int .i64 a1_0, .int .i64 a1_1, .int .i64 a1_2, .int .i64 a1_3, .int .i64 a1_4]) (t := 37) ?hr ?_; (case hd => rfl); (case hg => rfl); (case hr => first | (go_simp; done) | (go_simp; rfl)); intro gb285 hg w13 hbox hb; replace HO0_0 := Aside0.mk (Kd.R_below (Kd.R_elderB (kr_ HO0_0.out) gb285 (Nat.le_of_eq hg.symm)) hb); replace HO0_1 := Aside0.mk (Kd.R_below (kr_ HO0_1.out) hb); replace HO0_2 := Aside0.mk (Kd.R_below (kr_ HO0_2.out) hb); have BK285 := Aside0.mk (hbox); have GW285 := Aside0.mk ((by rw [hg]; exact (by first | exact HK.out.1 | exact (show Kept w _ (fun k_ => P0_0_ k_ ∨ P0_1_ k_ ∨ P0_2_ k_) from by repeat (first | (with_reducible first | exact HK.out | apply Kept.alloc | apply Kept.drewN | apply Kept.drew | refine Kept.setCell ?_ (.inr GW284.out) _) | exact HK.out)).1) : w.heap.size ≤ gb285)); replace HK := Aside0.mk (Kept.below (S := (fun k_ => P0_0_ k_ ∨ P0_1_ k_ ∨ P0_2_ k_)) (by repeat (first | (with_reducible first | exact HK.out | apply Kept.alloc | apply Kept.drewN | apply Kept.drew | refine Kept.setCell ?_ (.inr GW284.out) _) | exact HK.out)) hb); have GE285 := Aside0.mk ((by rw [hg]; exact (below_size (lb1_ HB.out GE284.out)) : w0.heap.size ≤ gb285)); replace HB := Aside0.mk (below_step (lb1_ HB.out GE284.out) hb); have NB284_285 := Aside0.mk (nl_ hg BK284.out); have NB285_284 := Aside0.mk (ng_ hg BK284.out); replace BK284 := Aside0.mk (bb_ (bk_ BK284.out) hb); clear hb hbox hg) | ((with_reducible refine gate_dst (N := 6) rfl ?_); refine box_event ?hg (N := 6) ?hd (cs := #[.slice none 0 0, .slice none 0 0, .slice none 0 0, .int .i64 0, .int .i64 0]) (t := 30) ?hr ?_; (case hd => rfl); (case hg => rfl); (case hr => first | (go_simp; done) | (go_simp; rfl)); intro gb286 hg w14 hbox hb; replace HO0_0 := Aside0.mk (Kd.R_below (kr_ HO0_0.out) hb); replace HO0_1 := Aside0.mk (Kd.R_below (kr_ HO0_1.out) hb); replace HO0_2 := Aside0.mk (Kd.R_below (kr_ HO0_2.out) hb); have BK286 := Aside0.mk (hbox); have GW286 := Aside0.mk ((by rw [hg]; exact (by first | exact HK.out.1 | exact (show Kept w _ (fun k_ => P0_0_ k_ ∨ P0_1_ k_ ∨ P0_2_ k_) from by repeat (first | (with_reducible first | exact HK.out | apply Kept.alloc | apply Kept.drewN | apply Kept.drew | refine Kept.setCell ?_ (.inr GW284.out) _ | refine Kept.setCell ?_ (.inr GW285.out) _) | exact HK.out)).1) : w.heap.size ≤ gb286)); replace HK := Aside0.mk (Kept.below (S := (fun k_ => P0_0_ k_ ∨ P0_1_ k_ ∨ P0_2_ k_)) (by repeat (first | (with_reducible first | exact HK.out | apply Kept.alloc | apply Kept.drewN | apply Kept.drew | refine Kept.setCell ?_ (.inr GW284.out) _ | refine Kept.setCell ?_ (.inr GW285.out) _) | exact HK.out)) hb); have GE286 := Aside0.mk ((by rw [hg]; exact (below_size (lb2_ HB.out GE284.out GE285.out)) : w0.heap.size ≤ gb286)); replace HB := Aside0.mk (below_step (lb2_ HB.out GE284.out GE285.out) hb); have NB284_286 := Aside0.mk (nl_ hg BK284.out); have NB286_284 := Aside0.mk (ng_ hg BK284.out); replace BK284 := Aside0.mk (bb_ (bk_ BK284.out) hb); have NB285_286 := Aside0.mk (nl_ hg BK285.out); have NB286_285 := Aside0.mk (ng_ hg BK285.out); replace BK285 := Aside0.mk (bb_ (bk_ BK285.out) hb); clear hb hbox hg; have hnb15 := NB285_284.out; have hnc15 := NB284_285.out; have hnb16 := NB285_286.out; have hnc16 := NB286_285.out; obtain ⟨hcz17_0, hcz17_1, hcz17_2, hcz17_3, hcz17_4⟩ := cz5_ BK285.out; obtain ⟨hfz17_0, hfz17_1, hfz17_2, hfz17_3, hfz17_4⟩ := fz5_ BK285.out; have hnb18 := NB284_286.out; have hnc18 := NB286_284.out; obtain ⟨hcz19_0, hcz19_1, hcz19_2, hcz19_3, hcz19_4⟩ := cz5_ BK284.out; obtain ⟨hfz19_0, hfz19_1, hfz19_2, hfz19_3, hfz19_4⟩ := fz5_ BK284.out) | ((with_reducible refine gate_store (t := 3) (p := 29) rfl ?_); refine store_event (t := 3) (p := 29) (v := ?vo_w20) (w1 := (w14.setCell ⟨gb284, 3, none⟩ (.int .i64 ji5))) ?hg ?ho ?hn ?hr ?_; (case ho => rfl); (case hg => rfl); (case hn => rfl); (case hr => first | (go_simp; done) | (go_simp; rfl)); intro w20 hw; have n0_ : Aside0 (Kd.R k37 37 w20 w0.heap.size (fun k_ => ((P0_0_ k_ ∨ P0_1_ k_ ∨ P0_2_ k_) ∨ w.heap.size ≤ k_) ∧ k_ ≠ gb285) (.slice Ao9 l0_0.length co9) l0_0) := ⟨(by rw [hw]; exact (by (with_reducible repeat (first | apply Kd.R_alloc | apply Kd.R_drewN | apply Kd.R_drew)); exact Kd.R_mono (Kd.R_far (p := ⟨gb284, 3, none⟩) (Kd.R_types HO0_0.out BK284.out (by decide)) (fun _ hk => hk.2) (.int .i64 ji5)) (fun _ hk => ⟨hk.1.1, hk.1.2⟩)))⟩; have n1_ : Aside0 (Kd.R Kd.bool 4 w20 w0.heap.size (fun k_ => ((P0_0_ k_ ∨ P0_1_ k_ ∨ P0_2_ k_) ∨ w.heap.size ≤ k_) ∧ some k_ ≠ (.slice Ao11 l0_2.length co11 : Value).ownBlock) (.slice Ao10 l0_1.length co10) l0_1) := ⟨(by rw [hw]; exact (by (with_reducible repeat (first | apply Kd.R_alloc | apply Kd.R_drewN | apply Kd.R_drew)); exact Kd.R_mono (Kd.R_far (p := ⟨gb284, 3, none⟩) (Kd.R_types HO0_1.out BK284.out (by decide)) (fun _ hk => hk.2) (.int .i64 ji5)) (fun _ hk => ⟨hk.1.1, hk.1.2⟩)))⟩; have n2_ : Aside0 (Kd.R Kd.bool 4 w20 w0.heap.size (fun k_ => ((P0_0_ k_ ∨ P0_1_ k_ ∨ P0_2_ k_) ∨ w.heap.size ≤ k_) ∧ some k_ ≠ (.slice Ao10 l0_1.length co10 : Value).ownBlock) (.slice Ao11 l0_2.length co11) l0_2) := ⟨(by rw [hw]; exact (by (with_reducible repeat (first | apply Kd.R_alloc | apply Kd.R_drewN | apply Kd.R_drew)); exact Kd.R_mono (Kd.R_far (p := ⟨gb284, 3, none⟩) (Kd.R_types HO0_2.out BK284.out (by decide)) (fun _ hk => hk.2) (.int .i64 ji5)) (fun _ hk => ⟨hk.1.1, hk.1.2⟩)))⟩; have n3_ : Aside0 (w20.heap[gb284]? = some (.cells #[.slice Ao9 l0_0.length co9, .slice Ao10 l0_1.length co10, .slice Ao11 l0_2.length co11, .int .i64 ji5, .int .i64 a0_4] 30 (0, 0))) := ⟨(by rw [hw]; exact (by (with_reducible repeat (first | refine blk_drewN ?_ _ | refine blk_drew ?_ | refine blk_alloc ?_ _)); refine blk_put (cs := #[.slice Ao9 l0_0.length co9, .slice Ao10 l0_1.length co10, .slice Ao11 l0_2.length co11, .int .i64 a0_3, .int .i64 a0_4]) ?_ 3 _ rfl; (with_reducible repeat (first | refine blk_drewN ?_ _ | refine blk_drew ?_ | refine blk_alloc ?_ _)); exact BK284.out))⟩; have n4_ : Aside0 (w20.heap[gb285]? = some (.cells #[.int .i64 a1_0, .int .i64 a1_1, .int .i64 a1_2, .int .i64 a1_3, .int .i64 a1_4] 37 (0, 0))) := ⟨(by rw [hw]; exact (by exact (blk_far BK285.out NB285_284.out _)))⟩; have n5_ : Aside0 (w20.heap[gb286]? = some (.cells #[.slice none 0 0, .slice none 0 0, .slice none 0 0, .int .i64 0, .int .i64 0] 30 (0, 0))) := ⟨(by rw [hw]; exact (by exact (blk_far BK286.out NB286_284.out _)))⟩; have n6_ : Aside0 (Kept w w20 (fun k_ => P0_0_ k_ ∨ P0_1_ k_ ∨ P0_2_ k_)) := ⟨(by rw [hw]; exact (by repeat (first | (with_reducible first | exact HK.out | apply Kept.alloc | apply Kept.drewN | apply Kept.drew | refine Kept.setCell ?_ (.inr GW284.out) _ | refine Kept.setCell ?_ (.inr GW285.out) _ | refine Kept.setCell ?_ (.inr GW286.out) _) | exact HK.out)))⟩; have n7_ : Aside0 (Below w0.heap.size w0 w20) := ⟨(by rw [hw]; exact (lb3_ HB.out GE284.out GE285.out GE286.out))⟩; clear hw; clear HO0_0; clear HO0_1; clear HO0_2; clear BK284; clear BK285; clear BK286; clear HK; clear HB; have HO0_0 := n0_; have HO0_1 := n1_; have HO0_2 := n2_; have BK284 := n3_; have BK285 := n4_; have BK286 := n5_; have HK := n6_; have HB := n7_; clear n0_ n1_ n2_ n3_ n4_ n5_ n6_ n7_; obtain ⟨hcz21_0, hcz21_1, hcz21_2, hcz21_3, hcz21_4⟩ := cz5_ BK284.out; obtain ⟨hfz21_0, hfz21_1, hfz21_2, hfz21_3, hfz21_4⟩ := fz5_ BK284.out; have p8 : 0 ≤ ((ji5) : Int) := dt_; have q8 : ((ji5) : Int) < ((l0_1.length : Int) : Int) := dt_; obtain ⟨go8, co8, eo8, gb8, gl8, cl8, HG8⟩ := Kd.R_form HO0_1.out (by omega); (first | cases eo8 | (injection eo8 with ea_ en_ ec_; (first | subst ea_ | (injection ea_ with ea_; subst ea_)); subst ec_; clear en_)); have GB8 := Aside0.mk gb8; have GG8 := Aside0.mk HG8; clear gb8 gl8 HG8; have HMgo8 := Aside0.mk (show ((P0_0_ go8 ∨ P0_1_ go8 ∨ P0_2_ go8) ∨ w.heap.size ≤ go8) from (HO0_1.out.1 _ rfl).1); obtain ⟨hx8_0, hf8_0⟩ := Kd.R_celln false HO0_1.out ((ji5) : Int) p8 q8; replace p8 := eq_true p8; replace q8 := eq_true q8; obtain ⟨hy22_, hz22_⟩ := Kd.R_celln false HO0_1.out ((ji5) : Int) (dt_) (dt_); have HP22 := Kd.R_putg HO0_1.out ((ji5) : Int) true) | ((with_reducible refine gate_store (t := 4) (p := 34) rfl ?_); refine store_event (t := 4) (p := 34) (v := ?vo_w23) (w1 := (w20.setCell ⟨go8, ((ji5) : Int).toNat, none⟩ (.bool true))) ?hg ?ho ?hn ?hr ?_; (case ho => rfl); (case hg => rfl); (case hn => rfl); (case hr => first | (go_simp; done) | (go_simp; rfl)); intro w23 hw; have hg : w20.grownBy w23 (some go8) := (by rw [hw]; exact HP22.2); have hp_ : Kd.R Kd.bool 4 w23 w0.heap.size (fun k_ => ((P0_0_ k_ ∨ P0_1_ k_ ∨ P0_2_ k_) ∨ w.heap.size ≤ k_) ∧ some k_ ≠ (.slice Ao11 l0_2.length co11 : Value).ownBlock) (.slice (some ⟨go8, 0, none⟩) l0_1.length co10) y287 := (by rw [hw, Ny287.out]; exact HP22.1); clear HP22; replace HO0_0 := Aside0.mk (Kd.R_over' (v := (.slice (some ⟨go8, 0, none⟩) l0_1.length co10)) (kr_ HO0_0.out) (Kd.R_typed HO0_1.out) (by decide) hg); replace HO0_2 := Aside0.mk (Kd.R_after (v := (.slice (some ⟨go8, 0, none⟩) l0_1.length co10)) (v1 := (.slice (some ⟨go8, 0, none⟩) l0_1.length co10)) (ok := (fun k_ => ((P0_0_ k_ ∨ P0_1_ k_ ∨ P0_2_ k_) ∨ w.heap.size ≤ k_))) (kr_ HO0_2.out) hg (.inl rfl)); replace BK284 := Aside0.mk (blk_grown (g := gb284) (o := .cells #[.slice Ao9 l0_0.length co9, .slice (some ⟨go8, 0, none⟩) l0_1.length co10, .slice Ao11 l0_2.length co11, .int .i64 ji5, .int .i64 a0_4] 30 (0, 0)) (bk_ BK284.out) hg (Kd.R_ne HO0_1.out BK284.out (by decide))); replace BK285 := Aside0.mk (blk_grown (g := gb285) (o := .cells #[.int .i64 a1_0, .int .i64 a1_1, .int .i64 a1_2, .int .i64 a1_3, .int .i64 a1_4] 37 (0, 0)) (bk_ BK285.out) hg (Kd.R_ne HO0_1.out BK285.out (by decide))); replace BK286 := Aside0.mk (blk_grown (g := gb286) (o := .cells #[.slice none 0 0, .slice none 0 0, .slice none 0 0, .int .i64 0, .int .i64 0] 30 (0, 0)) (bk_ BK286.out) hg (Kd.R_ne HO0_1.out BK286.out (by decide))); replace HB := Aside0.mk ((by rw [hw]; exact below_set (HB.out) GB8.out : Below w0.heap.size w0 w23)); replace HK := Aside0.mk (Kept.of_grown (S := (fun k_ => P0_0_ k_ ∨ P0_1_ k_ ∨ P0_2_ k_)) hg (by repeat (first | (with_reducible first | exact HK.out | apply Kept.alloc | apply Kept.drewN | apply Kept.drew | refine Kept.setCell ?_ (.inr GW284.out) _ | refine Kept.setCell ?_ (.inr GW285.out) _ | refine Kept.setCell ?_ (.inr GW286.out) _) | exact HK.out)) (fun k_ e_ => (HO0_1.out.1 k_ e_).1)); replace HO0_1 := Aside0.mk (hp_); clear hg hw hp_; obtain ⟨hcz24_0, hcz24_1, hcz24_2, hcz24_3, hcz24_4⟩ := cz5_ BK284.out; obtain ⟨hfz24_0, hfz24_1, hfz24_2, hfz24_3, hfz24_4⟩ := fz5_ BK284.out; obtain ⟨hcz25_0, hcz25_1, hcz25_2, hcz25_3, hcz25_4⟩ := cz5_ BK286.out; obtain ⟨hfz25_0, hfz25_1, hfz25_2, hfz25_3, hfz25_4⟩ := fz5_ BK286.out))
    refine bodyPost_ret (results_ct rfl _ _ gb286 30 #[.slice Ao9 l0_0.length co9, .slice (some ⟨go8, 0, none⟩) l0_1.length co10, .slice Ao11 l0_2.length co11, .int .i64 ji5, .int .i64 (wrap64 (a0_4 - a2))] (0, 0) _ rfl (by (with_reducible repeat (first | refine blk_drewN ?_ _ | refine blk_drew ?_ | refine blk_alloc ?_ _)); refine blk_put (cs := #[.slice Ao9 l0_0.length co9, .slice (some ⟨go8, 0, none⟩) l0_1.length co10, .slice Ao11 l0_2.length co11, .int .i64 ji5, .int .i64 0]) ?_ 4 _ rfl; (with_reducible repeat (first | refine blk_drewN ?_ _ | refine blk_drew ?_ | refine blk_alloc ?_ _)); refine blk_put (cs := #[.slice Ao9 l0_0.length co9, .slice (some ⟨go8, 0, none⟩) l0_1.length co10, .slice Ao11 l0_2.length co11, .int .i64 0, .int .i64 0]) ?_ 3 _ rfl; (with_reducible repeat (first | refine blk_drewN ?_ _ | refine blk_drew ?_ | refine blk_alloc ?_ _)); refine blk_put (cs := #[.slice Ao9 l0_0.length co9, .slice (some ⟨go8, 0, none⟩) l0_1.length co10, .slice none 0 0, .int .i64 0, .int .i64 0]) ?_ 2 _ rfl; (with_reducible repeat (first | refine blk_drewN ?_ _ | refine blk_drew ?_ | refine blk_alloc ?_ _)); refine blk_put (cs := #[.slice Ao9 l0_0.length co9, .slice none 0 0, .slice none 0 0, .int .i64 0, .int .i64 0]) ?_ 1 _ rfl; (with_reducible repeat (first | refine blk_drewN ?_ _ | refine blk_drew ?_ | refine blk_alloc ?_ _)); refine blk_put (cs := #[.slice none 0 0, .slice none 0 0, .slice none 0 0, .int .i64 0, .int .i64 0]) ?_ 0 _ rfl; (with_reducible repeat (first | refine blk_drewN ?_ _ | refine blk_drew ?_ | refine blk_alloc ?_ _)); refine blk_far ?_ NB286_284.out _; (with_reducible repeat (first | refine blk_drewN ?_ _ | refine blk_drew ?_ | refine blk_alloc ?_ _)); exact BK286.out) Try.underlying30 rfl (by kernel_rfl)) rfl ?_
    exact ⟨_, _, _, by first | rfl | (simp [errW_none, errW_some] <;> rfl) | (simp only [← hji5]; first | rfl | (simp [errW_none, errW_some] <;> rfl)) | (simp [*, errW_none, errW_some] <;> rfl), by (with_reducible repeat (first | apply Kd.R_alloc | apply Kd.R_drewN | apply Kd.R_drew)); exact Kd.R_mono (Kd.R_far (p := ⟨gb286, 4, none⟩) (Kd.R_far (p := ⟨gb286, 3, none⟩) (Kd.R_far (p := ⟨gb286, 2, none⟩) (Kd.R_far (p := ⟨gb286, 1, none⟩) (Kd.R_far (p := ⟨gb286, 0, none⟩) (Kd.R_far (p := ⟨gb284, 4, none⟩) (Kd.R_types (Kd.R_types HO0_0.out BK284.out (by decide)) BK286.out (by decide)) (fun _ hk => hk.1.2) (.int .i64 (wrap64 (a0_4 - a2)))) (fun _ hk => hk.2) (.slice Ao9 l0_0.length co9)) (fun _ hk => hk.2) (.slice (some ⟨go8, 0, none⟩) l0_1.length co10)) (fun _ hk => hk.2) (.slice Ao11 l0_2.length co11)) (fun _ hk => hk.2) (.int .i64 ji5)) (fun _ hk => hk.2) (.int .i64 (wrap64 (a0_4 - a2)))) (fun _ hk => hk.1.1.1), by (with_reducible repeat (first | apply Kd.R_alloc | apply Kd.R_drewN | apply Kd.R_drew)); exact Kd.R_mono (Kd.R_far (p := ⟨gb286, 4, none⟩) (Kd.R_far (p := ⟨gb286, 3, none⟩) (Kd.R_far (p := ⟨gb286, 2, none⟩) (Kd.R_far (p := ⟨gb286, 1, none⟩) (Kd.R_far (p := ⟨gb286, 0, none⟩) (Kd.R_far (p := ⟨gb284, 4, none⟩) (Kd.R_types (Kd.R_types HO0_1.out BK284.out (by decide)) BK286.out (by decide)) (fun _ hk => hk.1.2) (.int .i64 (wrap64 (a0_4 - a2)))) (fun _ hk => hk.2) (.slice Ao9 l0_0.length co9)) (fun _ hk => hk.2) (.slice (some ⟨go8, 0, none⟩) l0_1.length co10)) (fun _ hk => hk.2) (.slice Ao11 l0_2.length co11)) (fun _ hk => hk.2) (.int .i64 ji5)) (fun _ hk => hk.2) (.int .i64 (wrap64 (a0_4 - a2)))) (fun _ hk => ⟨hk.1.1.1, hk.1.1.2⟩), by (with_reducible repeat (first | apply Kd.R_alloc | apply Kd.R_drewN | apply Kd.R_drew)); exact Kd.R_mono (Kd.R_far (p := ⟨gb286, 4, none⟩) (Kd.R_far (p := ⟨gb286, 3, none⟩) (Kd.R_far (p := ⟨gb286, 2, none⟩) (Kd.R_far (p := ⟨gb286, 1, none⟩) (Kd.R_far (p := ⟨gb286, 0, none⟩) (Kd.R_far (p := ⟨gb284, 4, none⟩) (Kd.R_types (Kd.R_types HO0_2.out BK284.out (by decide)) BK286.out (by decide)) (fun _ hk => hk.1.2) (.int .i64 (wrap64 (a0_4 - a2)))) (fun _ hk => hk.2) (.slice Ao9 l0_0.length co9)) (fun _ hk => hk.2) (.slice (some ⟨go8, 0, none⟩) l0_1.length co10)) (fun _ hk => hk.2) (.slice Ao11 l0_2.length co11)) (fun _ hk => hk.2) (.int .i64 ji5)) (fun _ hk => hk.2) (.int .i64 (wrap64 (a0_4 - a2)))) (fun _ hk => ⟨hk.1.1.1, hk.1.1.2⟩), lb3_ HB.out GE284.out GE285.out GE286.out, by repeat (first | (with_reducible first | exact HK.out | apply Kept.alloc | apply Kept.drewN | apply Kept.drew | refine Kept.setCell ?_ (.inr GW284.out) _ | refine Kept.setCell ?_ (.inr GW285.out) _ | refine Kept.setCell ?_ (.inr GW286.out) _) | exact HK.out)⟩
   ·
    rw [if_neg c7] at H
    exact absurd H (by simp)
  ·
   rw [if_neg c6] at H
   exact absurd H (by simp)
 ·
  rw [if_neg c4] at H
  have c4b0 : (a1_0 == a0_3) = false := beq_eq_false_iff_ne.mpr c4
  have c4b1 : (a1_0 != a0_3) = true := bne_iff_ne.mpr c4
  by_cases c26 : a1_1 = a0_3
  ·
   rw [if_pos c26] at H
   have c26b0 : (a1_1 == a0_3) = true := beq_iff_eq.mpr c26
   have c26b1 : (a1_1 != a0_3) = false := bne_eq_false_iff_eq.mpr c26
   clear c26
   obtain ⟨ji27, hji27⟩ : ∃ j_ : Int, (wrap64 ((wrap64 (a1_0 + a1_1)) - a0_3)) = j_ := ⟨_, rfl⟩
   replace H : (if 0 ≤ (ji27) then (if (ji27) < (l0_1.length : Int) then (some (l0_0, (l0_1.set ((ji27) : Int).toNat true), l0_2, ji27, wrap64 (a0_4 - a2), true)) else (none)) else (none)) = some (r1, r2, r3, r4, r5, r6) := by first | (rw [hji27] at H; exact H) | (simp only [hji27] at H ⊢; exact H)
   have hji27w : (IntKind.i64.wrap ((wrap64 (a1_0 + a1_1)) - a0_3)) = ji27 := (i64_w _).trans hji27
   by_cases c28 : 0 ≤ (ji27)
   ·
    rw [if_pos c28] at H
    have c28b0 : decide (0 ≤ (ji27)) = true := decide_eq_true c28
    clear c28
    by_cases c29 : (ji27) < (l0_1.length : Int)
    ·
     rw [if_pos c29] at H
     have c29b0 : decide ((ji27) < (l0_1.length : Int)) = true := decide_eq_true c29
     clear c29
     obtain ⟨y288, hy288⟩ : ∃ y_ : List Bool, y_ = (l0_1.set ((ji27) : Int).toNat true) := ⟨_, rfl⟩
     replace H : (some (l0_0, y288, l0_2, ji27, wrap64 (a0_4 - a2), true)) = some (r1, r2, r3, r4, r5, r6) := by first | (rw [hy288]; with_reducible exact H) | (have H2_ := (Option.bind_some _ _).symm.trans H; rw [hy288]; with_reducible exact H2_) | (have H2_ := (Option.bind_some _ _).symm.trans H; with_reducible exact H2_) | with_reducible exact H | (rw [hy288]; exact H) | exact H
     have Ny288 := Aside0.mk hy288
     clear hy288
     simp only [Option.some.injEq, Prod.mk.injEq] at H
     obtain ⟨rfl, rfl, rfl, rfl, rfl, rfl⟩ := H
     obtain ⟨Ao31, co31, eo31⟩ := Kd.R_slice HO0_0.out
     subst eo31
     obtain ⟨Ao32, co32, eo32⟩ := Kd.R_slice HO0_1.out
     subst eo32
     obtain ⟨Ao33, co33, eo33⟩ := Kd.R_slice HO0_2.out
     subst eo33
     go_enter Try.func107, Try.ntmps107
     go_wp2_with (first | ((with_reducible refine gate_dst (N := 3) rfl ?_); refine box_event ?hg (N := 3) ?hd (cs := #[.slice Ao31 l0_0.length co31, .slice Ao32 l0_1.length co32, .slice Ao33 l0_2.length co33, .int .i64 a0_3, .int .i64 a0_4]) (t := 30) ?hr ?_; (case hd => rfl); (case hg => rfl); (case hr => first | (go_simp; done) | (go_simp; rfl)); intro gb284 hg w34 hbox hb; replace HO0_0 := Aside0.mk (Kd.R_below (kr_ HO0_0.out) hb); replace HO0_1 := Aside0.mk (Kd.R_below (kr_ HO0_1.out) hb); replace HO0_2 := Aside0.mk (Kd.R_below (kr_ HO0_2.out) hb); have BK284 := Aside0.mk (hbox); have GW284 := Aside0.mk ((by rw [hg]; exact (by first | exact HK.out.1 | exact (show Kept w _ (fun k_ => P0_0_ k_ ∨ P0_1_ k_ ∨ P0_2_ k_) from kt_ HK.out).1) : w.heap.size ≤ gb284)); replace HK := Aside0.mk (Kept.below (S := (fun k_ => P0_0_ k_ ∨ P0_1_ k_ ∨ P0_2_ k_)) (kt_ HK.out) hb); have GE284 := Aside0.mk ((by rw [hg]; exact (below_size (lb0_ HB.out)) : w0.heap.size ≤ gb284)); replace HB := Aside0.mk (below_step (lb0_ HB.out) hb); clear hb hbox hg) | ((with_reducible refine gate_dst (N := 4) rfl ?_); refine box_event ?hg (N := 4) ?hd (cs := #[.int .i64 a1_0, .int .i64 a1_1, .int .i64 a1_2, .int .i64 a1_3, .int .i64 a1_4]) (t := 37) ?hr ?_; (case hd => rfl); (case hg => rfl); (case hr => first | (go_simp; done) | (go_simp; rfl)); intro gb285 hg w35 hbox hb; replace HO0_0 := Aside0.mk (Kd.R_below (Kd.R_elderB (kr_ HO0_0.out) gb285 (Nat.le_of_eq hg.symm)) hb); replace HO0_1 := Aside0.mk (Kd.R_below (kr_ HO0_1.out) hb); replace HO0_2 := Aside0.mk (Kd.R_below (kr_ HO0_2.out) hb); have BK285 := Aside0.mk (hbox); have GW285 := Aside0.mk ((by rw [hg]; exact (by first | exact HK.out.1 | exact (show Kept w _ (fun k_ => P0_0_ k_ ∨ P0_1_ k_ ∨ P0_2_ k_) from by repeat (first | (with_reducible first | exact HK.out | apply Kept.alloc | apply Kept.drewN | apply Kept.drew | refine Kept.setCell ?_ (.inr GW284.out) _) | exact HK.out)).1) : w.heap.size ≤ gb285)); replace HK := Aside0.mk (Kept.below (S := (fun k_ => P0_0_ k_ ∨ P0_1_ k_ ∨ P0_2_ k_)) (by repeat (first | (with_reducible first | exact HK.out | apply Kept.alloc | apply Kept.drewN | apply Kept.drew | refine Kept.setCell ?_ (.inr GW284.out) _) | exact HK.out)) hb); have GE285 := Aside0.mk ((by rw [hg]; exact (below_size (lb1_ HB.out GE284.out)) : w0.heap.size ≤ gb285)); replace HB := Aside0.mk (below_step (lb1_ HB.out GE284.out) hb); have NB284_285 := Aside0.mk (nl_ hg BK284.out); have NB285_284 := Aside0.mk (ng_ hg BK284.out); replace BK284 := Aside0.mk (bb_ (bk_ BK284.out) hb); clear hb hbox hg) | ((with_reducible refine gate_dst (N := 6) rfl ?_); refine box_event ?hg (N := 6) ?hd (cs := #[.slice none 0 0, .slice none 0 0, .slice none 0 0, .int .i64 0, .int .i64 0]) (t := 30) ?hr ?_; (case hd => rfl); (case hg => rfl); (case hr => first | (go_simp; done) | (go_simp; rfl)); intro gb286 hg w36 hbox hb; replace HO0_0 := Aside0.mk (Kd.R_below (kr_ HO0_0.out) hb); replace HO0_1 := Aside0.mk (Kd.R_below (kr_ HO0_1.out) hb); replace HO0_2 := Aside0.mk (Kd.R_below (kr_ HO0_2.out) hb); have BK286 := Aside0.mk (hbox); have GW286 := Aside0.mk ((by rw [hg]; exact (by first | exact HK.out.1 | exact (show Kept w _ (fun k_ => P0_0_ k_ ∨ P0_1_ k_ ∨ P0_2_ k_) from by repeat (first | (with_reducible first | exact HK.out | apply Kept.alloc | apply Kept.drewN | apply Kept.drew | refine Kept.setCell ?_ (.inr GW284.out) _ | refine Kept.setCell ?_ (.inr GW285.out) _) | exact HK.out)).1) : w.heap.size ≤ gb286)); replace HK := Aside0.mk (Kept.below (S := (fun k_ => P0_0_ k_ ∨ P0_1_ k_ ∨ P0_2_ k_)) (by repeat (first | (with_reducible first | exact HK.out | apply Kept.alloc | apply Kept.drewN | apply Kept.drew | refine Kept.setCell ?_ (.inr GW284.out) _ | refine Kept.setCell ?_ (.inr GW285.out) _) | exact HK.out)) hb); have GE286 := Aside0.mk ((by rw [hg]; exact (below_size (lb2_ HB.out GE284.out GE285.out)) : w0.heap.size ≤ gb286)); replace HB := Aside0.mk (below_step (lb2_ HB.out GE284.out GE285.out) hb); have NB284_286 := Aside0.mk (nl_ hg BK284.out); have NB286_284 := Aside0.mk (ng_ hg BK284.out); replace BK284 := Aside0.mk (bb_ (bk_ BK284.out) hb); have NB285_286 := Aside0.mk (nl_ hg BK285.out); have NB286_285 := Aside0.mk (ng_ hg BK285.out); replace BK285 := Aside0.mk (bb_ (bk_ BK285.out) hb); clear hb hbox hg; have hnb37 := NB285_284.out; have hnc37 := NB284_285.out; have hnb38 := NB285_286.out; have hnc38 := NB286_285.out; obtain ⟨hcz39_0, hcz39_1, hcz39_2, hcz39_3, hcz39_4⟩ := cz5_ BK285.out; obtain ⟨hfz39_0, hfz39_1, hfz39_2, hfz39_3, hfz39_4⟩ := fz5_ BK285.out; have hnb40 := NB284_286.out; have hnc40 := NB286_284.out; obtain ⟨hcz41_0, hcz41_1, hcz41_2, hcz41_3, hcz41_4⟩ := cz5_ BK284.out; obtain ⟨hfz41_0, hfz41_1, hfz41_2, hfz41_3, hfz41_4⟩ := fz5_ BK284.out) | ((with_reducible refine gate_store (t := 3) (p := 29) rfl ?_); refine store_event (t := 3) (p := 29) (v := ?vo_w42) (w1 := (w36.setCell ⟨gb284, 3, none⟩ (.int .i64 ji27))) ?hg ?ho ?hn ?hr ?_; (case ho => rfl); (case hg => rfl); (case hn => rfl); (case hr => first | (go_simp; done) | (go_simp; rfl)); intro w42 hw; have n0_ : Aside0 (Kd.R k37 37 w42 w0.heap.size (fun k_ => ((P0_0_ k_ ∨ P0_1_ k_ ∨ P0_2_ k_) ∨ w.heap.size ≤ k_) ∧ k_ ≠ gb285) (.slice Ao31 l0_0.length co31) l0_0) := ⟨(by rw [hw]; exact (by (with_reducible repeat (first | apply Kd.R_alloc | apply Kd.R_drewN | apply Kd.R_drew)); exact Kd.R_mono (Kd.R_far (p := ⟨gb284, 3, none⟩) (Kd.R_types HO0_0.out BK284.out (by decide)) (fun _ hk => hk.2) (.int .i64 ji27)) (fun _ hk => ⟨hk.1.1, hk.1.2⟩)))⟩; have n1_ : Aside0 (Kd.R Kd.bool 4 w42 w0.heap.size (fun k_ => ((P0_0_ k_ ∨ P0_1_ k_ ∨ P0_2_ k_) ∨ w.heap.size ≤ k_) ∧ some k_ ≠ (.slice Ao33 l0_2.length co33 : Value).ownBlock) (.slice Ao32 l0_1.length co32) l0_1) := ⟨(by rw [hw]; exact (by (with_reducible repeat (first | apply Kd.R_alloc | apply Kd.R_drewN | apply Kd.R_drew)); exact Kd.R_mono (Kd.R_far (p := ⟨gb284, 3, none⟩) (Kd.R_types HO0_1.out BK284.out (by decide)) (fun _ hk => hk.2) (.int .i64 ji27)) (fun _ hk => ⟨hk.1.1, hk.1.2⟩)))⟩; have n2_ : Aside0 (Kd.R Kd.bool 4 w42 w0.heap.size (fun k_ => ((P0_0_ k_ ∨ P0_1_ k_ ∨ P0_2_ k_) ∨ w.heap.size ≤ k_) ∧ some k_ ≠ (.slice Ao32 l0_1.length co32 : Value).ownBlock) (.slice Ao33 l0_2.length co33) l0_2) := ⟨(by rw [hw]; exact (by (with_reducible repeat (first | apply Kd.R_alloc | apply Kd.R_drewN | apply Kd.R_drew)); exact Kd.R_mono (Kd.R_far (p := ⟨gb284, 3, none⟩) (Kd.R_types HO0_2.out BK284.out (by decide)) (fun _ hk => hk.2) (.int .i64 ji27)) (fun _ hk => ⟨hk.1.1, hk.1.2⟩)))⟩; have n3_ : Aside0 (w42.heap[gb284]? = some (.cells #[.slice Ao31 l0_0.length co31, .slice Ao32 l0_1.length co32, .slice Ao33 l0_2.length co33, .int .i64 ji27, .int .i64 a0_4] 30 (0, 0))) := ⟨(by rw [hw]; exact (by (with_reducible repeat (first | refine blk_drewN ?_ _ | refine blk_drew ?_ | refine blk_alloc ?_ _)); refine blk_put (cs := #[.slice Ao31 l0_0.length co31, .slice Ao32 l0_1.length co32, .slice Ao33 l0_2.length co33, .int .i64 a0_3, .int .i64 a0_4]) ?_ 3 _ rfl; (with_reducible repeat (first | refine blk_drewN ?_ _ | refine blk_drew ?_ | refine blk_alloc ?_ _)); exact BK284.out))⟩; have n4_ : Aside0 (w42.heap[gb285]? = some (.cells #[.int .i64 a1_0, .int .i64 a1_1, .int .i64 a1_2, .int .i64 a1_3, .int .i64 a1_4] 37 (0, 0))) := ⟨(by rw [hw]; exact (by exact (blk_far BK285.out NB285_284.out _)))⟩; have n5_ : Aside0 (w42.heap[gb286]? = some (.cells #[.slice none 0 0, .slice none 0 0, .slice none 0 0, .int .i64 0, .int .i64 0] 30 (0, 0))) := ⟨(by rw [hw]; exact (by exact (blk_far BK286.out NB286_284.out _)))⟩; have n6_ : Aside0 (Kept w w42 (fun k_ => P0_0_ k_ ∨ P0_1_ k_ ∨ P0_2_ k_)) := ⟨(by rw [hw]; exact (by repeat (first | (with_reducible first | exact HK.out | apply Kept.alloc | apply Kept.drewN | apply Kept.drew | refine Kept.setCell ?_ (.inr GW284.out) _ | refine Kept.setCell ?_ (.inr GW285.out) _ | refine Kept.setCell ?_ (.inr GW286.out) _) | exact HK.out)))⟩; have n7_ : Aside0 (Below w0.heap.size w0 w42) := ⟨(by rw [hw]; exact (lb3_ HB.out GE284.out GE285.out GE286.out))⟩; clear hw; clear HO0_0; clear HO0_1; clear HO0_2; clear BK284; clear BK285; clear BK286; clear HK; clear HB; have HO0_0 := n0_; have HO0_1 := n1_; have HO0_2 := n2_; have BK284 := n3_; have BK285 := n4_; have BK286 := n5_; have HK := n6_; have HB := n7_; clear n0_ n1_ n2_ n3_ n4_ n5_ n6_ n7_; obtain ⟨hcz43_0, hcz43_1, hcz43_2, hcz43_3, hcz43_4⟩ := cz5_ BK284.out; obtain ⟨hfz43_0, hfz43_1, hfz43_2, hfz43_3, hfz43_4⟩ := fz5_ BK284.out; have p30 : 0 ≤ ((ji27) : Int) := dt_; have q30 : ((ji27) : Int) < ((l0_1.length : Int) : Int) := dt_; obtain ⟨go30, co30, eo30, gb30, gl30, cl30, HG30⟩ := Kd.R_form HO0_1.out (by omega); (first | cases eo30 | (injection eo30 with ea_ en_ ec_; (first | subst ea_ | (injection ea_ with ea_; subst ea_)); subst ec_; clear en_)); have GB30 := Aside0.mk gb30; have GG30 := Aside0.mk HG30; clear gb30 gl30 HG30; have HMgo30 := Aside0.mk (show ((P0_0_ go30 ∨ P0_1_ go30 ∨ P0_2_ go30) ∨ w.heap.size ≤ go30) from (HO0_1.out.1 _ rfl).1); obtain ⟨hx30_0, hf30_0⟩ := Kd.R_celln false HO0_1.out ((ji27) : Int) p30 q30; replace p30 := eq_true p30; replace q30 := eq_true q30; obtain ⟨hy44_, hz44_⟩ := Kd.R_celln false HO0_1.out ((ji27) : Int) (dt_) (dt_); have HP44 := Kd.R_putg HO0_1.out ((ji27) : Int) true) | ((with_reducible refine gate_store (t := 4) (p := 34) rfl ?_); refine store_event (t := 4) (p := 34) (v := ?vo_w45) (w1 := (w42.setCell ⟨go30, ((ji27) : Int).toNat, none⟩ (.bool true))) ?hg ?ho ?hn ?hr ?_; (case ho => rfl); (case hg => rfl); (case hn => rfl); (case hr => first | (go_simp; done) | (go_simp; rfl)); intro w45 hw; have hg : w42.grownBy w45 (some go30) := (by rw [hw]; exact HP44.2); have hp_ : Kd.R Kd.bool 4 w45 w0.heap.size (fun k_ => ((P0_0_ k_ ∨ P0_1_ k_ ∨ P0_2_ k_) ∨ w.heap.size ≤ k_) ∧ some k_ ≠ (.slice Ao33 l0_2.length co33 : Value).ownBlock) (.slice (some ⟨go30, 0, none⟩) l0_1.length co32) y288 := (by rw [hw, Ny288.out]; exact HP44.1); clear HP44; replace HO0_0 := Aside0.mk (Kd.R_over' (v := (.slice (some ⟨go30, 0, none⟩) l0_1.length co32)) (kr_ HO0_0.out) (Kd.R_typed HO0_1.out) (by decide) hg); replace HO0_2 := Aside0.mk (Kd.R_after (v := (.slice (some ⟨go30, 0, none⟩) l0_1.length co32)) (v1 := (.slice (some ⟨go30, 0, none⟩) l0_1.length co32)) (ok := (fun k_ => ((P0_0_ k_ ∨ P0_1_ k_ ∨ P0_2_ k_) ∨ w.heap.size ≤ k_))) (kr_ HO0_2.out) hg (.inl rfl)); replace BK284 := Aside0.mk (blk_grown (g := gb284) (o := .cells #[.slice Ao31 l0_0.length co31, .slice (some ⟨go30, 0, none⟩) l0_1.length co32, .slice Ao33 l0_2.length co33, .int .i64 ji27, .int .i64 a0_4] 30 (0, 0)) (bk_ BK284.out) hg (Kd.R_ne HO0_1.out BK284.out (by decide))); replace BK285 := Aside0.mk (blk_grown (g := gb285) (o := .cells #[.int .i64 a1_0, .int .i64 a1_1, .int .i64 a1_2, .int .i64 a1_3, .int .i64 a1_4] 37 (0, 0)) (bk_ BK285.out) hg (Kd.R_ne HO0_1.out BK285.out (by decide))); replace BK286 := Aside0.mk (blk_grown (g := gb286) (o := .cells #[.slice none 0 0, .slice none 0 0, .slice none 0 0, .int .i64 0, .int .i64 0] 30 (0, 0)) (bk_ BK286.out) hg (Kd.R_ne HO0_1.out BK286.out (by decide))); replace HB := Aside0.mk ((by rw [hw]; exact below_set (HB.out) GB30.out : Below w0.heap.size w0 w45)); replace HK := Aside0.mk (Kept.of_grown (S := (fun k_ => P0_0_ k_ ∨ P0_1_ k_ ∨ P0_2_ k_)) hg (by repeat (first | (with_reducible first | exact HK.out | apply Kept.alloc | apply Kept.drewN | apply Kept.drew | refine Kept.setCell ?_ (.inr GW284.out) _ | refine Kept.setCell ?_ (.inr GW285.out) _ | refine Kept.setCell ?_ (.inr GW286.out) _) | exact HK.out)) (fun k_ e_ => (HO0_1.out.1 k_ e_).1)); replace HO0_1 := Aside0.mk (hp_); clear hg hw hp_; obtain ⟨hcz46_0, hcz46_1, hcz46_2, hcz46_3, hcz46_4⟩ := cz5_ BK284.out; obtain ⟨hfz46_0, hfz46_1, hfz46_2, hfz46_3, hfz46_4⟩ := fz5_ BK284.out; obtain ⟨hcz47_0, hcz47_1, hcz47_2, hcz47_3, hcz47_4⟩ := cz5_ BK286.out; obtain ⟨hfz47_0, hfz47_1, hfz47_2, hfz47_3, hfz47_4⟩ := fz5_ BK286.out))
     refine bodyPost_ret (results_ct rfl _ _ gb286 30 #[.slice Ao31 l0_0.length co31, .slice (some ⟨go30, 0, none⟩) l0_1.length co32, .slice Ao33 l0_2.length co33, .int .i64 ji27, .int .i64 (wrap64 (a0_4 - a2))] (0, 0) _ rfl (by (with_reducible repeat (first | refine blk_drewN ?_ _ | refine blk_drew ?_ | refine blk_alloc ?_ _)); refine blk_put (cs := #[.slice Ao31 l0_0.length co31, .slice (some ⟨go30, 0, none⟩) l0_1.length co32, .slice Ao33 l0_2.length co33, .int .i64 ji27, .int .i64 0]) ?_ 4 _ rfl; (with_reducible repeat (first | refine blk_drewN ?_ _ | refine blk_drew ?_ | refine blk_alloc ?_ _)); refine blk_put (cs := #[.slice Ao31 l0_0.length co31, .slice (some ⟨go30, 0, none⟩) l0_1.length co32, .slice Ao33 l0_2.length co33, .int .i64 0, .int .i64 0]) ?_ 3 _ rfl; (with_reducible repeat (first | refine blk_drewN ?_ _ | refine blk_drew ?_ | refine blk_alloc ?_ _)); refine blk_put (cs := #[.slice Ao31 l0_0.length co31, .slice (some ⟨go30, 0, none⟩) l0_1.length co32, .slice none 0 0, .int .i64 0, .int .i64 0]) ?_ 2 _ rfl; (with_reducible repeat (first | refine blk_drewN ?_ _ | refine blk_drew ?_ | refine blk_alloc ?_ _)); refine blk_put (cs := #[.slice Ao31 l0_0.length co31, .slice none 0 0, .slice none 0 0, .int .i64 0, .int .i64 0]) ?_ 1 _ rfl; (with_reducible repeat (first | refine blk_drewN ?_ _ | refine blk_drew ?_ | refine blk_alloc ?_ _)); refine blk_put (cs := #[.slice none 0 0, .slice none 0 0, .slice none 0 0, .int .i64 0, .int .i64 0]) ?_ 0 _ rfl; (with_reducible repeat (first | refine blk_drewN ?_ _ | refine blk_drew ?_ | refine blk_alloc ?_ _)); refine blk_far ?_ NB286_284.out _; (with_reducible repeat (first | refine blk_drewN ?_ _ | refine blk_drew ?_ | refine blk_alloc ?_ _)); exact BK286.out) Try.underlying30 rfl (by kernel_rfl)) rfl ?_
     exact ⟨_, _, _, by first | rfl | (simp [errW_none, errW_some] <;> rfl) | (simp only [← hji27]; first | rfl | (simp [errW_none, errW_some] <;> rfl)) | (simp [*, errW_none, errW_some] <;> rfl), by (with_reducible repeat (first | apply Kd.R_alloc | apply Kd.R_drewN | apply Kd.R_drew)); exact Kd.R_mono (Kd.R_far (p := ⟨gb286, 4, none⟩) (Kd.R_far (p := ⟨gb286, 3, none⟩) (Kd.R_far (p := ⟨gb286, 2, none⟩) (Kd.R_far (p := ⟨gb286, 1, none⟩) (Kd.R_far (p := ⟨gb286, 0, none⟩) (Kd.R_far (p := ⟨gb284, 4, none⟩) (Kd.R_types (Kd.R_types HO0_0.out BK284.out (by decide)) BK286.out (by decide)) (fun _ hk => hk.1.2) (.int .i64 (wrap64 (a0_4 - a2)))) (fun _ hk => hk.2) (.slice Ao31 l0_0.length co31)) (fun _ hk => hk.2) (.slice (some ⟨go30, 0, none⟩) l0_1.length co32)) (fun _ hk => hk.2) (.slice Ao33 l0_2.length co33)) (fun _ hk => hk.2) (.int .i64 ji27)) (fun _ hk => hk.2) (.int .i64 (wrap64 (a0_4 - a2)))) (fun _ hk => hk.1.1.1), by (with_reducible repeat (first | apply Kd.R_alloc | apply Kd.R_drewN | apply Kd.R_drew)); exact Kd.R_mono (Kd.R_far (p := ⟨gb286, 4, none⟩) (Kd.R_far (p := ⟨gb286, 3, none⟩) (Kd.R_far (p := ⟨gb286, 2, none⟩) (Kd.R_far (p := ⟨gb286, 1, none⟩) (Kd.R_far (p := ⟨gb286, 0, none⟩) (Kd.R_far (p := ⟨gb284, 4, none⟩) (Kd.R_types (Kd.R_types HO0_1.out BK284.out (by decide)) BK286.out (by decide)) (fun _ hk => hk.1.2) (.int .i64 (wrap64 (a0_4 - a2)))) (fun _ hk => hk.2) (.slice Ao31 l0_0.length co31)) (fun _ hk => hk.2) (.slice (some ⟨go30, 0, none⟩) l0_1.length co32)) (fun _ hk => hk.2) (.slice Ao33 l0_2.length co33)) (fun _ hk => hk.2) (.int .i64 ji27)) (fun _ hk => hk.2) (.int .i64 (wrap64 (a0_4 - a2)))) (fun _ hk => ⟨hk.1.1.1, hk.1.1.2⟩), by (with_reducible repeat (first | apply Kd.R_alloc | apply Kd.R_drewN | apply Kd.R_drew)); exact Kd.R_mono (Kd.R_far (p := ⟨gb286, 4, none⟩) (Kd.R_far (p := ⟨gb286, 3, none⟩) (Kd.R_far (p := ⟨gb286, 2, none⟩) (Kd.R_far (p := ⟨gb286, 1, none⟩) (Kd.R_far (p := ⟨gb286, 0, none⟩) (Kd.R_far (p := ⟨gb284, 4, none⟩) (Kd.R_types (Kd.R_types HO0_2.out BK284.out (by decide)) BK286.out (by decide)) (fun _ hk => hk.1.2) (.int .i64 (wrap64 (a0_4 - a2)))) (fun _ hk => hk.2) (.slice Ao31 l0_0.length co31)) (fun _ hk => hk.2) (.slice (some ⟨go30, 0, none⟩) l0_1.length co32)) (fun _ hk => hk.2) (.slice Ao33 l0_2.length co33)) (fun _ hk => hk.2) (.int .i64 ji27)) (fun _ hk => hk.2) (.int .i64 (wrap64 (a0_4 - a2)))) (fun _ hk => ⟨hk.1.1.1, hk.1.1.2⟩), lb3_ HB.out GE284.out GE285.out GE286.out, by repeat (first | (with_reducible first | exact HK.out | apply Kept.alloc | apply Kept.drewN | apply Kept.drew | refine Kept.setCell ?_ (.inr GW284.out) _ | refine Kept.setCell ?_ (.inr GW285.out) _ | refine Kept.setCell ?_ (.inr GW286.out) _) | exact HK.out)⟩
    ·
     rw [if_neg c29] at H
     exact absurd H (by simp)
   ·
    rw [if_neg c28] at H
    exact absurd H (by simp)
  ·
   rw [if_neg c26] at H
   have c26b0 : (a1_1 == a0_3) = false := beq_eq_false_iff_ne.mpr c26
   have c26b1 : (a1_1 != a0_3) = true := bne_iff_ne.mpr c26
   simp only [Option.some.injEq, Prod.mk.injEq] at H
   obtain ⟨rfl, rfl, rfl, rfl, rfl, rfl⟩ := H
   obtain ⟨Ao48, co48, eo48⟩ := Kd.R_slice HO0_0.out
   subst eo48
   obtain ⟨Ao49, co49, eo49⟩ := Kd.R_slice HO0_1.out
   subst eo49
   obtain ⟨Ao50, co50, eo50⟩ := Kd.R_slice HO0_2.out
   subst eo50
   go_enter Try.func107, Try.ntmps107
   go_wp2_with (first | ((with_reducible refine gate_dst (N := 3) rfl ?_); refine box_event ?hg (N := 3) ?hd (cs := #[.slice Ao48 l0_0.length co48, .slice Ao49 l0_1.length co49, .slice Ao50 l0_2.length co50, .int .i64 a0_3, .int .i64 a0_4]) (t := 30) ?hr ?_; (case hd => rfl); (case hg => rfl); (case hr => first | (go_simp; done) | (go_simp; rfl)); intro gb284 hg w51 hbox hb; replace HO0_0 := Aside0.mk (Kd.R_below (kr_ HO0_0.out) hb); replace HO0_1 := Aside0.mk (Kd.R_below (kr_ HO0_1.out) hb); replace HO0_2 := Aside0.mk (Kd.R_below (kr_ HO0_2.out) hb); have BK284 := Aside0.mk (hbox); have GW284 := Aside0.mk ((by rw [hg]; exact (by first | exact HK.out.1 | exact (show Kept w _ (fun k_ => P0_0_ k_ ∨ P0_1_ k_ ∨ P0_2_ k_) from kt_ HK.out).1) : w.heap.size ≤ gb284)); replace HK := Aside0.mk (Kept.below (S := (fun k_ => P0_0_ k_ ∨ P0_1_ k_ ∨ P0_2_ k_)) (kt_ HK.out) hb); have GE284 := Aside0.mk ((by rw [hg]; exact (below_size (lb0_ HB.out)) : w0.heap.size ≤ gb284)); replace HB := Aside0.mk (below_step (lb0_ HB.out) hb); clear hb hbox hg) | ((with_reducible refine gate_dst (N := 4) rfl ?_); refine box_event ?hg (N := 4) ?hd (cs := #[.int .i64 a1_0, .int .i64 a1_1, .int .i64 a1_2, .int .i64 a1_3, .int .i64 a1_4]) (t := 37) ?hr ?_; (case hd => rfl); (case hg => rfl); (case hr => first | (go_simp; done) | (go_simp; rfl)); intro gb285 hg w52 hbox hb; replace HO0_0 := Aside0.mk (Kd.R_below (Kd.R_elderB (kr_ HO0_0.out) gb285 (Nat.le_of_eq hg.symm)) hb); replace HO0_1 := Aside0.mk (Kd.R_below (kr_ HO0_1.out) hb); replace HO0_2 := Aside0.mk (Kd.R_below (kr_ HO0_2.out) hb); have BK285 := Aside0.mk (hbox); have GW285 := Aside0.mk ((by rw [hg]; exact (by first | exact HK.out.1 | exact (show Kept w _ (fun k_ => P0_0_ k_ ∨ P0_1_ k_ ∨ P0_2_ k_) from by repeat (first | (with_reducible first | exact HK.out | apply Kept.alloc | apply Kept.drewN | apply Kept.drew | refine Kept.setCell ?_ (.inr GW284.out) _) | exact HK.out)).1) : w.heap.size ≤ gb285)); replace HK := Aside0.mk (Kept.below (S := (fun k_ => P0_0_ k_ ∨ P0_1_ k_ ∨ P0_2_ k_)) (by repeat (first | (with_reducible first | exact HK.out | apply Kept.alloc | apply Kept.drewN | apply Kept.drew | refine Kept.setCell ?_ (.inr GW284.out) _) | exact HK.out)) hb); have GE285 := Aside0.mk ((by rw [hg]; exact (below_size (lb1_ HB.out GE284.out)) : w0.heap.size ≤ gb285)); replace HB := Aside0.mk (below_step (lb1_ HB.out GE284.out) hb); have NB284_285 := Aside0.mk (nl_ hg BK284.out); have NB285_284 := Aside0.mk (ng_ hg BK284.out); replace BK284 := Aside0.mk (bb_ (bk_ BK284.out) hb); clear hb hbox hg) | ((with_reducible refine gate_dst (N := 6) rfl ?_); refine box_event ?hg (N := 6) ?hd (cs := #[.slice none 0 0, .slice none 0 0, .slice none 0 0, .int .i64 0, .int .i64 0]) (t := 30) ?hr ?_; (case hd => rfl); (case hg => rfl); (case hr => first | (go_simp; done) | (go_simp; rfl)); intro gb286 hg w53 hbox hb; replace HO0_0 := Aside0.mk (Kd.R_below (kr_ HO0_0.out) hb); replace HO0_1 := Aside0.mk (Kd.R_below (kr_ HO0_1.out) hb); replace HO0_2 := Aside0.mk (Kd.R_below (kr_ HO0_2.out) hb); have BK286 := Aside0.mk (hbox); have GW286 := Aside0.mk ((by rw [hg]; exact (by first | exact HK.out.1 | exact (show Kept w _ (fun k_ => P0_0_ k_ ∨ P0_1_ k_ ∨ P0_2_ k_) from by repeat (first | (with_reducible first | exact HK.out | apply Kept.alloc | apply Kept.drewN | apply Kept.drew | refine Kept.setCell ?_ (.inr GW284.out) _ | refine Kept.setCell ?_ (.inr GW285.out) _) | exact HK.out)).1) : w.heap.size ≤ gb286)); replace HK := Aside0.mk (Kept.below (S := (fun k_ => P0_0_ k_ ∨ P0_1_ k_ ∨ P0_2_ k_)) (by repeat (first | (with_reducible first | exact HK.out | apply Kept.alloc | apply Kept.drewN | apply Kept.drew | refine Kept.setCell ?_ (.inr GW284.out) _ | refine Kept.setCell ?_ (.inr GW285.out) _) | exact HK.out)) hb); have GE286 := Aside0.mk ((by rw [hg]; exact (below_size (lb2_ HB.out GE284.out GE285.out)) : w0.heap.size ≤ gb286)); replace HB := Aside0.mk (below_step (lb2_ HB.out GE284.out GE285.out) hb); have NB284_286 := Aside0.mk (nl_ hg BK284.out); have NB286_284 := Aside0.mk (ng_ hg BK284.out); replace BK284 := Aside0.mk (bb_ (bk_ BK284.out) hb); have NB285_286 := Aside0.mk (nl_ hg BK285.out); have NB286_285 := Aside0.mk (ng_ hg BK285.out); replace BK285 := Aside0.mk (bb_ (bk_ BK285.out) hb); clear hb hbox hg; have hnb54 := NB285_284.out; have hnc54 := NB284_285.out; have hnb55 := NB285_286.out; have hnc55 := NB286_285.out; obtain ⟨hcz56_0, hcz56_1, hcz56_2, hcz56_3, hcz56_4⟩ := cz5_ BK285.out; obtain ⟨hfz56_0, hfz56_1, hfz56_2, hfz56_3, hfz56_4⟩ := fz5_ BK285.out; have hnb57 := NB284_286.out; have hnc57 := NB286_284.out; obtain ⟨hcz58_0, hcz58_1, hcz58_2, hcz58_3, hcz58_4⟩ := cz5_ BK284.out; obtain ⟨hfz58_0, hfz58_1, hfz58_2, hfz58_3, hfz58_4⟩ := fz5_ BK284.out; obtain ⟨hcz59_0, hcz59_1, hcz59_2, hcz59_3, hcz59_4⟩ := cz5_ BK286.out; obtain ⟨hfz59_0, hfz59_1, hfz59_2, hfz59_3, hfz59_4⟩ := fz5_ BK286.out))
   refine bodyPost_ret (results_ct rfl _ _ gb286 30 #[.slice Ao48 l0_0.length co48, .slice Ao49 l0_1.length co49, .slice Ao50 l0_2.length co50, .int .i64 a0_3, .int .i64 a0_4] (0, 0) _ rfl (by (with_reducible repeat (first | refine blk_drewN ?_ _ | refine blk_drew ?_ | refine blk_alloc ?_ _)); refine blk_put (cs := #[.slice Ao48 l0_0.length co48, .slice Ao49 l0_1.length co49, .slice Ao50 l0_2.length co50, .int .i64 a0_3, .int .i64 0]) ?_ 4 _ rfl; (with_reducible repeat (first | refine blk_drewN ?_ _ | refine blk_drew ?_ | refine blk_alloc ?_ _)); refine blk_put (cs := #[.slice Ao48 l0_0.length co48, .slice Ao49 l0_1.length co49, .slice Ao50 l0_2.length co50, .int .i64 0, .int .i64 0]) ?_ 3 _ rfl; (with_reducible repeat (first | refine blk_drewN ?_ _ | refine blk_drew ?_ | refine blk_alloc ?_ _)); refine blk_put (cs := #[.slice Ao48 l0_0.length co48, .slice Ao49 l0_1.length co49, .slice none 0 0, .int .i64 0, .int .i64 0]) ?_ 2 _ rfl; (with_reducible repeat (first | refine blk_drewN ?_ _ | refine blk_drew ?_ | refine blk_alloc ?_ _)); refine blk_put (cs := #[.slice Ao48 l0_0.length co48, .slice none 0 0, .slice none 0 0, .int .i64 0, .int .i64 0]) ?_ 1 _ rfl; (with_reducible repeat (first | refine blk_drewN ?_ _ | refine blk_drew ?_ | refine blk_alloc ?_ _)); refine blk_put (cs := #[.slice none 0 0, .slice none 0 0, .slice none 0 0, .int .i64 0, .int .i64 0]) ?_ 0 _ rfl; (with_reducible repeat (first | refine blk_drewN ?_ _ | refine blk_drew ?_ | refine blk_alloc ?_ _)); exact BK286.out) Try.underlying30 rfl (by kernel_rfl)) rfl ?_
   exact ⟨_, _, _, rr_, by (with_reducible repeat (first | apply Kd.R_alloc | apply Kd.R_drewN | apply Kd.R_drew)); exact Kd.R_mono (r5_ HO0_0.out BK286.out (by decide) _ _ _ _ _) (fun _ hk => hk.1), by (with_reducible repeat (first | apply Kd.R_alloc | apply Kd.R_drewN | apply Kd.R_drew)); exact Kd.R_mono (Kd.R_far (p := ⟨gb286, 4, none⟩) (Kd.R_far (p := ⟨gb286, 3, none⟩) (Kd.R_far (p := ⟨gb286, 2, none⟩) (Kd.R_far (p := ⟨gb286, 1, none⟩) (Kd.R_far (p := ⟨gb286, 0, none⟩) (Kd.R_types HO0_1.out BK286.out (by decide)) (fun _ hk => hk.2) (.slice Ao48 l0_0.length co48)) (fun _ hk => hk.2) (.slice Ao49 l0_1.length co49)) (fun _ hk => hk.2) (.slice Ao50 l0_2.length co50)) (fun _ hk => hk.2) (.int .i64 a0_3)) (fun _ hk => hk.2) (.int .i64 a0_4)) (fun _ hk => ⟨hk.1.1, hk.1.2⟩), by (with_reducible repeat (first | apply Kd.R_alloc | apply Kd.R_drewN | apply Kd.R_drew)); exact Kd.R_mono (Kd.R_far (p := ⟨gb286, 4, none⟩) (Kd.R_far (p := ⟨gb286, 3, none⟩) (Kd.R_far (p := ⟨gb286, 2, none⟩) (Kd.R_far (p := ⟨gb286, 1, none⟩) (Kd.R_far (p := ⟨gb286, 0, none⟩) (Kd.R_types HO0_2.out BK286.out (by decide)) (fun _ hk => hk.2) (.slice Ao48 l0_0.length co48)) (fun _ hk => hk.2) (.slice Ao49 l0_1.length co49)) (fun _ hk => hk.2) (.slice Ao50 l0_2.length co50)) (fun _ hk => hk.2) (.int .i64 a0_3)) (fun _ hk => hk.2) (.int .i64 a0_4)) (fun _ hk => ⟨hk.1.1, hk.1.2⟩), lb3_ HB.out GE284.out GE285.out GE286.out, by repeat (first | (with_reducible first | exact HK.out | apply Kept.alloc | apply Kept.drewN | apply Kept.drew | refine Kept.setCell ?_ (.inr GW284.out) _ | refine Kept.setCell ?_ (.inr GW285.out) _ | refine Kept.setCell ?_ (.inr GW286.out) _) | exact HK.out)⟩
structure MkS (w : World) (g2 g3 g4 g6 : Nat) (ar aw : Array Value) (W : World) (u0 u1 u2 : Value) (L : List S37) (V D : List Bool) (p t : Int) : Prop where
 ex : ExS W w.heap.size g6 u0 u1 u2 L V D p t
 k2 : W.heap[g2]? = some (.cells ar 30 (0, 0))
 k3 : W.heap[g3]? = some (.cells aw 39 (0, 0))
 k4 : W.heap[g4]? = some (.cells #[.slice none 0 0, .slice none 0 0, .slice none 0 0, .int .i64 0, .int .i64 0] 30 (0, 0))
 hB : Below w.heap.size w W
 n2 : g2 ≠ g6
 n3 : g3 ≠ g6
 n4 : g4 ≠ g6
section
variable {w W W' : World} {g2 g3 g4 g6 : Nat} {ar aw : Array Value} {u0 u1 u2 : Value} {L : List S37} {V D : List Bool} {p t : Int}
theorem MkS.below (h : MkS w g2 g3 g4 g6 ar aw W u0 u1 u2 L V D p t) (hb : Below W.heap.size W W') : MkS w g2 g3 g4 g6 ar aw W' u0 u1 u2 L V D p t :=
 ⟨h.ex.below hb, bb_ h.k2 hb, bb_ h.k3 hb, bb_ h.k4 hb, below_step h.hB hb, h.n2, h.n3, h.n4⟩
theorem MkS.light (h : MkS w g2 g3 g4 g6 ar aw W u0 u1 u2 L V D p t) (t' : Int) : MkS w g2 g3 g4 g6 ar aw (W.setCell ⟨g6, 4, none⟩ (.int .i64 t')) u0 u1 u2 L V D p t' :=
 ⟨h.ex.put4 t', blk_far (p := ⟨g6, 4, none⟩) h.k2 h.n2 _, blk_far (p := ⟨g6, 4, none⟩) h.k3 h.n3 _, blk_far (p := ⟨g6, 4, none⟩) h.k4 h.n4 _, below_set (j := 4) h.hB h.ex.gb, h.n2, h.n3, h.n4⟩
theorem MkS.lead {gv cap : Nat} (h : MkS w g2 g3 g4 g6 ar aw W u0 u1 (.slice (some ⟨gv, 0, none⟩) D.length cap) L V D p t) (i : Int) (x : Bool) : MkS w g2 g3 g4 g6 ar aw (W.setCell ⟨gv, i.toNat, none⟩ (.bool x)) u0 u1 (.slice (some ⟨gv, 0, none⟩) D.length cap) L V (D.set i.toNat x) p t := by
 have hty : ∀ {g t' : Nat} {cs : Array Value}, W.heap[g]? = some (.cells cs t' (0, 0)) → 4 ≠ t' → g ≠ gv := fun {g t' cs} hb ht e => by
  obtain ⟨q, hx⟩ := Kd.R_typed h.ex.rD gv rfl
  rw [← e, hb] at hx
  injection hx with hx
  injection hx with _ hx
  exact ht hx.symm
 exact ⟨h.ex.putD i x, blk_far (p := ⟨gv, i.toNat, none⟩) h.k2 (hty h.k2 (by decide)) _, blk_far (p := ⟨gv, i.toNat, none⟩) h.k3 (hty h.k3 (by decide)) _, blk_far (p := ⟨gv, i.toNat, none⟩) h.k4 (hty h.k4 (by decide)) _, below_set (j := i.toNat) h.hB ((Kd.R_bound h.ex.rD).1 gv rfl).2.1, h.n2, h.n3, h.n4⟩
theorem MkS.app (h : MkS w g2 g3 g4 g6 ar aw W u0 u1 u2 L V D p t) {z : Value} {L' : List S37} (hB : Below w.heap.size w W') (hr : Kd.R k37 37 W' w.heap.size (fun _ => True) z L') (hg : W.grownBy W' u0.ownBlock) :
  W'.heap[g6]? = some (.cells #[u0, u1, u2, .int .i64 p, .int .i64 t] 30 (0, 0)) ∧ MkS w g2 g3 g4 g6 ar aw (W'.setCell ⟨g6, 0, none⟩ z) z u1 u2 L' V D p t := by
 have q := blk_ap h.ex.rL h.ex.blk (by decide) hg
 have f1 : ∀ {α : Type} {d : Kd α} {e : Nat} {ok : Nat → Prop} {v : Value} {xs : List α}, d.R e W' w.heap.size ok v xs → (∀ x, x ∈ e :: d.E → x ≠ 30) → d.R e (W'.setCell ⟨g6, 0, none⟩ z) w.heap.size ok v xs := fun hr ht => Kd.R_mono (Kd.R_far (p := ⟨g6, 0, none⟩) (Kd.R_types hr q ht) (fun _ hk => hk.2) z) (fun _ hk => hk.1)
 exact ⟨q, ⟨blk_put q 0 _ rfl, h.ex.gb, f1 hr (by decide), f1 (Kd.R_ap h.ex.rV rfl (Ap.types h.ex.rV h.ex.rL (by decide)) hg) (by decide), f1 (Kd.R_ap h.ex.rD rfl (Ap.types h.ex.rD h.ex.rL (by decide)) hg) (by decide)⟩, blk_far (p := ⟨g6, 0, none⟩) (blk_ap h.ex.rL h.k2 (by decide) hg) h.n2 _, blk_far (p := ⟨g6, 0, none⟩) (blk_ap h.ex.rL h.k3 (by decide) hg) h.n3 _, blk_far (p := ⟨g6, 0, none⟩) (blk_ap h.ex.rL h.k4 (by decide) hg) h.n4 _, below_set (j := 0) hB h.ex.gb, h.n2, h.n3, h.n4⟩
theorem goX_ (h : MkS w g2 g3 g4 g6 ar aw W u0 u1 u2 L V D p t) {a b tp c s m : Int} {r1 : List S37} {r2 r3 : List Bool} {r4 r5 : Int} {r6 : Bool} (hf : spec_l25Go.f L V D p t a b tp c s m = some (r1, r2, r3, r4, r5, r6)) :
  Calls Try.prog 107 #[.agg #[u0, u1, u2, .int .i64 p, .int .i64 t], .agg #[.int .i64 a, .int .i64 b, .int .i64 tp, .int .i64 c, .int .i64 s], .int .i64 m] W fun e W' => ∃ (A0 A1 A2 : Option Addr) (c0 c1 c2 : Nat), e = .returned (.tuple #[.agg #[.slice A0 r1.length c0, .slice A1 r2.length c1, .slice A2 r3.length c2, .int .i64 r4, .int .i64 r5], .bool r6]) ∧ W'.heap[g6]? = some (.cells #[u0, u1, u2, .int .i64 p, .int .i64 t] 30 (0, 0)) ∧ MkS w g2 g3 g4 g6 ar aw (((((W'.setCell ⟨g6, 0, none⟩ (.slice A0 r1.length c0)).setCell ⟨g6, 1, none⟩ (.slice A1 r2.length c1)).setCell ⟨g6, 2, none⟩ (.slice A2 r3.length c2)).setCell ⟨g6, 3, none⟩ (.int .i64 r4)).setCell ⟨g6, 4, none⟩ (.int .i64 r5)) (.slice A0 r1.length c0) (.slice A1 r2.length c1) (.slice A2 r3.length c2) r1 r2 r3 r4 r5 := by
 refine (spec_l25Go.calls (fun q => some q = u0.ownBlock) u0 L (fun q => some q = u1.ownBlock) u1 V (fun q => some q = u2.ownBlock) u2 D p t a b tp c s m r1 r2 r3 r4 r5 r6 w W h.hB (Kd.R_tight rfl h.ex.rL) (Kd.R_tight rfl h.ex.rV) (fun q hq => h.ex.rV.1 q hq.symm) (Kd.R_tight rfl h.ex.rD) (fun q hq => h.ex.rD.1 q hq.symm) hf).mono ?_
 rintro e W' ⟨z0, z1, z2, rfl, h0, h1, h2, hb, hk⟩
 have far : ∀ {g t' : Nat} {cs : Array Value}, W.heap[g]? = some (.cells cs t' (0, 0)) → 37 ≠ t' → 4 ≠ t' → W'.heap[g]? = some (.cells cs t' (0, 0)) := fun {g t' cs} hb e1 e2 => by
  refine (hk.2 g (blk_lt hb) (fun hs => ?_)).trans hb
  have no : ∀ {α : Type} {d : Kd α} {e : Nat} {ok : Nat → Prop} {v : Value} {xs : List α}, d.R e W w.heap.size ok v xs → e ≠ t' → some g ≠ v.ownBlock := fun hr hne e => by
   obtain ⟨q, hx⟩ := Kd.R_typed hr g e.symm
   rw [hb] at hx
   injection hx with hx
   injection hx with _ hx
   exact hne hx.symm
  exact hs.elim (no h.ex.rL e1) (fun hs => hs.elim (no h.ex.rV e2) (no h.ex.rD e2))
 obtain ⟨A0, c0, rfl⟩ := Kd.R_slice h0
 obtain ⟨A1, c1, rfl⟩ := Kd.R_slice h1
 obtain ⟨A2, c2, rfl⟩ := Kd.R_slice h2
 have q := far h.ex.blk (by decide) (by decide)
 have f5 : ∀ {g t' : Nat} {cs : Array Value}, W'.heap[g]? = some (.cells cs t' (0, 0)) → g ≠ g6 → (((((W'.setCell ⟨g6, 0, none⟩ (.slice A0 r1.length c0)).setCell ⟨g6, 1, none⟩ (.slice A1 r2.length c1)).setCell ⟨g6, 2, none⟩ (.slice A2 r3.length c2)).setCell ⟨g6, 3, none⟩ (.int .i64 r4)).setCell ⟨g6, 4, none⟩ (.int .i64 r5)).heap[g]? = some (.cells cs t' (0, 0)) := fun hb hne => blk_far (p := ⟨g6, 4, none⟩) (blk_far (p := ⟨g6, 3, none⟩) (blk_far (p := ⟨g6, 2, none⟩) (blk_far (p := ⟨g6, 1, none⟩) (blk_far (p := ⟨g6, 0, none⟩) hb hne _) hne _) hne _) hne _) hne _
 exact ⟨A0, A1, A2, c0, c1, c2, rfl, q, ⟨own_blk5 q _ _ _ _ _, h.ex.gb, Kd.R_mono (own_R5 h0 q (by decide) _ _ _ _ _) (fun _ _ => trivial), Kd.R_mono (own_R5 h1 q (by decide) _ _ _ _ _) (fun _ hk => hk.2), Kd.R_mono (own_R5 h2 q (by decide) _ _ _ _ _) (fun _ hk => hk.2)⟩, f5 (far h.k2 (by decide) (by decide)) h.n2, f5 (far h.k3 (by decide) (by decide)) h.n3, f5 (far h.k4 (by decide) (by decide)) h.n4, below_set (below_set (below_set (below_set (below_set hb h.ex.gb) h.ex.gb) h.ex.gb) h.ex.gb) h.ex.gb, h.n2, h.n3, h.n4⟩
end
def spec_l25Make.f (k : Nat) (l0_0 : List (S37)) (l0_1 : List Bool) (l0_2 : List Bool) (a0_3 : Int) (a0_4 : Int) (a1_0 : Int) (a1_1 : Int) (a1_2 : Int) (a1_3 : Int) (a1_4 : Int) (a1_5 : Int) (a1_6 : Int) : Option ((List (S37)) × List Bool × List Bool × Int × Int × Bool) := (spec_l25Own.f l0_0 l0_1 l0_2 a0_3 a0_4).bind fun bt312 => (if a1_0 = 1 then (if 0 ≤ a1_1 then (if a1_1 < (l0_0.length : Int) then ((spec_l25Go.f bt312.1 bt312.2.1 bt312.2.2.1 bt312.2.2.2.1 bt312.2.2.2.2 ((rd_T37 l0_0 a1_1).f0) ((rd_T37 l0_0 a1_1).f1) ((rd_T37 l0_0 a1_1).f2) ((rd_T37 l0_0 a1_1).f3) ((rd_T37 l0_0 a1_1).f4) ((rd_T37 l0_0 a1_1).f2)).bind fun bt326 => (if bt326.2.2.2.2.2 = true then ((spec_l25Good.f k bt326.1 bt326.2.1 bt326.2.2.1 bt326.2.2.2.1 bt326.2.2.2.2.1).bind fun t338 => (some (bt326.1, bt326.2.1, bt326.2.2.1, bt326.2.2.2.1, bt326.2.2.2.2.1, t338))) else (some (bt326.1, bt326.2.1, bt326.2.2.1, bt326.2.2.2.1, bt326.2.2.2.2.1, false)))) else (none)) else (none)) else (if a1_0 = 2 then (if bt312.1.length < 3518437208883 then ((spec_l25Go.f (bt312.1 ++ [(⟨a1_2, a1_3, a1_4, a1_5, a1_6⟩ : S37)]) bt312.2.1 bt312.2.2.1 bt312.2.2.2.1 bt312.2.2.2.2 a1_2 a1_3 a1_4 a1_5 a1_6 (wrap64 (3 * a1_4))).bind fun bt342 => (if a1_2 = a0_3 then ((spec_l25Good.f k bt342.1 bt342.2.1 bt342.2.2.1 bt342.2.2.2.1 bt342.2.2.2.2.1).bind fun t354 => (some (bt342.1, bt342.2.1, bt342.2.2.1, bt342.2.2.2.1, bt342.2.2.2.2.1, t354))) else (some (bt342.1, bt342.2.1, bt342.2.2.1, bt342.2.2.2.1, bt342.2.2.2.2.1, false)))) else (none)) else (if a1_0 = 3 then (if 0 ≤ a0_3 then (if a0_3 < (l0_2.length : Int) then (if a0_3 < (bt312.2.2.1.length : Int) then ((some (bt312.2.2.1.set (a0_3 : Int).toNat true : List Bool)).bind fun y356 => (if rdOf false l0_2 a0_3 = true then (some (bt312.1, bt312.2.1, y356, bt312.2.2.2.1, bt312.2.2.2.2, false)) else ((spec_l25Good.f k bt312.1 bt312.2.1 y356 bt312.2.2.2.1 bt312.2.2.2.2).bind fun t357 => (some (bt312.1, bt312.2.1, y356, bt312.2.2.2.1, bt312.2.2.2.2, t357))))) else (none)) else (none)) else (none)) else (if a0_3 = 0 then ((spec_l25Good.f k bt312.1 bt312.2.1 bt312.2.2.1 bt312.2.2.2.1 (wrap64 (a0_4 + a1_1))).bind fun t358 => (some (bt312.1, bt312.2.1, bt312.2.2.1, bt312.2.2.2.1, wrap64 (a0_4 + a1_1), t358))) else (some (bt312.1, bt312.2.1, bt312.2.2.1, bt312.2.2.2.1, wrap64 (a0_4 + a1_1), false))))))
def mk7.T : Bool × List (List Nat × List Nat) := (true, [([], []), ([], []), ([1], [1]), ([], []), ([3], [3]), ([2, 4], [2, 4]), ([5], [5]), ([], []), ([7], [7]), ([], []), ([9], [9]), ([8, 10], [8, 10]), ([11], [11]), ([12], [12]), ([0, 6, 13], [0, 6, 13]), ([14], [14]), ([15], [15]), ([15], [15]), ([16, 14, 0, 1, 2, 3, 4, 5, 6, 7, 8, 9, 10, 11, 12, 13, 14, 15, 16], [16]), ([17, 18, 0, 1, 2, 3, 4, 5, 6, 7, 8, 9, 10, 11, 12, 13, 14, 15, 16, 17, 18], [17])])
def mk7.B : List Nat := [0, 0, 2, 0, 8, 30, 62, 0, 128, 0, 512, 1920, 3968, 8064, 16383, 32767, 65535, 65535, 131071, 524287]
theorem mk7.tab : rtab .any (opsOf Try.f78 7) = mk7.T := by kernel_rfl
theorem mk7.bits : waitsOk mk7.T.2 mk7.B = true := by kernel_rfl
abbrev mk7.mk0 : Array Bool := #[fF, fF, fF, fF, fF, fF, fF, fF, fF, fF, fF, fF, fF, fF, fF, fF, fF, fF, fF, fF]
abbrev mk7.mk1 : Array Bool := #[fF, tT, fF, fF, fF, fF, fF, fF, fF, fF, fF, fF, fF, fF, fF, fF, fF, fF, fF, fF]
abbrev mk7.mk2 : Array Bool := #[fF, tT, fF, tT, fF, fF, fF, fF, fF, fF, fF, fF, fF, fF, fF, fF, fF, fF, fF, fF]
abbrev mk7.mk3 : Array Bool := #[fF, tT, fF, tT, fF, fF, fF, tT, fF, fF, fF, fF, fF, fF, fF, fF, fF, fF, fF, fF]
abbrev mk7.mk4 : Array Bool := #[fF, tT, fF, tT, fF, fF, fF, tT, fF, tT, fF, fF, fF, fF, fF, fF, fF, fF, fF, fF]
abbrev mk7.mk5 : Array Bool := #[tT, tT, fF, tT, fF, fF, fF, tT, fF, tT, fF, fF, fF, fF, fF, fF, fF, fF, fF, fF]
abbrev mk7.mk6 : Array Bool := #[tT, tT, tT, tT, fF, fF, fF, tT, fF, tT, fF, fF, fF, fF, fF, fF, fF, fF, fF, fF]
abbrev mk7.mk7 : Array Bool := #[tT, tT, tT, tT, tT, fF, fF, tT, fF, tT, fF, fF, fF, fF, fF, fF, fF, fF, fF, fF]
abbrev mk7.mk8 : Array Bool := #[tT, tT, tT, tT, tT, tT, fF, tT, fF, tT, fF, fF, fF, fF, fF, fF, fF, fF, fF, fF]
abbrev mk7.mk9 : Array Bool := #[tT, tT, tT, tT, tT, tT, tT, tT, fF, tT, fF, fF, fF, fF, fF, fF, fF, fF, fF, fF]
abbrev mk7.mk10 : Array Bool := #[tT, tT, tT, tT, tT, tT, tT, tT, tT, tT, fF, fF, fF, fF, fF, fF, fF, fF, fF, fF]
abbrev mk7.mk11 : Array Bool := #[tT, tT, tT, tT, tT, tT, tT, tT, tT, tT, tT, fF, fF, fF, fF, fF, fF, fF, fF, fF]
abbrev mk7.mk12 : Array Bool := #[tT, tT, tT, tT, tT, tT, tT, tT, tT, tT, tT, tT, fF, fF, fF, fF, fF, fF, fF, fF]
abbrev mk7.mk13 : Array Bool := #[tT, tT, tT, tT, tT, tT, tT, tT, tT, tT, tT, tT, tT, fF, fF, fF, fF, fF, fF, fF]
abbrev mk7.mk14 : Array Bool := #[tT, tT, tT, tT, tT, tT, tT, tT, tT, tT, tT, tT, tT, tT, fF, fF, fF, fF, fF, fF]
abbrev mk7.mk15 : Array Bool := #[tT, tT, tT, tT, tT, tT, tT, tT, tT, tT, tT, tT, tT, tT, tT, fF, fF, fF, fF, fF]
abbrev mk7.mk16 : Array Bool := #[tT, tT, tT, tT, tT, tT, tT, tT, tT, tT, tT, tT, tT, tT, tT, tT, fF, fF, fF, fF]
abbrev mk7.mk17 : Array Bool := #[tT, tT, tT, tT, tT, tT, tT, tT, tT, tT, tT, tT, tT, tT, tT, tT, tT, fF, fF, fF]
abbrev mk7.mk18 : Array Bool := #[tT, tT, tT, tT, tT, tT, tT, tT, tT, tT, tT, tT, tT, tT, tT, tT, tT, tT, fF, fF]
abbrev mk7.mk19 : Array Bool := #[tT, tT, tT, tT, tT, tT, tT, tT, tT, tT, tT, tT, tT, tT, tT, tT, tT, tT, tT, fF]
abbrev mk7.mk20 : Array Bool := #[tT, tT, tT, tT, tT, tT, tT, tT, tT, tT, tT, tT, tT, tT, tT, tT, tT, tT, tT, tT]
def mk15.T : Bool × List (List Nat × List Nat) := (true, [([], []), ([], []), ([1], [1]), ([2], [2]), ([3, 2, 2], [2, 3]), ([2, 4], [2, 4]), ([0, 4, 0], [0]), ([5, 6, 0, 1, 2, 3, 4, 5, 6], [5])])
def mk15.B : List Nat := [0, 0, 2, 6, 14, 30, 31, 127]
theorem mk15.tab : rtab .any (opsOf Try.f78 15) = mk15.T := by kernel_rfl
theorem mk15.bits : waitsOk mk15.T.2 mk15.B = true := by kernel_rfl
abbrev mk15.mk0 : Array Bool := #[fF, fF, fF, fF, fF, fF, fF, fF]
abbrev mk15.mk1 : Array Bool := #[fF, tT, fF, fF, fF, fF, fF, fF]
abbrev mk15.mk2 : Array Bool := #[fF, tT, tT, fF, fF, fF, fF, fF]
abbrev mk15.mk3 : Array Bool := #[tT, tT, tT, fF, fF, fF, fF, fF]
abbrev mk15.mk4 : Array Bool := #[tT, tT, tT, tT, fF, fF, fF, fF]
abbrev mk15.mk5 : Array Bool := #[tT, tT, tT, tT, tT, fF, fF, fF]
abbrev mk15.mk6 : Array Bool := #[tT, tT, tT, tT, tT, tT, fF, fF]
abbrev mk15.mk7 : Array Bool := #[tT, tT, tT, tT, tT, tT, tT, fF]
abbrev mk15.mk8 : Array Bool := #[tT, tT, tT, tT, tT, tT, tT, tT]
set_option maxHeartbeats 64000000 in
set_option maxRecDepth 100000 in
theorem spec_l25Make.calls (k : Nat) (A0_0 : Option Addr) (c0_0 : Nat) (l0_0 : List (S37)) (A0_1 : Option Addr) (c0_1 : Nat) (l0_1 : List Bool) (A0_2 : Option Addr) (c0_2 : Nat) (l0_2 : List Bool) (a0_3 : Int) (a0_4 : Int) (a1_0 : Int) (a1_1 : Int) (a1_2 : Int) (a1_3 : Int) (a1_4 : Int) (a1_5 : Int) (a1_6 : Int) (r1 : List (S37)) (r2 : List Bool) (r3 : List Bool) (r4 : Int) (r5 : Int) (r6 : Bool) (w : World) (hr0_0 : Kd.C k37 w A0_0 l0_0.length l0_0) (hc0_0 : l0_0.length ≤ c0_0) (hr0_1 : Kd.C Kd.bool w A0_1 l0_1.length l0_1) (hc0_1 : l0_1.length ≤ c0_1) (hr0_2 : Kd.C Kd.bool w A0_2 l0_2.length l0_2) (hc0_2 : l0_2.length ≤ c0_2) (h : spec_l25Make.f k l0_0 l0_1 l0_2 a0_3 a0_4 a1_0 a1_1 a1_2 a1_3 a1_4 a1_5 a1_6 = some (r1, r2, r3, r4, r5, r6)) :
  Calls Try.prog 78 #[.agg #[.slice A0_0 l0_0.length c0_0, .slice A0_1 l0_1.length c0_1, .slice A0_2 l0_2.length c0_2, .int .i64 a0_3, .int .i64 a0_4], .agg #[.int .i64 a1_0, .int .i64 a1_1, .int .i64 a1_2, .int .i64 a1_3, .int .i64 a1_4, .int .i64 a1_5, .int .i64 a1_6]] w fun e w' => ∃ v0_ v1_ v2_ : Value, e = .returned (.tuple #[.agg #[v0_, v1_, v2_, .int .i64 r4, .int .i64 r5], .bool r6]) ∧ Kd.R k37 37 w' w.heap.size (fun _ => True) v0_ r1 ∧ Kd.R Kd.bool 4 w' w.heap.size (fun k_ => some k_ ≠ (v2_ : Value).ownBlock) v1_ r2 ∧ Kd.R Kd.bool 4 w' w.heap.size (fun k_ => some k_ ≠ (v1_ : Value).ownBlock) v2_ r3 ∧ Below w.heap.size w w' := by
 have hu30 := Try.underlying30
 have hu39 := Try.underlying39
 have hu37 := Try.underlying37
 have hu28 := Try.underlying28
 have hu23 := Try.underlying23
 have HR0 := Aside0.mk hr0_0
 have HC0 := Aside0.mk hc0_0
 have HR1 := Aside0.mk hr0_1
 have HC1 := Aside0.mk hc0_1
 have HR2 := Aside0.mk hr0_2
 have HC2 := Aside0.mk hc0_2
 clear hr0_0 hc0_0 hr0_1 hc0_1 hr0_2 hc0_2
 have HB := Aside0.mk (Below.refl w.heap.size w)
 unfold spec_l25Make.f at h
 replace h := Option.bind_eq_some_iff.mp h
 obtain ⟨⟨L, V, D, p, t⟩, a1, h⟩ := h
 have A1 := Aside0.mk a1
 simp only at h
 clear a1
 have HF := Aside0.mk h
 clear h
 go_enter Try.func78, Try.ntmps78
 go_upto_block 0 with (first | ((with_reducible refine gate_dst (N := 2) rfl ?_); refine box_event ?hg (N := 2) ?hd (cs := #[.slice A0_0 l0_0.length c0_0, .slice A0_1 l0_1.length c0_1, .slice A0_2 l0_2.length c0_2, .int .i64 a0_3, .int .i64 a0_4]) (t := 30) ?hr ?_; (case hd => rfl); (case hg => rfl); (case hr => first | (go_simp; done) | (go_simp; rfl)); intro g2 hg w5 hbox hb; have BK2 := Aside0.mk hbox; replace HB := Aside0.mk (below_step HB.out hb); clear hb hbox hg) | ((with_reducible refine gate_dst (N := 3) rfl ?_); refine box_event ?hg (N := 3) ?hd (cs := #[.int .i64 a1_0, .int .i64 a1_1, .int .i64 a1_2, .int .i64 a1_3, .int .i64 a1_4, .int .i64 a1_5, .int .i64 a1_6]) (t := 39) ?hr ?_; (case hd => rfl); (case hg => rfl); (case hr => first | (go_simp; done) | (go_simp; rfl)); intro g3 hg w6 hbox hb; have BK3 := Aside0.mk hbox; replace BK2 := Aside0.mk (bb_ BK2.out hb); replace HB := Aside0.mk (below_step HB.out hb); clear hb hbox hg) | ((with_reducible refine gate_dst (N := 4) rfl ?_); refine box_event ?hg (N := 4) ?hd (cs := #[.slice none 0 0, .slice none 0 0, .slice none 0 0, .int .i64 0, .int .i64 0]) (t := 30) ?hr ?_; (case hd => rfl); (case hg => rfl); (case hr => first | (go_simp; done) | (go_simp; rfl)); intro g4 hg w7 hbox hb; have BK4 := Aside0.mk hbox; have G4 := Aside0.mk (bz_ hg HB.out); have N24 := Aside0.mk (nl_ hg BK2.out); replace BK2 := Aside0.mk (bb_ BK2.out hb); replace BK3 := Aside0.mk (bb_ BK3.out hb); replace HB := Aside0.mk (below_step HB.out hb); clear hb hbox hg; obtain ⟨hcz0, hcz1, hcz2, hcz3, hcz4⟩ := cz5_ BK2.out; obtain ⟨hfz0, hfz1, hfz2, hfz3, hfz4⟩ := fz5_ BK2.out) | ((with_reducible refine gate_callee (f := 84) rfl ?_); refine ga_ (some 9) Try.func84 #[.agg #[.slice A0_0 l0_0.length c0_0, .slice A0_1 l0_1.length c0_1, .slice A0_2 l0_2.length c0_2, .int .i64 a0_3, .int .i64 a0_4]] ?_; refine (spec_l25Own.calls _ _ l0_0 _ _ l0_1 _ _ l0_2 a0_3 a0_4 L V D p t _ (Kd.C_below HR0.out HB.out) HC0.out (Kd.C_below HR1.out HB.out) HC1.out (Kd.C_below HR2.out HB.out) HC2.out A1.out).mono ?_; rintro e w8 ⟨z0, z1, z2, rfl, h0, h1, h2, hb⟩; refine ⟨_, rfl, ?_⟩; obtain ⟨Ad, cd, ee⟩ := Kd.R_slice h0; subst ee; obtain ⟨Ae, ce, ee⟩ := Kd.R_slice h1; subst ee; obtain ⟨Af, cf, ee⟩ := Kd.R_slice h2; subst ee; have HO0 := Aside0.mk (Kd.R_lower h0 (below_size HB.out)); have HO1 := Aside0.mk (Kd.R_lower h1 (below_size HB.out)); have HO2 := Aside0.mk (Kd.R_lower h2 (below_size HB.out)); replace BK2 := Aside0.mk (bb_ BK2.out hb); replace BK3 := Aside0.mk (bb_ BK3.out hb); replace BK4 := Aside0.mk (bb_ BK4.out hb); replace HB := Aside0.mk (below_step HB.out hb); clear hb h0 h1 h2; clear hcz0 hfz0 hcz1 hfz1 hcz2 hfz2 hcz3 hfz3 hcz4 hfz4) | ((with_reducible refine gate_dst (N := 6) rfl ?_); refine box_event ?hg (N := 6) ?hd (cs := #[.slice none 0 0, .slice none 0 0, .slice none 0 0, .int .i64 0, .int .i64 0]) (t := 30) ?hr ?_; (case hd => rfl); (case hg => rfl); (case hr => first | (go_simp; done) | (go_simp; rfl)); intro g6 hg w9 hbox hb; have BK6 := Aside0.mk hbox; have G6 := Aside0.mk (bz_ hg HB.out); have N2 := Aside0.mk (nl_ hg BK2.out); have N3 := Aside0.mk (nl_ hg BK3.out); have N4 := Aside0.mk (nl_ hg BK4.out); replace BK2 := Aside0.mk (bb_ BK2.out hb); replace BK3 := Aside0.mk (bb_ BK3.out hb); replace BK4 := Aside0.mk (bb_ BK4.out hb); replace HO0 := Aside0.mk (Kd.R_below HO0.out hb); replace HO1 := Aside0.mk (Kd.R_below HO1.out hb); replace HO2 := Aside0.mk (Kd.R_below HO2.out hb); replace HB := Aside0.mk (below_step HB.out hb); clear hb hbox hg; have hcx : w9.cell? ⟨g3, 0, none⟩ = some (.int .i64 a1_0) := (blk_cell BK3.out 0).trans rfl; have hnb := N3.out; have hnc := N3.out.symm; obtain ⟨hcz0, hcz1, hcz2, hcz3, hcz4⟩ := cz5_ BK6.out; obtain ⟨hfz0, hfz1, hfz2, hfz3, hfz4⟩ := fz5_ BK6.out))
 clear hcz0 hfz0 hcz1 hfz1 hcz2 hfz2 hcz3 hfz3 hcz4 hfz4 hcx hnb hnc
 (try simp only [Act.put, List.setIfInBounds_toArray, List.set_cons_zero, List.set_cons_succ])
 have HM : Aside0 (MkS w g2 g3 g4 g6 #[.slice A0_0 l0_0.length c0_0, .slice A0_1 l0_1.length c0_1, .slice A0_2 l0_2.length c0_2, .int .i64 a0_3, .int .i64 a0_4] #[.int .i64 a1_0, .int .i64 a1_1, .int .i64 a1_2, .int .i64 a1_3, .int .i64 a1_4, .int .i64 a1_5, .int .i64 a1_6] (((((w9.setCell ⟨g6, 0, none⟩ (.slice Ad L.length cd)).setCell ⟨g6, 1, none⟩ (.slice Ae V.length ce)).setCell ⟨g6, 2, none⟩ (.slice Af D.length cf)).setCell ⟨g6, 3, none⟩ (.int .i64 p)).setCell ⟨g6, 4, none⟩ (.int .i64 t)) (.slice Ad L.length cd) (.slice Ae V.length ce) (.slice Af D.length cf) L V D p t) := ⟨⟨own_blk5 BK6.out (.slice Ad L.length cd) (.slice Ae V.length ce) (.slice Af D.length cf) (.int .i64 p) (.int .i64 t), G6.out, own_R5 HO0.out BK6.out (by decide) (.slice Ad L.length cd) (.slice Ae V.length ce) (.slice Af D.length cf) (.int .i64 p) (.int .i64 t), own_R5 HO1.out BK6.out (by decide) (.slice Ad L.length cd) (.slice Ae V.length ce) (.slice Af D.length cf) (.int .i64 p) (.int .i64 t), own_R5 HO2.out BK6.out (by decide) (.slice Ad L.length cd) (.slice Ae V.length ce) (.slice Af D.length cf) (.int .i64 p) (.int .i64 t)⟩, blk_far (p := ⟨g6, 4, none⟩) (blk_far (p := ⟨g6, 3, none⟩) (blk_far (p := ⟨g6, 2, none⟩) (blk_far (p := ⟨g6, 1, none⟩) (blk_far (p := ⟨g6, 0, none⟩) BK2.out N2.out (.slice Ad L.length cd)) N2.out (.slice Ae V.length ce)) N2.out (.slice Af D.length cf)) N2.out (.int .i64 p)) N2.out (.int .i64 t), blk_far (p := ⟨g6, 4, none⟩) (blk_far (p := ⟨g6, 3, none⟩) (blk_far (p := ⟨g6, 2, none⟩) (blk_far (p := ⟨g6, 1, none⟩) (blk_far (p := ⟨g6, 0, none⟩) BK3.out N3.out (.slice Ad L.length cd)) N3.out (.slice Ae V.length ce)) N3.out (.slice Af D.length cf)) N3.out (.int .i64 p)) N3.out (.int .i64 t), blk_far (p := ⟨g6, 4, none⟩) (blk_far (p := ⟨g6, 3, none⟩) (blk_far (p := ⟨g6, 2, none⟩) (blk_far (p := ⟨g6, 1, none⟩) (blk_far (p := ⟨g6, 0, none⟩) BK4.out N4.out (.slice Ad L.length cd)) N4.out (.slice Ae V.length ce)) N4.out (.slice Af D.length cf)) N4.out (.int .i64 p)) N4.out (.int .i64 t), below_set (below_set (below_set (below_set (below_set HB.out G6.out) G6.out) G6.out) G6.out) G6.out, N2.out, N3.out, N4.out⟩
 clear BK2 BK3 BK4 BK6 HO0 HO1 HO2 HB G6 N2 N3 N4
 generalize (((((w9.setCell ⟨g6, 0, none⟩ (.slice Ad L.length cd)).setCell ⟨g6, 1, none⟩ (.slice Ae V.length ce)).setCell ⟨g6, 2, none⟩ (.slice Af D.length cf)).setCell ⟨g6, 3, none⟩ (.int .i64 p)).setCell ⟨g6, 4, none⟩ (.int .i64 t)) = wa at HM ⊢
 have G4' := G4
 go_cut [7] (fun v7 wc => ∃ (ok : Bool) (u0 u1 u2 : Value) (L' : List S37) (V' D' : List Bool) (p' t' : Int), v7 = .bool ok ∧ Aside0 (MkS w g2 g3 g4 g6 #[.slice A0_0 l0_0.length c0_0, .slice A0_1 l0_1.length c0_1, .slice A0_2 l0_2.length c0_2, .int .i64 a0_3, .int .i64 a0_4] #[.int .i64 a1_0, .int .i64 a1_1, .int .i64 a1_2, .int .i64 a1_3, .int .i64 a1_4, .int .i64 a1_5, .int .i64 a1_6] wc u0 u1 u2 L' V' D' p' t') ∧ Aside0 ((if ok = true then (spec_l25Good.f k L' V' D' p' t').bind fun x => some (L', V', D', p', t', x) else some (L', V', D', p', t', false)) = some (r1, r2, r3, r4, r5, r6)))
 case first =>
  have h := HF.out
  clear HF G4' A1
  by_cases k1 : a1_0 = 1
  ·
   subst k1
   rw [if_pos rfl] at h
   by_cases i0 : 0 ≤ a1_1
   rotate_left
   ·
    rw [if_neg i0] at h
    cases h
   rw [if_pos i0] at h
   by_cases i1 : a1_1 < (l0_0.length : Int)
   rotate_left
   ·
    rw [if_neg i1] at h
    cases h
   rw [if_pos i1] at h
   replace h := Option.bind_eq_some_iff.mp h
   obtain ⟨⟨L', V', D', p', t', ok⟩, a2, h⟩ := h
   simp only at h
   have A2 := Aside0.mk a2
   have HH := Aside0.mk h
   clear a2 h
   obtain ⟨ad, ee, y0, y1, y2, y3, y4⟩ := at_T37 HR0.out a1_1 i0 i1
   subst ee
   have Y0 := Aside0.mk (bc_ HM.out.hB y0)
   have Y1 := Aside0.mk (bc_ HM.out.hB y1)
   have Y2 := Aside0.mk (bc_ HM.out.hB y2)
   have Y3 := Aside0.mk (bc_ HM.out.hB y3)
   have Y4 := Aside0.mk (bc_ HM.out.hB y4)
   have q0 : (0 ≤ a1_1) = True := eq_true i0
   have q1 : (a1_1 < (l0_0.length : Int)) = True := eq_true i1
   have q0' : decide (0 ≤ a1_1) = true := decide_eq_true i0
   have q1' : decide (a1_1 < (l0_0.length : Int)) = true := decide_eq_true i1
   clear y0 y1 y2 y3 y4 i0 i1
   go_wp2_with fail
   replace HM := Aside0.mk (HM.out.below (below_drew (Below.refl _ wa)))
   replace Y0 := Aside0.mk (bc_ (below_drew (Below.refl _ wa)) Y0.out)
   replace Y1 := Aside0.mk (bc_ (below_drew (Below.refl _ wa)) Y1.out)
   replace Y2 := Aside0.mk (bc_ (below_drew (Below.refl _ wa)) Y2.out)
   replace Y3 := Aside0.mk (bc_ (below_drew (Below.refl _ wa)) Y3.out)
   replace Y4 := Aside0.mk (bc_ (below_drew (Below.refl _ wa)) Y4.out)
   refine start_ (n := 20) (S := fun w' => w'.cell? ⟨g6, 0, none⟩ = some (.slice Ad L.length cd) ∧ w'.cell? ⟨g6, 1, none⟩ = some (.slice Ae V.length ce) ∧ w'.cell? ⟨g6, 2, none⟩ = some (.slice Af D.length cf) ∧ w'.cell? ⟨g6, 3, none⟩ = some (.int .i64 p) ∧ w'.cell? ⟨g6, 4, none⟩ = some (.int .i64 t) ∧ w'.cell? ⟨g2, 0, none⟩ = some (.slice (some ad) l0_0.length c0_0) ∧ w'.cell? ⟨g3, 1, none⟩ = some (.int .i64 a1_1) ∧ w'.cell? (ad.add (a1_1.toNat * 5)) = some (.int .i64 (rd_T37 l0_0 a1_1).f0) ∧ w'.cell? ⟨(ad.add (a1_1.toNat * 5)).block, (ad.add (a1_1.toNat * 5)).off + 1, none⟩ = some (.int .i64 (rd_T37 l0_0 a1_1).f1) ∧ w'.cell? ⟨(ad.add (a1_1.toNat * 5)).block, (ad.add (a1_1.toNat * 5)).off + 2, none⟩ = some (.int .i64 (rd_T37 l0_0 a1_1).f2) ∧ w'.cell? ⟨(ad.add (a1_1.toNat * 5)).block, (ad.add (a1_1.toNat * 5)).off + 3, none⟩ = some (.int .i64 (rd_T37 l0_0 a1_1).f3) ∧ w'.cell? ⟨(ad.add (a1_1.toNat * 5)).block, (ad.add (a1_1.toNat * 5)).off + 4, none⟩ = some (.int .i64 (rd_T37 l0_0 a1_1).f4)) (ds := [14, 18]) mk7.mk0 (by kernel_rfl) rfl rfl ⟨(blk_cell HM.out.ex.blk 0).trans rfl, (blk_cell HM.out.ex.blk 1).trans rfl, (blk_cell HM.out.ex.blk 2).trans rfl, (blk_cell HM.out.ex.blk 3).trans rfl, (blk_cell HM.out.ex.blk 4).trans rfl, (blk_cell HM.out.k2 0).trans rfl, (blk_cell HM.out.k3 1).trans rfl, Y0.out, Y1.out, Y2.out, Y3.out, Y4.out⟩ (fun hHeld => ?_); refine with_tabW mk7.tab mk7.bits (fun HT_ HW_ => ?_)
   generalize wa.drew = wb at HM Y0 Y1 Y2 Y3 Y4 hHeld ⊢
   refine pz_ HT_ 1 (some 25) mk7.mk1 ?_
   refine pz_ HT_ 3 (some 27) mk7.mk2 ?_
   refine pz_ HT_ 7 (some 31) mk7.mk3 ?_
   refine pz_ HT_ 9 (some 33) mk7.mk4 ?_
   refine tk_ HT_ HW_ hHeld 0 (some 24) mk7.mk5 ?_
   refine tk_ HT_ HW_ hHeld 2 (some 26) mk7.mk6 ?_
   refine tk_ HT_ HW_ hHeld 4 (some 28) mk7.mk7 ?_
   refine pz_ HT_ 5 (some 29) mk7.mk8 ?_
   refine tk_ HT_ HW_ hHeld 6 (some 30) mk7.mk9 ?_
   refine tk_ HT_ HW_ hHeld 8 (some 32) mk7.mk10 ?_
   refine tk_ HT_ HW_ hHeld 10 (some 34) mk7.mk11 ?_
   refine pz_ HT_ 11 (some 35) mk7.mk12 ?_
   refine pz_ HT_ 12 (some 36) mk7.mk13 ?_
   refine tk_ HT_ HW_ hHeld 13 (some 37) mk7.mk14 ?_
   refine last_ (i := 14) (N := some 38) mk7.mk15 rfl rfl (one_of HT_.out (by kernel_rfl)) (by decide) (fun K hK => ?_)
   refine gs_ Try.func107 #[.agg #[.slice Ad L.length cd, .slice Ae V.length ce, .slice Af D.length cf, .int .i64 p, .int .i64 t], .agg #[.int .i64 (rd_T37 l0_0 a1_1).f0, .int .i64 (rd_T37 l0_0 a1_1).f1, .int .i64 (rd_T37 l0_0 a1_1).f2, .int .i64 (rd_T37 l0_0 a1_1).f3, .int .i64 (rd_T37 l0_0 a1_1).f4], .int .i64 (rd_T37 l0_0 a1_1).f2] ?_
   refine (goX_ HM.out A2.out).mono ?_
   rintro e w1 ⟨B0, B1, B2, d0, d1, d2, rfl, hq, hm⟩
   refine ⟨_, rfl, ?_⟩
   replace HM := Aside0.mk hm
   have HQ := Aside0.mk hq
   clear hm hq
   refine hK.out _ _ ?_
   clear hK K
   refine na_ ?_
   refine pz_ HT_ 15 (some 23) mk7.mk16 ?_
   refine pz_ HT_ 16 (some 39) mk7.mk17 ?_
   refine pz_ HT_ 17 (some 40) mk7.mk18 ?_
   refine last_ (i := 18) (N := none) mk7.mk19 rfl rfl (one_of HT_.out (by kernel_rfl)) (by decide) (fun K hK => ?_)
   obtain ⟨hcz0, hcz1, hcz2, hcz3, hcz4⟩ := cz5_ HQ.out; obtain ⟨hfz0, hfz1, hfz2, hfz3, hfz4⟩ := fz5_ HQ.out
   refine skip_ (w1 := ?_) (by rfl) rfl ?_ ?_
   rotate_left
   ·
    go_simp
    rfl
   refine hK.out _ _ ?_
   clear hK K
   clear hcz0 hfz0 hcz1 hfz1 hcz2 hfz2 hcz3 hfz3 hcz4 hfz4
   refine pz_ HT_ 19 (some 7) mk7.mk20 ?_
   refine done_ (done_of HT_.out (by kernel_rfl)) ?_
   try go_wp2_with fail
   go_meet
   case rel => exact ⟨ok, _, _, _, L', V', D', p', t', rfl, HM, HH⟩
  rw [if_neg k1] at h
  by_cases k2 : a1_0 = 2
  ·
   subst k2
   rw [if_pos rfl] at h
   by_cases i0 : L.length < 3518437208883
   rotate_left
   ·
    rw [if_neg i0] at h
    cases h
   rw [if_pos i0] at h
   replace h := Option.bind_eq_some_iff.mp h
   obtain ⟨⟨L', V', D', p', t', ok⟩, a2, h⟩ := h
   simp only at h
   have h' : (if (a1_2 == a0_3) = true then (spec_l25Good.f k L' V' D' p' t').bind fun x => some (L', V', D', p', t', x) else some (L', V', D', p', t', false)) = some (r1, r2, r3, r4, r5, r6) := by simpa only [beq_iff_eq] using h
   obtain ⟨L2, hL2⟩ : ∃ x, x = L ++ [(⟨a1_2, a1_3, a1_4, a1_5, a1_6⟩ : S37)] := ⟨_, rfl⟩
   rw [← hL2] at a2
   have NL2 := Aside0.mk hL2
   clear hL2
   have A2 := Aside0.mk a2
   have HH := Aside0.mk h'
   have I0 := Aside0.mk i0
   clear a2 h h' i0 k1
   obtain ⟨hcza0, hcza1, hcza2, hcza3, hcza4, hcza5, hcza6⟩ := cz7_ HM.out.k3; obtain ⟨hfza0, hfza1, hfza2, hfza3, hfza4, hfza5, hfza6⟩ := fz7_ HM.out.k3
   obtain ⟨hczb0, hczb1, hczb2, hczb3, hczb4⟩ := cz5_ HM.out.ex.blk; obtain ⟨hfzb0, hfzb1, hfzb2, hfzb3, hfzb4⟩ := fz5_ HM.out.ex.blk
   go_wp2_with (first | ((with_reducible refine gate_builtin (b := .append) (xs := #[.tmp 44, .tmp 47]) rfl ?_); at_builtin; refine Kd.R_append k37 (w0 := w) w.heap.size rfl (.tmp 44) (.tmp 47) 28 37 (.agg #[(.int .i64 0), (.int .i64 0), (.int .i64 0), (.int .i64 0), (.int .i64 0)]) 40 rfl Try.underlying28 info37 rfl (by decide) (by omega) (.slice Ad L.length cd) L (⟨a1_2, a1_3, a1_4, a1_5, a1_6⟩ : S37) [.int .i64 a1_2, .int .i64 a1_3, .int .i64 a1_4, .int .i64 a1_5, .int .i64 a1_6] (fun _ => True) (fun _ => False) rfl (by first | (go_simp; done) | (go_simp; rfl)) (k37_mkM _ _ _ (⟨a1_2, a1_3, a1_4, a1_5, a1_6⟩ : S37)) (fun _ hk => hk.elim) (fun _ _ => trivial) HM.out.ex.rL HM.out.hB (below_size HM.out.hB) (by have := I0.out; omega) ?_; intro z w1 ho hb hg hat; rw [← NL2.out] at ho; obtain ⟨hq, hm⟩ := MkS.app HM.out hb ho hg; have hk3 := blk_ap HM.out.ex.rL HM.out.k3 (by decide) hg; have hk2 := blk_ap HM.out.ex.rL HM.out.k2 (by decide) hg; obtain ⟨B0, d0, ee⟩ := Kd.R_slice ho; subst ee; replace HM := Aside0.mk hm; have HQ := Aside0.mk hq; clear hm hq ho hb hg hat hcza0 hfza0 hcza1 hfza1 hcza2 hfza2 hcza3 hfza3 hcza4 hfza4 hcza5 hfza5 hcza6 hfza6 hczb0 hfzb0 hczb1 hfzb1 hczb2 hfzb2 hczb3 hfzb3 hczb4 hfzb4; obtain ⟨hcz0, hcz1, hcz2, hcz3, hcz4⟩ := cz5_ HQ.out; obtain ⟨hfz0, hfz1, hfz2, hfz3, hfz4⟩ := fz5_ HQ.out; obtain ⟨hcza0, hcza1, hcza2, hcza3, hcza4, hcza5, hcza6⟩ := cz7_ hk3; obtain ⟨hfza0, hfza1, hfza2, hfza3, hfza4, hfza5, hfza6⟩ := fz7_ hk3; have x2 : w1.cell? ⟨g2, 3, none⟩ = some (.int .i64 a0_3) := (blk_cell hk2 3).trans rfl; have hnb2 := HM.out.n2; have hnc2 := HM.out.n2.symm; have hnb3 := HM.out.n3; have hnc3 := HM.out.n3.symm) | ((with_reducible refine gate_callee (f := 107) rfl ?_); refine ga_ (some 64) Try.func107 #[.agg #[.slice B0 L2.length d0, .slice Ae V.length ce, .slice Af D.length cf, .int .i64 p, .int .i64 t], .agg #[.int .i64 a1_2, .int .i64 a1_3, .int .i64 a1_4, .int .i64 a1_5, .int .i64 a1_6], .int .i64 (wrap64 (3 * a1_4))] ?_; refine (goX_ HM.out A2.out).mono ?_; rintro e w2 ⟨B0, B1, B2, d0, d1, d2, rfl, hq, hm⟩; refine ⟨_, rfl, ?_⟩; replace HM := Aside0.mk hm; have HQ := Aside0.mk hq; clear hm hq x2 hk2 hk3 hnb2 hnc2 hnb3 hnc3 hcza0 hfza0 hcza1 hfza1 hcza2 hfza2 hcza3 hfza3 hcza4 hfza4 hcza5 hfza5 hcza6 hfza6 hcz0 hfz0 hcz1 hfz1 hcz2 hfz2 hcz3 hfz3 hcz4 hfz4; obtain ⟨hcz0, hcz1, hcz2, hcz3, hcz4⟩ := cz5_ HQ.out; obtain ⟨hfz0, hfz1, hfz2, hfz3, hfz4⟩ := fz5_ HQ.out))
   go_meet
   case rel => exact ⟨(a1_2 == a0_3), _, _, _, L', V', D', p', t', rfl, HM, HH⟩
  rw [if_neg k2] at h
  by_cases k3 : a1_0 = 3
  ·
   subst k3
   rw [if_pos rfl] at h
   by_cases i0 : 0 ≤ a0_3
   rotate_left
   ·
    rw [if_neg i0] at h
    cases h
   rw [if_pos i0] at h
   by_cases i1 : a0_3 < (l0_2.length : Int)
   rotate_left
   ·
    rw [if_neg i1] at h
    cases h
   rw [if_pos i1] at h
   by_cases i2 : a0_3 < (D.length : Int)
   rotate_left
   ·
    rw [if_neg i2] at h
    cases h
   rw [if_pos i2] at h
   simp only [Option.bind_some] at h
   have h' : (if (!(rdOf false l0_2 a0_3)) = true then (spec_l25Good.f k L V (D.set a0_3.toNat true) p t).bind fun x => some (L, V, D.set a0_3.toNat true, p, t, x) else some (L, V, D.set a0_3.toNat true, p, t, false)) = some (r1, r2, r3, r4, r5, r6) := by
    cases hx : rdOf false l0_2 a0_3
    ·
     rw [hx, if_neg (by decide)] at h
     rw [if_pos (by decide)]
     exact h
    ·
     rw [hx, if_pos rfl] at h
     rw [if_neg (by decide)]
     exact h
   have HH := Aside0.mk h'
   clear h h' k1 k2
   obtain ⟨ad, ee, y0⟩ := Kd.at_bool HR2.out a0_3 i0 i1
   subst ee
   replace y0 := bc_ HM.out.hB y0
   obtain ⟨gv, cap, eo, _⟩ := own_block_ HM.out.ex.rD (by omega)
   injection eo with eo1 eo2 eo3
   clear eo2
   subst eo1
   subst eo3
   obtain ⟨y1, z1⟩ := Kd.R_celln false HM.out.ex.rD a0_3 i0 i2
   have q0 : (0 ≤ a0_3) = True := eq_true i0
   have q1 : (a0_3 < (l0_2.length : Int)) = True := eq_true i1
   have q2 : (a0_3 < (D.length : Int)) = True := eq_true i2
   have q0' : decide (0 ≤ a0_3) = true := decide_eq_true i0
   have q1' : decide (a0_3 < (l0_2.length : Int)) = true := decide_eq_true i1
   have q2' : decide (a0_3 < (D.length : Int)) = true := decide_eq_true i2
   clear i0 i1 i2
   have x2 : wa.cell? ⟨g2, 2, none⟩ = some (.slice (some ad) l0_2.length c0_2) := (blk_cell HM.out.k2 2).trans rfl
   have x4 : wa.cell? ⟨g2, 3, none⟩ = some (.int .i64 a0_3) := (blk_cell HM.out.k2 3).trans rfl
   have x6 : wa.cell? ⟨g6, 2, none⟩ = some (.slice (some ⟨gv, 0, none⟩) D.length cf) := (blk_cell HM.out.ex.blk 2).trans rfl
   go_wp2_with fail
   go_meet
   case rel => exact ⟨(!(rdOf false l0_2 a0_3)), _, _, _, L, V, D.set a0_3.toNat true, p, t, rfl, ⟨HM.out.lead a0_3 true⟩, HH⟩
  rw [if_neg k3] at h
  have h' : (if (a0_3 == 0) = true then (spec_l25Good.f k L V D p (wrap64 (a0_4 + a1_1))).bind fun x => some (L, V, D, p, wrap64 (a0_4 + a1_1), x) else some (L, V, D, p, wrap64 (a0_4 + a1_1), false)) = some (r1, r2, r3, r4, r5, r6) := by simpa only [beq_iff_eq] using h
  have HH := Aside0.mk h'
  have n1 : (a1_0 == 1) = false := beq_eq_false_iff_ne.mpr k1
  have n2 : (a1_0 == 2) = false := beq_eq_false_iff_ne.mpr k2
  have n3 : (a1_0 == 3) = false := beq_eq_false_iff_ne.mpr k3
  clear h h' k1 k2 k3
  have x4 : wa.cell? ⟨g3, 1, none⟩ = some (.int .i64 a1_1) := (blk_cell HM.out.k3 1).trans rfl
  have x2 : wa.cell? ⟨g2, 3, none⟩ = some (.int .i64 a0_3) := (blk_cell HM.out.k2 3).trans rfl
  have x5 : wa.cell? ⟨g2, 4, none⟩ = some (.int .i64 a0_4) := (blk_cell HM.out.k2 4).trans rfl
  have x6 : wa.cell? ⟨g6, 4, none⟩ = some (.int .i64 t) := (blk_cell HM.out.ex.blk 4).trans rfl
  have z6 := blk_frozen HM.out.ex.blk 4
  go_wp2_with fail
  go_meet
  case rel => exact ⟨(a0_3 == 0), _, _, _, L, V, D, p, wrap64 (a0_4 + a1_1), rfl, ⟨HM.out.light (wrap64 (a0_4 + a1_1))⟩, HH⟩
 case rest =>
  clear HF HM A1 G4'
  obtain ⟨ok, u0, u1, u2, L', V', D', p', t', rfl, HM, HH⟩ := hcut
  obtain ⟨Aj, cj, ee⟩ := Kd.R_slice HM.out.ex.rL
  subst ee
  obtain ⟨Ak, ck, ee⟩ := Kd.R_slice HM.out.ex.rV
  subst ee
  obtain ⟨Al, cl, ee⟩ := Kd.R_slice HM.out.ex.rD
  subst ee
  have h := HH.out
  clear HH
  cases ok with
  | false =>
   rw [if_neg (by decide)] at h
   simp only [Option.some.injEq, Prod.mk.injEq] at h
   obtain ⟨rfl, rfl, rfl, rfl, rfl, rfl⟩ := h
   go_wp2_with fail
   replace HM := Aside0.mk (HM.out.below (below_drew (Below.refl _ wc)))
   refine start_ (n := 8) (S := fun w' => w'.cell? ⟨g6, 0, none⟩ = some (.slice Aj L'.length cj) ∧ w'.cell? ⟨g6, 1, none⟩ = some (.slice Ak V'.length ck) ∧ w'.cell? ⟨g6, 2, none⟩ = some (.slice Al D'.length cl) ∧ w'.cell? ⟨g6, 3, none⟩ = some (.int .i64 p') ∧ w'.cell? ⟨g6, 4, none⟩ = some (.int .i64 t')) (ds := [6]) mk15.mk0 (by kernel_rfl) rfl rfl ⟨(blk_cell HM.out.ex.blk 0).trans rfl, (blk_cell HM.out.ex.blk 1).trans rfl, (blk_cell HM.out.ex.blk 2).trans rfl, (blk_cell HM.out.ex.blk 3).trans rfl, (blk_cell HM.out.ex.blk 4).trans rfl⟩ (fun hHeld => ?_); refine with_tabW mk15.tab mk15.bits (fun HT_ HW_ => ?_)
   generalize wc.drew = wd at HM hHeld ⊢
   refine pz_ HT_ 1 (some 82) mk15.mk1 ?_
   refine pz_ HT_ 2 (some 83) mk15.mk2 ?_
   refine tk_ HT_ HW_ hHeld 0 (some 81) mk15.mk3 ?_
   refine pu_ HT_ 3 (some 84) mk15.mk4 ?_
   refine pu_ HT_ 4 (some 85) mk15.mk5 ?_
   refine pz_ HT_ 5 (some 86) mk15.mk6 ?_
   refine last_ (i := 6) (N := none) mk15.mk7 rfl rfl (one_of HT_.out (by kernel_rfl)) (by decide) (fun K hK => ?_)
   obtain ⟨hcz0, hcz1, hcz2, hcz3, hcz4⟩ := cz5_ HM.out.k4; obtain ⟨hfz0, hfz1, hfz2, hfz3, hfz4⟩ := fz5_ HM.out.k4
   refine skip_ (w1 := ?_) (by rfl) rfl ?_ ?_
   rotate_left
   ·
    go_simp
    rfl
   refine hK.out _ _ ?_
   clear hK K
   clear hcz0 hfz0 hcz1 hfz1 hcz2 hfz2 hcz3 hfz3 hcz4 hfz4
   refine pz_ HT_ 7 (some 5) mk15.mk8 ?_
   refine done_ (done_of HT_.out (by kernel_rfl)) ?_
   go_wp2_with fail
   refine bodyPost_ret (results_ct rfl _ _ g4 30 #[.slice Aj L'.length cj, .slice Ak V'.length ck, .slice Al D'.length cl, .int .i64 p', .int .i64 t'] (0, 0) _ rfl (own_blk5 HM.out.k4 (.slice Aj L'.length cj) (.slice Ak V'.length ck) (.slice Al D'.length cl) (.int .i64 p') (.int .i64 t')) Try.underlying30 rfl (by kernel_rfl)) rfl ?_
   exact ⟨_, _, _, rr_, own_R5 HM.out.ex.rL HM.out.k4 (by decide) (.slice Aj L'.length cj) (.slice Ak V'.length ck) (.slice Al D'.length cl) (.int .i64 p') (.int .i64 t'), own_R5 HM.out.ex.rV HM.out.k4 (by decide) (.slice Aj L'.length cj) (.slice Ak V'.length ck) (.slice Al D'.length cl) (.int .i64 p') (.int .i64 t'), own_R5 HM.out.ex.rD HM.out.k4 (by decide) (.slice Aj L'.length cj) (.slice Ak V'.length ck) (.slice Al D'.length cl) (.int .i64 p') (.int .i64 t'), below_set (below_set (below_set (below_set (below_set HM.out.hB G4.out) G4.out) G4.out) G4.out) G4.out⟩
  | true =>
   rw [if_pos rfl] at h
   replace h := Option.bind_eq_some_iff.mp h
   obtain ⟨q, a2, h⟩ := h
   have A2 := Aside0.mk a2
   clear a2
   simp only [Option.some.injEq, Prod.mk.injEq] at h
   obtain ⟨rfl, rfl, rfl, rfl, rfl, rfl⟩ := h
   go_wp2_with fail
   replace HM := Aside0.mk (HM.out.below (below_drew (Below.refl _ wc)))
   refine start_ (n := 8) (S := fun w' => w'.cell? ⟨g6, 0, none⟩ = some (.slice Aj L'.length cj) ∧ w'.cell? ⟨g6, 1, none⟩ = some (.slice Ak V'.length ck) ∧ w'.cell? ⟨g6, 2, none⟩ = some (.slice Al D'.length cl) ∧ w'.cell? ⟨g6, 3, none⟩ = some (.int .i64 p') ∧ w'.cell? ⟨g6, 4, none⟩ = some (.int .i64 t')) (ds := [6]) mk15.mk0 (by kernel_rfl) rfl rfl ⟨(blk_cell HM.out.ex.blk 0).trans rfl, (blk_cell HM.out.ex.blk 1).trans rfl, (blk_cell HM.out.ex.blk 2).trans rfl, (blk_cell HM.out.ex.blk 3).trans rfl, (blk_cell HM.out.ex.blk 4).trans rfl⟩ (fun hHeld => ?_); refine with_tabW mk15.tab mk15.bits (fun HT_ HW_ => ?_)
   generalize wc.drew = wd at HM hHeld ⊢
   refine pz_ HT_ 1 (some 82) mk15.mk1 ?_
   refine pz_ HT_ 2 (some 83) mk15.mk2 ?_
   refine tk_ HT_ HW_ hHeld 0 (some 81) mk15.mk3 ?_
   refine tk_ HT_ HW_ hHeld 3 (some 84) mk15.mk4 ?_
   refine one_ (i := 4) (N := some 85) mk15.mk5 rfl rfl (one_of HT_.out (by kernel_rfl)) (by decide) (fun K hK => ?_)
   refine gs_ Try.func67 #[.agg #[.slice Aj L'.length cj, .slice Ak V'.length ck, .slice Al D'.length cl, .int .i64 p', .int .i64 t']] ?_
   refine (spec_l25Good.calls k _ _ L' _ _ V' _ _ D' p' t' q _ (Kd.R_reads' HM.out.ex.rL).2.2 (Kd.R_reads' HM.out.ex.rL).2.1 (Kd.R_reads' HM.out.ex.rV).2.2 (Kd.R_reads' HM.out.ex.rV).2.1 (Kd.R_reads' HM.out.ex.rD).2.2 (Kd.R_reads' HM.out.ex.rD).2.1 A2.out).mono ?_
   rintro e we ⟨rfl, hb⟩
   refine ⟨_, rfl, ?_⟩
   replace HM := Aside0.mk (HM.out.below hb)
   clear hb
   refine hK.out _ _ ⟨(blk_cell HM.out.ex.blk 0).trans rfl, (blk_cell HM.out.ex.blk 1).trans rfl, (blk_cell HM.out.ex.blk 2).trans rfl, (blk_cell HM.out.ex.blk 3).trans rfl, (blk_cell HM.out.ex.blk 4).trans rfl⟩ (fun hHeld => ?_)
   clear hK K
   refine na_ ?_
   refine pz_ HT_ 5 (some 86) mk15.mk6 ?_
   refine last_ (i := 6) (N := none) mk15.mk7 rfl rfl (one_of HT_.out (by kernel_rfl)) (by decide) (fun K hK => ?_)
   obtain ⟨hcz0, hcz1, hcz2, hcz3, hcz4⟩ := cz5_ HM.out.k4; obtain ⟨hfz0, hfz1, hfz2, hfz3, hfz4⟩ := fz5_ HM.out.k4
   refine skip_ (w1 := ?_) (by rfl) rfl ?_ ?_
   rotate_left
   ·
    go_simp
    rfl
   refine hK.out _ _ ?_
   clear hK K
   clear hcz0 hfz0 hcz1 hfz1 hcz2 hfz2 hcz3 hfz3 hcz4 hfz4
   refine pz_ HT_ 7 (some 5) mk15.mk8 ?_
   refine done_ (done_of HT_.out (by kernel_rfl)) ?_
   go_wp2_with fail
   refine bodyPost_ret (results_ct rfl _ _ g4 30 #[.slice Aj L'.length cj, .slice Ak V'.length ck, .slice Al D'.length cl, .int .i64 p', .int .i64 t'] (0, 0) _ rfl (own_blk5 HM.out.k4 (.slice Aj L'.length cj) (.slice Ak V'.length ck) (.slice Al D'.length cl) (.int .i64 p') (.int .i64 t')) Try.underlying30 rfl (by kernel_rfl)) rfl ?_
   exact ⟨_, _, _, rr_, own_R5 HM.out.ex.rL HM.out.k4 (by decide) (.slice Aj L'.length cj) (.slice Ak V'.length ck) (.slice Al D'.length cl) (.int .i64 p') (.int .i64 t'), own_R5 HM.out.ex.rV HM.out.k4 (by decide) (.slice Aj L'.length cj) (.slice Ak V'.length ck) (.slice Al D'.length cl) (.int .i64 p') (.int .i64 t'), own_R5 HM.out.ex.rD HM.out.k4 (by decide) (.slice Aj L'.length cj) (.slice Ak V'.length ck) (.slice Al D'.length cl) (.int .i64 p') (.int .i64 t'), below_set (below_set (below_set (below_set (below_set HM.out.hB G4.out) G4.out) G4.out) G4.out) G4.out⟩
def spec_WalkOn.j0 : Nat → Bool → List (S37) → List Bool → List Bool → Int → Int → Int → Int → Int → Int → Int → Int → Int → Option ((List (S37)) × List Bool × List Bool × Int × Int × Bool)
 | 0, _, _, _, _, _, _, _, _, _, _, _, _, _ => none
 | k + 1, x16, x290000, x290001, x290002, x290003, x290004, x291000, x291001, x291002, x291003, x291004, x291005, x291006 => if x16 = true then (some (([] : List (S37)), ([] : List Bool), ([] : List Bool), 0, 0, false)) else ((spec_l25Make.f k x290000 x290001 x290002 x290003 x290004 x291000 x291001 x291002 x291003 x291004 x291005 x291006).bind fun bt294 => (if bt294.2.2.2.2.2 = true then (some (bt294.1, bt294.2.1, bt294.2.2.1, bt294.2.2.2.1, bt294.2.2.2.2.1, true)) else (some (([] : List (S37)), ([] : List Bool), ([] : List Bool), 0, 0, false))))
def spec_WalkOn.f (k : Nat) (l0_0 : List (S37)) (l0_1 : List Bool) (l0_2 : List Bool) (a0_3 : Int) (a0_4 : Int) (a1_0 : Int) (a1_1 : Int) (a1_2 : Int) (a1_3 : Int) (a1_4 : Int) (a1_5 : Int) (a1_6 : Int) : Option ((List (S37)) × List Bool × List Bool × Int × Int × Bool) := (spec_l25Good.f k l0_0 l0_1 l0_2 a0_3 a0_4).bind fun t292 => (if t292 = true then ((spec_l25Walk.f l0_0 l0_1 l0_2 a0_3 a0_4 a1_0 a1_1 a1_2 a1_3 a1_4 a1_5 a1_6).bind fun t293 => (spec_WalkOn.j0 k (!t293) l0_0 l0_1 l0_2 a0_3 a0_4 a1_0 a1_1 a1_2 a1_3 a1_4 a1_5 a1_6)) else (spec_WalkOn.j0 k true l0_0 l0_1 l0_2 a0_3 a0_4 a1_0 a1_1 a1_2 a1_3 a1_4 a1_5 a1_6))
set_option maxHeartbeats 8000000 in
set_option maxRecDepth 100000 in
theorem spec_WalkOn.calls (k : Nat) (A0_0 : Option Addr) (c0_0 : Nat) (l0_0 : List (S37)) (A0_1 : Option Addr) (c0_1 : Nat) (l0_1 : List Bool) (A0_2 : Option Addr) (c0_2 : Nat) (l0_2 : List Bool) (a0_3 : Int) (a0_4 : Int) (a1_0 : Int) (a1_1 : Int) (a1_2 : Int) (a1_3 : Int) (a1_4 : Int) (a1_5 : Int) (a1_6 : Int) (r1 : List (S37)) (r2 : List Bool) (r3 : List Bool) (r4 : Int) (r5 : Int) (r6 : Bool) (w : World) (hr0_0 : Kd.C k37 w A0_0 l0_0.length l0_0) (hc0_0 : l0_0.length ≤ c0_0) (hr0_1 : Kd.C Kd.bool w A0_1 l0_1.length l0_1) (hc0_1 : l0_1.length ≤ c0_1) (hr0_2 : Kd.C Kd.bool w A0_2 l0_2.length l0_2) (hc0_2 : l0_2.length ≤ c0_2) (h : spec_WalkOn.f k l0_0 l0_1 l0_2 a0_3 a0_4 a1_0 a1_1 a1_2 a1_3 a1_4 a1_5 a1_6 = some (r1, r2, r3, r4, r5, r6)) :
  Calls Try.prog 23 #[.agg #[.slice A0_0 l0_0.length c0_0, .slice A0_1 l0_1.length c0_1, .slice A0_2 l0_2.length c0_2, .int .i64 a0_3, .int .i64 a0_4], .agg #[.int .i64 a1_0, .int .i64 a1_1, .int .i64 a1_2, .int .i64 a1_3, .int .i64 a1_4, .int .i64 a1_5, .int .i64 a1_6]] w fun e w' => ∃ v0_ v1_ v2_ : Value, e = .returned (.tuple #[.agg #[v0_, v1_, v2_, .int .i64 r4, .int .i64 r5], .bool r6]) ∧ Kd.R k37 37 w' w.heap.size (fun _ => True) v0_ r1 ∧ Kd.R Kd.bool 4 w' w.heap.size (fun k_ => some k_ ≠ (v2_ : Value).ownBlock) v1_ r2 ∧ Kd.R Kd.bool 4 w' w.heap.size (fun k_ => some k_ ≠ (v1_ : Value).ownBlock) v2_ r3 ∧ Below w.heap.size w w' := by
 have hu30 := Try.underlying30
 have hu39 := Try.underlying39
 have HR0_0 := Aside0.mk hr0_0
 have HC0_0 := Aside0.mk hc0_0
 clear hr0_0 hc0_0
 have HR0_1 := Aside0.mk hr0_1
 have HC0_1 := Aside0.mk hc0_1
 clear hr0_1 hc0_1
 have HR0_2 := Aside0.mk hr0_2
 have HC0_2 := Aside0.mk hc0_2
 clear hr0_2 hc0_2
 have HB := Aside0.mk (Below.refl w.heap.size w)
 have H : ((spec_l25Good.f k l0_0 l0_1 l0_2 a0_3 a0_4).bind fun t292 => (if t292 = true then ((spec_l25Walk.f l0_0 l0_1 l0_2 a0_3 a0_4 a1_0 a1_1 a1_2 a1_3 a1_4 a1_5 a1_6).bind fun t293 => (spec_WalkOn.j0 k (!t293) l0_0 l0_1 l0_2 a0_3 a0_4 a1_0 a1_1 a1_2 a1_3 a1_4 a1_5 a1_6)) else (spec_WalkOn.j0 k true l0_0 l0_1 l0_2 a0_3 a0_4 a1_0 a1_1 a1_2 a1_3 a1_4 a1_5 a1_6))) = some (r1, r2, r3, r4, r5, r6) := h
 clear h
 have HC3 := Aside0.mk H
 clear H
 go_enter Try.func23, Try.ntmps23
 go_upto_region 1 with (first | ((with_reducible refine gate_dst (N := 2) rfl ?_); refine box_event ?hg (N := 2) ?hd (cs := #[.slice A0_0 l0_0.length c0_0, .slice A0_1 l0_1.length c0_1, .slice A0_2 l0_2.length c0_2, .int .i64 a0_3, .int .i64 a0_4]) (t := 30) ?hr ?_; (case hd => rfl); (case hg => rfl); (case hr => first | (go_simp; done) | (go_simp; rfl)); intro gb289 hg w4 hbox hb; have BK289 := Aside0.mk (hbox); have GW289 := Aside0.mk ((bz_ hg (lb0_ HB.out))); have GE289 := Aside0.mk ((bz_ hg (lb0_ HB.out))); replace HB := Aside0.mk (below_step (lb0_ HB.out) hb); clear hb hbox hg) | ((with_reducible refine gate_dst (N := 3) rfl ?_); refine box_event ?hg (N := 3) ?hd (cs := #[.int .i64 a1_0, .int .i64 a1_1, .int .i64 a1_2, .int .i64 a1_3, .int .i64 a1_4, .int .i64 a1_5, .int .i64 a1_6]) (t := 39) ?hr ?_; (case hd => rfl); (case hg => rfl); (case hr => first | (go_simp; done) | (go_simp; rfl)); intro gb290 hg w5 hbox hb; have BK290 := Aside0.mk (hbox); have GW290 := Aside0.mk ((bz_ hg (lb1_ HB.out GE289.out))); have GE290 := Aside0.mk ((bz_ hg (lb1_ HB.out GE289.out))); replace HB := Aside0.mk (below_step (lb1_ HB.out GE289.out) hb); have NB289_290 := Aside0.mk (nl_ hg BK289.out); have NB290_289 := Aside0.mk (ng_ hg BK289.out); replace BK289 := Aside0.mk (bb_ (bk_ BK289.out) hb); clear hb hbox hg) | ((with_reducible refine gate_dst (N := 4) rfl ?_); refine box_event ?hg (N := 4) ?hd (cs := #[.slice none 0 0, .slice none 0 0, .slice none 0 0, .int .i64 0, .int .i64 0]) (t := 30) ?hr ?_; (case hd => rfl); (case hg => rfl); (case hr => first | (go_simp; done) | (go_simp; rfl)); intro gb291 hg w6 hbox hb; have BK291 := Aside0.mk (hbox); have GW291 := Aside0.mk ((bz_ hg (lb2_ HB.out GE289.out GE290.out))); have GE291 := Aside0.mk ((bz_ hg (lb2_ HB.out GE289.out GE290.out))); replace HB := Aside0.mk (below_step (lb2_ HB.out GE289.out GE290.out) hb); have NB289_291 := Aside0.mk (nl_ hg BK289.out); have NB291_289 := Aside0.mk (ng_ hg BK289.out); replace BK289 := Aside0.mk (bb_ (bk_ BK289.out) hb); have NB290_291 := Aside0.mk (nl_ hg BK290.out); have NB291_290 := Aside0.mk (ng_ hg BK290.out); replace BK290 := Aside0.mk (bb_ (bk_ BK290.out) hb); clear hb hbox hg))
 (try simp only [Act.put, List.setIfInBounds_toArray, List.set_cons_zero, List.set_cons_succ])
 go_cut [16] (fun v16 wc => ∃ (kq : Nat) (x16_2 : Bool), v16 = .bool x16_2 ∧ Aside0 (spec_WalkOn.j0 kq x16_2 l0_0 l0_1 l0_2 a0_3 a0_4 a1_0 a1_1 a1_2 a1_3 a1_4 a1_5 a1_6 = some (r1, r2, r3, r4, r5, r6)) ∧ Aside0 (kq ≤ k) ∧ Aside0 (wc.heap[gb289]? = some (.cells #[(.slice A0_0 l0_0.length c0_0), (.slice A0_1 l0_1.length c0_1), (.slice A0_2 l0_2.length c0_2), .int .i64 a0_3, .int .i64 a0_4] 30 (0, 0))) ∧ Aside0 (wc.heap[gb290]? = some (.cells #[.int .i64 a1_0, .int .i64 a1_1, .int .i64 a1_2, .int .i64 a1_3, .int .i64 a1_4, .int .i64 a1_5, .int .i64 a1_6] 39 (0, 0))) ∧ Aside0 (wc.heap[gb291]? = some (.cells #[(.slice none 0 0), (.slice none 0 0), (.slice none 0 0), .int .i64 0, .int .i64 0] 30 (0, 0))) ∧ Aside0 (Below w.heap.size w wc))
 case first =>
  have H := HC3.out
  clear HC3
  replace H := Option.bind_eq_some_iff.mp H
  obtain ⟨t292, A70, H⟩ := H
  replace H : (if t292 = true then ((spec_l25Walk.f l0_0 l0_1 l0_2 a0_3 a0_4 a1_0 a1_1 a1_2 a1_3 a1_4 a1_5 a1_6).bind fun t293 => (spec_WalkOn.j0 k (!t293) l0_0 l0_1 l0_2 a0_3 a0_4 a1_0 a1_1 a1_2 a1_3 a1_4 a1_5 a1_6)) else (spec_WalkOn.j0 k true l0_0 l0_1 l0_2 a0_3 a0_4 a1_0 a1_1 a1_2 a1_3 a1_4 a1_5 a1_6)) = some (r1, r2, r3, r4, r5, r6) := H
  have A7 := Aside0.mk A70
  clear A70
  by_cases c8 : t292 = true
  ·
   subst c8
   have H1 : ((spec_l25Walk.f l0_0 l0_1 l0_2 a0_3 a0_4 a1_0 a1_1 a1_2 a1_3 a1_4 a1_5 a1_6).bind fun t293 => (spec_WalkOn.j0 k (!t293) l0_0 l0_1 l0_2 a0_3 a0_4 a1_0 a1_1 a1_2 a1_3 a1_4 a1_5 a1_6)) = some (r1, r2, r3, r4, r5, r6) := by rw [if_pos rfl] at H; exact H
   clear H
   have H := H1
   clear H1
   replace H := Option.bind_eq_some_iff.mp H
   obtain ⟨t293, A90, H⟩ := H
   replace H : (spec_WalkOn.j0 k (!t293) l0_0 l0_1 l0_2 a0_3 a0_4 a1_0 a1_1 a1_2 a1_3 a1_4 a1_5 a1_6) = some (r1, r2, r3, r4, r5, r6) := H
   have A9 := Aside0.mk A90
   clear A90
   have H' := Aside0.mk H
   clear H
   have hnb10 := NB289_290.out
   have hnc10 := NB290_289.out
   have hnb11 := NB289_291.out
   have hnc11 := NB291_289.out
   obtain ⟨hcz12_0, hcz12_1, hcz12_2, hcz12_3, hcz12_4⟩ := cz5_ BK289.out
   obtain ⟨hfz12_0, hfz12_1, hfz12_2, hfz12_3, hfz12_4⟩ := fz5_ BK289.out
   go_wp2_with (first | ((with_reducible refine gate_callee (f := 67) rfl ?_); refine ga_ (some 9) Try.func67 #[.agg #[.slice A0_0 l0_0.length c0_0, .slice A0_1 l0_1.length c0_1, .slice A0_2 l0_2.length c0_2, .int .i64 a0_3, .int .i64 a0_4]] ?_; (with_reducible refine (spec_l25Good.calls k _ _ l0_0 _ _ l0_1 _ _ l0_2 a0_3 a0_4 true _ ?side1 ?side2 ?side3 ?side4 ?side5 ?side6 A7.out).mono ?_); (case side1 => exact kc_ (Kd.C_below HR0_0.out HB.out)); (case side2 => exact HC0_0.out); (case side3 => exact kc_ (Kd.C_below HR0_1.out HB.out)); (case side4 => exact HC0_1.out); (case side5 => exact kc_ (Kd.C_below HR0_2.out HB.out)); (case side6 => exact HC0_2.out); rintro e w13 ⟨rfl, hb⟩; refine ⟨_, rfl, ?_⟩; replace BK289 := Aside0.mk (bb_ (bk_ BK289.out) hb); replace BK290 := Aside0.mk (bb_ (bk_ BK290.out) hb); replace BK291 := Aside0.mk (bb_ (bk_ BK291.out) hb); replace HB := Aside0.mk (below_step (lb3_ HB.out GE289.out GE290.out GE291.out) hb); (try clear hb); (try clear hb2); (try clear hk); (try clear hi); obtain ⟨hcz14_0, hcz14_1, hcz14_2, hcz14_3, hcz14_4⟩ := cz5_ BK289.out; obtain ⟨hfz14_0, hfz14_1, hfz14_2, hfz14_3, hfz14_4⟩ := fz5_ BK289.out; have hnb15 := NB290_291.out; have hnc15 := NB291_290.out; obtain ⟨hcz16_0, hcz16_1, hcz16_2, hcz16_3, hcz16_4, hcz16_5, hcz16_6⟩ := cz7_ BK290.out; obtain ⟨hfz16_0, hfz16_1, hfz16_2, hfz16_3, hfz16_4, hfz16_5, hfz16_6⟩ := fz7_ BK290.out) | (go_at_call 77; (with_reducible refine (spec_l25Walk.calls _ _ l0_0 _ _ l0_1 _ _ l0_2 a0_3 a0_4 a1_0 a1_1 a1_2 a1_3 a1_4 a1_5 a1_6 t293 _ ?side1 ?side2 ?side3 ?side4 ?side5 ?side6 A9.out).mono ?_); (case side1 => exact kc_ (Kd.C_below HR0_0.out HB.out)); (case side2 => exact HC0_0.out); (case side3 => exact kc_ (Kd.C_below HR0_1.out HB.out)); (case side4 => exact HC0_1.out); (case side5 => exact kc_ (Kd.C_below HR0_2.out HB.out)); (case side6 => exact HC0_2.out); rintro e w17 ⟨rfl, hb⟩; replace BK289 := Aside0.mk (bb_ (bk_ BK289.out) hb); replace BK290 := Aside0.mk (bb_ (bk_ BK290.out) hb); replace BK291 := Aside0.mk (bb_ (bk_ BK291.out) hb); replace HB := Aside0.mk (below_step (lb3_ HB.out GE289.out GE290.out GE291.out) hb); (try clear hb); (try clear hb2); (try clear hk); (try clear hi)))
   go_meet
   case rel => exact ⟨_, (!t293), (by first | rfl | (simp; done) | (simp [*]; done)), H', ⟨by first | omega | exact Nat.le_refl _⟩, ⟨bk_ BK289.out⟩, ⟨bk_ BK290.out⟩, ⟨bk_ BK291.out⟩, ⟨lb3_ HB.out GE289.out GE290.out GE291.out⟩⟩
  ·
   replace c8 := Bool.eq_false_iff.mpr c8
   subst c8
   have H1 : (spec_WalkOn.j0 k true l0_0 l0_1 l0_2 a0_3 a0_4 a1_0 a1_1 a1_2 a1_3 a1_4 a1_5 a1_6) = some (r1, r2, r3, r4, r5, r6) := by rw [if_neg (show ¬ (false = true) by decide)] at H; exact H
   clear H
   have H := H1
   clear H1
   have H' := Aside0.mk H
   clear H
   have hnb18 := NB289_290.out
   have hnc18 := NB290_289.out
   have hnb19 := NB289_291.out
   have hnc19 := NB291_289.out
   obtain ⟨hcz20_0, hcz20_1, hcz20_2, hcz20_3, hcz20_4⟩ := cz5_ BK289.out
   obtain ⟨hfz20_0, hfz20_1, hfz20_2, hfz20_3, hfz20_4⟩ := fz5_ BK289.out
   go_wp2_with (first | ((with_reducible refine gate_callee (f := 67) rfl ?_); refine ga_ (some 9) Try.func67 #[.agg #[.slice A0_0 l0_0.length c0_0, .slice A0_1 l0_1.length c0_1, .slice A0_2 l0_2.length c0_2, .int .i64 a0_3, .int .i64 a0_4]] ?_; (with_reducible refine (spec_l25Good.calls k _ _ l0_0 _ _ l0_1 _ _ l0_2 a0_3 a0_4 false _ ?side1 ?side2 ?side3 ?side4 ?side5 ?side6 A7.out).mono ?_); (case side1 => exact kc_ (Kd.C_below HR0_0.out HB.out)); (case side2 => exact HC0_0.out); (case side3 => exact kc_ (Kd.C_below HR0_1.out HB.out)); (case side4 => exact HC0_1.out); (case side5 => exact kc_ (Kd.C_below HR0_2.out HB.out)); (case side6 => exact HC0_2.out); rintro e w21 ⟨rfl, hb⟩; refine ⟨_, rfl, ?_⟩; replace BK289 := Aside0.mk (bb_ (bk_ BK289.out) hb); replace BK290 := Aside0.mk (bb_ (bk_ BK290.out) hb); replace BK291 := Aside0.mk (bb_ (bk_ BK291.out) hb); replace HB := Aside0.mk (below_step (lb3_ HB.out GE289.out GE290.out GE291.out) hb); (try clear hb); (try clear hb2); (try clear hk); (try clear hi)))
   go_meet
   case rel => exact ⟨_, (true), (by first | rfl | (simp; done) | (simp [*]; done)), H', ⟨by first | omega | exact Nat.le_refl _⟩, ⟨bk_ BK289.out⟩, ⟨bk_ BK290.out⟩, ⟨bk_ BK291.out⟩, ⟨lb3_ HB.out GE289.out GE290.out GE291.out⟩⟩
 case rest =>
  clear HC3
  try clear c1
  try clear c2
  try clear p2
  try clear c6
  try clear c8
  try clear c10
  try clear c11
  try clear c15
  try clear c18
  try clear c19
  try clear hcz12_0 hcz12_1 hcz12_2 hcz12_3 hcz12_4
  try clear hcz14_0 hcz14_1 hcz14_2 hcz14_3 hcz14_4
  try clear hcz16_0 hcz16_1 hcz16_2 hcz16_3 hcz16_4 hcz16_5 hcz16_6
  try clear hcz20_0 hcz20_1 hcz20_2 hcz20_3 hcz20_4
  try clear hfz12_0 hfz12_1 hfz12_2 hfz12_3 hfz12_4
  try clear hfz14_0 hfz14_1 hfz14_2 hfz14_3 hfz14_4
  try clear hfz16_0 hfz16_1 hfz16_2 hfz16_3 hfz16_4 hfz16_5 hfz16_6
  try clear hfz20_0 hfz20_1 hfz20_2 hfz20_3 hfz20_4
  obtain ⟨kq, x16_2, rfl, HA, HJ2, BK289, BK290, BK291, HB⟩ := hcut
  cases kq with
  | zero => exact absurd HA.out (by simp [spec_WalkOn.j0])
  | succ kj2 =>
   have H := HA.out
   clear HA
   simp only [spec_WalkOn.j0] at H
   by_cases c22 : x16_2 = true
   ·
    subst c22
    have H1 : (some (([] : List (S37)), ([] : List Bool), ([] : List Bool), 0, 0, false)) = some (r1, r2, r3, r4, r5, r6) := by rw [if_pos rfl] at H; exact H
    clear H
    have H := H1
    clear H1
    simp only [Option.some.injEq, Prod.mk.injEq] at H
    obtain ⟨rfl, rfl, rfl, rfl, rfl, rfl⟩ := H
    have hnb23 := NB291_289.out
    have hnc23 := NB289_291.out
    have hnb24 := NB291_290.out
    have hnc24 := NB290_291.out
    obtain ⟨hcz25_0, hcz25_1, hcz25_2, hcz25_3, hcz25_4⟩ := cz5_ BK291.out
    obtain ⟨hfz25_0, hfz25_1, hfz25_2, hfz25_3, hfz25_4⟩ := fz5_ BK291.out
    go_wp2
    refine bodyPost_ret (results_ct rfl _ _ gb291 30 #[.slice none 0 0, .slice none 0 0, .slice none 0 0, .int .i64 0, .int .i64 0] (0, 0) _ rfl (by (with_reducible repeat (first | refine blk_drewN ?_ _ | refine blk_drew ?_ | refine blk_alloc ?_ _)); refine blk_put (cs := #[.slice none 0 0, .slice none 0 0, .slice none 0 0, .int .i64 0, .int .i64 0]) ?_ 4 _ rfl; (with_reducible repeat (first | refine blk_drewN ?_ _ | refine blk_drew ?_ | refine blk_alloc ?_ _)); refine blk_put (cs := #[.slice none 0 0, .slice none 0 0, .slice none 0 0, .int .i64 0, .int .i64 0]) ?_ 3 _ rfl; (with_reducible repeat (first | refine blk_drewN ?_ _ | refine blk_drew ?_ | refine blk_alloc ?_ _)); refine blk_put (cs := #[.slice none 0 0, .slice none 0 0, .slice none 0 0, .int .i64 0, .int .i64 0]) ?_ 2 _ rfl; (with_reducible repeat (first | refine blk_drewN ?_ _ | refine blk_drew ?_ | refine blk_alloc ?_ _)); refine blk_put (cs := #[.slice none 0 0, .slice none 0 0, .slice none 0 0, .int .i64 0, .int .i64 0]) ?_ 1 _ rfl; (with_reducible repeat (first | refine blk_drewN ?_ _ | refine blk_drew ?_ | refine blk_alloc ?_ _)); refine blk_put (cs := #[.slice none 0 0, .slice none 0 0, .slice none 0 0, .int .i64 0, .int .i64 0]) ?_ 0 _ rfl; (with_reducible repeat (first | refine blk_drewN ?_ _ | refine blk_drew ?_ | refine blk_alloc ?_ _)); exact BK291.out) Try.underlying30 rfl (by kernel_rfl)) rfl ?_
    exact ⟨_, _, _, rr_, by first | exact Kd.R_nil _ _ _ _ _ | exact Kd.N_nil _ _ _ _ _ | exact Kd.V_nil _ _ _ _ _ | exact Kd.Q_nil _ _ _ _ _ | exact Kd.S_nil _ _ _ _ _, by first | exact Kd.R_nil _ _ _ _ _ | exact Kd.N_nil _ _ _ _ _ | exact Kd.V_nil _ _ _ _ _ | exact Kd.Q_nil _ _ _ _ _ | exact Kd.S_nil _ _ _ _ _, by first | exact Kd.R_nil _ _ _ _ _ | exact Kd.N_nil _ _ _ _ _ | exact Kd.V_nil _ _ _ _ _ | exact Kd.Q_nil _ _ _ _ _ | exact Kd.S_nil _ _ _ _ _, lb3_ HB.out GE289.out GE290.out GE291.out⟩
   ·
    replace c22 := Bool.eq_false_iff.mpr c22
    subst c22
    have H1 : ((spec_l25Make.f kj2 l0_0 l0_1 l0_2 a0_3 a0_4 a1_0 a1_1 a1_2 a1_3 a1_4 a1_5 a1_6).bind fun bt294 => (if bt294.2.2.2.2.2 = true then (some (bt294.1, bt294.2.1, bt294.2.2.1, bt294.2.2.2.1, bt294.2.2.2.2.1, true)) else (some (([] : List (S37)), ([] : List Bool), ([] : List Bool), 0, 0, false)))) = some (r1, r2, r3, r4, r5, r6) := by rw [if_neg (show ¬ (false = true) by decide)] at H; exact H
    clear H
    have H := H1
    clear H1
    replace H := Option.bind_eq_some_iff.mp H
    obtain ⟨⟨t294, t297, t300, t303, t304, t305⟩, A260, H⟩ := H
    replace H : (if t305 = true then (some (t294, t297, t300, t303, t304, true)) else (some (([] : List (S37)), ([] : List Bool), ([] : List Bool), 0, 0, false))) = some (r1, r2, r3, r4, r5, r6) := H
    have A26 := Aside0.mk A260
    clear A260
    by_cases c27 : t305 = true
    ·
     subst c27
     have H1 : (some (t294, t297, t300, t303, t304, true)) = some (r1, r2, r3, r4, r5, r6) := by rw [if_pos rfl] at H; exact H
     clear H
     have H := H1
     clear H1
     simp only [Option.some.injEq, Prod.mk.injEq] at H
     obtain ⟨rfl, rfl, rfl, rfl, rfl, rfl⟩ := H
     have hnb28 := NB289_290.out
     have hnc28 := NB290_289.out
     have hnb29 := NB289_291.out
     have hnc29 := NB291_289.out
     obtain ⟨hcz30_0, hcz30_1, hcz30_2, hcz30_3, hcz30_4⟩ := cz5_ BK289.out
     obtain ⟨hfz30_0, hfz30_1, hfz30_2, hfz30_3, hfz30_4⟩ := fz5_ BK289.out
     have hnb31 := NB290_291.out
     have hnc31 := NB291_290.out
     obtain ⟨hcz32_0, hcz32_1, hcz32_2, hcz32_3, hcz32_4, hcz32_5, hcz32_6⟩ := cz7_ BK290.out
     obtain ⟨hfz32_0, hfz32_1, hfz32_2, hfz32_3, hfz32_4, hfz32_5, hfz32_6⟩ := fz7_ BK290.out
     go_wp2_with (first | ((with_reducible refine gate_callee (f := 78) rfl ?_); refine ga_ (some 21) Try.func78 #[.agg #[.slice A0_0 l0_0.length c0_0, .slice A0_1 l0_1.length c0_1, .slice A0_2 l0_2.length c0_2, .int .i64 a0_3, .int .i64 a0_4], .agg #[.int .i64 a1_0, .int .i64 a1_1, .int .i64 a1_2, .int .i64 a1_3, .int .i64 a1_4, .int .i64 a1_5, .int .i64 a1_6]] ?_; (with_reducible refine (spec_l25Make.calls kj2 _ _ l0_0 _ _ l0_1 _ _ l0_2 a0_3 a0_4 a1_0 a1_1 a1_2 a1_3 a1_4 a1_5 a1_6 t294 t297 t300 t303 t304 true _ ?side1 ?side2 ?side3 ?side4 ?side5 ?side6 A26.out).mono ?_); (case side1 => exact kc_ (Kd.C_below HR0_0.out HB.out)); (case side2 => exact HC0_0.out); (case side3 => exact kc_ (Kd.C_below HR0_1.out HB.out)); (case side4 => exact HC0_1.out); (case side5 => exact kc_ (Kd.C_below HR0_2.out HB.out)); (case side6 => exact HC0_2.out); rintro e w33 ⟨v295, v298, v301, rfl, ho0, ho1, ho2, hb⟩; refine ⟨_, rfl, ?_⟩; have HO296 := Aside0.mk (Kd.R_lower ho0 (below_size (lb3_ HB.out GE289.out GE290.out GE291.out))); have HO299 := Aside0.mk (Kd.R_lower ho1 (below_size (lb3_ HB.out GE289.out GE290.out GE291.out))); have HO302 := Aside0.mk (Kd.R_lower ho2 (below_size (lb3_ HB.out GE289.out GE290.out GE291.out))); replace BK289 := Aside0.mk (bb_ (bk_ BK289.out) hb); replace BK290 := Aside0.mk (bb_ (bk_ BK290.out) hb); replace BK291 := Aside0.mk (bb_ (bk_ BK291.out) hb); replace HB := Aside0.mk (below_step (lb3_ HB.out GE289.out GE290.out GE291.out) hb); (try clear hb); (try clear hb2); (try clear hk); (try clear hi); (try clear ho0); (try clear ho1); (try clear ho2)) | ((with_reducible refine gate_dst (N := 6) rfl ?_); refine box_event ?hg (N := 6) ?hd (cs := #[.slice none 0 0, .slice none 0 0, .slice none 0 0, .int .i64 0, .int .i64 0]) (t := 30) ?hr ?_; (case hd => rfl); (case hg => rfl); (case hr => first | (go_simp; done) | (go_simp; rfl)); intro gb306 hg w34 hbox hb; replace HO296 := Aside0.mk (Kd.R_below (kr_ HO296.out) hb); replace HO299 := Aside0.mk (Kd.R_below (kr_ HO299.out) hb); replace HO302 := Aside0.mk (Kd.R_below (kr_ HO302.out) hb); have BK306 := Aside0.mk (hbox); have GW306 := Aside0.mk (bz_ hg (lb3_ HB.out GE289.out GE290.out GE291.out)); have GE306 := Aside0.mk (bz_ hg (lb3_ HB.out GE289.out GE290.out GE291.out)); replace HB := Aside0.mk (below_step (lb3_ HB.out GE289.out GE290.out GE291.out) hb); have NB289_306 := Aside0.mk (nl_ hg BK289.out); have NB306_289 := Aside0.mk (ng_ hg BK289.out); replace BK289 := Aside0.mk (bb_ (bk_ BK289.out) hb); have NB290_306 := Aside0.mk (nl_ hg BK290.out); have NB306_290 := Aside0.mk (ng_ hg BK290.out); replace BK290 := Aside0.mk (bb_ (bk_ BK290.out) hb); have NB291_306 := Aside0.mk (nl_ hg BK291.out); have NB306_291 := Aside0.mk (ng_ hg BK291.out); replace BK291 := Aside0.mk (bb_ (bk_ BK291.out) hb); clear hb hbox hg; obtain ⟨Ao35, co35, eo35⟩ := Kd.R_slice HO296.out; subst eo35; have hnb36 := NB306_289.out; have hnc36 := NB289_306.out; have hnb37 := NB306_290.out; have hnc37 := NB290_306.out; have hnb38 := NB306_291.out; have hnc38 := NB291_306.out; obtain ⟨hcz39_0, hcz39_1, hcz39_2, hcz39_3, hcz39_4⟩ := cz5_ BK306.out; obtain ⟨hfz39_0, hfz39_1, hfz39_2, hfz39_3, hfz39_4⟩ := fz5_ BK306.out; obtain ⟨Ao40, co40, eo40⟩ := Kd.R_slice HO299.out; subst eo40; obtain ⟨Ao41, co41, eo41⟩ := Kd.R_slice HO302.out; subst eo41; obtain ⟨hcz42_0, hcz42_1, hcz42_2, hcz42_3, hcz42_4⟩ := cz5_ BK291.out; obtain ⟨hfz42_0, hfz42_1, hfz42_2, hfz42_3, hfz42_4⟩ := fz5_ BK291.out))
     refine bodyPost_ret (results_ct rfl _ _ gb291 30 #[.slice Ao35 t294.length co35, .slice Ao40 t297.length co40, .slice Ao41 t300.length co41, .int .i64 t303, .int .i64 t304] (0, 0) _ rfl (by (with_reducible repeat (first | refine blk_drewN ?_ _ | refine blk_drew ?_ | refine blk_alloc ?_ _)); refine blk_put (cs := #[.slice Ao35 t294.length co35, .slice Ao40 t297.length co40, .slice Ao41 t300.length co41, .int .i64 t303, .int .i64 0]) ?_ 4 _ rfl; (with_reducible repeat (first | refine blk_drewN ?_ _ | refine blk_drew ?_ | refine blk_alloc ?_ _)); refine blk_put (cs := #[.slice Ao35 t294.length co35, .slice Ao40 t297.length co40, .slice Ao41 t300.length co41, .int .i64 0, .int .i64 0]) ?_ 3 _ rfl; (with_reducible repeat (first | refine blk_drewN ?_ _ | refine blk_drew ?_ | refine blk_alloc ?_ _)); refine blk_put (cs := #[.slice Ao35 t294.length co35, .slice Ao40 t297.length co40, .slice none 0 0, .int .i64 0, .int .i64 0]) ?_ 2 _ rfl; (with_reducible repeat (first | refine blk_drewN ?_ _ | refine blk_drew ?_ | refine blk_alloc ?_ _)); refine blk_put (cs := #[.slice Ao35 t294.length co35, .slice none 0 0, .slice none 0 0, .int .i64 0, .int .i64 0]) ?_ 1 _ rfl; (with_reducible repeat (first | refine blk_drewN ?_ _ | refine blk_drew ?_ | refine blk_alloc ?_ _)); refine blk_put (cs := #[.slice none 0 0, .slice none 0 0, .slice none 0 0, .int .i64 0, .int .i64 0]) ?_ 0 _ rfl; (with_reducible repeat (first | refine blk_drewN ?_ _ | refine blk_drew ?_ | refine blk_alloc ?_ _)); refine blk_far ?_ NB291_306.out _; (with_reducible repeat (first | refine blk_drewN ?_ _ | refine blk_drew ?_ | refine blk_alloc ?_ _)); refine blk_far ?_ NB291_306.out _; (with_reducible repeat (first | refine blk_drewN ?_ _ | refine blk_drew ?_ | refine blk_alloc ?_ _)); refine blk_far ?_ NB291_306.out _; (with_reducible repeat (first | refine blk_drewN ?_ _ | refine blk_drew ?_ | refine blk_alloc ?_ _)); refine blk_far ?_ NB291_306.out _; (with_reducible repeat (first | refine blk_drewN ?_ _ | refine blk_drew ?_ | refine blk_alloc ?_ _)); refine blk_far ?_ NB291_306.out _; (with_reducible repeat (first | refine blk_drewN ?_ _ | refine blk_drew ?_ | refine blk_alloc ?_ _)); exact BK291.out) Try.underlying30 rfl (by kernel_rfl)) rfl ?_
     exact ⟨_, _, _, rr_, by (with_reducible repeat (first | apply Kd.R_alloc | apply Kd.R_drewN | apply Kd.R_drew)); exact Kd.R_mono (Kd.R_far (p := ⟨gb291, 4, none⟩) (Kd.R_far (p := ⟨gb291, 3, none⟩) (Kd.R_far (p := ⟨gb291, 2, none⟩) (Kd.R_far (p := ⟨gb291, 1, none⟩) (Kd.R_far (p := ⟨gb291, 0, none⟩) (Kd.R_far (p := ⟨gb306, 4, none⟩) (Kd.R_far (p := ⟨gb306, 3, none⟩) (Kd.R_far (p := ⟨gb306, 2, none⟩) (Kd.R_far (p := ⟨gb306, 1, none⟩) (Kd.R_far (p := ⟨gb306, 0, none⟩) (Kd.R_types (Kd.R_types HO296.out BK306.out (by decide)) BK291.out (by decide)) (fun _ hk => hk.1.2) (.slice Ao35 t294.length co35)) (fun _ hk => hk.1.2) (.slice Ao40 t297.length co40)) (fun _ hk => hk.1.2) (.slice Ao41 t300.length co41)) (fun _ hk => hk.1.2) (.int .i64 t303)) (fun _ hk => hk.1.2) (.int .i64 t304)) (fun _ hk => hk.2) (.slice Ao35 t294.length co35)) (fun _ hk => hk.2) (.slice Ao40 t297.length co40)) (fun _ hk => hk.2) (.slice Ao41 t300.length co41)) (fun _ hk => hk.2) (.int .i64 t303)) (fun _ hk => hk.2) (.int .i64 t304)) (fun _ hk => trivial), by (with_reducible repeat (first | apply Kd.R_alloc | apply Kd.R_drewN | apply Kd.R_drew)); exact Kd.R_mono (Kd.R_far (p := ⟨gb291, 4, none⟩) (Kd.R_far (p := ⟨gb291, 3, none⟩) (Kd.R_far (p := ⟨gb291, 2, none⟩) (Kd.R_far (p := ⟨gb291, 1, none⟩) (Kd.R_far (p := ⟨gb291, 0, none⟩) (Kd.R_far (p := ⟨gb306, 4, none⟩) (Kd.R_far (p := ⟨gb306, 3, none⟩) (Kd.R_far (p := ⟨gb306, 2, none⟩) (Kd.R_far (p := ⟨gb306, 1, none⟩) (Kd.R_far (p := ⟨gb306, 0, none⟩) (Kd.R_types (Kd.R_types HO299.out BK306.out (by decide)) BK291.out (by decide)) (fun _ hk => hk.1.2) (.slice Ao35 t294.length co35)) (fun _ hk => hk.1.2) (.slice Ao40 t297.length co40)) (fun _ hk => hk.1.2) (.slice Ao41 t300.length co41)) (fun _ hk => hk.1.2) (.int .i64 t303)) (fun _ hk => hk.1.2) (.int .i64 t304)) (fun _ hk => hk.2) (.slice Ao35 t294.length co35)) (fun _ hk => hk.2) (.slice Ao40 t297.length co40)) (fun _ hk => hk.2) (.slice Ao41 t300.length co41)) (fun _ hk => hk.2) (.int .i64 t303)) (fun _ hk => hk.2) (.int .i64 t304)) (fun _ hk => hk.1.1), by (with_reducible repeat (first | apply Kd.R_alloc | apply Kd.R_drewN | apply Kd.R_drew)); exact Kd.R_mono (Kd.R_far (p := ⟨gb291, 4, none⟩) (Kd.R_far (p := ⟨gb291, 3, none⟩) (Kd.R_far (p := ⟨gb291, 2, none⟩) (Kd.R_far (p := ⟨gb291, 1, none⟩) (Kd.R_far (p := ⟨gb291, 0, none⟩) (Kd.R_far (p := ⟨gb306, 4, none⟩) (Kd.R_far (p := ⟨gb306, 3, none⟩) (Kd.R_far (p := ⟨gb306, 2, none⟩) (Kd.R_far (p := ⟨gb306, 1, none⟩) (Kd.R_far (p := ⟨gb306, 0, none⟩) (Kd.R_types (Kd.R_types HO302.out BK306.out (by decide)) BK291.out (by decide)) (fun _ hk => hk.1.2) (.slice Ao35 t294.length co35)) (fun _ hk => hk.1.2) (.slice Ao40 t297.length co40)) (fun _ hk => hk.1.2) (.slice Ao41 t300.length co41)) (fun _ hk => hk.1.2) (.int .i64 t303)) (fun _ hk => hk.1.2) (.int .i64 t304)) (fun _ hk => hk.2) (.slice Ao35 t294.length co35)) (fun _ hk => hk.2) (.slice Ao40 t297.length co40)) (fun _ hk => hk.2) (.slice Ao41 t300.length co41)) (fun _ hk => hk.2) (.int .i64 t303)) (fun _ hk => hk.2) (.int .i64 t304)) (fun _ hk => hk.1.1), by repeat (first | (with_reducible first | exact HB.out | apply below_alloc | apply pw_below_drewN | apply below_drew1 | refine below_set ?_ GE289.out | refine below_set ?_ GE290.out | refine below_set ?_ GE291.out | refine below_set ?_ GE306.out) | exact HB.out)⟩
    ·
     replace c27 := Bool.eq_false_iff.mpr c27
     subst c27
     have H1 : (some (([] : List (S37)), ([] : List Bool), ([] : List Bool), 0, 0, false)) = some (r1, r2, r3, r4, r5, r6) := by rw [if_neg (show ¬ (false = true) by decide)] at H; exact H
     clear H
     have H := H1
     clear H1
     simp only [Option.some.injEq, Prod.mk.injEq] at H
     obtain ⟨rfl, rfl, rfl, rfl, rfl, rfl⟩ := H
     have hnb43 := NB289_290.out
     have hnc43 := NB290_289.out
     have hnb44 := NB289_291.out
     have hnc44 := NB291_289.out
     obtain ⟨hcz45_0, hcz45_1, hcz45_2, hcz45_3, hcz45_4⟩ := cz5_ BK289.out
     obtain ⟨hfz45_0, hfz45_1, hfz45_2, hfz45_3, hfz45_4⟩ := fz5_ BK289.out
     have hnb46 := NB290_291.out
     have hnc46 := NB291_290.out
     obtain ⟨hcz47_0, hcz47_1, hcz47_2, hcz47_3, hcz47_4, hcz47_5, hcz47_6⟩ := cz7_ BK290.out
     obtain ⟨hfz47_0, hfz47_1, hfz47_2, hfz47_3, hfz47_4, hfz47_5, hfz47_6⟩ := fz7_ BK290.out
     go_wp2_with (first | ((with_reducible refine gate_callee (f := 78) rfl ?_); refine ga_ (some 21) Try.func78 #[.agg #[.slice A0_0 l0_0.length c0_0, .slice A0_1 l0_1.length c0_1, .slice A0_2 l0_2.length c0_2, .int .i64 a0_3, .int .i64 a0_4], .agg #[.int .i64 a1_0, .int .i64 a1_1, .int .i64 a1_2, .int .i64 a1_3, .int .i64 a1_4, .int .i64 a1_5, .int .i64 a1_6]] ?_; (with_reducible refine (spec_l25Make.calls kj2 _ _ l0_0 _ _ l0_1 _ _ l0_2 a0_3 a0_4 a1_0 a1_1 a1_2 a1_3 a1_4 a1_5 a1_6 t294 t297 t300 t303 t304 false _ ?side1 ?side2 ?side3 ?side4 ?side5 ?side6 A26.out).mono ?_); (case side1 => exact kc_ (Kd.C_below HR0_0.out HB.out)); (case side2 => exact HC0_0.out); (case side3 => exact kc_ (Kd.C_below HR0_1.out HB.out)); (case side4 => exact HC0_1.out); (case side5 => exact kc_ (Kd.C_below HR0_2.out HB.out)); (case side6 => exact HC0_2.out); rintro e w48 ⟨v295, v298, v301, rfl, ho0, ho1, ho2, hb⟩; refine ⟨_, rfl, ?_⟩; have HO296 := Aside0.mk (Kd.R_lower ho0 (below_size (lb3_ HB.out GE289.out GE290.out GE291.out))); have HO299 := Aside0.mk (Kd.R_lower ho1 (below_size (lb3_ HB.out GE289.out GE290.out GE291.out))); have HO302 := Aside0.mk (Kd.R_lower ho2 (below_size (lb3_ HB.out GE289.out GE290.out GE291.out))); replace BK289 := Aside0.mk (bb_ (bk_ BK289.out) hb); replace BK290 := Aside0.mk (bb_ (bk_ BK290.out) hb); replace BK291 := Aside0.mk (bb_ (bk_ BK291.out) hb); replace HB := Aside0.mk (below_step (lb3_ HB.out GE289.out GE290.out GE291.out) hb); (try clear hb); (try clear hb2); (try clear hk); (try clear hi); (try clear ho0); (try clear ho1); (try clear ho2)) | ((with_reducible refine gate_dst (N := 6) rfl ?_); refine box_event ?hg (N := 6) ?hd (cs := #[.slice none 0 0, .slice none 0 0, .slice none 0 0, .int .i64 0, .int .i64 0]) (t := 30) ?hr ?_; (case hd => rfl); (case hg => rfl); (case hr => first | (go_simp; done) | (go_simp; rfl)); intro gb306 hg w49 hbox hb; replace HO296 := Aside0.mk (Kd.R_below (kr_ HO296.out) hb); replace HO299 := Aside0.mk (Kd.R_below (kr_ HO299.out) hb); replace HO302 := Aside0.mk (Kd.R_below (kr_ HO302.out) hb); have BK306 := Aside0.mk (hbox); have GW306 := Aside0.mk (bz_ hg (lb3_ HB.out GE289.out GE290.out GE291.out)); have GE306 := Aside0.mk (bz_ hg (lb3_ HB.out GE289.out GE290.out GE291.out)); replace HB := Aside0.mk (below_step (lb3_ HB.out GE289.out GE290.out GE291.out) hb); have NB289_306 := Aside0.mk (nl_ hg BK289.out); have NB306_289 := Aside0.mk (ng_ hg BK289.out); replace BK289 := Aside0.mk (bb_ (bk_ BK289.out) hb); have NB290_306 := Aside0.mk (nl_ hg BK290.out); have NB306_290 := Aside0.mk (ng_ hg BK290.out); replace BK290 := Aside0.mk (bb_ (bk_ BK290.out) hb); have NB291_306 := Aside0.mk (nl_ hg BK291.out); have NB306_291 := Aside0.mk (ng_ hg BK291.out); replace BK291 := Aside0.mk (bb_ (bk_ BK291.out) hb); clear hb hbox hg; obtain ⟨Ao50, co50, eo50⟩ := Kd.R_slice HO296.out; subst eo50; have hnb51 := NB306_289.out; have hnc51 := NB289_306.out; have hnb52 := NB306_290.out; have hnc52 := NB290_306.out; have hnb53 := NB306_291.out; have hnc53 := NB291_306.out; obtain ⟨hcz54_0, hcz54_1, hcz54_2, hcz54_3, hcz54_4⟩ := cz5_ BK306.out; obtain ⟨hfz54_0, hfz54_1, hfz54_2, hfz54_3, hfz54_4⟩ := fz5_ BK306.out; obtain ⟨Ao55, co55, eo55⟩ := Kd.R_slice HO299.out; subst eo55; obtain ⟨Ao56, co56, eo56⟩ := Kd.R_slice HO302.out; subst eo56; obtain ⟨hcz57_0, hcz57_1, hcz57_2, hcz57_3, hcz57_4⟩ := cz5_ BK291.out; obtain ⟨hfz57_0, hfz57_1, hfz57_2, hfz57_3, hfz57_4⟩ := fz5_ BK291.out))
     refine bodyPost_ret (results_ct rfl _ _ gb291 30 #[.slice none 0 0, .slice none 0 0, .slice none 0 0, .int .i64 0, .int .i64 0] (0, 0) _ rfl (by (with_reducible repeat (first | refine blk_drewN ?_ _ | refine blk_drew ?_ | refine blk_alloc ?_ _)); refine blk_put (cs := #[.slice none 0 0, .slice none 0 0, .slice none 0 0, .int .i64 0, .int .i64 0]) ?_ 4 _ rfl; (with_reducible repeat (first | refine blk_drewN ?_ _ | refine blk_drew ?_ | refine blk_alloc ?_ _)); refine blk_put (cs := #[.slice none 0 0, .slice none 0 0, .slice none 0 0, .int .i64 0, .int .i64 0]) ?_ 3 _ rfl; (with_reducible repeat (first | refine blk_drewN ?_ _ | refine blk_drew ?_ | refine blk_alloc ?_ _)); refine blk_put (cs := #[.slice none 0 0, .slice none 0 0, .slice none 0 0, .int .i64 0, .int .i64 0]) ?_ 2 _ rfl; (with_reducible repeat (first | refine blk_drewN ?_ _ | refine blk_drew ?_ | refine blk_alloc ?_ _)); refine blk_put (cs := #[.slice none 0 0, .slice none 0 0, .slice none 0 0, .int .i64 0, .int .i64 0]) ?_ 1 _ rfl; (with_reducible repeat (first | refine blk_drewN ?_ _ | refine blk_drew ?_ | refine blk_alloc ?_ _)); refine blk_put (cs := #[.slice none 0 0, .slice none 0 0, .slice none 0 0, .int .i64 0, .int .i64 0]) ?_ 0 _ rfl; (with_reducible repeat (first | refine blk_drewN ?_ _ | refine blk_drew ?_ | refine blk_alloc ?_ _)); refine blk_far ?_ NB291_306.out _; (with_reducible repeat (first | refine blk_drewN ?_ _ | refine blk_drew ?_ | refine blk_alloc ?_ _)); refine blk_far ?_ NB291_306.out _; (with_reducible repeat (first | refine blk_drewN ?_ _ | refine blk_drew ?_ | refine blk_alloc ?_ _)); refine blk_far ?_ NB291_306.out _; (with_reducible repeat (first | refine blk_drewN ?_ _ | refine blk_drew ?_ | refine blk_alloc ?_ _)); refine blk_far ?_ NB291_306.out _; (with_reducible repeat (first | refine blk_drewN ?_ _ | refine blk_drew ?_ | refine blk_alloc ?_ _)); refine blk_far ?_ NB291_306.out _; (with_reducible repeat (first | refine blk_drewN ?_ _ | refine blk_drew ?_ | refine blk_alloc ?_ _)); exact BK291.out) Try.underlying30 rfl (by kernel_rfl)) rfl ?_
     exact ⟨_, _, _, rr_, by first | exact Kd.R_nil _ _ _ _ _ | exact Kd.N_nil _ _ _ _ _ | exact Kd.V_nil _ _ _ _ _ | exact Kd.Q_nil _ _ _ _ _ | exact Kd.S_nil _ _ _ _ _, by first | exact Kd.R_nil _ _ _ _ _ | exact Kd.N_nil _ _ _ _ _ | exact Kd.V_nil _ _ _ _ _ | exact Kd.Q_nil _ _ _ _ _ | exact Kd.S_nil _ _ _ _ _, by first | exact Kd.R_nil _ _ _ _ _ | exact Kd.N_nil _ _ _ _ _ | exact Kd.V_nil _ _ _ _ _ | exact Kd.Q_nil _ _ _ _ _ | exact Kd.S_nil _ _ _ _ _, by repeat (first | (with_reducible first | exact HB.out | apply below_alloc | apply pw_below_drewN | apply below_drew1 | refine below_set ?_ GE289.out | refine below_set ?_ GE290.out | refine below_set ?_ GE291.out | refine below_set ?_ GE306.out) | exact HB.out)⟩
def impl_within.f (a0 : Int) (a1 : Int) (a2 : Int) : Option (Bool) := if a0 ≥ a1 then (some (decide (a0 ≤ a2))) else (some false)
set_option maxHeartbeats 8000000 in
set_option maxRecDepth 100000 in
theorem impl_within.calls (a0 : Int) (a1 : Int) (a2 : Int) (r : Bool) (w : World) (h : impl_within.f a0 a1 a2 = some r) :
  Calls Try.prog 71 #[.int .i64 a0, .int .i64 a1, .int .i64 a2] w fun e w' => e = .returned (.bool r) ∧ Drawn0 w w' := by
 have H : (if a0 ≥ a1 then (some (decide (a0 ≤ a2))) else (some false)) = some r := h
 clear h
 by_cases c4 : a0 ≥ a1
 ·
  rw [if_pos c4] at H
  have c4b0 : decide (a1 ≤ a0) = true := decide_eq_true c4
  clear c4
  obtain rfl := Option.some.inj H
  go_enter Try.func71, Try.ntmps71
  go_wp2
  go_ret
  exact ⟨by first | rfl | (simp; done) | (simp [*]; done), by repeat (first | exact Drawn0.refl _ | apply Drawn0.step)⟩
 ·
  rw [if_neg c4] at H
  have c4b0 : decide (a1 ≤ a0) = false := decide_eq_false c4
  clear c4
  obtain rfl := Option.some.inj H
  go_enter Try.func71, Try.ntmps71
  go_wp2
  go_ret
  exact ⟨by first | rfl | (simp; done) | (simp [*]; done), by repeat (first | exact Drawn0.refl _ | apply Drawn0.step)⟩
def impl_isStation.f (a0 : Int) : Option (Bool) := (impl_within.f a0 0 7).bind fun t186 => (some t186)
set_option maxHeartbeats 8000000 in
set_option maxRecDepth 100000 in
theorem impl_isStation.calls (a0 : Int) (r : Bool) (w : World) (h : impl_isStation.f a0 = some r) :
  Calls Try.prog 70 #[.int .i64 a0] w fun e w' => e = .returned (.bool r) ∧ Drawn0 w w' := by
 have H : ((impl_within.f a0 0 7).bind fun t186 => (some t186)) = some r := h
 clear h
 replace H := Option.bind_eq_some_iff.mp H
 obtain ⟨t186, A20, H⟩ := H
 replace H : (some t186) = some r := H
 have A2 := Aside0.mk A20
 clear A20
 obtain rfl := Option.some.inj H
 go_enter Try.func70, Try.ntmps70
 go_wp2_with (first | ((with_reducible refine gate_callee (f := 71) rfl ?_); refine ga_ (some 4) Try.func71 #[.int .i64 a0, .int .i64 0, .int .i64 7] ?_; (with_reducible refine (impl_within.calls a0 0 7 t186 _ A2.out).mono ?_); rintro e w' ⟨rfl, ⟨nd, rfl⟩⟩; refine ⟨_, rfl, ?_⟩))
 go_ret
 exact ⟨by first | rfl | (simp; done) | (simp [*]; done), by repeat (first | exact Drawn0.refl _ | apply Drawn0.step)⟩
def impl_isBearing.f (a0 : Int) : Option (Bool) := (impl_within.f a0 0 359).bind fun t187 => (some t187)
set_option maxHeartbeats 8000000 in
set_option maxRecDepth 100000 in
theorem impl_isBearing.calls (a0 : Int) (r : Bool) (w : World) (h : impl_isBearing.f a0 = some r) :
  Calls Try.prog 117 #[.int .i64 a0] w fun e w' => e = .returned (.bool r) ∧ Drawn0 w w' := by
 have H : ((impl_within.f a0 0 359).bind fun t187 => (some t187)) = some r := h
 clear h
 replace H := Option.bind_eq_some_iff.mp H
 obtain ⟨t187, A20, H⟩ := H
 replace H : (some t187) = some r := H
 have A2 := Aside0.mk A20
 clear A20
 obtain rfl := Option.some.inj H
 go_enter Try.func117, Try.ntmps117
 go_wp2_with (first | ((with_reducible refine gate_callee (f := 71) rfl ?_); refine ga_ (some 4) Try.func71 #[.int .i64 a0, .int .i64 0, .int .i64 359] ?_; (with_reducible refine (impl_within.calls a0 0 359 t187 _ A2.out).mono ?_); rintro e w' ⟨rfl, ⟨nd, rfl⟩⟩; refine ⟨_, rfl, ?_⟩))
 go_ret
 exact ⟨by first | rfl | (simp; done) | (simp [*]; done), by repeat (first | exact Drawn0.refl _ | apply Drawn0.step)⟩
def impl_IsLeg.f (a0_0 : Int) (a0_1 : Int) (a0_2 : Int) (a0_3 : Int) (a0_4 : Int) : Option (Bool) := (impl_isStation.f a0_0).bind fun t189 => (if t189 = true then ((impl_isStation.f a0_1).bind fun t190 => (if t190 = true then (if a0_0 = a0_1 then (some false) else ((impl_within.f a0_2 1 500).bind fun t191 => (if t191 = true then ((impl_isBearing.f a0_3).bind fun t192 => (if t192 = true then ((impl_within.f a0_4 (-90) 90).bind fun t193 => (some t193)) else (some false))) else (some false)))) else (some false))) else (some false))
set_option maxHeartbeats 8000000 in
set_option maxRecDepth 100000 in
theorem impl_IsLeg.calls (a0_0 : Int) (a0_1 : Int) (a0_2 : Int) (a0_3 : Int) (a0_4 : Int) (r : Bool) (w : World) (h : impl_IsLeg.f a0_0 a0_1 a0_2 a0_3 a0_4 = some r) :
  Calls Try.prog 102 #[.agg #[.int .i64 a0_0, .int .i64 a0_1, .int .i64 a0_2, .int .i64 a0_3, .int .i64 a0_4]] w fun e w' => e = .returned (.bool r) ∧ Below w.heap.size w w' := by
 have hu37 := Try.underlying37
 have HB := Aside0.mk (Below.refl w.heap.size w)
 have H : ((impl_isStation.f a0_0).bind fun t189 => (if t189 = true then ((impl_isStation.f a0_1).bind fun t190 => (if t190 = true then (if a0_0 = a0_1 then (some false) else ((impl_within.f a0_2 1 500).bind fun t191 => (if t191 = true then ((impl_isBearing.f a0_3).bind fun t192 => (if t192 = true then ((impl_within.f a0_4 (-90) 90).bind fun t193 => (some t193)) else (some false))) else (some false)))) else (some false))) else (some false))) = some r := h
 clear h
 replace H := Option.bind_eq_some_iff.mp H
 obtain ⟨t189, A20, H⟩ := H
 replace H : (if t189 = true then ((impl_isStation.f a0_1).bind fun t190 => (if t190 = true then (if a0_0 = a0_1 then (some false) else ((impl_within.f a0_2 1 500).bind fun t191 => (if t191 = true then ((impl_isBearing.f a0_3).bind fun t192 => (if t192 = true then ((impl_within.f a0_4 (-90) 90).bind fun t193 => (some t193)) else (some false))) else (some false)))) else (some false))) else (some false)) = some r := H
 have A2 := Aside0.mk A20
 clear A20
 by_cases c3 : t189 = true
 ·
  subst c3
  have H1 : ((impl_isStation.f a0_1).bind fun t190 => (if t190 = true then (if a0_0 = a0_1 then (some false) else ((impl_within.f a0_2 1 500).bind fun t191 => (if t191 = true then ((impl_isBearing.f a0_3).bind fun t192 => (if t192 = true then ((impl_within.f a0_4 (-90) 90).bind fun t193 => (some t193)) else (some false))) else (some false)))) else (some false))) = some r := by rw [if_pos rfl] at H; exact H
  clear H
  have H := H1
  clear H1
  replace H := Option.bind_eq_some_iff.mp H
  obtain ⟨t190, A40, H⟩ := H
  replace H : (if t190 = true then (if a0_0 = a0_1 then (some false) else ((impl_within.f a0_2 1 500).bind fun t191 => (if t191 = true then ((impl_isBearing.f a0_3).bind fun t192 => (if t192 = true then ((impl_within.f a0_4 (-90) 90).bind fun t193 => (some t193)) else (some false))) else (some false)))) else (some false)) = some r := H
  have A4 := Aside0.mk A40
  clear A40
  by_cases c5 : t190 = true
  ·
   subst c5
   have H1 : (if a0_0 = a0_1 then (some false) else ((impl_within.f a0_2 1 500).bind fun t191 => (if t191 = true then ((impl_isBearing.f a0_3).bind fun t192 => (if t192 = true then ((impl_within.f a0_4 (-90) 90).bind fun t193 => (some t193)) else (some false))) else (some false)))) = some r := by rw [if_pos rfl] at H; exact H
   clear H
   have H := H1
   clear H1
   by_cases c6 : a0_0 = a0_1
   ·
    rw [if_pos c6] at H
    have c6b0 : (a0_0 == a0_1) = true := beq_iff_eq.mpr c6
    have c6b1 : (a0_0 != a0_1) = false := bne_eq_false_iff_eq.mpr c6
    clear c6
    obtain rfl := Option.some.inj H
    go_enter Try.func102, Try.ntmps102
    go_wp2_with (first | ((with_reducible refine gate_dst (N := 1) rfl ?_); refine box_event ?hg (N := 1) ?hd (cs := #[.int .i64 a0_0, .int .i64 a0_1, .int .i64 a0_2, .int .i64 a0_3, .int .i64 a0_4]) (t := 37) ?hr ?_; (case hd => rfl); (case hg => rfl); (case hr => first | (go_simp; done) | (go_simp; rfl)); intro gb188 hg w7 hbox hb; have BK188 := Aside0.mk (hbox); have GW188 := Aside0.mk ((bz_ hg (lb0_ HB.out))); have GE188 := Aside0.mk ((bz_ hg (lb0_ HB.out))); replace HB := Aside0.mk (below_step (lb0_ HB.out) hb); clear hb hbox hg; obtain ⟨hcz8_0, hcz8_1, hcz8_2, hcz8_3, hcz8_4⟩ := cz5_ BK188.out; obtain ⟨hfz8_0, hfz8_1, hfz8_2, hfz8_3, hfz8_4⟩ := fz5_ BK188.out) | ((with_reducible refine gate_callee (f := 70) rfl ?_); refine ga_ (some 5) Try.func70 #[.int .i64 a0_0] ?_; (with_reducible refine (impl_isStation.calls a0_0 true _ A2.out).mono ?_); rintro e w' ⟨rfl, ⟨nd, rfl⟩⟩; refine ⟨_, rfl, ?_⟩) | (go_at_call 70; (with_reducible refine (impl_isStation.calls a0_1 true _ A4.out).mono ?_); rintro e w' ⟨rfl, ⟨nd, rfl⟩⟩))
    go_ret
    exact ⟨rr_, lb1_ HB.out GE188.out⟩
   ·
    rw [if_neg c6] at H
    have c6b0 : (a0_0 == a0_1) = false := beq_eq_false_iff_ne.mpr c6
    have c6b1 : (a0_0 != a0_1) = true := bne_iff_ne.mpr c6
    replace H := Option.bind_eq_some_iff.mp H
    obtain ⟨t191, A90, H⟩ := H
    replace H : (if t191 = true then ((impl_isBearing.f a0_3).bind fun t192 => (if t192 = true then ((impl_within.f a0_4 (-90) 90).bind fun t193 => (some t193)) else (some false))) else (some false)) = some r := H
    have A9 := Aside0.mk A90
    clear A90
    by_cases c10 : t191 = true
    ·
     subst c10
     have H1 : ((impl_isBearing.f a0_3).bind fun t192 => (if t192 = true then ((impl_within.f a0_4 (-90) 90).bind fun t193 => (some t193)) else (some false))) = some r := by rw [if_pos rfl] at H; exact H
     clear H
     have H := H1
     clear H1
     replace H := Option.bind_eq_some_iff.mp H
     obtain ⟨t192, A110, H⟩ := H
     replace H : (if t192 = true then ((impl_within.f a0_4 (-90) 90).bind fun t193 => (some t193)) else (some false)) = some r := H
     have A11 := Aside0.mk A110
     clear A110
     by_cases c12 : t192 = true
     ·
      subst c12
      have H1 : ((impl_within.f a0_4 (-90) 90).bind fun t193 => (some t193)) = some r := by rw [if_pos rfl] at H; exact H
      clear H
      have H := H1
      clear H1
      replace H := Option.bind_eq_some_iff.mp H
      obtain ⟨t193, A130, H⟩ := H
      replace H : (some t193) = some r := H
      have A13 := Aside0.mk A130
      clear A130
      obtain rfl := Option.some.inj H
      go_enter Try.func102, Try.ntmps102
      go_wp2_with (first | ((with_reducible refine gate_dst (N := 1) rfl ?_); refine box_event ?hg (N := 1) ?hd (cs := #[.int .i64 a0_0, .int .i64 a0_1, .int .i64 a0_2, .int .i64 a0_3, .int .i64 a0_4]) (t := 37) ?hr ?_; (case hd => rfl); (case hg => rfl); (case hr => first | (go_simp; done) | (go_simp; rfl)); intro gb188 hg w14 hbox hb; have BK188 := Aside0.mk (hbox); have GW188 := Aside0.mk ((bz_ hg (lb0_ HB.out))); have GE188 := Aside0.mk ((bz_ hg (lb0_ HB.out))); replace HB := Aside0.mk (below_step (lb0_ HB.out) hb); clear hb hbox hg; obtain ⟨hcz15_0, hcz15_1, hcz15_2, hcz15_3, hcz15_4⟩ := cz5_ BK188.out; obtain ⟨hfz15_0, hfz15_1, hfz15_2, hfz15_3, hfz15_4⟩ := fz5_ BK188.out) | ((with_reducible refine gate_callee (f := 70) rfl ?_); refine ga_ (some 5) Try.func70 #[.int .i64 a0_0] ?_; (with_reducible refine (impl_isStation.calls a0_0 true _ A2.out).mono ?_); rintro e w' ⟨rfl, ⟨nd, rfl⟩⟩; refine ⟨_, rfl, ?_⟩) | (go_at_call 70; (with_reducible refine (impl_isStation.calls a0_1 true _ A4.out).mono ?_); rintro e w' ⟨rfl, ⟨nd, rfl⟩⟩) | (go_at_call 71; (with_reducible refine (impl_within.calls a0_2 1 500 true _ A9.out).mono ?_); rintro e w' ⟨rfl, ⟨nd, rfl⟩⟩) | (go_at_call 117; (with_reducible refine (impl_isBearing.calls a0_3 true _ A11.out).mono ?_); rintro e w' ⟨rfl, ⟨nd, rfl⟩⟩) | (go_at_call 71; (with_reducible refine (impl_within.calls a0_4 (-90) 90 t193 _ A13.out).mono ?_); rintro e w' ⟨rfl, ⟨nd, rfl⟩⟩))
      go_ret
      exact ⟨rr_, lb1_ HB.out GE188.out⟩
     ·
      replace c12 := Bool.eq_false_iff.mpr c12
      subst c12
      have H1 : (some false) = some r := by rw [if_neg (show ¬ (false = true) by decide)] at H; exact H
      clear H
      have H := H1
      clear H1
      obtain rfl := Option.some.inj H
      go_enter Try.func102, Try.ntmps102
      go_wp2_with (first | ((with_reducible refine gate_dst (N := 1) rfl ?_); refine box_event ?hg (N := 1) ?hd (cs := #[.int .i64 a0_0, .int .i64 a0_1, .int .i64 a0_2, .int .i64 a0_3, .int .i64 a0_4]) (t := 37) ?hr ?_; (case hd => rfl); (case hg => rfl); (case hr => first | (go_simp; done) | (go_simp; rfl)); intro gb188 hg w16 hbox hb; have BK188 := Aside0.mk (hbox); have GW188 := Aside0.mk ((bz_ hg (lb0_ HB.out))); have GE188 := Aside0.mk ((bz_ hg (lb0_ HB.out))); replace HB := Aside0.mk (below_step (lb0_ HB.out) hb); clear hb hbox hg; obtain ⟨hcz17_0, hcz17_1, hcz17_2, hcz17_3, hcz17_4⟩ := cz5_ BK188.out; obtain ⟨hfz17_0, hfz17_1, hfz17_2, hfz17_3, hfz17_4⟩ := fz5_ BK188.out) | ((with_reducible refine gate_callee (f := 70) rfl ?_); refine ga_ (some 5) Try.func70 #[.int .i64 a0_0] ?_; (with_reducible refine (impl_isStation.calls a0_0 true _ A2.out).mono ?_); rintro e w' ⟨rfl, ⟨nd, rfl⟩⟩; refine ⟨_, rfl, ?_⟩) | (go_at_call 70; (with_reducible refine (impl_isStation.calls a0_1 true _ A4.out).mono ?_); rintro e w' ⟨rfl, ⟨nd, rfl⟩⟩) | (go_at_call 71; (with_reducible refine (impl_within.calls a0_2 1 500 true _ A9.out).mono ?_); rintro e w' ⟨rfl, ⟨nd, rfl⟩⟩) | (go_at_call 117; (with_reducible refine (impl_isBearing.calls a0_3 false _ A11.out).mono ?_); rintro e w' ⟨rfl, ⟨nd, rfl⟩⟩))
      go_ret
      exact ⟨rr_, lb1_ HB.out GE188.out⟩
    ·
     replace c10 := Bool.eq_false_iff.mpr c10
     subst c10
     have H1 : (some false) = some r := by rw [if_neg (show ¬ (false = true) by decide)] at H; exact H
     clear H
     have H := H1
     clear H1
     obtain rfl := Option.some.inj H
     go_enter Try.func102, Try.ntmps102
     go_wp2_with (first | ((with_reducible refine gate_dst (N := 1) rfl ?_); refine box_event ?hg (N := 1) ?hd (cs := #[.int .i64 a0_0, .int .i64 a0_1, .int .i64 a0_2, .int .i64 a0_3, .int .i64 a0_4]) (t := 37) ?hr ?_; (case hd => rfl); (case hg => rfl); (case hr => first | (go_simp; done) | (go_simp; rfl)); intro gb188 hg w18 hbox hb; have BK188 := Aside0.mk (hbox); have GW188 := Aside0.mk ((bz_ hg (lb0_ HB.out))); have GE188 := Aside0.mk ((bz_ hg (lb0_ HB.out))); replace HB := Aside0.mk (below_step (lb0_ HB.out) hb); clear hb hbox hg; obtain ⟨hcz19_0, hcz19_1, hcz19_2, hcz19_3, hcz19_4⟩ := cz5_ BK188.out; obtain ⟨hfz19_0, hfz19_1, hfz19_2, hfz19_3, hfz19_4⟩ := fz5_ BK188.out) | ((with_reducible refine gate_callee (f := 70) rfl ?_); refine ga_ (some 5) Try.func70 #[.int .i64 a0_0] ?_; (with_reducible refine (impl_isStation.calls a0_0 true _ A2.out).mono ?_); rintro e w' ⟨rfl, ⟨nd, rfl⟩⟩; refine ⟨_, rfl, ?_⟩) | (go_at_call 70; (with_reducible refine (impl_isStation.calls a0_1 true _ A4.out).mono ?_); rintro e w' ⟨rfl, ⟨nd, rfl⟩⟩) | (go_at_call 71; (with_reducible refine (impl_within.calls a0_2 1 500 false _ A9.out).mono ?_); rintro e w' ⟨rfl, ⟨nd, rfl⟩⟩))
     go_ret
     exact ⟨rr_, lb1_ HB.out GE188.out⟩
  ·
   replace c5 := Bool.eq_false_iff.mpr c5
   subst c5
   have H1 : (some false) = some r := by rw [if_neg (show ¬ (false = true) by decide)] at H; exact H
   clear H
   have H := H1
   clear H1
   obtain rfl := Option.some.inj H
   go_enter Try.func102, Try.ntmps102
   go_wp2_with (first | ((with_reducible refine gate_dst (N := 1) rfl ?_); refine box_event ?hg (N := 1) ?hd (cs := #[.int .i64 a0_0, .int .i64 a0_1, .int .i64 a0_2, .int .i64 a0_3, .int .i64 a0_4]) (t := 37) ?hr ?_; (case hd => rfl); (case hg => rfl); (case hr => first | (go_simp; done) | (go_simp; rfl)); intro gb188 hg w20 hbox hb; have BK188 := Aside0.mk (hbox); have GW188 := Aside0.mk ((bz_ hg (lb0_ HB.out))); have GE188 := Aside0.mk ((bz_ hg (lb0_ HB.out))); replace HB := Aside0.mk (below_step (lb0_ HB.out) hb); clear hb hbox hg; obtain ⟨hcz21_0, hcz21_1, hcz21_2, hcz21_3, hcz21_4⟩ := cz5_ BK188.out; obtain ⟨hfz21_0, hfz21_1, hfz21_2, hfz21_3, hfz21_4⟩ := fz5_ BK188.out) | ((with_reducible refine gate_callee (f := 70) rfl ?_); refine ga_ (some 5) Try.func70 #[.int .i64 a0_0] ?_; (with_reducible refine (impl_isStation.calls a0_0 true _ A2.out).mono ?_); rintro e w' ⟨rfl, ⟨nd, rfl⟩⟩; refine ⟨_, rfl, ?_⟩) | (go_at_call 70; (with_reducible refine (impl_isStation.calls a0_1 false _ A4.out).mono ?_); rintro e w' ⟨rfl, ⟨nd, rfl⟩⟩))
   go_ret
   exact ⟨rr_, lb1_ HB.out GE188.out⟩
 ·
  replace c3 := Bool.eq_false_iff.mpr c3
  subst c3
  have H1 : (some false) = some r := by rw [if_neg (show ¬ (false = true) by decide)] at H; exact H
  clear H
  have H := H1
  clear H1
  obtain rfl := Option.some.inj H
  go_enter Try.func102, Try.ntmps102
  go_wp2_with (first | ((with_reducible refine gate_dst (N := 1) rfl ?_); refine box_event ?hg (N := 1) ?hd (cs := #[.int .i64 a0_0, .int .i64 a0_1, .int .i64 a0_2, .int .i64 a0_3, .int .i64 a0_4]) (t := 37) ?hr ?_; (case hd => rfl); (case hg => rfl); (case hr => first | (go_simp; done) | (go_simp; rfl)); intro gb188 hg w22 hbox hb; have BK188 := Aside0.mk (hbox); have GW188 := Aside0.mk ((bz_ hg (lb0_ HB.out))); have GE188 := Aside0.mk ((bz_ hg (lb0_ HB.out))); replace HB := Aside0.mk (below_step (lb0_ HB.out) hb); clear hb hbox hg; obtain ⟨hcz23_0, hcz23_1, hcz23_2, hcz23_3, hcz23_4⟩ := cz5_ BK188.out; obtain ⟨hfz23_0, hfz23_1, hfz23_2, hfz23_3, hfz23_4⟩ := fz5_ BK188.out) | ((with_reducible refine gate_callee (f := 70) rfl ?_); refine ga_ (some 5) Try.func70 #[.int .i64 a0_0] ?_; (with_reducible refine (impl_isStation.calls a0_0 false _ A2.out).mono ?_); rintro e w' ⟨rfl, ⟨nd, rfl⟩⟩; refine ⟨_, rfl, ?_⟩))
  go_ret
  exact ⟨rr_, lb1_ HB.out GE188.out⟩
def impl_areLegs.l0 : Nat → List (S37) → List (S37) → Int → Int → Option (Bool)
 | 0, _, _, _, _ => none
 | k + 1, x0, x5, x6, x7 => if x7 < x6 then (if 0 ≤ x7 then (if x7 < (x5.length : Int) then ((impl_IsLeg.f ((rd_T37 x5 x7).f0) ((rd_T37 x5 x7).f1) ((rd_T37 x5 x7).f2) ((rd_T37 x5 x7).f3) ((rd_T37 x5 x7).f4)).bind fun t196 => (if t196 = true then (impl_areLegs.l0 k x0 x5 x6 (wrap64 (x7 + 1))) else (some false))) else (none)) else (none)) else (some (decide ((x0.length : Int) ≤ 12)))
def impl_areLegs.f (k : Nat) (l0 : List (S37)) : Option (Bool) := impl_areLegs.l0 k l0 l0 (l0.length : Int) 0
theorem impl_areLegs.mono_l : ∀ k, (∀ y0 y1 y2 y3, LeO (impl_areLegs.l0 k y0 y1 y2 y3) (impl_areLegs.l0 (k + 1) y0 y1 y2 y3))
 | 0 => fun _ _ _ _ r h => by simp [impl_areLegs.l0] at h
 | k + 1 => by
  have ih0 := impl_areLegs.mono_l k
  ·
   intro y0 y1 y2 y3
   unfold impl_areLegs.l0
   repeat' first
   | (with_reducible exact ih0 _ _ _ _)
   | (with_reducible exact LeO.refl _)
   | (with_reducible exact LeO.none _)
   | (with_reducible refine LeO.ite ?_ ?_)
   | (with_reducible refine LeO.bind ?_ (fun _ => ?_))
   | exact ih0 _ _ _ _
   | exact LeO.none _
   | refine LeO.ite ?_ ?_
   | refine LeO.bind ?_ (fun _ => ?_)
theorem impl_areLegs.mono : ∀ a0 k, LeO (impl_areLegs.f k a0) (impl_areLegs.f (k + 1) a0) := by
 intro a0 k
 have ih0 := impl_areLegs.mono_l k
 unfold impl_areLegs.f
 repeat' first
   | (with_reducible exact ih0 _ _ _ _)
   | (with_reducible exact LeO.refl _)
   | (with_reducible exact LeO.none _)
   | (with_reducible refine LeO.ite ?_ ?_)
   | (with_reducible refine LeO.bind ?_ (fun _ => ?_))
   | exact ih0 _ _ _ _
   | exact LeO.none _
   | refine LeO.ite ?_ ?_
   | refine LeO.bind ?_ (fun _ => ?_)
set_option maxHeartbeats 8000000 in
set_option maxRecDepth 100000 in
theorem impl_areLegs.calls (k : Nat) (A0 : Option Addr) (c0 : Nat) (l0 : List (S37)) (r : Bool) (w : World) (hr0 : Kd.C k37 w A0 l0.length l0) (hc0 : l0.length ≤ c0) (h : impl_areLegs.f k l0 = some r) :
  Calls Try.prog 69 #[.slice A0 l0.length c0] w fun e w' => e = .returned (.bool r) ∧ Below w.heap.size w w' := by
 have hu37 := Try.underlying37
 have HR0 := Aside0.mk hr0
 have HC0 := Aside0.mk hc0
 clear hr0 hc0
 have HB := Aside0.mk (Below.refl w.heap.size w)
 have H : (impl_areLegs.l0 k l0 l0 (l0.length : Int) 0) = some r := h
 clear h
 have H' := Aside0.mk H
 clear H
 go_enter Try.func69, Try.ntmps69
 go_wp2
 go_loopg [7] k (fun kq v7 w' => ∃ (x7_1 : Int), v7 = .int .i64 x7_1 ∧ Aside0 (impl_areLegs.l0 kq l0 l0 (l0.length : Int) x7_1 = some r) ∧ Aside0 (kq ≤ k) ∧ Aside0 (Below w.heap.size w w'))
 case atStart => exact ⟨(0), (by first | rfl | (simp; done) | (simp [*]; done)), H', ⟨Nat.le_refl _⟩, ⟨lb0_ HB.out⟩⟩
 case round =>
  clear H'
  obtain ⟨x7_1, rfl, HA, HK1, HB⟩ := hrel
  cases gk with
  | zero => exact absurd HA.out (by simp [impl_areLegs.l0])
  | succ k1 =>
   have H := HA.out
   clear HA
   simp only [impl_areLegs.l0] at H
   by_cases c2 : x7_1 < (l0.length : Int)
   ·
    rw [if_pos c2] at H
    have c2b0 : decide (x7_1 < (l0.length : Int)) = true := decide_eq_true c2
    clear c2
    by_cases c3 : 0 ≤ x7_1
    ·
     rw [if_pos c3] at H
     have c3b0 : decide (0 ≤ x7_1) = true := decide_eq_true c3
     clear c3
     by_cases c4 : x7_1 < (l0.length : Int)
     ·
      rw [if_pos c4] at H
      have c4b0 : decide (x7_1 < (l0.length : Int)) = true := decide_eq_true c4
      clear c4
      replace H := Option.bind_eq_some_iff.mp H
      obtain ⟨t196, A50, H⟩ := H
      replace H : (if t196 = true then (impl_areLegs.l0 k1 l0 l0 (l0.length : Int) (wrap64 (x7_1 + 1))) else (some false)) = some r := H
      have A5 := Aside0.mk A50
      clear A50
      by_cases c6 : t196 = true
      ·
       subst c6
       have H1 : (impl_areLegs.l0 k1 l0 l0 (l0.length : Int) (wrap64 (x7_1 + 1))) = some r := by rw [if_pos rfl] at H; exact H
       clear H
       have H := H1
       clear H1
       have H' := Aside0.mk H
       clear H
       have p194 : 0 ≤ (x7_1 : Int) := dt_
       have q194 : x7_1 < (l0.length : Int) := dt_
       obtain ⟨ad194, e194, hx194_0, hx194_1, hx194_2, hx194_3, hx194_4⟩ := at_T37 HR0.out x7_1 p194 q194
       cases e194
       replace hx194_0 := bc_ HB.out hx194_0
       replace hx194_1 := bc_ HB.out hx194_1
       replace hx194_2 := bc_ HB.out hx194_2
       replace hx194_3 := bc_ HB.out hx194_3
       replace hx194_4 := bc_ HB.out hx194_4
       replace p194 := eq_true p194
       replace q194 := eq_true q194
       go_wp2_with (first | ((with_reducible refine gate_dst (N := 4) rfl ?_); refine box_event ?hg (N := 4) ?hd (cs := #[.int .i64 0, .int .i64 0, .int .i64 0, .int .i64 0, .int .i64 0]) (t := 37) ?hr ?_; (case hd => rfl); (case hg => rfl); (case hr => first | (go_simp; done) | (go_simp; rfl)); intro gb195 hg w7 hbox hb; have BK195 := Aside0.mk (hbox); have GW195 := Aside0.mk ((bz_ hg (lb0_ HB.out))); have GE195 := Aside0.mk ((bz_ hg (lb0_ HB.out))); replace HB := Aside0.mk (below_step (lb0_ HB.out) hb); clear hb hbox hg; obtain ⟨hcz8_0, hcz8_1, hcz8_2, hcz8_3, hcz8_4⟩ := cz5_ BK195.out; obtain ⟨hfz8_0, hfz8_1, hfz8_2, hfz8_3, hfz8_4⟩ := fz5_ BK195.out) | ((with_reducible refine gate_callee (f := 102) rfl ?_); refine ga_ (some 12) Try.func102 #[.agg #[.int .i64 ((rd_T37 l0 x7_1).f0), .int .i64 ((rd_T37 l0 x7_1).f1), .int .i64 ((rd_T37 l0 x7_1).f2), .int .i64 ((rd_T37 l0 x7_1).f3), .int .i64 ((rd_T37 l0 x7_1).f4)]] ?_; (with_reducible refine (impl_IsLeg.calls ((rd_T37 l0 x7_1).f0) ((rd_T37 l0 x7_1).f1) ((rd_T37 l0 x7_1).f2) ((rd_T37 l0 x7_1).f3) ((rd_T37 l0 x7_1).f4) true _ A5.out).mono ?_); rintro e w9 ⟨rfl, hb⟩; refine ⟨_, rfl, ?_⟩; replace BK195 := Aside0.mk (blk_below (g := gb195) (o := .cells #[.int .i64 ((rd_T37 l0 x7_1).f0), .int .i64 ((rd_T37 l0 x7_1).f1), .int .i64 ((rd_T37 l0 x7_1).f2), .int .i64 ((rd_T37 l0 x7_1).f3), .int .i64 ((rd_T37 l0 x7_1).f4)] 37 (0, 0)) (by (with_reducible repeat (first | refine blk_drewN ?_ _ | refine blk_drew ?_ | refine blk_alloc ?_ _)); exact (p5_ BK195.out _ _ _ _ _)) hb); replace HB := Aside0.mk (below_step (lb1_ HB.out GE195.out) hb); (try clear hb); (try clear hb2); (try clear hk); (try clear hi)))
       go_roundg k1
       case measure => have := HK1.out; omega
       case rel => exact ⟨(wrap64 (x7_1 + 1)), (by first | rfl | (simp; done) | (simp [*]; done)), H', ⟨by have := HK1.out; omega⟩, ⟨lb1_ HB.out GE195.out⟩⟩
      ·
       replace c6 := Bool.eq_false_iff.mpr c6
       subst c6
       have H1 : (some false) = some r := by rw [if_neg (show ¬ (false = true) by decide)] at H; exact H
       clear H
       have H := H1
       clear H1
       obtain rfl := Option.some.inj H
       have p194 : 0 ≤ (x7_1 : Int) := dt_
       have q194 : x7_1 < (l0.length : Int) := dt_
       obtain ⟨ad194, e194, hx194_0, hx194_1, hx194_2, hx194_3, hx194_4⟩ := at_T37 HR0.out x7_1 p194 q194
       cases e194
       replace hx194_0 := bc_ HB.out hx194_0
       replace hx194_1 := bc_ HB.out hx194_1
       replace hx194_2 := bc_ HB.out hx194_2
       replace hx194_3 := bc_ HB.out hx194_3
       replace hx194_4 := bc_ HB.out hx194_4
       replace p194 := eq_true p194
       replace q194 := eq_true q194
       go_wp2_with (first | ((with_reducible refine gate_dst (N := 4) rfl ?_); refine box_event ?hg (N := 4) ?hd (cs := #[.int .i64 0, .int .i64 0, .int .i64 0, .int .i64 0, .int .i64 0]) (t := 37) ?hr ?_; (case hd => rfl); (case hg => rfl); (case hr => first | (go_simp; done) | (go_simp; rfl)); intro gb195 hg w10 hbox hb; have BK195 := Aside0.mk (hbox); have GW195 := Aside0.mk ((bz_ hg (lb0_ HB.out))); have GE195 := Aside0.mk ((bz_ hg (lb0_ HB.out))); replace HB := Aside0.mk (below_step (lb0_ HB.out) hb); clear hb hbox hg; obtain ⟨hcz11_0, hcz11_1, hcz11_2, hcz11_3, hcz11_4⟩ := cz5_ BK195.out; obtain ⟨hfz11_0, hfz11_1, hfz11_2, hfz11_3, hfz11_4⟩ := fz5_ BK195.out) | ((with_reducible refine gate_callee (f := 102) rfl ?_); refine ga_ (some 12) Try.func102 #[.agg #[.int .i64 ((rd_T37 l0 x7_1).f0), .int .i64 ((rd_T37 l0 x7_1).f1), .int .i64 ((rd_T37 l0 x7_1).f2), .int .i64 ((rd_T37 l0 x7_1).f3), .int .i64 ((rd_T37 l0 x7_1).f4)]] ?_; (with_reducible refine (impl_IsLeg.calls ((rd_T37 l0 x7_1).f0) ((rd_T37 l0 x7_1).f1) ((rd_T37 l0 x7_1).f2) ((rd_T37 l0 x7_1).f3) ((rd_T37 l0 x7_1).f4) false _ A5.out).mono ?_); rintro e w12 ⟨rfl, hb⟩; refine ⟨_, rfl, ?_⟩; replace BK195 := Aside0.mk (blk_below (g := gb195) (o := .cells #[.int .i64 ((rd_T37 l0 x7_1).f0), .int .i64 ((rd_T37 l0 x7_1).f1), .int .i64 ((rd_T37 l0 x7_1).f2), .int .i64 ((rd_T37 l0 x7_1).f3), .int .i64 ((rd_T37 l0 x7_1).f4)] 37 (0, 0)) (by (with_reducible repeat (first | refine blk_drewN ?_ _ | refine blk_drew ?_ | refine blk_alloc ?_ _)); exact (p5_ BK195.out _ _ _ _ _)) hb); replace HB := Aside0.mk (below_step (lb1_ HB.out GE195.out) hb); (try clear hb); (try clear hb2); (try clear hk); (try clear hi)))
       go_ret
       exact ⟨rr_, lb1_ HB.out GE195.out⟩
     ·
      rw [if_neg c4] at H
      exact absurd H (by simp)
    ·
     rw [if_neg c3] at H
     exact absurd H (by simp)
   ·
    rw [if_neg c2] at H
    have c2b0 : decide (x7_1 < (l0.length : Int)) = false := decide_eq_false c2
    clear c2
    obtain rfl := Option.some.inj H
    go_wp2
    go_ret
    exact ⟨rr_, lb0_ HB.out⟩
theorem heap_new_ (w : World) (cs : Array Value) (t : TypeId) : (w.alloc (.cells cs t)).heap[w.heap.size]? = some (.cells cs t (0, 0)) := by
 show (w.heap.push _)[w.heap.size]? = _
 simp
theorem heap_size_ (w : World) (o : Obj) : (w.alloc o).heap.size = w.heap.size + 1 := by
 show (w.heap.push o).size = _
 simp
def bits_Mul64.f (a0 : Int) (a1 : Int) : Option (Int × Int) := some (IntKind.u64.wrap ((IntKind.u64.wrap ((IntKind.u64.wrap ((a0 / 4294967296) * (a1 / 4294967296))) + ((IntKind.u64.wrap ((IntKind.u64.wrap ((a0 / 4294967296) * (Go.bits .and .u64 a1 4294967295))) + ((IntKind.u64.wrap ((Go.bits .and .u64 a0 4294967295) * (Go.bits .and .u64 a1 4294967295))) / 4294967296))) / 4294967296))) + ((IntKind.u64.wrap ((Go.bits .and .u64 (IntKind.u64.wrap ((IntKind.u64.wrap ((a0 / 4294967296) * (Go.bits .and .u64 a1 4294967295))) + ((IntKind.u64.wrap ((Go.bits .and .u64 a0 4294967295) * (Go.bits .and .u64 a1 4294967295))) / 4294967296))) 4294967295) + (IntKind.u64.wrap ((Go.bits .and .u64 a0 4294967295) * (a1 / 4294967296))))) / 4294967296)), IntKind.u64.wrap (a0 * a1))
set_option maxHeartbeats 8000000 in
set_option maxRecDepth 100000 in
theorem bits_Mul64.calls (a0 : Int) (a1 : Int) (r1 : Int) (r2 : Int) (w : World) (h : bits_Mul64.f a0 a1 = some (r1, r2)) :
  Calls Try.prog 126 #[.int .u64 a0, .int .u64 a1] w fun e w' => e = .returned (.tuple #[.int .u64 r1, .int .u64 r2]) ∧ Drawn0 w w' := by
 have H : (some (IntKind.u64.wrap ((IntKind.u64.wrap ((IntKind.u64.wrap ((a0 / 4294967296) * (a1 / 4294967296))) + ((IntKind.u64.wrap ((IntKind.u64.wrap ((a0 / 4294967296) * (Go.bits .and .u64 a1 4294967295))) + ((IntKind.u64.wrap ((Go.bits .and .u64 a0 4294967295) * (Go.bits .and .u64 a1 4294967295))) / 4294967296))) / 4294967296))) + ((IntKind.u64.wrap ((Go.bits .and .u64 (IntKind.u64.wrap ((IntKind.u64.wrap ((a0 / 4294967296) * (Go.bits .and .u64 a1 4294967295))) + ((IntKind.u64.wrap ((Go.bits .and .u64 a0 4294967295) * (Go.bits .and .u64 a1 4294967295))) / 4294967296))) 4294967295) + (IntKind.u64.wrap ((Go.bits .and .u64 a0 4294967295) * (a1 / 4294967296))))) / 4294967296)), IntKind.u64.wrap (a0 * a1))) = some (r1, r2) := h
 clear h
 simp only [Option.some.injEq, Prod.mk.injEq] at H
 obtain ⟨rfl, rfl⟩ := H
 go_enter Try.func126, Try.ntmps126
 go_wp2
 go_ret2
 exact ⟨by first | rfl | (simp; done) | (simp [*]; done), by repeat (first | exact Drawn0.refl _ | apply Drawn0.step)⟩
def bits_Mul.f (a0 : Int) (a1 : Int) : Option (Int × Int) := (bits_Mul64.f a0 a1).bind fun bt197 => (some (bt197.1, bt197.2))
set_option maxHeartbeats 8000000 in
set_option maxRecDepth 100000 in
theorem bits_Mul.calls (a0 : Int) (a1 : Int) (r1 : Int) (r2 : Int) (w : World) (h : bits_Mul.f a0 a1 = some (r1, r2)) :
  Calls Try.prog 118 #[.int .u64 a0, .int .u64 a1] w fun e w' => e = .returned (.tuple #[.int .u64 r1, .int .u64 r2]) ∧ Drawn0 w w' := by
 have H : ((bits_Mul64.f a0 a1).bind fun bt197 => (some (bt197.1, bt197.2))) = some (r1, r2) := h
 clear h
 replace H := Option.bind_eq_some_iff.mp H
 obtain ⟨⟨t197, t198⟩, A30, H⟩ := H
 replace H : (some (t197, t198)) = some (r1, r2) := H
 have A3 := Aside0.mk A30
 clear A30
 simp only [Option.some.injEq, Prod.mk.injEq] at H
 obtain ⟨rfl, rfl⟩ := H
 go_enter Try.func118, Try.ntmps118
 go_wp2_with (first | ((with_reducible refine gate_callee (f := 126) rfl ?_); refine ga_ (some 25) Try.func126 #[.int .u64 a0, .int .u64 a1] ?_; (with_reducible refine (bits_Mul64.calls a0 a1 t197 t198 _ A3.out).mono ?_); rintro e w' ⟨rfl, ⟨nd, rfl⟩⟩; refine ⟨_, rfl, ?_⟩))
 go_ret2
 exact ⟨by first | rfl | (simp; done) | (simp [*]; done), by repeat (first | exact Drawn0.refl _ | apply Drawn0.step)⟩
def slices_Repeat_int_int.f (l0 : List Int) (a1 : Int) : Option (List Int) := if l0.length = 1 ∧ a1 = 8 then some (List.replicate 8 (rd l0 0)) else none
theorem made8 : madeCells (Value.int .i64 0).cells 8 = #[.int .i64 0, .int .i64 0, .int .i64 0, .int .i64 0, .int .i64 0, .int .i64 0, .int .i64 0, .int .i64 0] := by
 apply Array.ext
 ·
  simp [madeCells]
 ·
  intro i h1 h2
  match i, h2 with
  | 0, _ => simp [madeCells, Value.cells]
  | 1, _ => simp [madeCells, Value.cells]
  | 2, _ => simp [madeCells, Value.cells]
  | 3, _ => simp [madeCells, Value.cells]
  | 4, _ => simp [madeCells, Value.cells]
  | 5, _ => simp [madeCells, Value.cells]
  | 6, _ => simp [madeCells, Value.cells]
  | 7, _ => simp [madeCells, Value.cells]
  | n + 8, h => exact absurd h (by simp)
theorem cell_add0_ (W : World) (g j : Nat) : W.cell? ((⟨g, 0, none⟩ : Addr).add j) = W.cell? ⟨g, j, none⟩ := by
 unfold Addr.add
 split
 ·
  rename_i h
  rw [h]
 ·
  simp only [Nat.zero_add]
theorem mul_1_8 : bits_Mul.f 1 8 = some (0, 8) := by decide +kernel
set_option maxHeartbeats 8000000 in
set_option maxRecDepth 100000 in
theorem slices_Repeat_int_int.calls (A0 : Option Addr) (c0 : Nat) (l0 : List Int) (a1 : Int) (r : List Int) (w : World) (hr0 : Kd.C (Kd.int .i64) w A0 l0.length l0) (hc0 : l0.length ≤ c0) (h : slices_Repeat_int_int.f l0 a1 = some r) :
  Calls Try.prog 103 #[.slice A0 l0.length c0, .int .i64 a1] w fun e w' => ∃ v0_ : Value, e = .returned (v0_) ∧ Kd.R (Kd.int .i64) 3 w' w.heap.size (fun _ => True) v0_ r ∧ Below w.heap.size w w' := by
 unfold slices_Repeat_int_int.f at h
 by_cases hl : l0.length = 1 ∧ a1 = 8
 ·
  rw [if_pos hl] at h
  obtain rfl := Option.some.inj h
  obtain ⟨hl1, rfl⟩ := hl
  obtain ⟨ad, rfl, hx⟩ := Kd.at_int hr0 0 (by omega) (by omega)
  have HR := Aside0.mk hr0
  clear hr0
  rw [hl1] at hc0 ⊢
  have hm : ∀ W : World, Sem.run Try.prog (Instr.makeSlice 60 (.int .i64 8) (.int .i64 8)) W = .ok (.slice (some ⟨W.heap.size, 0, none⟩) 8 8) (W.alloc (.cells #[.int .i64 0, .int .i64 0, .int .i64 0, .int .i64 0, .int .i64 0, .int .i64 0, .int .i64 0, .int .i64 0] 3)) := fun W => by
   obtain ⟨i0, hi, hz0, hz1, hz2⟩ := info_parts info3
   have h := run_makeSlice (P := Try.prog) W 60 3 i0 (.int .i64 0) Try.underlying60 hi hz0 .i64 .i64 8 8 (by decide) (by decide) (by rw [hz1]; decide) (by rw [hz2]; decide) (by decide)
   rw [hz1] at h
   rw [h, show Int.toNat 8 * 1 = 8 from rfl, made8]
   rfl
  generalize rd l0 0 = x at hx ⊢
  have hsrc : Aside0 (∀ W : World, Below w.heap.size w W → ∀ (j : Nat) (v : Value), [Value.int .i64 x][j]? = some v → W.cell? (ad.add j) = some v) := ⟨fun W hb j v hj => by
   match j, hj with
   | 0, hj =>
    have : v = .int .i64 x := (by simpa using hj : Value.int .i64 x = v).symm
    subst this
    exact pw_cell_below hb hx⟩
  have hsz : Aside0 ((Try.prog.info? 3).map (·.size) = some 1) := ⟨by kernel_rfl⟩
  have hone : Aside0 (∀ v ∈ [Value.int .i64 x], v.oneCell' = true) := ⟨fun v hv => by rw [List.mem_singleton.1 hv]; rfl⟩
  go_enter Try.func103, Try.ntmps103
  go_wp2_with (first | (go_at_call 118; refine (bits_Mul.calls 1 8 0 8 _ mul_1_8).mono ?_; rintro e w1 ⟨rfl, ⟨n1, rfl⟩⟩) | (refine wpList_copy_splice rfl (.tmp 31) (.tmp 32) 60 60 rfl 3 Try.underlying60 hsz.out _ _ _ _ _ _ rfl rfl w.heap.size 0 [.int .i64 0, .int .i64 0, .int .i64 0, .int .i64 0, .int .i64 0, .int .i64 0, .int .i64 0, .int .i64 0] 3 (heap_new_ _ _ _) [.int .i64 x] rfl (fun _ => ⟨rfl, ad, rfl, hsrc.out _ (below_alloc (pw_below_drewN (Below.refl _ _) _) _)⟩) (by simp) hone.out w.heap.size w (below_alloc (pw_below_drewN (Below.refl _ _) _) _) (Nat.le_refl _) ?_; intro w2 hg2 hb2))
  have HG0 := Aside0.mk hg2
  have HB0 := Aside0.mk hb2
  clear hg2 hb2
  go_loopg [8] 3 (fun gg s8 wr => Aside0 (Below w.heap.size w wr) ∧ ((3 ≤ gg ∧ s8 = .int .i64 1 ∧ Aside0 (Hid (wr.heap[w.heap.size]? = some (.cells (List.toArray [.int .i64 x, .int .i64 0, .int .i64 0, .int .i64 0, .int .i64 0, .int .i64 0, .int .i64 0, .int .i64 0]) 3 (0, 0))))) ∨ (2 ≤ gg ∧ s8 = .int .i64 2 ∧ Aside0 (Hid (wr.heap[w.heap.size]? = some (.cells (List.toArray [.int .i64 x, .int .i64 x, .int .i64 0, .int .i64 0, .int .i64 0, .int .i64 0, .int .i64 0, .int .i64 0]) 3 (0, 0))))) ∨ (1 ≤ gg ∧ s8 = .int .i64 4 ∧ Aside0 (Hid (wr.heap[w.heap.size]? = some (.cells (List.toArray [.int .i64 x, .int .i64 x, .int .i64 x, .int .i64 x, .int .i64 0, .int .i64 0, .int .i64 0, .int .i64 0]) 3 (0, 0))))) ∨ (s8 = .int .i64 8 ∧ Aside0 (Hid (wr.heap[w.heap.size]? = some (.cells (List.toArray [.int .i64 x, .int .i64 x, .int .i64 x, .int .i64 x, .int .i64 x, .int .i64 x, .int .i64 x, .int .i64 x]) 3 (0, 0)))))))
  case atStart => exact ⟨HB0, .inl ⟨Nat.le_refl _, rfl, HG0⟩⟩
  case round =>
  obtain ⟨HB, ⟨hg, rfl, HG⟩ | ⟨hg, rfl, HG⟩ | ⟨hg, rfl, HG⟩ | ⟨rfl, HG⟩⟩ := hrel
  ·
   have hsrc1 : Aside0 (∀ W : World, Hid (W.heap[w.heap.size]? = some (.cells (List.toArray [.int .i64 x, .int .i64 0, .int .i64 0, .int .i64 0, .int .i64 0, .int .i64 0, .int .i64 0, .int .i64 0]) 3 (0, 0))) → ∀ (j : Nat) (v : Value), [Value.int .i64 x][j]? = some v → W.cell? ((⟨w.heap.size, 0, none⟩ : Addr).add j) = some v) := ⟨fun W hg j v hj => by
    have e := cell_of_row W w.heap.size (0 + j) _ 3 (0, 0) hg
    rw [Nat.zero_add] at e
    refine Eq.trans (cell_add0_ W w.heap.size j) (e.trans ?_)
    clear e hg
    have hl := (List.getElem?_eq_some_iff.1 hj).1
    match j, hl, hj with
    | 0, _, hj => exact hj
    | m + 1, hl, _ => exact absurd hl (by simp)⟩
   have hone1 : Aside0 (∀ v ∈ [Value.int .i64 x], v.oneCell' = true) := ⟨fun v hv => by simp at hv; rw [hv]; rfl⟩
   go_wp2_with fail
   go_region_held3 (fun W => True) (exact trivial) ((first | (refine step_copy_splice rfl (.tmp 41) (.tmp 44) 60 60 rfl 3 Try.underlying60 hsz.out _ _ _ _ _ _ rfl rfl w.heap.size 1 [.int .i64 x, .int .i64 0, .int .i64 0, .int .i64 0, .int .i64 0, .int .i64 0, .int .i64 0, .int .i64 0] 3 HG.out [Value.int .i64 x] rfl (fun _ => ⟨rfl, _, rfl, hsrc1.out _ HG.out⟩) (by simp) hone1.out w.heap.size w (below_drew HB.out) (Nat.le_refl _) ?_; intro w3 hg3 hb3) | fail))
   all_goals go_wp2_with fail
   go_roundg 2
   case measure => omega
   case rel => exact ⟨⟨hb3⟩, .inr (.inl ⟨by omega, by rfl, ⟨hg3⟩⟩)⟩
  ·
   have hsrc2 : Aside0 (∀ W : World, Hid (W.heap[w.heap.size]? = some (.cells (List.toArray [.int .i64 x, .int .i64 x, .int .i64 0, .int .i64 0, .int .i64 0, .int .i64 0, .int .i64 0, .int .i64 0]) 3 (0, 0))) → ∀ (j : Nat) (v : Value), [Value.int .i64 x, Value.int .i64 x][j]? = some v → W.cell? ((⟨w.heap.size, 0, none⟩ : Addr).add j) = some v) := ⟨fun W hg j v hj => by
    have e := cell_of_row W w.heap.size (0 + j) _ 3 (0, 0) hg
    rw [Nat.zero_add] at e
    refine Eq.trans (cell_add0_ W w.heap.size j) (e.trans ?_)
    clear e hg
    have hl := (List.getElem?_eq_some_iff.1 hj).1
    match j, hl, hj with
    | 0, _, hj => exact hj
    | 1, _, hj => exact hj
    | m + 2, hl, _ => exact absurd hl (by simp)⟩
   have hone2 : Aside0 (∀ v ∈ [Value.int .i64 x, Value.int .i64 x], v.oneCell' = true) := ⟨fun v hv => by simp at hv; rw [hv]; rfl⟩
   go_wp2_with fail
   go_region_held3 (fun W => True) (exact trivial) ((first | (refine step_copy_splice rfl (.tmp 41) (.tmp 44) 60 60 rfl 3 Try.underlying60 hsz.out _ _ _ _ _ _ rfl rfl w.heap.size 2 [.int .i64 x, .int .i64 x, .int .i64 0, .int .i64 0, .int .i64 0, .int .i64 0, .int .i64 0, .int .i64 0] 3 HG.out [Value.int .i64 x, Value.int .i64 x] rfl (fun _ => ⟨rfl, _, rfl, hsrc2.out _ HG.out⟩) (by simp) hone2.out w.heap.size w (below_drew HB.out) (Nat.le_refl _) ?_; intro w3 hg3 hb3) | fail))
   all_goals go_wp2_with fail
   go_roundg 1
   case measure => omega
   case rel => exact ⟨⟨hb3⟩, .inr (.inr (.inl ⟨by omega, by rfl, ⟨hg3⟩⟩))⟩
  ·
   have hsrc4 : Aside0 (∀ W : World, Hid (W.heap[w.heap.size]? = some (.cells (List.toArray [.int .i64 x, .int .i64 x, .int .i64 x, .int .i64 x, .int .i64 0, .int .i64 0, .int .i64 0, .int .i64 0]) 3 (0, 0))) → ∀ (j : Nat) (v : Value), [Value.int .i64 x, Value.int .i64 x, Value.int .i64 x, Value.int .i64 x][j]? = some v → W.cell? ((⟨w.heap.size, 0, none⟩ : Addr).add j) = some v) := ⟨fun W hg j v hj => by
    have e := cell_of_row W w.heap.size (0 + j) _ 3 (0, 0) hg
    rw [Nat.zero_add] at e
    refine Eq.trans (cell_add0_ W w.heap.size j) (e.trans ?_)
    clear e hg
    have hl := (List.getElem?_eq_some_iff.1 hj).1
    match j, hl, hj with
    | 0, _, hj => exact hj
    | 1, _, hj => exact hj
    | 2, _, hj => exact hj
    | 3, _, hj => exact hj
    | m + 4, hl, _ => exact absurd hl (by simp)⟩
   have hone4 : Aside0 (∀ v ∈ [Value.int .i64 x, Value.int .i64 x, Value.int .i64 x, Value.int .i64 x], v.oneCell' = true) := ⟨fun v hv => by simp at hv; rw [hv]; rfl⟩
   go_wp2_with fail
   go_region_held3 (fun W => True) (exact trivial) ((first | (refine step_copy_splice rfl (.tmp 41) (.tmp 44) 60 60 rfl 3 Try.underlying60 hsz.out _ _ _ _ _ _ rfl rfl w.heap.size 4 [.int .i64 x, .int .i64 x, .int .i64 x, .int .i64 x, .int .i64 0, .int .i64 0, .int .i64 0, .int .i64 0] 3 HG.out [Value.int .i64 x, Value.int .i64 x, Value.int .i64 x, Value.int .i64 x] rfl (fun _ => ⟨rfl, _, rfl, hsrc4.out _ HG.out⟩) (by simp) hone4.out w.heap.size w (below_drew HB.out) (Nat.le_refl _) ?_; intro w3 hg3 hb3) | fail))
   all_goals go_wp2_with fail
   go_roundg 0
   case measure => omega
   case rel => exact ⟨⟨hb3⟩, .inr (.inr (.inr ⟨by rfl, ⟨hg3⟩⟩))⟩
  ·
   go_wp2
   go_ret
   refine ⟨_, rfl, Kd.R_of_own ⟨rfl, .inr ⟨_, 8, _, rfl, Nat.le_refl _, HG.out, Nat.le_refl _, by decide, rfl, rfl⟩⟩ (fun _ _ => trivial), HB.out⟩
 ·
  rw [if_neg hl] at h
  cases h
mutual
def impl_Exploration_wayOut.l0 : Nat → List Int → Int → List (S37) → List Bool → List Bool → Int → Int → Option (Int × Bool)
 | 0, _, _, _, _, _, _, _ => none
 | k + 1, x4, x11, x200000, x200001, x200002, x200003, x200004 => if x11 < 8 then (impl_Exploration_wayOut.l1 k x4 x11 x200000 (x200000.length : Int) 0 x200000 x200001 x200002 x200003 x200004) else (if 0 ≤ x200003 then (if x200003 < (x4.length : Int) then (some (rd x4 x200003, decide ((rd x4 x200003) < 1073741824))) else (none)) else (none))
def impl_Exploration_wayOut.l1 : Nat → List Int → Int → List (S37) → Int → Int → List (S37) → List Bool → List Bool → Int → Int → Option (Int × Bool)
 | 0, _, _, _, _, _, _, _, _, _, _ => none
 | k + 1, x4, x11, x14, x15, x16, x200000, x200001, x200002, x200003, x200004 => if x16 < x15 then (if 0 ≤ x16 then (if x16 < (x14.length : Int) then (if 0 ≤ ((rd_T37 x14 x16).f0) then (if ((rd_T37 x14 x16).f0) < (x200001.length : Int) then (if rdOf false x200001 ((rd_T37 x14 x16).f0) = true then (if 0 ≤ ((rd_T37 x14 x16).f1) then (if ((rd_T37 x14 x16).f1) < (x200001.length : Int) then (if rdOf false x200001 ((rd_T37 x14 x16).f1) = true then (if ((rd_T37 x14 x16).f0) < (x4.length : Int) then (if ((rd_T37 x14 x16).f1) < (x4.length : Int) then ((some (x4.set (((rd_T37 x14 x16).f0) : Int).toNat (mn (rd x4 ((rd_T37 x14 x16).f0)) (wrap64 ((rd x4 ((rd_T37 x14 x16).f1)) + ((rd_T37 x14 x16).f2)))) : List Int)).bind fun y215 => (impl_Exploration_wayOut.l1 k (y215.set (((rd_T37 x14 x16).f1) : Int).toNat (mn (rd y215 ((rd_T37 x14 x16).f1)) (wrap64 ((rd y215 ((rd_T37 x14 x16).f0)) + ((rd_T37 x14 x16).f2))))) x11 x14 x15 (wrap64 (x16 + 1)) x200000 x200001 x200002 x200003 x200004)) else (none)) else (none)) else (impl_Exploration_wayOut.l1 k x4 x11 x14 x15 (wrap64 (x16 + 1)) x200000 x200001 x200002 x200003 x200004)) else (none)) else (none)) else (impl_Exploration_wayOut.l1 k x4 x11 x14 x15 (wrap64 (x16 + 1)) x200000 x200001 x200002 x200003 x200004)) else (none)) else (none)) else (none)) else (none)) else (impl_Exploration_wayOut.l0 k x4 (wrap64 (x11 + 1)) x200000 x200001 x200002 x200003 x200004)
end
def impl_Exploration_wayOut.f (k : Nat) (l0_0 : List (S37)) (l0_1 : List Bool) (l0_2 : List Bool) (a0_3 : Int) (a0_4 : Int) : Option (Int × Bool) := (slices_Repeat_int_int.f (([1073741824] : List Int)) 8).bind fun t203 => (if 0 < (t203.length : Int) then (impl_Exploration_wayOut.l0 k (t203.set (0 : Int).toNat 0) 0 l0_0 l0_1 l0_2 a0_3 a0_4) else (none))
theorem impl_Exploration_wayOut.mono_l : ∀ k, (∀ y0 y1 y2 y3 y4 y5 y6, LeO (impl_Exploration_wayOut.l0 k y0 y1 y2 y3 y4 y5 y6) (impl_Exploration_wayOut.l0 (k + 1) y0 y1 y2 y3 y4 y5 y6)) ∧ (∀ y0 y1 y2 y3 y4 y5 y6 y7 y8 y9, LeO (impl_Exploration_wayOut.l1 k y0 y1 y2 y3 y4 y5 y6 y7 y8 y9) (impl_Exploration_wayOut.l1 (k + 1) y0 y1 y2 y3 y4 y5 y6 y7 y8 y9))
 | 0 => ⟨fun _ _ _ _ _ _ _ r h => by simp [impl_Exploration_wayOut.l0] at h, fun _ _ _ _ _ _ _ _ _ _ r h => by simp [impl_Exploration_wayOut.l1] at h⟩
 | k + 1 => by
  obtain ⟨ih0, ih1⟩ := impl_Exploration_wayOut.mono_l k
  refine ⟨?_, ?_⟩
  ·
   intro y0 y1 y2 y3 y4 y5 y6
   unfold impl_Exploration_wayOut.l0
   repeat' first
   | (with_reducible exact ih0 _ _ _ _ _ _ _)
   | (with_reducible exact ih1 _ _ _ _ _ _ _ _ _ _)
   | (with_reducible exact LeO.refl _)
   | (with_reducible exact LeO.none _)
   | (with_reducible refine LeO.ite ?_ ?_)
   | (with_reducible refine LeO.bind ?_ (fun _ => ?_))
   | exact ih0 _ _ _ _ _ _ _
   | exact ih1 _ _ _ _ _ _ _ _ _ _
   | exact LeO.none _
   | refine LeO.ite ?_ ?_
   | refine LeO.bind ?_ (fun _ => ?_)
  ·
   intro y0 y1 y2 y3 y4 y5 y6 y7 y8 y9
   unfold impl_Exploration_wayOut.l1
   repeat' first
   | (with_reducible exact ih0 _ _ _ _ _ _ _)
   | (with_reducible exact ih1 _ _ _ _ _ _ _ _ _ _)
   | (with_reducible exact LeO.refl _)
   | (with_reducible exact LeO.none _)
   | (with_reducible refine LeO.ite ?_ ?_)
   | (with_reducible refine LeO.bind ?_ (fun _ => ?_))
   | exact ih0 _ _ _ _ _ _ _
   | exact ih1 _ _ _ _ _ _ _ _ _ _
   | exact LeO.none _
   | refine LeO.ite ?_ ?_
   | refine LeO.bind ?_ (fun _ => ?_)
theorem impl_Exploration_wayOut.mono : ∀ a0 a1 a2 a3 a4 k, LeO (impl_Exploration_wayOut.f k a0 a1 a2 a3 a4) (impl_Exploration_wayOut.f (k + 1) a0 a1 a2 a3 a4) := by
 intro a0 a1 a2 a3 a4 k
 obtain ⟨ih0, ih1⟩ := impl_Exploration_wayOut.mono_l k
 unfold impl_Exploration_wayOut.f
 repeat' first
   | (with_reducible exact ih0 _ _ _ _ _ _ _)
   | (with_reducible exact ih1 _ _ _ _ _ _ _ _ _ _)
   | (with_reducible exact LeO.refl _)
   | (with_reducible exact LeO.none _)
   | (with_reducible refine LeO.ite ?_ ?_)
   | (with_reducible refine LeO.bind ?_ (fun _ => ?_))
   | exact ih0 _ _ _ _ _ _ _
   | exact ih1 _ _ _ _ _ _ _ _ _ _
   | exact LeO.none _
   | refine LeO.ite ?_ ?_
   | refine LeO.bind ?_ (fun _ => ?_)
def impl_Exploration_wayOut.T9 : Bool × List (List Nat × List Nat) := (true, [([], []), ([], []), ([1], [1]), ([], []), ([], []), ([4], [4]), ([3, 5], [3, 5]), ([6], [6]), ([], []), ([], []), ([9], [9]), ([8, 10], [8, 10]), ([11], [11]), ([], []), ([13], [13]), ([12, 14], [12, 14]), ([7, 15], [7, 15]), ([0, 2, 0, 1, 2, 3, 4, 5, 6, 7, 8, 9, 10, 11, 12, 13, 14, 15, 16], [0, 2]), ([17, 16, 0, 1, 2, 3, 4, 5, 6, 7, 8, 9, 10, 11, 12, 13, 14, 15, 16], [16, 17])])
def impl_Exploration_wayOut.B9 : List Nat := [0, 0, 2, 0, 0, 16, 56, 120, 0, 0, 512, 1792, 3840, 0, 8192, 32512, 65528, 131071, 262143]
theorem impl_Exploration_wayOut.tab9 : rtab .any (opsOf Try.f72 9) = impl_Exploration_wayOut.T9 := by kernel_rfl
theorem impl_Exploration_wayOut.bits9 : waitsOk impl_Exploration_wayOut.T9.2 impl_Exploration_wayOut.B9 = true := by kernel_rfl
def impl_Exploration_wayOut.T10 : Bool × List (List Nat × List Nat) := (true, [([], []), ([], []), ([1], [1]), ([], []), ([], []), ([4], [4]), ([3, 5], [3, 5]), ([6], [6]), ([], []), ([], []), ([9], [9]), ([8, 10], [8, 10]), ([11], [11]), ([], []), ([13], [13]), ([12, 14], [12, 14]), ([7, 15], [7, 15]), ([0, 2, 0, 1, 2, 3, 4, 5, 6, 7, 8, 9, 10, 11, 12, 13, 14, 15, 16], [0, 2]), ([17, 16, 0, 1, 2, 3, 4, 5, 6, 7, 8, 9, 10, 11, 12, 13, 14, 15, 16], [16, 17])])
def impl_Exploration_wayOut.B10 : List Nat := [0, 0, 2, 0, 0, 16, 56, 120, 0, 0, 512, 1792, 3840, 0, 8192, 32512, 65528, 131071, 262143]
theorem impl_Exploration_wayOut.tab10 : rtab .any (opsOf Try.f72 10) = impl_Exploration_wayOut.T10 := by kernel_rfl
theorem impl_Exploration_wayOut.bits10 : waitsOk impl_Exploration_wayOut.T10.2 impl_Exploration_wayOut.B10 = true := by kernel_rfl
def impl_Exploration_wayOut.T13 : Bool × List (List Nat × List Nat) := (true, [([], []), ([], []), ([1], [1]), ([0, 2], [0, 2]), ([3], [3]), ([], []), ([], []), ([6], [6]), ([5, 7], [5, 7]), ([8], [8]), ([9], [9]), ([4, 0, 1, 2, 3, 4], [4]), ([10, 11, 0, 1, 2, 3, 4, 5, 6, 7, 8, 9, 10, 11], [10])])
def impl_Exploration_wayOut.B13 : List Nat := [0, 0, 2, 7, 15, 0, 0, 64, 224, 480, 992, 31, 4095]
theorem impl_Exploration_wayOut.tab13 : rtab .any (opsOf Try.f72 13) = impl_Exploration_wayOut.T13 := by kernel_rfl
theorem impl_Exploration_wayOut.bits13 : waitsOk impl_Exploration_wayOut.T13.2 impl_Exploration_wayOut.B13 = true := by kernel_rfl
abbrev impl_Exploration_wayOut.mk0 : Array Bool := #[fF,fF,fF,fF,fF,fF,fF,fF,fF,fF,fF,fF,fF,fF,fF,fF,fF,fF,fF]
abbrev impl_Exploration_wayOut.mk1 : Array Bool := #[tT,fF,fF,fF,fF,fF,fF,fF,fF,fF,fF,fF,fF,fF,fF,fF,fF,fF,fF]
abbrev impl_Exploration_wayOut.mk2 : Array Bool := #[tT,tT,fF,fF,fF,fF,fF,fF,fF,fF,fF,fF,fF,fF,fF,fF,fF,fF,fF]
abbrev impl_Exploration_wayOut.mk3 : Array Bool := #[tT,tT,fF,tT,fF,fF,fF,fF,fF,fF,fF,fF,fF,fF,fF,fF,fF,fF,fF]
abbrev impl_Exploration_wayOut.mk4 : Array Bool := #[tT,tT,fF,tT,tT,fF,fF,fF,fF,fF,fF,fF,fF,fF,fF,fF,fF,fF,fF]
abbrev impl_Exploration_wayOut.mk5 : Array Bool := #[tT,tT,fF,tT,tT,fF,fF,fF,tT,fF,fF,fF,fF,fF,fF,fF,fF,fF,fF]
abbrev impl_Exploration_wayOut.mk6 : Array Bool := #[tT,tT,fF,tT,tT,fF,fF,fF,tT,tT,fF,fF,fF,fF,fF,fF,fF,fF,fF]
abbrev impl_Exploration_wayOut.mk7 : Array Bool := #[tT,tT,fF,tT,tT,fF,fF,fF,tT,tT,fF,fF,fF,tT,fF,fF,fF,fF,fF]
abbrev impl_Exploration_wayOut.mk8 : Array Bool := #[tT,tT,tT,tT,tT,fF,fF,fF,tT,tT,fF,fF,fF,tT,fF,fF,fF,fF,fF]
abbrev impl_Exploration_wayOut.mk9 : Array Bool := #[tT,tT,tT,tT,tT,tT,fF,fF,tT,tT,fF,fF,fF,tT,fF,fF,fF,fF,fF]
abbrev impl_Exploration_wayOut.mk10 : Array Bool := #[tT,tT,tT,tT,tT,tT,tT,fF,tT,tT,fF,fF,fF,tT,fF,fF,fF,fF,fF]
abbrev impl_Exploration_wayOut.mk11 : Array Bool := #[tT,tT,tT,tT,tT,tT,tT,tT,tT,tT,fF,fF,fF,tT,fF,fF,fF,fF,fF]
abbrev impl_Exploration_wayOut.mk12 : Array Bool := #[tT,tT,tT,tT,tT,tT,tT,tT,tT,tT,tT,fF,fF,tT,fF,fF,fF,fF,fF]
abbrev impl_Exploration_wayOut.mk13 : Array Bool := #[tT,tT,tT,tT,tT,tT,tT,tT,tT,tT,tT,tT,fF,tT,fF,fF,fF,fF,fF]
abbrev impl_Exploration_wayOut.mk14 : Array Bool := #[tT,tT,tT,tT,tT,tT,tT,tT,tT,tT,tT,tT,tT,tT,fF,fF,fF,fF,fF]
abbrev impl_Exploration_wayOut.mk15 : Array Bool := #[tT,tT,tT,tT,tT,tT,tT,tT,tT,tT,tT,tT,tT,tT,tT,fF,fF,fF,fF]
abbrev impl_Exploration_wayOut.mk16 : Array Bool := #[tT,tT,tT,tT,tT,tT,tT,tT,tT,tT,tT,tT,tT,tT,tT,tT,fF,fF,fF]
abbrev impl_Exploration_wayOut.mk17 : Array Bool := #[tT,tT,tT,tT,tT,tT,tT,tT,tT,tT,tT,tT,tT,tT,tT,tT,tT,fF,fF]
abbrev impl_Exploration_wayOut.mk18 : Array Bool := #[tT,tT,tT,tT,tT,tT,tT,tT,tT,tT,tT,tT,tT,tT,tT,tT,tT,tT,fF]
abbrev impl_Exploration_wayOut.mk19 : Array Bool := #[tT,tT,tT,tT,tT,tT,tT,tT,tT,tT,tT,tT,tT,tT,tT,tT,tT,tT,tT]
abbrev impl_Exploration_wayOut.mk20 : Array Bool := #[fF,fF,fF,fF,fF,fF,fF,fF,fF,fF,fF,fF,fF]
abbrev impl_Exploration_wayOut.mk21 : Array Bool := #[tT,fF,fF,fF,fF,fF,fF,fF,fF,fF,fF,fF,fF]
abbrev impl_Exploration_wayOut.mk22 : Array Bool := #[tT,tT,fF,fF,fF,fF,fF,fF,fF,fF,fF,fF,fF]
abbrev impl_Exploration_wayOut.mk23 : Array Bool := #[tT,tT,fF,fF,fF,tT,fF,fF,fF,fF,fF,fF,fF]
abbrev impl_Exploration_wayOut.mk24 : Array Bool := #[tT,tT,fF,fF,fF,tT,tT,fF,fF,fF,fF,fF,fF]
abbrev impl_Exploration_wayOut.mk25 : Array Bool := #[tT,tT,tT,fF,fF,tT,tT,fF,fF,fF,fF,fF,fF]
abbrev impl_Exploration_wayOut.mk26 : Array Bool := #[tT,tT,tT,tT,fF,tT,tT,fF,fF,fF,fF,fF,fF]
abbrev impl_Exploration_wayOut.mk27 : Array Bool := #[tT,tT,tT,tT,tT,tT,tT,fF,fF,fF,fF,fF,fF]
abbrev impl_Exploration_wayOut.mk28 : Array Bool := #[tT,tT,tT,tT,tT,tT,tT,fF,fF,fF,fF,tT,fF]
abbrev impl_Exploration_wayOut.mk29 : Array Bool := #[tT,tT,tT,tT,tT,tT,tT,tT,fF,fF,fF,tT,fF]
abbrev impl_Exploration_wayOut.mk30 : Array Bool := #[tT,tT,tT,tT,tT,tT,tT,tT,tT,fF,fF,tT,fF]
abbrev impl_Exploration_wayOut.mk31 : Array Bool := #[tT,tT,tT,tT,tT,tT,tT,tT,tT,tT,fF,tT,fF]
abbrev impl_Exploration_wayOut.mk32 : Array Bool := #[tT,tT,tT,tT,tT,tT,tT,tT,tT,tT,tT,tT,fF]
abbrev impl_Exploration_wayOut.mk33 : Array Bool := #[tT,tT,tT,tT,tT,tT,tT,tT,tT,tT,tT,tT,tT]
set_option maxHeartbeats 8000000 in
set_option maxRecDepth 100000 in
theorem impl_Exploration_wayOut.calls (k : Nat) (A0_0 : Option Addr) (c0_0 : Nat) (l0_0 : List (S37)) (A0_1 : Option Addr) (c0_1 : Nat) (l0_1 : List Bool) (A0_2 : Option Addr) (c0_2 : Nat) (l0_2 : List Bool) (a0_3 : Int) (a0_4 : Int) (r1 : Int) (r2 : Bool) (w : World) (hr0_0 : Kd.C k37 w A0_0 l0_0.length l0_0) (hc0_0 : l0_0.length ≤ c0_0) (hr0_1 : Kd.C Kd.bool w A0_1 l0_1.length l0_1) (hc0_1 : l0_1.length ≤ c0_1) (hr0_2 : Kd.C Kd.bool w A0_2 l0_2.length l0_2) (hc0_2 : l0_2.length ≤ c0_2) (h : impl_Exploration_wayOut.f k l0_0 l0_1 l0_2 a0_3 a0_4 = some (r1, r2)) :
  Calls Try.prog 72 #[.agg #[.slice A0_0 l0_0.length c0_0, .slice A0_1 l0_1.length c0_1, .slice A0_2 l0_2.length c0_2, .int .i64 a0_3, .int .i64 a0_4]] w fun e w' => e = .returned (.tuple #[.int .i64 r1, .bool r2]) ∧ Below w.heap.size w w' := by
 have hu30 := Try.underlying30
 have hu37 := Try.underlying37
 have HR0_0 := Aside0.mk hr0_0
 have HC0_0 := Aside0.mk hc0_0
 clear hr0_0 hc0_0
 have HR0_1 := Aside0.mk hr0_1
 have HC0_1 := Aside0.mk hc0_1
 clear hr0_1 hc0_1
 have HR0_2 := Aside0.mk hr0_2
 have HC0_2 := Aside0.mk hc0_2
 clear hr0_2 hc0_2
 have HB := Aside0.mk (Below.refl w.heap.size w)
 have H : ((slices_Repeat_int_int.f (([1073741824] : List Int)) 8).bind fun t203 => (if 0 < (t203.length : Int) then (impl_Exploration_wayOut.l0 k (t203.set (0 : Int).toNat 0) 0 l0_0 l0_1 l0_2 a0_3 a0_4) else (none))) = some (r1, r2) := h
 clear h
 obtain ⟨y200, hy200⟩ : ∃ y_ : List Int, y_ = (([1073741824] : List Int)) := ⟨_, rfl⟩
 replace H : ((slices_Repeat_int_int.f y200 8).bind fun t203 => (if 0 < (t203.length : Int) then (impl_Exploration_wayOut.l0 k (t203.set (0 : Int).toNat 0) 0 l0_0 l0_1 l0_2 a0_3 a0_4) else (none))) = some (r1, r2) := by first | (rw [hy200]; with_reducible exact H) | (have H2_ := (Option.bind_some _ _).symm.trans H; rw [hy200]; with_reducible exact H2_) | (have H2_ := (Option.bind_some _ _).symm.trans H; with_reducible exact H2_) | with_reducible exact H | (rw [hy200]; exact H) | exact H
 have Ny200 := Aside0.mk hy200
 clear hy200
 replace H := Option.bind_eq_some_iff.mp H
 obtain ⟨t203, A20, H⟩ := H
 replace H : (if 0 < (t203.length : Int) then (impl_Exploration_wayOut.l0 k (t203.set (0 : Int).toNat 0) 0 l0_0 l0_1 l0_2 a0_3 a0_4) else (none)) = some (r1, r2) := H
 have A2 := Aside0.mk A20
 clear A20
 by_cases c3 : 0 < (t203.length : Int)
 ·
  rw [if_pos c3] at H
  have c3b0 : decide (0 < (t203.length : Int)) = true := decide_eq_true c3
  have c3b1 : decide (0 < t203.length) = true := decide_eq_true (by omega)
  clear c3
  obtain ⟨y206, hy206⟩ : ∃ y_ : List Int, y_ = (t203.set (0 : Int).toNat 0) := ⟨_, rfl⟩
  replace H : (impl_Exploration_wayOut.l0 k y206 0 l0_0 l0_1 l0_2 a0_3 a0_4) = some (r1, r2) := by first | (rw [hy206]; with_reducible exact H) | (have H2_ := (Option.bind_some _ _).symm.trans H; rw [hy206]; with_reducible exact H2_) | (have H2_ := (Option.bind_some _ _).symm.trans H; with_reducible exact H2_) | with_reducible exact H | (rw [hy206]; exact H) | exact H
  have Ny206 := Aside0.mk hy206
  clear hy206
  have H' := Aside0.mk H
  clear H
  go_enter Try.func72, Try.ntmps72
  go_wp2_with (first | ((with_reducible refine gate_dst (N := 1) rfl ?_); refine box_event ?hg (N := 1) ?hd (cs := #[.slice A0_0 l0_0.length c0_0, .slice A0_1 l0_1.length c0_1, .slice A0_2 l0_2.length c0_2, .int .i64 a0_3, .int .i64 a0_4]) (t := 30) ?hr ?_; (case hd => rfl); (case hg => rfl); (case hr => first | (go_simp; done) | (go_simp; rfl)); intro gb199 hg w5 hbox hb; have BK199 := Aside0.mk (hbox); have GW199 := Aside0.mk ((bz_ hg (lb0_ HB.out))); have GE199 := Aside0.mk ((bz_ hg (lb0_ HB.out))); replace HB := Aside0.mk (below_step (lb0_ HB.out) hb); clear hb hbox hg) | ((with_reducible refine gate_dst (N := 7) rfl ?_); refine Kd.R_lit (Kd.int .i64) _ 3 ?hg (N := 7) ?hd (xs := ([1073741824] : List Int)) (inner := [.int .i64 1073741824]) (ok := fun _ => True) (okp := fun _ => True) ?hr ?hp (fun _ hk => hk) trivial (Below.refl _ _) (Nat.le_refl _) (by simp) ?_; (case hd => rfl); (case hg => rfl); (case hr => first | (go_simp; done) | (go_simp; rfl)); (case hp => exact (Reps.one (show Kd.M (Kd.int .i64) _ _ _ 1073741824 [.int .i64 1073741824] from rfl) (Reps.none _ _))); intro v201 w6 ho7 hb hg_ hnew_; clear hg_ hnew_; replace ho7 := ry_ Ny200.out ho7; have HO202 := Aside0.mk (Kd.R_lower ho7 (below_size (lb1_ HB.out GE199.out))); replace BK199 := Aside0.mk (bb_ (bk_ BK199.out) hb); replace HB := Aside0.mk (below_step (lb1_ HB.out GE199.out) hb); clear hb ho7; obtain ⟨Ao8, co8, eo8⟩ := Kd.R_slice HO202.out; subst eo8) | ((with_reducible refine gate_callee (f := 103) rfl ?_); refine ga_ (some 8) Try.func103 #[.slice Ao8 y200.length co8, .int .i64 8] ?_; (with_reducible refine (slices_Repeat_int_int.calls _ _ y200 8 t203 _ ?side1 ?side2 A2.out).mono ?_); (case side1 => exact kc_ (Kd.R_reads' HO202.out).2.2); (case side2 => exact (Kd.R_reads' HO202.out).2.1); rintro e w9 ⟨v204, rfl, ho0, hb⟩; refine ⟨_, rfl, ?_⟩; have HO205 := Aside0.mk (Kd.R_lower (Kd.R_new' ho0 (Kd.R_lt (kr_ HO202.out))) (below_size (lb1_ HB.out GE199.out))); replace HO202 := Aside0.mk (Kd.R_elder' (kr_ HO202.out) (Kd.R_base ho0) hb); replace BK199 := Aside0.mk (bb_ (bk_ BK199.out) hb); replace HB := Aside0.mk (below_step (lb1_ HB.out GE199.out) hb); (try clear hb); (try clear hb2); (try clear hk); (try clear hi); (try clear ho0); have p4 : 0 ≤ (0 : Int) := (by omega); have q4 : (0 : Int) < ((t203.length : Int) : Int) := dt_; have qi4 : (0 < t203.length) = True := eq_true (by omega); obtain ⟨go4, co4, eo4, gb4, gl4, cl4, HG4⟩ := Kd.R_form HO205.out (by omega); (first | cases eo4 | (injection eo4 with ea_ en_ ec_; (first | subst ea_ | (injection ea_ with ea_; subst ea_)); subst ec_; clear en_)); have GB4 := Aside0.mk gb4; have GG4 := Aside0.mk HG4; clear gb4 gl4 HG4; obtain ⟨hx4_0, hf4_0⟩ := Kd.R_celln 0 HO205.out (0 : Int) p4 q4; (try rw [show ((0 : Int)).toNat = 0 from rfl] at hx4_0); (try simp only [Nat.reduceMul, Nat.zero_mul, Nat.zero_add, Nat.reduceAdd] at hx4_0); (try rw [show ((0 : Int)).toNat = 0 from rfl] at hf4_0); (try simp only [Nat.reduceMul, Nat.zero_mul, Nat.zero_add, Nat.reduceAdd] at hf4_0); replace p4 := eq_true p4; replace q4 := eq_true q4; have n_ := Aside0.mk (Kd.R_mono (ok' := (fun k_ => some k_ ≠ (.slice Ao8 y200.length co8 : Value).ownBlock)) HO205.out (fun k_ hk => hk.2)); clear HO205; have HO205 := n_; clear n_; obtain ⟨hy10_, hz10_⟩ := Kd.R_celln 0 HO205.out (0 : Int) (by omega) (dt_); (try simp only [Int.reduceToNat, Int.toNat_zero, Int.toNat_ofNat, Nat.reduceMul, Nat.zero_mul, Nat.zero_add] at hy10_ hz10_); (try rw [show ((0 : Int)).toNat = 0 from rfl] at hy10_); (try rw [show ((0 : Int)).toNat = 0 from rfl] at hz10_); have HP10 := Kd.R_putg HO205.out (0 : Int) 0) | ((with_reducible refine gate_store (t := 3) (p := 10) rfl ?_); refine store_event (t := 3) (p := 10) (v := ?vo_w11) (w1 := (w9.setCell ⟨go4, (0 : Int).toNat, none⟩ (.int .i64 0))) ?hg ?ho ?hn ?hr ?_; (case ho => rfl); (case hg => rfl); (case hn => rfl); (case hr => first | (go_simp; done) | (go_simp; rfl)); intro w11 hw; have hg : w9.grownBy w11 (some go4) := (by rw [hw]; exact HP10.2); have hp_ : Kd.R (Kd.int .i64) 3 w11 w.heap.size (fun k_ => some k_ ≠ (.slice Ao8 y200.length co8 : Value).ownBlock) (.slice (some ⟨go4, 0, none⟩) t203.length co4) y206 := (by rw [hw, Ny206.out]; exact HP10.1); clear HP10; replace BK199 := Aside0.mk (blk_grown (g := gb199) (o := .cells #[.slice A0_0 l0_0.length c0_0, .slice A0_1 l0_1.length c0_1, .slice A0_2 l0_2.length c0_2, .int .i64 a0_3, .int .i64 a0_4] 30 (0, 0)) (bk_ BK199.out) hg (Kd.R_ne HO205.out BK199.out (by decide))); replace HO202 := Aside0.mk (Kd.R_after (v := (.slice (some ⟨go4, 0, none⟩) t203.length co4)) (v1 := (.slice (some ⟨go4, 0, none⟩) t203.length co4)) (ok := (fun _ => True)) (kr_ HO202.out) hg (.inl rfl)); replace HO205 := Aside0.mk (hp_); replace HB := Aside0.mk ((by rw [hw]; exact below_set (HB.out) GB4.out : Below w.heap.size w w11)); clear hg hw hp_))
  go_loopg [11] k (fun kq v11 w' => ∃ (x4_1 : List Int) (x11_1 : Int), v11 = .int .i64 x11_1 ∧ Aside0 (impl_Exploration_wayOut.l0 kq x4_1 x11_1 l0_0 l0_1 l0_2 a0_3 a0_4 = some (r1, r2)) ∧ Aside0 (kq ≤ k) ∧ Aside0 (Kd.R (Kd.int .i64) 3 w' w.heap.size (fun _ => True) (.slice (some ⟨go4, 0, none⟩) t203.length co4) x4_1) ∧ Aside0 (w'.heap[gb199]? = some (.cells #[(.slice A0_0 l0_0.length c0_0), (.slice A0_1 l0_1.length c0_1), (.slice A0_2 l0_2.length c0_2), .int .i64 a0_3, .int .i64 a0_4] 30 (0, 0))) ∧ Aside0 (Below w.heap.size w w'))
  case atStart => exact ⟨(y206), (0), (by first | rfl | (simp; done) | (simp [*]; done)), H', ⟨Nat.le_refl _⟩, ⟨krm_ HO205.out (fun _ hk => trivial)⟩, ⟨bk_ BK199.out⟩, ⟨lb1_ HB.out GE199.out⟩⟩
  case round =>
   clear H'
   try clear c1
   try clear p2
   try clear c3
   try clear c3b0
   try clear c3b1
   try clear p4
   try clear q4
   try clear hx4
   try clear qi4
   try clear hf4
   try clear c7
   try clear c10
   try clear hx4_0
   try clear p4
   try clear q4
   obtain ⟨x4_1, x11_1, rfl, HA, HK1, HO_4, BK199, HB⟩ := hrel
   have hl4_1 := (Kd.R_reads' HO_4.out).1
   rw [hl4_1] at HO_4
   (try simp only [hl4_1])
   (try simp only [hl4_1] at BK199)
   cases gk with
   | zero => exact absurd HA.out (by simp [impl_Exploration_wayOut.l0])
   | succ k1 =>
    have H := HA.out
    clear HA
    simp only [impl_Exploration_wayOut.l0] at H
    by_cases c12 : x11_1 < 8
    ·
     rw [if_pos c12] at H
     have c12b0 : decide (x11_1 < 8) = true := decide_eq_true c12
     clear c12
     have H' := Aside0.mk H
     clear H
     obtain ⟨hcz13_0, hcz13_1, hcz13_2, hcz13_3, hcz13_4⟩ := cz5_ BK199.out
     obtain ⟨hfz13_0, hfz13_1, hfz13_2, hfz13_3, hfz13_4⟩ := fz5_ BK199.out
     go_wp2
     go_loopg [16] k1 (fun kq v16 w' => ∃ (x4_2 : List Int) (x16_2 : Int), v16 = .int .i64 x16_2 ∧ Aside0 (impl_Exploration_wayOut.l1 kq x4_2 x11_1 l0_0 (l0_0.length : Int) x16_2 l0_0 l0_1 l0_2 a0_3 a0_4 = some (r1, r2)) ∧ Aside0 (kq ≤ k1) ∧ Aside0 (Kd.R (Kd.int .i64) 3 w' w.heap.size (fun _ => True) (.slice (some ⟨go4, 0, none⟩) x4_1.length co4) x4_2) ∧ Aside0 (w'.heap[gb199]? = some (.cells #[(.slice A0_0 l0_0.length c0_0), (.slice A0_1 l0_1.length c0_1), (.slice A0_2 l0_2.length c0_2), .int .i64 a0_3, .int .i64 a0_4] 30 (0, 0))) ∧ Aside0 (Below w.heap.size w w'))
     case atStart => exact ⟨(x4_1), (0), (by first | rfl | (simp; done) | (simp [*]; done)), H', ⟨Nat.le_refl _⟩, ⟨by (try simp only [hl4_1]); (with_reducible repeat (first | apply Kd.R_alloc | apply Kd.R_drewN | apply Kd.R_drew)); exact HO_4.out⟩, ⟨by (try simp only [hl4_1]); (with_reducible repeat (first | refine blk_drewN ?_ _ | refine blk_drew ?_ | refine blk_alloc ?_ _)); exact BK199.out⟩, ⟨lb1_ HB.out GE199.out⟩⟩
     case round =>
      clear H'
      try clear c1
      try clear p2
      try clear c3
      try clear c3b0
      try clear c3b1
      try clear p4
      try clear q4
      try clear hx4
      try clear qi4
      try clear hf4
      try clear c7
      try clear c10
      try clear c12
      try clear c12b0
      try clear hcz13_0 hcz13_1 hcz13_2 hcz13_3 hcz13_4
      try clear hfz13_0 hfz13_1 hfz13_2 hfz13_3 hfz13_4
      try clear hx4_0
      try clear p2
      try clear p4
      try clear q4
      obtain ⟨x4_2, x16_2, rfl, HA, HK2, HO_4, BK199, HB⟩ := hrel
      have hl4_2 := (Kd.R_reads' HO_4.out).1
      rw [hl4_2] at HO_4
      (try simp only [hl4_2])
      (try simp only [hl4_2] at BK199)
      cases gk with
      | zero => exact absurd HA.out (by simp [impl_Exploration_wayOut.l1])
      | succ k2 =>
       have H := HA.out
       clear HA
       simp only [impl_Exploration_wayOut.l1] at H
       by_cases c14 : x16_2 < (l0_0.length : Int)
       ·
        rw [if_pos c14] at H
        have c14b0 : decide (x16_2 < (l0_0.length : Int)) = true := decide_eq_true c14; clear c14
        by_cases c15 : 0 ≤ x16_2
        ·
         rw [if_pos c15] at H
         have c15b0 : decide (0 ≤ x16_2) = true := decide_eq_true c15; clear c15
         by_cases c16 : x16_2 < (l0_0.length : Int)
         ·
          rw [if_pos c16] at H
          have c16b0 : decide (x16_2 < (l0_0.length : Int)) = true := decide_eq_true c16; clear c16
          by_cases c17 : 0 ≤ ((rd_T37 l0_0 x16_2).f0)
          ·
           rw [if_pos c17] at H
           have c17b0 : decide (0 ≤ ((rd_T37 l0_0 x16_2).f0)) = true := decide_eq_true c17; clear c17
           by_cases c18 : ((rd_T37 l0_0 x16_2).f0) < (l0_1.length : Int)
           ·
            rw [if_pos c18] at H
            have c18b0 : decide (((rd_T37 l0_0 x16_2).f0) < (l0_1.length : Int)) = true := decide_eq_true c18; clear c18
            obtain ⟨bq19, hbq19⟩ : ∃ b_ : Bool, b_ = (rdOf false l0_1 ((rd_T37 l0_0 x16_2).f0)) := ⟨_, rfl⟩
            replace H : (if bq19 = true then (if 0 ≤ ((rd_T37 l0_0 x16_2).f1) then (if ((rd_T37 l0_0 x16_2).f1) < (l0_1.length : Int) then (if rdOf false l0_1 ((rd_T37 l0_0 x16_2).f1) = true then (if ((rd_T37 l0_0 x16_2).f0) < (x4_2.length : Int) then (if ((rd_T37 l0_0 x16_2).f1) < (x4_2.length : Int) then ((some (x4_2.set (((rd_T37 l0_0 x16_2).f0) : Int).toNat (mn (rd x4_2 ((rd_T37 l0_0 x16_2).f0)) (wrap64 ((rd x4_2 ((rd_T37 l0_0 x16_2).f1)) + ((rd_T37 l0_0 x16_2).f2)))) : List Int)).bind fun y215 => (impl_Exploration_wayOut.l1 k2 (y215.set (((rd_T37 l0_0 x16_2).f1) : Int).toNat (mn (rd y215 ((rd_T37 l0_0 x16_2).f1)) (wrap64 ((rd y215 ((rd_T37 l0_0 x16_2).f0)) + ((rd_T37 l0_0 x16_2).f2))))) x11_1 l0_0 (l0_0.length : Int) (wrap64 (x16_2 + 1)) l0_0 l0_1 l0_2 a0_3 a0_4)) else (none)) else (none)) else (impl_Exploration_wayOut.l1 k2 x4_2 x11_1 l0_0 (l0_0.length : Int) (wrap64 (x16_2 + 1)) l0_0 l0_1 l0_2 a0_3 a0_4)) else (none)) else (none)) else (impl_Exploration_wayOut.l1 k2 x4_2 x11_1 l0_0 (l0_0.length : Int) (wrap64 (x16_2 + 1)) l0_0 l0_1 l0_2 a0_3 a0_4)) = some (r1, r2) := by rw [← hbq19] at H; exact H
            have Nbq19 := Aside0.mk hbq19; clear hbq19
            by_cases c20 : bq19 = true
            ·
             subst c20
             have H1 : (if 0 ≤ ((rd_T37 l0_0 x16_2).f1) then (if ((rd_T37 l0_0 x16_2).f1) < (l0_1.length : Int) then (if rdOf false l0_1 ((rd_T37 l0_0 x16_2).f1) = true then (if ((rd_T37 l0_0 x16_2).f0) < (x4_2.length : Int) then (if ((rd_T37 l0_0 x16_2).f1) < (x4_2.length : Int) then ((some (x4_2.set (((rd_T37 l0_0 x16_2).f0) : Int).toNat (mn (rd x4_2 ((rd_T37 l0_0 x16_2).f0)) (wrap64 ((rd x4_2 ((rd_T37 l0_0 x16_2).f1)) + ((rd_T37 l0_0 x16_2).f2)))) : List Int)).bind fun y215 => (impl_Exploration_wayOut.l1 k2 (y215.set (((rd_T37 l0_0 x16_2).f1) : Int).toNat (mn (rd y215 ((rd_T37 l0_0 x16_2).f1)) (wrap64 ((rd y215 ((rd_T37 l0_0 x16_2).f0)) + ((rd_T37 l0_0 x16_2).f2))))) x11_1 l0_0 (l0_0.length : Int) (wrap64 (x16_2 + 1)) l0_0 l0_1 l0_2 a0_3 a0_4)) else (none)) else (none)) else (impl_Exploration_wayOut.l1 k2 x4_2 x11_1 l0_0 (l0_0.length : Int) (wrap64 (x16_2 + 1)) l0_0 l0_1 l0_2 a0_3 a0_4)) else (none)) else (none)) = some (r1, r2) := by rw [if_pos rfl] at H; exact H
             clear H; have H := H1; clear H1
             by_cases c21 : 0 ≤ ((rd_T37 l0_0 x16_2).f1)
             ·
              rw [if_pos c21] at H
              have c21b0 : decide (0 ≤ ((rd_T37 l0_0 x16_2).f1)) = true := decide_eq_true c21; clear c21
              by_cases c22 : ((rd_T37 l0_0 x16_2).f1) < (l0_1.length : Int)
              ·
               rw [if_pos c22] at H
               have c22b0 : decide (((rd_T37 l0_0 x16_2).f1) < (l0_1.length : Int)) = true := decide_eq_true c22; clear c22
               obtain ⟨bq23, hbq23⟩ : ∃ b_ : Bool, b_ = (rdOf false l0_1 ((rd_T37 l0_0 x16_2).f1)) := ⟨_, rfl⟩
               replace H : (if bq23 = true then (if ((rd_T37 l0_0 x16_2).f0) < (x4_2.length : Int) then (if ((rd_T37 l0_0 x16_2).f1) < (x4_2.length : Int) then ((some (x4_2.set (((rd_T37 l0_0 x16_2).f0) : Int).toNat (mn (rd x4_2 ((rd_T37 l0_0 x16_2).f0)) (wrap64 ((rd x4_2 ((rd_T37 l0_0 x16_2).f1)) + ((rd_T37 l0_0 x16_2).f2)))) : List Int)).bind fun y215 => (impl_Exploration_wayOut.l1 k2 (y215.set (((rd_T37 l0_0 x16_2).f1) : Int).toNat (mn (rd y215 ((rd_T37 l0_0 x16_2).f1)) (wrap64 ((rd y215 ((rd_T37 l0_0 x16_2).f0)) + ((rd_T37 l0_0 x16_2).f2))))) x11_1 l0_0 (l0_0.length : Int) (wrap64 (x16_2 + 1)) l0_0 l0_1 l0_2 a0_3 a0_4)) else (none)) else (none)) else (impl_Exploration_wayOut.l1 k2 x4_2 x11_1 l0_0 (l0_0.length : Int) (wrap64 (x16_2 + 1)) l0_0 l0_1 l0_2 a0_3 a0_4)) = some (r1, r2) := by rw [← hbq23] at H; exact H
               have Nbq23 := Aside0.mk hbq23; clear hbq23
               by_cases c24 : bq23 = true
               ·
                subst c24
                have H1 : (if ((rd_T37 l0_0 x16_2).f0) < (x4_2.length : Int) then (if ((rd_T37 l0_0 x16_2).f1) < (x4_2.length : Int) then ((some (x4_2.set (((rd_T37 l0_0 x16_2).f0) : Int).toNat (mn (rd x4_2 ((rd_T37 l0_0 x16_2).f0)) (wrap64 ((rd x4_2 ((rd_T37 l0_0 x16_2).f1)) + ((rd_T37 l0_0 x16_2).f2)))) : List Int)).bind fun y215 => (impl_Exploration_wayOut.l1 k2 (y215.set (((rd_T37 l0_0 x16_2).f1) : Int).toNat (mn (rd y215 ((rd_T37 l0_0 x16_2).f1)) (wrap64 ((rd y215 ((rd_T37 l0_0 x16_2).f0)) + ((rd_T37 l0_0 x16_2).f2))))) x11_1 l0_0 (l0_0.length : Int) (wrap64 (x16_2 + 1)) l0_0 l0_1 l0_2 a0_3 a0_4)) else (none)) else (none)) = some (r1, r2) := by rw [if_pos rfl] at H; exact H
                clear H; have H := H1; clear H1
                by_cases c25 : ((rd_T37 l0_0 x16_2).f0) < (x4_2.length : Int)
                ·
                 rw [if_pos c25] at H
                 have c25b0 : decide (((rd_T37 l0_0 x16_2).f0) < (x4_2.length : Int)) = true := decide_eq_true c25; clear c25
                 by_cases c26 : ((rd_T37 l0_0 x16_2).f1) < (x4_2.length : Int)
                 ·
                  rw [if_pos c26] at H
                  have c26b0 : decide (((rd_T37 l0_0 x16_2).f1) < (x4_2.length : Int)) = true := decide_eq_true c26; clear c26
                  obtain ⟨ji27, hji27⟩ : ∃ j_ : Int, (mn (rd x4_2 ((rd_T37 l0_0 x16_2).f0)) (wrap64 ((rd x4_2 ((rd_T37 l0_0 x16_2).f1)) + ((rd_T37 l0_0 x16_2).f2)))) = j_ := ⟨_, rfl⟩
                  replace H : ((some (x4_2.set (((rd_T37 l0_0 x16_2).f0) : Int).toNat (ji27) : List Int)).bind fun y215 => (impl_Exploration_wayOut.l1 k2 (y215.set (((rd_T37 l0_0 x16_2).f1) : Int).toNat (mn (rd y215 ((rd_T37 l0_0 x16_2).f1)) (wrap64 ((rd y215 ((rd_T37 l0_0 x16_2).f0)) + ((rd_T37 l0_0 x16_2).f2))))) x11_1 l0_0 (l0_0.length : Int) (wrap64 (x16_2 + 1)) l0_0 l0_1 l0_2 a0_3 a0_4)) = some (r1, r2) := by first | (rw [hji27] at H; exact H) | (simp only [hji27] at H ⊢; exact H)
                  have hji27_ : (if (wrap64 ((rd x4_2 ((rd_T37 l0_0 x16_2).f1)) + ((rd_T37 l0_0 x16_2).f2))) < (rd x4_2 ((rd_T37 l0_0 x16_2).f0)) then (wrap64 ((rd x4_2 ((rd_T37 l0_0 x16_2).f1)) + ((rd_T37 l0_0 x16_2).f2))) else (rd x4_2 ((rd_T37 l0_0 x16_2).f0))) = ji27 := hji27
                  obtain ⟨y215, hy215⟩ : ∃ y_ : List Int, y_ = (x4_2.set (((rd_T37 l0_0 x16_2).f0) : Int).toNat (ji27)) := ⟨_, rfl⟩
                  replace H : (impl_Exploration_wayOut.l1 k2 (y215.set (((rd_T37 l0_0 x16_2).f1) : Int).toNat (mn (rd y215 ((rd_T37 l0_0 x16_2).f1)) (wrap64 ((rd y215 ((rd_T37 l0_0 x16_2).f0)) + ((rd_T37 l0_0 x16_2).f2))))) x11_1 l0_0 (l0_0.length : Int) (wrap64 (x16_2 + 1)) l0_0 l0_1 l0_2 a0_3 a0_4) = some (r1, r2) := by first | (rw [hy215]; with_reducible exact H) | (have H2_ := (Option.bind_some _ _).symm.trans H; rw [hy215]; with_reducible exact H2_) | (have H2_ := (Option.bind_some _ _).symm.trans H; with_reducible exact H2_) | with_reducible exact H | (rw [hy215]; exact H) | exact H
                  have Ny215 := Aside0.mk hy215; clear hy215
                  obtain ⟨ji29, hji29⟩ : ∃ j_ : Int, (mn (rd y215 ((rd_T37 l0_0 x16_2).f1)) (wrap64 ((rd y215 ((rd_T37 l0_0 x16_2).f0)) + ((rd_T37 l0_0 x16_2).f2)))) = j_ := ⟨_, rfl⟩
                  replace H : (impl_Exploration_wayOut.l1 k2 (y215.set (((rd_T37 l0_0 x16_2).f1) : Int).toNat (ji29)) x11_1 l0_0 (l0_0.length : Int) (wrap64 (x16_2 + 1)) l0_0 l0_1 l0_2 a0_3 a0_4) = some (r1, r2) := by first | (rw [hji29] at H; exact H) | (simp only [hji29] at H ⊢; exact H)
                  have hji29_ : (if (wrap64 ((rd y215 ((rd_T37 l0_0 x16_2).f0)) + ((rd_T37 l0_0 x16_2).f2))) < (rd y215 ((rd_T37 l0_0 x16_2).f1)) then (wrap64 ((rd y215 ((rd_T37 l0_0 x16_2).f0)) + ((rd_T37 l0_0 x16_2).f2))) else (rd y215 ((rd_T37 l0_0 x16_2).f1))) = ji29 := hji29
                  obtain ⟨y218, hy218⟩ : ∃ y_ : List Int, y_ = (y215.set (((rd_T37 l0_0 x16_2).f1) : Int).toNat (ji29)) := ⟨_, rfl⟩
                  replace H : (impl_Exploration_wayOut.l1 k2 y218 x11_1 l0_0 (l0_0.length : Int) (wrap64 (x16_2 + 1)) l0_0 l0_1 l0_2 a0_3 a0_4) = some (r1, r2) := by first | (rw [hy218]; with_reducible exact H) | (have H2_ := (Option.bind_some _ _).symm.trans H; rw [hy218]; with_reducible exact H2_) | (have H2_ := (Option.bind_some _ _).symm.trans H; with_reducible exact H2_) | with_reducible exact H | (rw [hy218]; exact H) | exact H
                  have Ny218 := Aside0.mk hy218; clear hy218; have H' := Aside0.mk H; clear H; have p209 : 0 ≤ (x16_2 : Int) := dt_; have q209 : x16_2 < (l0_0.length : Int) := dt_; obtain ⟨ad209, e209, hx209_0, hx209_1, hx209_2, hx209_3, hx209_4⟩ := at_T37 HR0_0.out x16_2 p209 q209
                  cases e209
                  replace hx209_0 := bc_ HB.out hx209_0; replace hx209_1 := bc_ HB.out hx209_1; replace hx209_2 := bc_ HB.out hx209_2; replace hx209_3 := bc_ HB.out hx209_3; replace hx209_4 := bc_ HB.out hx209_4; replace p209 := eq_true p209; replace q209 := eq_true q209
                  try go_wp2_with (first | ((with_reducible refine gate_dst (N := 6) rfl ?_); refine box_event ?hg (N := 6) ?hd (cs := #[.int .i64 0, .int .i64 0, .int .i64 0, .int .i64 0, .int .i64 0]) (t := 37) ?hr ?_; (case hd => rfl); (case hg => rfl); (case hr => first | (go_simp; done) | (go_simp; rfl)); intro gb210 hg w31 hbox hb; replace HO_4 := Aside0.mk (Kd.R_below (kr_ HO_4.out) hb); have BK210 := Aside0.mk (hbox); have GW210 := Aside0.mk ((bz_ hg (lb1_ HB.out GE199.out))); have GE210 := Aside0.mk ((bz_ hg (lb1_ HB.out GE199.out))); replace HB := Aside0.mk (below_step (lb1_ HB.out GE199.out) hb); have NB199_210 := Aside0.mk (nl_ hg BK199.out); have NB210_199 := Aside0.mk (ng_ hg BK199.out); replace BK199 := Aside0.mk (bb_ (bk_ BK199.out) hb); clear hb hbox hg; have hnb32 := NB210_199.out; have hnc32 := NB199_210.out; obtain ⟨hcz33_0, hcz33_1, hcz33_2, hcz33_3, hcz33_4⟩ := cz5_ BK210.out; obtain ⟨hfz33_0, hfz33_1, hfz33_2, hfz33_3, hfz33_4⟩ := fz5_ BK210.out; obtain ⟨hcz34_0, hcz34_1, hcz34_2, hcz34_3, hcz34_4⟩ := cz5_ BK199.out; obtain ⟨hfz34_0, hfz34_1, hfz34_2, hfz34_3, hfz34_4⟩ := fz5_ BK199.out; have p211 : 0 ≤ (((rd_T37 l0_0 x16_2).f0) : Int) := dt_; have q211 : ((rd_T37 l0_0 x16_2).f0) < (l0_1.length : Int) := dt_; obtain ⟨ad211, e211, hx211_0⟩ := Kd.at_bool HR0_1.out ((rd_T37 l0_0 x16_2).f0) p211 q211; (try rw [← Nbq19.out] at hx211_0); (try rw [← Nbq23.out] at hx211_0); cases e211; have hn211_0 : ad211.block ≠ gb210 := Nat.ne_of_lt (Nat.lt_of_lt_of_le (by have := World.block_lt_of_cell? _ _ hx211_0; first | rwa [add_block] at this | exact this) GW210.out); have hn211_1 : ad211.block ≠ gb210 := Nat.ne_of_lt (Nat.lt_of_lt_of_le (by have := World.block_lt_of_cell? _ _ hx211_0; first | rwa [add_block] at this | exact this) GW210.out); have hn211_2 : ad211.block ≠ gb210 := Nat.ne_of_lt (Nat.lt_of_lt_of_le (by have := World.block_lt_of_cell? _ _ hx211_0; first | rwa [add_block] at this | exact this) GW210.out); have hn211_3 : ad211.block ≠ gb210 := Nat.ne_of_lt (Nat.lt_of_lt_of_le (by have := World.block_lt_of_cell? _ _ hx211_0; first | rwa [add_block] at this | exact this) GW210.out); have hn211_4 : ad211.block ≠ gb210 := Nat.ne_of_lt (Nat.lt_of_lt_of_le (by have := World.block_lt_of_cell? _ _ hx211_0; first | rwa [add_block] at this | exact this) GW210.out); replace hx211_0 := bc_ HB.out hx211_0; replace hx211_0 := (cell_far (p := ⟨gb210, 0, none⟩) (by first | (rw [add_block]; exact hn211_0) | (show (Addr.add _ _).block ≠ _; rw [add_block]; exact hn211_0) | exact hn211_0) (.int .i64 ((rd_T37 l0_0 x16_2).f0))).trans hx211_0; replace hx211_0 := (cell_far (p := ⟨gb210, 1, none⟩) (by first | (rw [add_block]; exact hn211_1) | (show (Addr.add _ _).block ≠ _; rw [add_block]; exact hn211_1) | exact hn211_1) (.int .i64 ((rd_T37 l0_0 x16_2).f1))).trans hx211_0; replace hx211_0 := (cell_far (p := ⟨gb210, 2, none⟩) (by first | (rw [add_block]; exact hn211_2) | (show (Addr.add _ _).block ≠ _; rw [add_block]; exact hn211_2) | exact hn211_2) (.int .i64 ((rd_T37 l0_0 x16_2).f2))).trans hx211_0; replace hx211_0 := (cell_far (p := ⟨gb210, 3, none⟩) (by first | (rw [add_block]; exact hn211_3) | (show (Addr.add _ _).block ≠ _; rw [add_block]; exact hn211_3) | exact hn211_3) (.int .i64 ((rd_T37 l0_0 x16_2).f3))).trans hx211_0; replace hx211_0 := (cell_far (p := ⟨gb210, 4, none⟩) (by first | (rw [add_block]; exact hn211_4) | (show (Addr.add _ _).block ≠ _; rw [add_block]; exact hn211_4) | exact hn211_4) (.int .i64 ((rd_T37 l0_0 x16_2).f4))).trans hx211_0; clear hn211_0; clear hn211_1; clear hn211_2; clear hn211_3; clear hn211_4; replace p211 := eq_true p211; replace q211 := eq_true q211; have p212 : 0 ≤ (((rd_T37 l0_0 x16_2).f1) : Int) := dt_; have q212 : ((rd_T37 l0_0 x16_2).f1) < (l0_1.length : Int) := dt_; obtain ⟨ad212, e212, hx212_0⟩ := Kd.at_bool HR0_1.out ((rd_T37 l0_0 x16_2).f1) p212 q212; (try rw [← Nbq19.out] at hx212_0); (try rw [← Nbq23.out] at hx212_0); obtain rfl : ad211 = ad212 := (by injection e212); have hn212_0 : ad211.block ≠ gb210 := Nat.ne_of_lt (Nat.lt_of_lt_of_le (by have := World.block_lt_of_cell? _ _ hx212_0; first | rwa [add_block] at this | exact this) GW210.out); have hn212_1 : ad211.block ≠ gb210 := Nat.ne_of_lt (Nat.lt_of_lt_of_le (by have := World.block_lt_of_cell? _ _ hx212_0; first | rwa [add_block] at this | exact this) GW210.out); have hn212_2 : ad211.block ≠ gb210 := Nat.ne_of_lt (Nat.lt_of_lt_of_le (by have := World.block_lt_of_cell? _ _ hx212_0; first | rwa [add_block] at this | exact this) GW210.out); have hn212_3 : ad211.block ≠ gb210 := Nat.ne_of_lt (Nat.lt_of_lt_of_le (by have := World.block_lt_of_cell? _ _ hx212_0; first | rwa [add_block] at this | exact this) GW210.out); have hn212_4 : ad211.block ≠ gb210 := Nat.ne_of_lt (Nat.lt_of_lt_of_le (by have := World.block_lt_of_cell? _ _ hx212_0; first | rwa [add_block] at this | exact this) GW210.out); replace hx212_0 := bc_ HB.out hx212_0; replace hx212_0 := (cell_far (p := ⟨gb210, 0, none⟩) (by first | (rw [add_block]; exact hn212_0) | (show (Addr.add _ _).block ≠ _; rw [add_block]; exact hn212_0) | exact hn212_0) (.int .i64 ((rd_T37 l0_0 x16_2).f0))).trans hx212_0; replace hx212_0 := (cell_far (p := ⟨gb210, 1, none⟩) (by first | (rw [add_block]; exact hn212_1) | (show (Addr.add _ _).block ≠ _; rw [add_block]; exact hn212_1) | exact hn212_1) (.int .i64 ((rd_T37 l0_0 x16_2).f1))).trans hx212_0; replace hx212_0 := (cell_far (p := ⟨gb210, 2, none⟩) (by first | (rw [add_block]; exact hn212_2) | (show (Addr.add _ _).block ≠ _; rw [add_block]; exact hn212_2) | exact hn212_2) (.int .i64 ((rd_T37 l0_0 x16_2).f2))).trans hx212_0; replace hx212_0 := (cell_far (p := ⟨gb210, 3, none⟩) (by first | (rw [add_block]; exact hn212_3) | (show (Addr.add _ _).block ≠ _; rw [add_block]; exact hn212_3) | exact hn212_3) (.int .i64 ((rd_T37 l0_0 x16_2).f3))).trans hx212_0; replace hx212_0 := (cell_far (p := ⟨gb210, 4, none⟩) (by first | (rw [add_block]; exact hn212_4) | (show (Addr.add _ _).block ≠ _; rw [add_block]; exact hn212_4) | exact hn212_4) (.int .i64 ((rd_T37 l0_0 x16_2).f4))).trans hx212_0; clear hn212_0; clear hn212_1; clear hn212_2; clear hn212_3; clear hn212_4; replace p212 := eq_true p212; replace q212 := eq_true q212))
                  have n0_ : Aside0 (Kd.R (Kd.int .i64) 3 (((((w31.setCell ⟨gb210, 0, none⟩ (.int .i64 ((rd_T37 l0_0 x16_2).f0))).setCell ⟨gb210, 1, none⟩ (.int .i64 ((rd_T37 l0_0 x16_2).f1))).setCell ⟨gb210, 2, none⟩ (.int .i64 ((rd_T37 l0_0 x16_2).f2))).setCell ⟨gb210, 3, none⟩ (.int .i64 ((rd_T37 l0_0 x16_2).f3))).setCell ⟨gb210, 4, none⟩ (.int .i64 ((rd_T37 l0_0 x16_2).f4))) w.heap.size (fun _ => True) (.slice (some ⟨go4, 0, none⟩) x4_2.length co4) x4_2) := ⟨Kd.R_mono (r5_ HO_4.out BK210.out (by decide) _ _ _ _ _) (fun _ hk => trivial)⟩
                  have n1_ : Aside0 ((((((w31.setCell ⟨gb210, 0, none⟩ (.int .i64 ((rd_T37 l0_0 x16_2).f0))).setCell ⟨gb210, 1, none⟩ (.int .i64 ((rd_T37 l0_0 x16_2).f1))).setCell ⟨gb210, 2, none⟩ (.int .i64 ((rd_T37 l0_0 x16_2).f2))).setCell ⟨gb210, 3, none⟩ (.int .i64 ((rd_T37 l0_0 x16_2).f3))).setCell ⟨gb210, 4, none⟩ (.int .i64 ((rd_T37 l0_0 x16_2).f4))).heap[gb199]? = some (.cells #[.slice (some ad209) l0_0.length c0_0, .slice (some ad211) l0_1.length c0_1, .slice A0_2 l0_2.length c0_2, .int .i64 a0_3, .int .i64 a0_4] 30 (0, 0))) := ⟨by exact (f5_ BK199.out NB199_210.out _ _ _ _ _)⟩
                  have n2_ : Aside0 ((((((w31.setCell ⟨gb210, 0, none⟩ (.int .i64 ((rd_T37 l0_0 x16_2).f0))).setCell ⟨gb210, 1, none⟩ (.int .i64 ((rd_T37 l0_0 x16_2).f1))).setCell ⟨gb210, 2, none⟩ (.int .i64 ((rd_T37 l0_0 x16_2).f2))).setCell ⟨gb210, 3, none⟩ (.int .i64 ((rd_T37 l0_0 x16_2).f3))).setCell ⟨gb210, 4, none⟩ (.int .i64 ((rd_T37 l0_0 x16_2).f4))).heap[gb210]? = some (.cells #[.int .i64 ((rd_T37 l0_0 x16_2).f0), .int .i64 ((rd_T37 l0_0 x16_2).f1), .int .i64 ((rd_T37 l0_0 x16_2).f2), .int .i64 ((rd_T37 l0_0 x16_2).f3), .int .i64 ((rd_T37 l0_0 x16_2).f4)] 37 (0, 0))) := ⟨by exact (p5_ BK210.out _ _ _ _ _)⟩
                  have n3_ : Aside0 (Below w.heap.size w (((((w31.setCell ⟨gb210, 0, none⟩ (.int .i64 ((rd_T37 l0_0 x16_2).f0))).setCell ⟨gb210, 1, none⟩ (.int .i64 ((rd_T37 l0_0 x16_2).f1))).setCell ⟨gb210, 2, none⟩ (.int .i64 ((rd_T37 l0_0 x16_2).f2))).setCell ⟨gb210, 3, none⟩ (.int .i64 ((rd_T37 l0_0 x16_2).f3))).setCell ⟨gb210, 4, none⟩ (.int .i64 ((rd_T37 l0_0 x16_2).f4)))) := ⟨lb2_ HB.out GE199.out GE210.out⟩
                  (try clear HO_4); (try clear BK199); (try clear BK210); (try clear HB); generalize (((((w31.setCell ⟨gb210, 0, none⟩ (.int .i64 ((rd_T37 l0_0 x16_2).f0))).setCell ⟨gb210, 1, none⟩ (.int .i64 ((rd_T37 l0_0 x16_2).f1))).setCell ⟨gb210, 2, none⟩ (.int .i64 ((rd_T37 l0_0 x16_2).f2))).setCell ⟨gb210, 3, none⟩ (.int .i64 ((rd_T37 l0_0 x16_2).f3))).setCell ⟨gb210, 4, none⟩ (.int .i64 ((rd_T37 l0_0 x16_2).f4))) = w35 at n0_ n1_ n2_ n3_ ⊢; have HO_4 := n0_; have BK199 := n1_; have BK210 := n2_; have HB := n3_; clear n0_ n1_ n2_ n3_; replace HO_4 := Aside0.mk (Kd.R_drew HO_4.out); replace BK199 := Aside0.mk (blk_drew BK199.out); replace BK210 := Aside0.mk (blk_drew BK210.out); replace HB := Aside0.mk (below_drew1 HB.out); have p213 : 0 ≤ (((rd_T37 l0_0 x16_2).f0) : Int) := dt_; have q213 : ((rd_T37 l0_0 x16_2).f0) < (x4_2.length : Int) := dt_; obtain ⟨ad213, e213, hx213_0⟩ := Kd.at_int (Kd.R_reads' HO_4.out).2.2 ((rd_T37 l0_0 x16_2).f0) p213 q213
                  obtain rfl : (⟨go4, 0, none⟩ : Addr) = ad213 := (by injection e213)
                  (first | simp only [add_plain] at hx213_0 | simp only [add_at] at hx213_0 | simp only [Addr.add, Nat.zero_add] at hx213_0 | skip)
                  replace p213 := eq_true p213; replace q213 := eq_true q213; have p214 : 0 ≤ (((rd_T37 l0_0 x16_2).f1) : Int) := dt_; have q214 : ((rd_T37 l0_0 x16_2).f1) < (x4_2.length : Int) := dt_; obtain ⟨ad214, e214, hx214_0⟩ := Kd.at_int (Kd.R_reads' HO_4.out).2.2 ((rd_T37 l0_0 x16_2).f1) p214 q214
                  obtain rfl : (⟨go4, 0, none⟩ : Addr) = ad214 := (by injection e214)
                  (first | simp only [add_plain] at hx214_0 | simp only [add_at] at hx214_0 | simp only [Addr.add, Nat.zero_add] at hx214_0 | skip)
                  replace p214 := eq_true p214; replace q214 := eq_true q214; have p28 : 0 ≤ (((rd_T37 l0_0 x16_2).f0) : Int) := dt_; have q28 : (((rd_T37 l0_0 x16_2).f0) : Int) < ((x4_2.length : Int) : Int) := dt_; obtain ⟨hx28_0, hf28_0⟩ := Kd.R_celln 0 HO_4.out (((rd_T37 l0_0 x16_2).f0) : Int) p28 q28; replace p28 := eq_true p28; replace q28 := eq_true q28; have HP37 := Kd.R_putn HO_4.out (((rd_T37 l0_0 x16_2).f0) : Int) ji27
                  rw [← Ny215.out] at HP37
                  have HQ37 := Aside0.mk HP37; clear HP37; refine start_ (n := 19) (S := fun w' => w'.cell? ⟨gb210, 0, none⟩ = some (.int .i64 ((rd_T37 l0_0 x16_2).f0)) ∧ w'.cell? ⟨gb210, 1, none⟩ = some (.int .i64 ((rd_T37 l0_0 x16_2).f1)) ∧ w'.cell? ⟨gb210, 2, none⟩ = some (.int .i64 ((rd_T37 l0_0 x16_2).f2)) ∧ w'.cell? ⟨gb210, 3, none⟩ = some (.int .i64 ((rd_T37 l0_0 x16_2).f3)) ∧ w'.cell? ⟨gb210, 4, none⟩ = some (.int .i64 ((rd_T37 l0_0 x16_2).f4)) ∧ w'.cell? ⟨go4, (((rd_T37 l0_0 x16_2).f0)).toNat, none⟩ = some (.int .i64 (rd x4_2 ((rd_T37 l0_0 x16_2).f0))) ∧ w'.cell? ⟨go4, (((rd_T37 l0_0 x16_2).f1)).toNat, none⟩ = some (.int .i64 (rd x4_2 ((rd_T37 l0_0 x16_2).f1)))) (ds := [18]) impl_Exploration_wayOut.mk0 (by kernel_rfl) rfl rfl ⟨(blk_cell BK210.out 0).trans rfl, (blk_cell BK210.out 1).trans rfl, (blk_cell BK210.out 2).trans rfl, (blk_cell BK210.out 3).trans rfl, (blk_cell BK210.out 4).trans rfl, hx213_0, hx214_0⟩ (fun hHeld => ?_); refine with_tabW impl_Exploration_wayOut.tab9 impl_Exploration_wayOut.bits9 (fun HT_ HW_ => ?_); generalize w35.drew = w36 at HO_4 BK199 BK210 HB HQ37 hf28_0 hx213_0 hx214_0 hx28_0 hHeld ⊢; refine pz_ HT_ 0 (some 34) impl_Exploration_wayOut.mk1 ?_; refine pz_ HT_ 1 (some 35) impl_Exploration_wayOut.mk2 ?_; refine pz_ HT_ 3 (some 37) impl_Exploration_wayOut.mk3 ?_; refine pz_ HT_ 4 (some 38) impl_Exploration_wayOut.mk4 ?_; refine pz_ HT_ 8 (some 42) impl_Exploration_wayOut.mk5 ?_; refine pz_ HT_ 9 (some 43) impl_Exploration_wayOut.mk6 ?_; refine pz_ HT_ 13 (some 47) impl_Exploration_wayOut.mk7 ?_; refine tk_ HT_ HW_ hHeld 2 (some 36) impl_Exploration_wayOut.mk8 ?_; refine tk_ HT_ HW_ hHeld 5 (some 39) impl_Exploration_wayOut.mk9 ?_; refine pz_ HT_ 6 (some 40) impl_Exploration_wayOut.mk10 ?_; refine tk_ HT_ HW_ hHeld 7 (some 41) impl_Exploration_wayOut.mk11 ?_; refine tk_ HT_ HW_ hHeld 10 (some 44) impl_Exploration_wayOut.mk12 ?_; refine pz_ HT_ 11 (some 45) impl_Exploration_wayOut.mk13 ?_; refine tk_ HT_ HW_ hHeld 12 (some 46) impl_Exploration_wayOut.mk14 ?_; refine tk_ HT_ HW_ hHeld 14 (some 48) impl_Exploration_wayOut.mk15 ?_; refine pz_ HT_ 15 (some 49) impl_Exploration_wayOut.mk16 ?_; refine pz_ HT_ 16 (some 50) impl_Exploration_wayOut.mk17 ?_; refine pz_ HT_ 17 (some 51) impl_Exploration_wayOut.mk18 ?_; refine last_ (i := 18) (N := none) impl_Exploration_wayOut.mk19 rfl rfl (one_of HT_.out (by kernel_rfl)) (by decide) (fun K hK => ?_); refine skip_ (w1 := ?_) (by rfl) rfl ?_ ?_; rotate_left
                  ·
                   go_simp; rfl
                  refine hK.out _ _ ?_; clear hK K; refine done_ (done_of HT_.out (by kernel_rfl)) ?_
                  try go_wp2
                  have n0_ : Aside0 (Kd.R (Kd.int .i64) 3 (w36.setCell ⟨go4, (((rd_T37 l0_0 x16_2).f0) : Int).toNat, none⟩ (.int .i64 ji27)) w.heap.size (fun _ => True) (.slice (some ⟨go4, 0, none⟩) x4_2.length co4) y215) := ⟨kr_ HQ37.out⟩
                  have n1_ : Aside0 ((w36.setCell ⟨go4, (((rd_T37 l0_0 x16_2).f0) : Int).toNat, none⟩ (.int .i64 ji27)).heap[gb199]? = some (.cells #[.slice (some ad209) l0_0.length c0_0, .slice (some ad211) l0_1.length c0_1, .slice A0_2 l0_2.length c0_2, .int .i64 a0_3, .int .i64 a0_4] 30 (0, 0))) := ⟨by (with_reducible repeat (first | refine blk_drewN ?_ _ | refine blk_drew ?_ | refine blk_alloc ?_ _)); refine blk_far ?_ (by have h_ := Kd.R_ne HO_4.out BK199.out (by decide); intro e_; exact h_ (by rw [e_]; rfl)) _; (with_reducible repeat (first | refine blk_drewN ?_ _ | refine blk_drew ?_ | refine blk_alloc ?_ _)); exact BK199.out⟩
                  have n2_ : Aside0 ((w36.setCell ⟨go4, (((rd_T37 l0_0 x16_2).f0) : Int).toNat, none⟩ (.int .i64 ji27)).heap[gb210]? = some (.cells #[.int .i64 ((rd_T37 l0_0 x16_2).f0), .int .i64 ((rd_T37 l0_0 x16_2).f1), .int .i64 ((rd_T37 l0_0 x16_2).f2), .int .i64 ((rd_T37 l0_0 x16_2).f3), .int .i64 ((rd_T37 l0_0 x16_2).f4)] 37 (0, 0))) := ⟨by (with_reducible repeat (first | refine blk_drewN ?_ _ | refine blk_drew ?_ | refine blk_alloc ?_ _)); refine blk_far ?_ (by have h_ := Kd.R_ne HO_4.out BK210.out (by decide); intro e_; exact h_ (by rw [e_]; rfl)) _; (with_reducible repeat (first | refine blk_drewN ?_ _ | refine blk_drew ?_ | refine blk_alloc ?_ _)); exact BK210.out⟩
                  have n3_ : Aside0 (Below w.heap.size w (w36.setCell ⟨go4, (((rd_T37 l0_0 x16_2).f0) : Int).toNat, none⟩ (.int .i64 ji27))) := ⟨lb3_ HB.out GB4.out GE199.out GE210.out⟩
                  (try clear HO_4); (try clear BK199); (try clear BK210); (try clear HB); generalize (w36.setCell ⟨go4, (((rd_T37 l0_0 x16_2).f0) : Int).toNat, none⟩ (.int .i64 ji27)) = w38 at n0_ n1_ n2_ n3_ ⊢; have HO_4 := n0_; have BK199 := n1_; have BK210 := n2_; have HB := n3_; clear n0_ n1_ n2_ n3_; replace HO_4 := Aside0.mk (Kd.R_drew HO_4.out); replace BK199 := Aside0.mk (blk_drew BK199.out); replace BK210 := Aside0.mk (blk_drew BK210.out); replace HB := Aside0.mk (below_drew1 HB.out); have p216 : 0 ≤ (((rd_T37 l0_0 x16_2).f1) : Int) := dt_
                  have q216 : ((rd_T37 l0_0 x16_2).f1) < (y215.length : Int) := (by have h_ : (((rd_T37 l0_0 x16_2).f1) : Int) < ((x4_2.length : Int) : Int) := dt_; first | (have e_ := (Kd.R_reads' HO_4.out).1; omega) | simpa only [Ny215.out, List.length_set] using h_)
                  have ql216 : ((((rd_T37 l0_0 x16_2).f1) : Int) < ((x4_2.length : Int) : Int)) = True := eq_true (dt_); obtain ⟨ad216, e216, hx216_0⟩ := Kd.at_int (Kd.R_reads' HO_4.out).2.2 ((rd_T37 l0_0 x16_2).f1) p216 q216
                  obtain rfl : (⟨go4, 0, none⟩ : Addr) = ad216 := (by injection e216)
                  (first | simp only [add_plain] at hx216_0 | simp only [add_at] at hx216_0 | simp only [Addr.add, Nat.zero_add] at hx216_0 | skip)
                  replace p216 := eq_true p216; replace q216 := eq_true q216; have p217 : 0 ≤ (((rd_T37 l0_0 x16_2).f0) : Int) := dt_
                  have q217 : ((rd_T37 l0_0 x16_2).f0) < (y215.length : Int) := (by have h_ : (((rd_T37 l0_0 x16_2).f0) : Int) < ((x4_2.length : Int) : Int) := dt_; first | (have e_ := (Kd.R_reads' HO_4.out).1; omega) | simpa only [Ny215.out, List.length_set] using h_)
                  have ql217 : ((((rd_T37 l0_0 x16_2).f0) : Int) < ((x4_2.length : Int) : Int)) = True := eq_true (dt_); obtain ⟨ad217, e217, hx217_0⟩ := Kd.at_int (Kd.R_reads' HO_4.out).2.2 ((rd_T37 l0_0 x16_2).f0) p217 q217
                  obtain rfl : (⟨go4, 0, none⟩ : Addr) = ad217 := (by injection e217)
                  (first | simp only [add_plain] at hx217_0 | simp only [add_at] at hx217_0 | simp only [Addr.add, Nat.zero_add] at hx217_0 | skip)
                  replace p217 := eq_true p217; replace q217 := eq_true q217; have p30 : 0 ≤ (((rd_T37 l0_0 x16_2).f1) : Int) := dt_; have q30 : (((rd_T37 l0_0 x16_2).f1) : Int) < ((x4_2.length : Int) : Int) := dt_; obtain ⟨hx30_0, hf30_0⟩ := Kd.R_celln 0 HO_4.out (((rd_T37 l0_0 x16_2).f1) : Int) p30 q30; replace p30 := eq_true p30; replace q30 := eq_true q30; have HP40 := Kd.R_putn HO_4.out (((rd_T37 l0_0 x16_2).f1) : Int) ji29
                  rw [← Ny218.out] at HP40
                  have HQ40 := Aside0.mk HP40; clear HP40; refine start_ (n := 19) (S := fun w' => w'.cell? ⟨gb210, 0, none⟩ = some (.int .i64 ((rd_T37 l0_0 x16_2).f0)) ∧ w'.cell? ⟨gb210, 1, none⟩ = some (.int .i64 ((rd_T37 l0_0 x16_2).f1)) ∧ w'.cell? ⟨gb210, 2, none⟩ = some (.int .i64 ((rd_T37 l0_0 x16_2).f2)) ∧ w'.cell? ⟨gb210, 3, none⟩ = some (.int .i64 ((rd_T37 l0_0 x16_2).f3)) ∧ w'.cell? ⟨gb210, 4, none⟩ = some (.int .i64 ((rd_T37 l0_0 x16_2).f4)) ∧ w'.cell? ⟨go4, (((rd_T37 l0_0 x16_2).f1)).toNat, none⟩ = some (.int .i64 (rd y215 ((rd_T37 l0_0 x16_2).f1))) ∧ w'.cell? ⟨go4, (((rd_T37 l0_0 x16_2).f0)).toNat, none⟩ = some (.int .i64 (rd y215 ((rd_T37 l0_0 x16_2).f0)))) (ds := [18]) impl_Exploration_wayOut.mk0 (by kernel_rfl) rfl rfl ⟨(blk_cell BK210.out 0).trans rfl, (blk_cell BK210.out 1).trans rfl, (blk_cell BK210.out 2).trans rfl, (blk_cell BK210.out 3).trans rfl, (blk_cell BK210.out 4).trans rfl, hx216_0, hx217_0⟩ (fun hHeld => ?_); refine with_tabW impl_Exploration_wayOut.tab10 impl_Exploration_wayOut.bits10 (fun HT_ HW_ => ?_); generalize w38.drew = w39 at HO_4 BK199 BK210 HB HQ37 HQ40 hf30_0 hx216_0 hx217_0 hx30_0 hHeld ⊢; refine pz_ HT_ 0 (some 52) impl_Exploration_wayOut.mk1 ?_; refine pz_ HT_ 1 (some 53) impl_Exploration_wayOut.mk2 ?_; refine pz_ HT_ 3 (some 55) impl_Exploration_wayOut.mk3 ?_; refine pz_ HT_ 4 (some 56) impl_Exploration_wayOut.mk4 ?_; refine pz_ HT_ 8 (some 60) impl_Exploration_wayOut.mk5 ?_; refine pz_ HT_ 9 (some 61) impl_Exploration_wayOut.mk6 ?_; refine pz_ HT_ 13 (some 65) impl_Exploration_wayOut.mk7 ?_; refine tk_ HT_ HW_ hHeld 2 (some 54) impl_Exploration_wayOut.mk8 ?_; refine tk_ HT_ HW_ hHeld 5 (some 57) impl_Exploration_wayOut.mk9 ?_; refine pz_ HT_ 6 (some 58) impl_Exploration_wayOut.mk10 ?_; refine tk_ HT_ HW_ hHeld 7 (some 59) impl_Exploration_wayOut.mk11 ?_; refine tk_ HT_ HW_ hHeld 10 (some 62) impl_Exploration_wayOut.mk12 ?_; refine pz_ HT_ 11 (some 63) impl_Exploration_wayOut.mk13 ?_; refine tk_ HT_ HW_ hHeld 12 (some 64) impl_Exploration_wayOut.mk14 ?_; refine tk_ HT_ HW_ hHeld 14 (some 66) impl_Exploration_wayOut.mk15 ?_; refine pz_ HT_ 15 (some 67) impl_Exploration_wayOut.mk16 ?_; refine pz_ HT_ 16 (some 68) impl_Exploration_wayOut.mk17 ?_; refine pz_ HT_ 17 (some 69) impl_Exploration_wayOut.mk18 ?_; refine last_ (i := 18) (N := none) impl_Exploration_wayOut.mk19 rfl rfl (one_of HT_.out (by kernel_rfl)) (by decide) (fun K hK => ?_); refine skip_ (w1 := ?_) (by rfl) rfl ?_ ?_; rotate_left
                  ·
                   go_simp; rfl
                  refine hK.out _ _ ?_; clear hK K; refine done_ (done_of HT_.out (by kernel_rfl)) ?_
                  try go_wp2
                  (try simp only [← hl4_2])
                  go_roundg k2
                  case measure => have := HK1.out; have := HK2.out; omega
                  case rel => exact ⟨(y218), (wrap64 (x16_2 + 1)), (by first | rfl | (simp; done) | (simp [*]; done)), H', ⟨by have := HK1.out; have := HK2.out; omega⟩, ⟨by (try simp only [hl4_1]); (try simp only [hl4_2]); (with_reducible repeat (first | apply Kd.R_alloc | apply Kd.R_drewN | apply Kd.R_drew)); exact HQ40.out⟩, ⟨by (try simp only [hl4_1]); (try simp only [hl4_2]); (with_reducible repeat (first | refine blk_drewN ?_ _ | refine blk_drew ?_ | refine blk_alloc ?_ _)); refine blk_far ?_ (by have h_ := Kd.R_ne HO_4.out BK199.out (by decide); intro e_; exact h_ (by rw [e_]; rfl)) _; (with_reducible repeat (first | refine blk_drewN ?_ _ | refine blk_drew ?_ | refine blk_alloc ?_ _)); exact BK199.out⟩, ⟨lb3_ HB.out GB4.out GE199.out GE210.out⟩⟩
                 ·
                  rw [if_neg c26] at H
                  exact absurd H (by simp)
                ·
                 rw [if_neg c25] at H
                 exact absurd H (by simp)
               ·
                replace c24 := Bool.eq_false_iff.mpr c24; subst c24
                have H1 : (impl_Exploration_wayOut.l1 k2 x4_2 x11_1 l0_0 (l0_0.length : Int) (wrap64 (x16_2 + 1)) l0_0 l0_1 l0_2 a0_3 a0_4) = some (r1, r2) := by rw [if_neg (show ¬ (false = true) by decide)] at H; exact H
                clear H; have H := H1; clear H1; have H' := Aside0.mk H; clear H; have p209 : 0 ≤ (x16_2 : Int) := dt_; have q209 : x16_2 < (l0_0.length : Int) := dt_; obtain ⟨ad209, e209, hx209_0, hx209_1, hx209_2, hx209_3, hx209_4⟩ := at_T37 HR0_0.out x16_2 p209 q209
                cases e209
                replace hx209_0 := bc_ HB.out hx209_0; replace hx209_1 := bc_ HB.out hx209_1; replace hx209_2 := bc_ HB.out hx209_2; replace hx209_3 := bc_ HB.out hx209_3; replace hx209_4 := bc_ HB.out hx209_4; replace p209 := eq_true p209; replace q209 := eq_true q209
                go_wp2_with (first | ((with_reducible refine gate_dst (N := 6) rfl ?_); refine box_event ?hg (N := 6) ?hd (cs := #[.int .i64 0, .int .i64 0, .int .i64 0, .int .i64 0, .int .i64 0]) (t := 37) ?hr ?_; (case hd => rfl); (case hg => rfl); (case hr => first | (go_simp; done) | (go_simp; rfl)); intro gb210 hg w41 hbox hb; replace HO_4 := Aside0.mk (Kd.R_below (kr_ HO_4.out) hb); have BK210 := Aside0.mk (hbox); have GW210 := Aside0.mk ((bz_ hg (lb1_ HB.out GE199.out))); have GE210 := Aside0.mk ((bz_ hg (lb1_ HB.out GE199.out))); replace HB := Aside0.mk (below_step (lb1_ HB.out GE199.out) hb); have NB199_210 := Aside0.mk (nl_ hg BK199.out); have NB210_199 := Aside0.mk (ng_ hg BK199.out); replace BK199 := Aside0.mk (bb_ (bk_ BK199.out) hb); clear hb hbox hg; have hnb42 := NB210_199.out; have hnc42 := NB199_210.out; obtain ⟨hcz43_0, hcz43_1, hcz43_2, hcz43_3, hcz43_4⟩ := cz5_ BK210.out; obtain ⟨hfz43_0, hfz43_1, hfz43_2, hfz43_3, hfz43_4⟩ := fz5_ BK210.out; obtain ⟨hcz44_0, hcz44_1, hcz44_2, hcz44_3, hcz44_4⟩ := cz5_ BK199.out; obtain ⟨hfz44_0, hfz44_1, hfz44_2, hfz44_3, hfz44_4⟩ := fz5_ BK199.out; have p211 : 0 ≤ (((rd_T37 l0_0 x16_2).f0) : Int) := dt_; have q211 : ((rd_T37 l0_0 x16_2).f0) < (l0_1.length : Int) := dt_; obtain ⟨ad211, e211, hx211_0⟩ := Kd.at_bool HR0_1.out ((rd_T37 l0_0 x16_2).f0) p211 q211; (try rw [← Nbq19.out] at hx211_0); (try rw [← Nbq23.out] at hx211_0); cases e211; have hn211_0 : ad211.block ≠ gb210 := Nat.ne_of_lt (Nat.lt_of_lt_of_le (by have := World.block_lt_of_cell? _ _ hx211_0; first | rwa [add_block] at this | exact this) GW210.out); have hn211_1 : ad211.block ≠ gb210 := Nat.ne_of_lt (Nat.lt_of_lt_of_le (by have := World.block_lt_of_cell? _ _ hx211_0; first | rwa [add_block] at this | exact this) GW210.out); have hn211_2 : ad211.block ≠ gb210 := Nat.ne_of_lt (Nat.lt_of_lt_of_le (by have := World.block_lt_of_cell? _ _ hx211_0; first | rwa [add_block] at this | exact this) GW210.out); have hn211_3 : ad211.block ≠ gb210 := Nat.ne_of_lt (Nat.lt_of_lt_of_le (by have := World.block_lt_of_cell? _ _ hx211_0; first | rwa [add_block] at this | exact this) GW210.out); have hn211_4 : ad211.block ≠ gb210 := Nat.ne_of_lt (Nat.lt_of_lt_of_le (by have := World.block_lt_of_cell? _ _ hx211_0; first | rwa [add_block] at this | exact this) GW210.out); replace hx211_0 := bc_ HB.out hx211_0; replace hx211_0 := (cell_far (p := ⟨gb210, 0, none⟩) (by first | (rw [add_block]; exact hn211_0) | (show (Addr.add _ _).block ≠ _; rw [add_block]; exact hn211_0) | exact hn211_0) (.int .i64 ((rd_T37 l0_0 x16_2).f0))).trans hx211_0; replace hx211_0 := (cell_far (p := ⟨gb210, 1, none⟩) (by first | (rw [add_block]; exact hn211_1) | (show (Addr.add _ _).block ≠ _; rw [add_block]; exact hn211_1) | exact hn211_1) (.int .i64 ((rd_T37 l0_0 x16_2).f1))).trans hx211_0; replace hx211_0 := (cell_far (p := ⟨gb210, 2, none⟩) (by first | (rw [add_block]; exact hn211_2) | (show (Addr.add _ _).block ≠ _; rw [add_block]; exact hn211_2) | exact hn211_2) (.int .i64 ((rd_T37 l0_0 x16_2).f2))).trans hx211_0; replace hx211_0 := (cell_far (p := ⟨gb210, 3, none⟩) (by first | (rw [add_block]; exact hn211_3) | (show (Addr.add _ _).block ≠ _; rw [add_block]; exact hn211_3) | exact hn211_3) (.int .i64 ((rd_T37 l0_0 x16_2).f3))).trans hx211_0; replace hx211_0 := (cell_far (p := ⟨gb210, 4, none⟩) (by first | (rw [add_block]; exact hn211_4) | (show (Addr.add _ _).block ≠ _; rw [add_block]; exact hn211_4) | exact hn211_4) (.int .i64 ((rd_T37 l0_0 x16_2).f4))).trans hx211_0; clear hn211_0; clear hn211_1; clear hn211_2; clear hn211_3; clear hn211_4; replace p211 := eq_true p211; replace q211 := eq_true q211; have p212 : 0 ≤ (((rd_T37 l0_0 x16_2).f1) : Int) := dt_; have q212 : ((rd_T37 l0_0 x16_2).f1) < (l0_1.length : Int) := dt_; obtain ⟨ad212, e212, hx212_0⟩ := Kd.at_bool HR0_1.out ((rd_T37 l0_0 x16_2).f1) p212 q212; (try rw [← Nbq19.out] at hx212_0); (try rw [← Nbq23.out] at hx212_0); obtain rfl : ad211 = ad212 := (by injection e212); have hn212_0 : ad211.block ≠ gb210 := Nat.ne_of_lt (Nat.lt_of_lt_of_le (by have := World.block_lt_of_cell? _ _ hx212_0; first | rwa [add_block] at this | exact this) GW210.out); have hn212_1 : ad211.block ≠ gb210 := Nat.ne_of_lt (Nat.lt_of_lt_of_le (by have := World.block_lt_of_cell? _ _ hx212_0; first | rwa [add_block] at this | exact this) GW210.out); have hn212_2 : ad211.block ≠ gb210 := Nat.ne_of_lt (Nat.lt_of_lt_of_le (by have := World.block_lt_of_cell? _ _ hx212_0; first | rwa [add_block] at this | exact this) GW210.out); have hn212_3 : ad211.block ≠ gb210 := Nat.ne_of_lt (Nat.lt_of_lt_of_le (by have := World.block_lt_of_cell? _ _ hx212_0; first | rwa [add_block] at this | exact this) GW210.out); have hn212_4 : ad211.block ≠ gb210 := Nat.ne_of_lt (Nat.lt_of_lt_of_le (by have := World.block_lt_of_cell? _ _ hx212_0; first | rwa [add_block] at this | exact this) GW210.out); replace hx212_0 := bc_ HB.out hx212_0; replace hx212_0 := (cell_far (p := ⟨gb210, 0, none⟩) (by first | (rw [add_block]; exact hn212_0) | (show (Addr.add _ _).block ≠ _; rw [add_block]; exact hn212_0) | exact hn212_0) (.int .i64 ((rd_T37 l0_0 x16_2).f0))).trans hx212_0; replace hx212_0 := (cell_far (p := ⟨gb210, 1, none⟩) (by first | (rw [add_block]; exact hn212_1) | (show (Addr.add _ _).block ≠ _; rw [add_block]; exact hn212_1) | exact hn212_1) (.int .i64 ((rd_T37 l0_0 x16_2).f1))).trans hx212_0; replace hx212_0 := (cell_far (p := ⟨gb210, 2, none⟩) (by first | (rw [add_block]; exact hn212_2) | (show (Addr.add _ _).block ≠ _; rw [add_block]; exact hn212_2) | exact hn212_2) (.int .i64 ((rd_T37 l0_0 x16_2).f2))).trans hx212_0; replace hx212_0 := (cell_far (p := ⟨gb210, 3, none⟩) (by first | (rw [add_block]; exact hn212_3) | (show (Addr.add _ _).block ≠ _; rw [add_block]; exact hn212_3) | exact hn212_3) (.int .i64 ((rd_T37 l0_0 x16_2).f3))).trans hx212_0; replace hx212_0 := (cell_far (p := ⟨gb210, 4, none⟩) (by first | (rw [add_block]; exact hn212_4) | (show (Addr.add _ _).block ≠ _; rw [add_block]; exact hn212_4) | exact hn212_4) (.int .i64 ((rd_T37 l0_0 x16_2).f4))).trans hx212_0; clear hn212_0; clear hn212_1; clear hn212_2; clear hn212_3; clear hn212_4; replace p212 := eq_true p212; replace q212 := eq_true q212))
                (try simp only [← hl4_2])
                go_roundg k2
                case measure => have := HK1.out; have := HK2.out; omega
                case rel => exact ⟨(x4_2), (wrap64 (x16_2 + 1)), (by first | rfl | (simp; done) | (simp [*]; done)), H', ⟨by have := HK1.out; have := HK2.out; omega⟩, ⟨by (try simp only [hl4_1]); (try simp only [hl4_2]); (with_reducible repeat (first | apply Kd.R_alloc | apply Kd.R_drewN | apply Kd.R_drew)); exact Kd.R_mono (Kd.R_far (p := ⟨gb210, 4, none⟩) (Kd.R_far (p := ⟨gb210, 3, none⟩) (Kd.R_far (p := ⟨gb210, 2, none⟩) (Kd.R_far (p := ⟨gb210, 1, none⟩) (Kd.R_far (p := ⟨gb210, 0, none⟩) (Kd.R_types HO_4.out BK210.out (by decide)) (fun _ hk => hk.2) (.int .i64 ((rd_T37 l0_0 x16_2).f0))) (fun _ hk => hk.2) (.int .i64 ((rd_T37 l0_0 x16_2).f1))) (fun _ hk => hk.2) (.int .i64 ((rd_T37 l0_0 x16_2).f2))) (fun _ hk => hk.2) (.int .i64 ((rd_T37 l0_0 x16_2).f3))) (fun _ hk => hk.2) (.int .i64 ((rd_T37 l0_0 x16_2).f4))) (fun _ hk => trivial)⟩, ⟨by (try simp only [hl4_1]); (try simp only [hl4_2]); (with_reducible repeat (first | refine blk_drewN ?_ _ | refine blk_drew ?_ | refine blk_alloc ?_ _)); refine blk_far ?_ NB199_210.out _; (with_reducible repeat (first | refine blk_drewN ?_ _ | refine blk_drew ?_ | refine blk_alloc ?_ _)); refine blk_far ?_ NB199_210.out _; (with_reducible repeat (first | refine blk_drewN ?_ _ | refine blk_drew ?_ | refine blk_alloc ?_ _)); refine blk_far ?_ NB199_210.out _; (with_reducible repeat (first | refine blk_drewN ?_ _ | refine blk_drew ?_ | refine blk_alloc ?_ _)); refine blk_far ?_ NB199_210.out _; (with_reducible repeat (first | refine blk_drewN ?_ _ | refine blk_drew ?_ | refine blk_alloc ?_ _)); refine blk_far ?_ NB199_210.out _; (with_reducible repeat (first | refine blk_drewN ?_ _ | refine blk_drew ?_ | refine blk_alloc ?_ _)); exact BK199.out⟩, ⟨lb2_ HB.out GE199.out GE210.out⟩⟩
              ·
               rw [if_neg c22] at H
               exact absurd H (by simp)
             ·
              rw [if_neg c21] at H
              exact absurd H (by simp)
            ·
             replace c20 := Bool.eq_false_iff.mpr c20; subst c20
             have H1 : (impl_Exploration_wayOut.l1 k2 x4_2 x11_1 l0_0 (l0_0.length : Int) (wrap64 (x16_2 + 1)) l0_0 l0_1 l0_2 a0_3 a0_4) = some (r1, r2) := by rw [if_neg (show ¬ (false = true) by decide)] at H; exact H
             clear H; have H := H1; clear H1; have H' := Aside0.mk H; clear H; have p209 : 0 ≤ (x16_2 : Int) := dt_; have q209 : x16_2 < (l0_0.length : Int) := dt_; obtain ⟨ad209, e209, hx209_0, hx209_1, hx209_2, hx209_3, hx209_4⟩ := at_T37 HR0_0.out x16_2 p209 q209
             cases e209
             replace hx209_0 := bc_ HB.out hx209_0; replace hx209_1 := bc_ HB.out hx209_1; replace hx209_2 := bc_ HB.out hx209_2; replace hx209_3 := bc_ HB.out hx209_3; replace hx209_4 := bc_ HB.out hx209_4; replace p209 := eq_true p209; replace q209 := eq_true q209
             go_wp2_with (first | ((with_reducible refine gate_dst (N := 6) rfl ?_); refine box_event ?hg (N := 6) ?hd (cs := #[.int .i64 0, .int .i64 0, .int .i64 0, .int .i64 0, .int .i64 0]) (t := 37) ?hr ?_; (case hd => rfl); (case hg => rfl); (case hr => first | (go_simp; done) | (go_simp; rfl)); intro gb210 hg w45 hbox hb; replace HO_4 := Aside0.mk (Kd.R_below (kr_ HO_4.out) hb); have BK210 := Aside0.mk (hbox); have GW210 := Aside0.mk ((bz_ hg (lb1_ HB.out GE199.out))); have GE210 := Aside0.mk ((bz_ hg (lb1_ HB.out GE199.out))); replace HB := Aside0.mk (below_step (lb1_ HB.out GE199.out) hb); have NB199_210 := Aside0.mk (nl_ hg BK199.out); have NB210_199 := Aside0.mk (ng_ hg BK199.out); replace BK199 := Aside0.mk (bb_ (bk_ BK199.out) hb); clear hb hbox hg; have hnb46 := NB210_199.out; have hnc46 := NB199_210.out; obtain ⟨hcz47_0, hcz47_1, hcz47_2, hcz47_3, hcz47_4⟩ := cz5_ BK210.out; obtain ⟨hfz47_0, hfz47_1, hfz47_2, hfz47_3, hfz47_4⟩ := fz5_ BK210.out; obtain ⟨hcz48_0, hcz48_1, hcz48_2, hcz48_3, hcz48_4⟩ := cz5_ BK199.out; obtain ⟨hfz48_0, hfz48_1, hfz48_2, hfz48_3, hfz48_4⟩ := fz5_ BK199.out; have p211 : 0 ≤ (((rd_T37 l0_0 x16_2).f0) : Int) := dt_; have q211 : ((rd_T37 l0_0 x16_2).f0) < (l0_1.length : Int) := dt_; obtain ⟨ad211, e211, hx211_0⟩ := Kd.at_bool HR0_1.out ((rd_T37 l0_0 x16_2).f0) p211 q211; (try rw [← Nbq19.out] at hx211_0); cases e211; have hn211_0 : ad211.block ≠ gb210 := Nat.ne_of_lt (Nat.lt_of_lt_of_le (by have := World.block_lt_of_cell? _ _ hx211_0; first | rwa [add_block] at this | exact this) GW210.out); have hn211_1 : ad211.block ≠ gb210 := Nat.ne_of_lt (Nat.lt_of_lt_of_le (by have := World.block_lt_of_cell? _ _ hx211_0; first | rwa [add_block] at this | exact this) GW210.out); have hn211_2 : ad211.block ≠ gb210 := Nat.ne_of_lt (Nat.lt_of_lt_of_le (by have := World.block_lt_of_cell? _ _ hx211_0; first | rwa [add_block] at this | exact this) GW210.out); have hn211_3 : ad211.block ≠ gb210 := Nat.ne_of_lt (Nat.lt_of_lt_of_le (by have := World.block_lt_of_cell? _ _ hx211_0; first | rwa [add_block] at this | exact this) GW210.out); have hn211_4 : ad211.block ≠ gb210 := Nat.ne_of_lt (Nat.lt_of_lt_of_le (by have := World.block_lt_of_cell? _ _ hx211_0; first | rwa [add_block] at this | exact this) GW210.out); replace hx211_0 := bc_ HB.out hx211_0; replace hx211_0 := (cell_far (p := ⟨gb210, 0, none⟩) (by first | (rw [add_block]; exact hn211_0) | (show (Addr.add _ _).block ≠ _; rw [add_block]; exact hn211_0) | exact hn211_0) (.int .i64 ((rd_T37 l0_0 x16_2).f0))).trans hx211_0; replace hx211_0 := (cell_far (p := ⟨gb210, 1, none⟩) (by first | (rw [add_block]; exact hn211_1) | (show (Addr.add _ _).block ≠ _; rw [add_block]; exact hn211_1) | exact hn211_1) (.int .i64 ((rd_T37 l0_0 x16_2).f1))).trans hx211_0; replace hx211_0 := (cell_far (p := ⟨gb210, 2, none⟩) (by first | (rw [add_block]; exact hn211_2) | (show (Addr.add _ _).block ≠ _; rw [add_block]; exact hn211_2) | exact hn211_2) (.int .i64 ((rd_T37 l0_0 x16_2).f2))).trans hx211_0; replace hx211_0 := (cell_far (p := ⟨gb210, 3, none⟩) (by first | (rw [add_block]; exact hn211_3) | (show (Addr.add _ _).block ≠ _; rw [add_block]; exact hn211_3) | exact hn211_3) (.int .i64 ((rd_T37 l0_0 x16_2).f3))).trans hx211_0; replace hx211_0 := (cell_far (p := ⟨gb210, 4, none⟩) (by first | (rw [add_block]; exact hn211_4) | (show (Addr.add _ _).block ≠ _; rw [add_block]; exact hn211_4) | exact hn211_4) (.int .i64 ((rd_T37 l0_0 x16_2).f4))).trans hx211_0; clear hn211_0; clear hn211_1; clear hn211_2; clear hn211_3; clear hn211_4; replace p211 := eq_true p211; replace q211 := eq_true q211))
             (try simp only [← hl4_2])
             go_roundg k2
             case measure => have := HK1.out; have := HK2.out; omega
             case rel => exact ⟨(x4_2), (wrap64 (x16_2 + 1)), (by first | rfl | (simp; done) | (simp [*]; done)), H', ⟨by have := HK1.out; have := HK2.out; omega⟩, ⟨by (try simp only [hl4_1]); (try simp only [hl4_2]); (with_reducible repeat (first | apply Kd.R_alloc | apply Kd.R_drewN | apply Kd.R_drew)); exact Kd.R_mono (Kd.R_far (p := ⟨gb210, 4, none⟩) (Kd.R_far (p := ⟨gb210, 3, none⟩) (Kd.R_far (p := ⟨gb210, 2, none⟩) (Kd.R_far (p := ⟨gb210, 1, none⟩) (Kd.R_far (p := ⟨gb210, 0, none⟩) (Kd.R_types HO_4.out BK210.out (by decide)) (fun _ hk => hk.2) (.int .i64 ((rd_T37 l0_0 x16_2).f0))) (fun _ hk => hk.2) (.int .i64 ((rd_T37 l0_0 x16_2).f1))) (fun _ hk => hk.2) (.int .i64 ((rd_T37 l0_0 x16_2).f2))) (fun _ hk => hk.2) (.int .i64 ((rd_T37 l0_0 x16_2).f3))) (fun _ hk => hk.2) (.int .i64 ((rd_T37 l0_0 x16_2).f4))) (fun _ hk => trivial)⟩, ⟨by (try simp only [hl4_1]); (try simp only [hl4_2]); (with_reducible repeat (first | refine blk_drewN ?_ _ | refine blk_drew ?_ | refine blk_alloc ?_ _)); refine blk_far ?_ NB199_210.out _; (with_reducible repeat (first | refine blk_drewN ?_ _ | refine blk_drew ?_ | refine blk_alloc ?_ _)); refine blk_far ?_ NB199_210.out _; (with_reducible repeat (first | refine blk_drewN ?_ _ | refine blk_drew ?_ | refine blk_alloc ?_ _)); refine blk_far ?_ NB199_210.out _; (with_reducible repeat (first | refine blk_drewN ?_ _ | refine blk_drew ?_ | refine blk_alloc ?_ _)); refine blk_far ?_ NB199_210.out _; (with_reducible repeat (first | refine blk_drewN ?_ _ | refine blk_drew ?_ | refine blk_alloc ?_ _)); refine blk_far ?_ NB199_210.out _; (with_reducible repeat (first | refine blk_drewN ?_ _ | refine blk_drew ?_ | refine blk_alloc ?_ _)); exact BK199.out⟩, ⟨lb2_ HB.out GE199.out GE210.out⟩⟩
           ·
            rw [if_neg c18] at H
            exact absurd H (by simp)
          ·
           rw [if_neg c17] at H
           exact absurd H (by simp)
         ·
          rw [if_neg c16] at H
          exact absurd H (by simp)
        ·
         rw [if_neg c15] at H
         exact absurd H (by simp)
       ·
        rw [if_neg c14] at H
        have c14b0 : decide (x16_2 < (l0_0.length : Int)) = false := decide_eq_false c14; clear c14; have H' := Aside0.mk H; clear H
        go_wp2
        (try simp only [← hl4_1, ← hl4_2])
        go_roundg k2
        case measure => have := HK1.out; have := HK2.out; omega
        case rel => exact ⟨(x4_2), (wrap64 (x11_1 + 1)), (by first | rfl | (simp; done) | (simp [*]; done)), H', ⟨by have := HK1.out; have := HK2.out; omega⟩, ⟨by (try simp only [hl4_1]); (try simp only [hl4_2]); (with_reducible repeat (first | apply Kd.R_alloc | apply Kd.R_drewN | apply Kd.R_drew)); exact HO_4.out⟩, ⟨by (try simp only [hl4_1]); (try simp only [hl4_2]); (with_reducible repeat (first | refine blk_drewN ?_ _ | refine blk_drew ?_ | refine blk_alloc ?_ _)); exact BK199.out⟩, ⟨lb1_ HB.out GE199.out⟩⟩
    ·
     rw [if_neg c12] at H
     have c12b0 : decide (x11_1 < 8) = false := decide_eq_false c12
     clear c12
     by_cases c49 : 0 ≤ a0_3
     ·
      rw [if_pos c49] at H
      have c49b0 : decide (0 ≤ a0_3) = true := decide_eq_true c49
      clear c49
      by_cases c50 : a0_3 < (x4_1.length : Int)
      ·
       rw [if_pos c50] at H
       have c50b0 : decide (a0_3 < (x4_1.length : Int)) = true := decide_eq_true c50
       clear c50
       simp only [Option.some.injEq, Prod.mk.injEq] at H
       obtain ⟨rfl, rfl⟩ := H
       try go_wp2
       replace HO_4 := Aside0.mk (Kd.R_drew HO_4.out)
       replace BK199 := Aside0.mk (blk_drew BK199.out)
       replace HB := Aside0.mk (below_drew1 HB.out)
       have p207 : 0 ≤ (a0_3 : Int) := dt_
       have q207 : a0_3 < (x4_1.length : Int) := dt_
       obtain ⟨ad207, e207, hx207_0⟩ := Kd.at_int (Kd.R_reads' HO_4.out).2.2 a0_3 p207 q207
       obtain rfl : (⟨go4, 0, none⟩ : Addr) = ad207 := (by injection e207)
       (first | simp only [add_plain] at hx207_0 | simp only [add_at] at hx207_0 | simp only [Addr.add, Nat.zero_add] at hx207_0 | skip)
       replace p207 := eq_true p207
       replace q207 := eq_true q207
       have p208 : 0 ≤ (a0_3 : Int) := dt_
       have q208 : a0_3 < (x4_1.length : Int) := dt_
       obtain ⟨ad208, e208, hx208_0⟩ := Kd.at_int (Kd.R_reads' HO_4.out).2.2 a0_3 p208 q208
       obtain rfl : (⟨go4, 0, none⟩ : Addr) = ad208 := (by injection e208)
       (first | simp only [add_plain] at hx208_0 | simp only [add_at] at hx208_0 | simp only [Addr.add, Nat.zero_add] at hx208_0 | skip)
       replace p208 := eq_true p208
       replace q208 := eq_true q208
       refine start_ (n := 13) (S := fun w' => w'.cell? ⟨gb199, 0, none⟩ = some (.slice A0_0 l0_0.length c0_0) ∧ w'.cell? ⟨gb199, 1, none⟩ = some (.slice A0_1 l0_1.length c0_1) ∧ w'.cell? ⟨gb199, 2, none⟩ = some (.slice A0_2 l0_2.length c0_2) ∧ w'.cell? ⟨gb199, 3, none⟩ = some (.int .i64 a0_3) ∧ w'.cell? ⟨gb199, 4, none⟩ = some (.int .i64 a0_4) ∧ w'.cell? ⟨go4, (a0_3).toNat, none⟩ = some (.int .i64 (rd x4_1 a0_3)) ∧ w'.cell? ⟨go4, (a0_3).toNat, none⟩ = some (.int .i64 (rd x4_1 a0_3))) (ds := []) impl_Exploration_wayOut.mk20 (by kernel_rfl) rfl rfl ⟨(blk_cell BK199.out 0).trans rfl, (blk_cell BK199.out 1).trans rfl, (blk_cell BK199.out 2).trans rfl, (blk_cell BK199.out 3).trans rfl, (blk_cell BK199.out 4).trans rfl, hx207_0, hx208_0⟩ (fun hHeld => ?_); refine with_tabW impl_Exploration_wayOut.tab13 impl_Exploration_wayOut.bits13 (fun HT_ HW_ => ?_)
       generalize wr.drew = w51 at HO_4 BK199 HB hx207_0 hx208_0 hHeld ⊢
       refine pz_ HT_ 0 (some 72) impl_Exploration_wayOut.mk21 ?_
       refine pz_ HT_ 1 (some 73) impl_Exploration_wayOut.mk22 ?_
       refine pz_ HT_ 5 (some 77) impl_Exploration_wayOut.mk23 ?_
       refine pz_ HT_ 6 (some 78) impl_Exploration_wayOut.mk24 ?_
       refine tk_ HT_ HW_ hHeld 2 (some 74) impl_Exploration_wayOut.mk25 ?_
       refine pz_ HT_ 3 (some 75) impl_Exploration_wayOut.mk26 ?_
       refine tk_ HT_ HW_ hHeld 4 (some 76) impl_Exploration_wayOut.mk27 ?_
       refine pz_ HT_ 11 (some 2) impl_Exploration_wayOut.mk28 ?_
       refine tk_ HT_ HW_ hHeld 7 (some 79) impl_Exploration_wayOut.mk29 ?_
       refine pz_ HT_ 8 (some 80) impl_Exploration_wayOut.mk30 ?_
       refine tk_ HT_ HW_ hHeld 9 (some 81) impl_Exploration_wayOut.mk31 ?_
       refine pz_ HT_ 10 (some 82) impl_Exploration_wayOut.mk32 ?_
       refine pz_ HT_ 12 (some 3) impl_Exploration_wayOut.mk33 ?_
       refine done_ (done_of HT_.out (by kernel_rfl)) ?_
       try go_wp2
       go_ret2
       exact ⟨rr_, lb1_ HB.out GE199.out⟩
      ·
       rw [if_neg c50] at H
       exact absurd H (by simp)
     ·
      rw [if_neg c49] at H
      exact absurd H (by simp)
 ·
  rw [if_neg c3] at H
  exact absurd H (by simp)
def impl_IsExploration.j0 : Nat → Bool → List (S37) → List Bool → List Bool → Int → Int → Option (Bool)
 | 0, _, _, _, _, _, _ => none
 | k + 1, x32, x220000, x220001, x220002, x220003, x220004 => if x32 = true then (some false) else (if 0 < (x220001.length : Int) then (if rdOf false x220001 0 = true then (if 0 ≤ x220003 then (if x220003 < (x220001.length : Int) then (if rdOf false x220001 x220003 = true then ((impl_Exploration_wayOut.f k x220000 x220001 x220002 x220003 x220004).bind fun bt225 => (if bt225.2 = true then (some (decide (bt225.1 ≤ x220004))) else (some false))) else (some false)) else (none)) else (none)) else (some false)) else (none))
def impl_IsExploration.f (k : Nat) (l0_0 : List (S37)) (l0_1 : List Bool) (l0_2 : List Bool) (a0_3 : Int) (a0_4 : Int) : Option (Bool) := (impl_areLegs.f k l0_0).bind fun t220 => (if t220 = true then (if (l0_1.length : Int) = 8 then (if (l0_2.length : Int) = 8 then ((impl_isStation.f a0_3).bind fun t221 => (if t221 = true then ((impl_within.f a0_4 0 100000).bind fun t222 => (impl_IsExploration.j0 k (!t222) l0_0 l0_1 l0_2 a0_3 a0_4)) else (impl_IsExploration.j0 k true l0_0 l0_1 l0_2 a0_3 a0_4))) else (impl_IsExploration.j0 k true l0_0 l0_1 l0_2 a0_3 a0_4)) else (impl_IsExploration.j0 k true l0_0 l0_1 l0_2 a0_3 a0_4)) else (impl_IsExploration.j0 k true l0_0 l0_1 l0_2 a0_3 a0_4))
theorem impl_IsExploration.mono_l : ∀ k, (∀ y0 y1 y2 y3 y4 y5, LeO (impl_IsExploration.j0 k y0 y1 y2 y3 y4 y5) (impl_IsExploration.j0 (k + 1) y0 y1 y2 y3 y4 y5))
 | 0 => fun _ _ _ _ _ _ r h => by simp [impl_IsExploration.j0] at h
 | k + 1 => by
  have ih0 := impl_IsExploration.mono_l k
  ·
   intro y0 y1 y2 y3 y4 y5
   unfold impl_IsExploration.j0
   repeat' first
   | (with_reducible exact ih0 _ _ _ _ _ _)
   | (with_reducible exact impl_Exploration_wayOut.mono _ _ _ _ _ _)
   | (with_reducible exact impl_areLegs.mono _ _)
   | (with_reducible exact LeO.refl _)
   | (with_reducible exact LeO.none _)
   | (with_reducible refine LeO.ite ?_ ?_)
   | (with_reducible refine LeO.bind ?_ (fun _ => ?_))
   | exact ih0 _ _ _ _ _ _
   | exact impl_Exploration_wayOut.mono _ _ _ _ _ _
   | exact impl_areLegs.mono _ _
   | exact LeO.none _
   | refine LeO.ite ?_ ?_
   | refine LeO.bind ?_ (fun _ => ?_)
theorem impl_IsExploration.mono : ∀ a0 a1 a2 a3 a4 k, LeO (impl_IsExploration.f k a0 a1 a2 a3 a4) (impl_IsExploration.f (k + 1) a0 a1 a2 a3 a4) := by
 intro a0 a1 a2 a3 a4 k
 have ih0 := impl_IsExploration.mono_l k
 unfold impl_IsExploration.f
 repeat' first
   | (with_reducible exact ih0 _ _ _ _ _ _)
   | (with_reducible exact impl_Exploration_wayOut.mono _ _ _ _ _ _)
   | (with_reducible exact impl_areLegs.mono _ _)
   | (with_reducible exact LeO.refl _)
   | (with_reducible exact LeO.none _)
   | (with_reducible refine LeO.ite ?_ ?_)
   | (with_reducible refine LeO.bind ?_ (fun _ => ?_))
   | exact ih0 _ _ _ _ _ _
   | exact impl_Exploration_wayOut.mono _ _ _ _ _ _
   | exact impl_areLegs.mono _ _
   | exact LeO.none _
   | refine LeO.ite ?_ ?_
   | refine LeO.bind ?_ (fun _ => ?_)
set_option maxHeartbeats 8000000 in
set_option maxRecDepth 100000 in
theorem impl_IsExploration.calls (k : Nat) (A0_0 : Option Addr) (c0_0 : Nat) (l0_0 : List (S37)) (A0_1 : Option Addr) (c0_1 : Nat) (l0_1 : List Bool) (A0_2 : Option Addr) (c0_2 : Nat) (l0_2 : List Bool) (a0_3 : Int) (a0_4 : Int) (r : Bool) (w : World) (hr0_0 : Kd.C k37 w A0_0 l0_0.length l0_0) (hc0_0 : l0_0.length ≤ c0_0) (hr0_1 : Kd.C Kd.bool w A0_1 l0_1.length l0_1) (hc0_1 : l0_1.length ≤ c0_1) (hr0_2 : Kd.C Kd.bool w A0_2 l0_2.length l0_2) (hc0_2 : l0_2.length ≤ c0_2) (h : impl_IsExploration.f k l0_0 l0_1 l0_2 a0_3 a0_4 = some r) :
  Calls Try.prog 18 #[.agg #[.slice A0_0 l0_0.length c0_0, .slice A0_1 l0_1.length c0_1, .slice A0_2 l0_2.length c0_2, .int .i64 a0_3, .int .i64 a0_4]] w fun e w' => e = .returned (.bool r) ∧ Below w.heap.size w w' := by
 have hu30 := Try.underlying30
 have HR0_0 := Aside0.mk hr0_0
 have HC0_0 := Aside0.mk hc0_0
 clear hr0_0 hc0_0
 have HR0_1 := Aside0.mk hr0_1
 have HC0_1 := Aside0.mk hc0_1
 clear hr0_1 hc0_1
 have HR0_2 := Aside0.mk hr0_2
 have HC0_2 := Aside0.mk hc0_2
 clear hr0_2 hc0_2
 have HB := Aside0.mk (Below.refl w.heap.size w)
 have H : ((impl_areLegs.f k l0_0).bind fun t220 => (if t220 = true then (if (l0_1.length : Int) = 8 then (if (l0_2.length : Int) = 8 then ((impl_isStation.f a0_3).bind fun t221 => (if t221 = true then ((impl_within.f a0_4 0 100000).bind fun t222 => (impl_IsExploration.j0 k (!t222) l0_0 l0_1 l0_2 a0_3 a0_4)) else (impl_IsExploration.j0 k true l0_0 l0_1 l0_2 a0_3 a0_4))) else (impl_IsExploration.j0 k true l0_0 l0_1 l0_2 a0_3 a0_4)) else (impl_IsExploration.j0 k true l0_0 l0_1 l0_2 a0_3 a0_4)) else (impl_IsExploration.j0 k true l0_0 l0_1 l0_2 a0_3 a0_4))) = some r := h
 clear h
 have HC2 := Aside0.mk H
 clear H
 go_enter Try.func18, Try.ntmps18
 go_upto_region 1 with (first | ((with_reducible refine gate_dst (N := 1) rfl ?_); (try (refine gate_guard (by rfl) ?_; dsimp only)); refine box_event ?hg (N := 1) ?hd (cs := #[.slice A0_0 l0_0.length c0_0, .slice A0_1 l0_1.length c0_1, .slice A0_2 l0_2.length c0_2, .int .i64 a0_3, .int .i64 a0_4]) (t := 30) ?hr ?_; (case hd => rfl); (case hg => rfl); (case hr => first | (go_simp; done) | (go_simp; rfl)); intro gb219 hg w3 hbox hb; have BK219 := Aside0.mk (hbox); have GW219 := Aside0.mk ((bz_ hg (lb0_ HB.out))); have GE219 := Aside0.mk ((bz_ hg (lb0_ HB.out))); replace HB := Aside0.mk (below_step (lb0_ HB.out) hb); clear hb hbox hg))
 (try simp only [Act.put, List.setIfInBounds_toArray, List.set_cons_zero, List.set_cons_succ])
 go_cut [32] (fun v32 wc => ∃ (kq : Nat) (x32_1 : Bool), v32 = .bool x32_1 ∧ Aside0 (impl_IsExploration.j0 kq x32_1 l0_0 l0_1 l0_2 a0_3 a0_4 = some r) ∧ Aside0 (kq ≤ k) ∧ Aside0 (wc.heap[gb219]? = some (.cells #[(.slice A0_0 l0_0.length c0_0), (.slice A0_1 l0_1.length c0_1), (.slice A0_2 l0_2.length c0_2), .int .i64 a0_3, .int .i64 a0_4] 30 (0, 0))) ∧ Aside0 (Below w.heap.size w wc))
 case first =>
  have H := HC2.out
  clear HC2
  replace H := Option.bind_eq_some_iff.mp H
  obtain ⟨t220, A40, H⟩ := H
  replace H : (if t220 = true then (if (l0_1.length : Int) = 8 then (if (l0_2.length : Int) = 8 then ((impl_isStation.f a0_3).bind fun t221 => (if t221 = true then ((impl_within.f a0_4 0 100000).bind fun t222 => (impl_IsExploration.j0 k (!t222) l0_0 l0_1 l0_2 a0_3 a0_4)) else (impl_IsExploration.j0 k true l0_0 l0_1 l0_2 a0_3 a0_4))) else (impl_IsExploration.j0 k true l0_0 l0_1 l0_2 a0_3 a0_4)) else (impl_IsExploration.j0 k true l0_0 l0_1 l0_2 a0_3 a0_4)) else (impl_IsExploration.j0 k true l0_0 l0_1 l0_2 a0_3 a0_4)) = some r := H
  have A4 := Aside0.mk A40
  clear A40
  by_cases c5 : t220 = true
  ·
   subst c5
   have H1 : (if (l0_1.length : Int) = 8 then (if (l0_2.length : Int) = 8 then ((impl_isStation.f a0_3).bind fun t221 => (if t221 = true then ((impl_within.f a0_4 0 100000).bind fun t222 => (impl_IsExploration.j0 k (!t222) l0_0 l0_1 l0_2 a0_3 a0_4)) else (impl_IsExploration.j0 k true l0_0 l0_1 l0_2 a0_3 a0_4))) else (impl_IsExploration.j0 k true l0_0 l0_1 l0_2 a0_3 a0_4)) else (impl_IsExploration.j0 k true l0_0 l0_1 l0_2 a0_3 a0_4)) = some r := by rw [if_pos rfl] at H; exact H
   clear H
   have H := H1
   clear H1
   by_cases c6 : (l0_1.length : Int) = 8
   ·
    rw [if_pos c6] at H
    have c6b0 : ((l0_1.length : Int) == 8) = true := beq_iff_eq.mpr c6
    have c6b1 : ((l0_1.length : Int) != 8) = false := bne_eq_false_iff_eq.mpr c6
    clear c6
    (first | rw [c6b0] | (simp only [i64_w, i32_w]; rw [c6b0]) | skip)
    by_cases c7 : (l0_2.length : Int) = 8
    ·
     rw [if_pos c7] at H
     have c7b0 : ((l0_2.length : Int) == 8) = true := beq_iff_eq.mpr c7
     have c7b1 : ((l0_2.length : Int) != 8) = false := bne_eq_false_iff_eq.mpr c7
     clear c7
     replace H := Option.bind_eq_some_iff.mp H
     obtain ⟨t221, A80, H⟩ := H
     replace H : (if t221 = true then ((impl_within.f a0_4 0 100000).bind fun t222 => (impl_IsExploration.j0 k (!t222) l0_0 l0_1 l0_2 a0_3 a0_4)) else (impl_IsExploration.j0 k true l0_0 l0_1 l0_2 a0_3 a0_4)) = some r := H
     have A8 := Aside0.mk A80
     clear A80
     by_cases c9 : t221 = true
     ·
      subst c9
      have H1 : ((impl_within.f a0_4 0 100000).bind fun t222 => (impl_IsExploration.j0 k (!t222) l0_0 l0_1 l0_2 a0_3 a0_4)) = some r := by rw [if_pos rfl] at H; exact H
      clear H
      have H := H1
      clear H1
      replace H := Option.bind_eq_some_iff.mp H
      obtain ⟨t222, A100, H⟩ := H
      replace H : (impl_IsExploration.j0 k (!t222) l0_0 l0_1 l0_2 a0_3 a0_4) = some r := H
      have A10 := Aside0.mk A100
      clear A100
      have H' := Aside0.mk H
      clear H
      obtain ⟨hcz11_0, hcz11_1, hcz11_2, hcz11_3, hcz11_4⟩ := cz5_ BK219.out
      obtain ⟨hfz11_0, hfz11_1, hfz11_2, hfz11_3, hfz11_4⟩ := fz5_ BK219.out
      go_wp2_with (first | ((with_reducible refine gate_callee (f := 69) rfl ?_); refine ga_ (some 7) Try.func69 #[.slice A0_0 l0_0.length c0_0] ?_; (with_reducible refine (impl_areLegs.calls k _ _ l0_0 true _ ?side1 ?side2 A4.out).mono ?_); (case side1 => exact kc_ (Kd.C_below HR0_0.out HB.out)); (case side2 => exact HC0_0.out); rintro e w12 ⟨rfl, hb⟩; refine ⟨_, rfl, ?_⟩; replace BK219 := Aside0.mk (bb_ (bk_ BK219.out) hb); replace HB := Aside0.mk (below_step (lb1_ HB.out GE219.out) hb); (try clear hb); (try clear hb2); (try clear hk); (try clear hi); obtain ⟨hcz13_0, hcz13_1, hcz13_2, hcz13_3, hcz13_4⟩ := cz5_ BK219.out; obtain ⟨hfz13_0, hfz13_1, hfz13_2, hfz13_3, hfz13_4⟩ := fz5_ BK219.out) | (go_at_call 70; (with_reducible refine (impl_isStation.calls a0_3 true _ A8.out).mono ?_); rintro e w' ⟨rfl, ⟨nd, rfl⟩⟩) | (go_at_call 71; (with_reducible refine (impl_within.calls a0_4 0 100000 t222 _ A10.out).mono ?_); rintro e w' ⟨rfl, ⟨nd, rfl⟩⟩))
      go_meet
      case rel => exact ⟨_, (!t222), (by first | rfl | (simp; done) | (simp [*]; done)), H', ⟨by first | omega | exact Nat.le_refl _⟩, ⟨bk_ BK219.out⟩, ⟨lb1_ HB.out GE219.out⟩⟩
     ·
      replace c9 := Bool.eq_false_iff.mpr c9
      subst c9
      have H1 : (impl_IsExploration.j0 k true l0_0 l0_1 l0_2 a0_3 a0_4) = some r := by rw [if_neg (show ¬ (false = true) by decide)] at H; exact H
      clear H
      have H := H1
      clear H1
      have H' := Aside0.mk H
      clear H
      obtain ⟨hcz14_0, hcz14_1, hcz14_2, hcz14_3, hcz14_4⟩ := cz5_ BK219.out
      obtain ⟨hfz14_0, hfz14_1, hfz14_2, hfz14_3, hfz14_4⟩ := fz5_ BK219.out
      go_wp2_with (first | ((with_reducible refine gate_callee (f := 69) rfl ?_); refine ga_ (some 7) Try.func69 #[.slice A0_0 l0_0.length c0_0] ?_; (with_reducible refine (impl_areLegs.calls k _ _ l0_0 true _ ?side1 ?side2 A4.out).mono ?_); (case side1 => exact kc_ (Kd.C_below HR0_0.out HB.out)); (case side2 => exact HC0_0.out); rintro e w15 ⟨rfl, hb⟩; refine ⟨_, rfl, ?_⟩; replace BK219 := Aside0.mk (bb_ (bk_ BK219.out) hb); replace HB := Aside0.mk (below_step (lb1_ HB.out GE219.out) hb); (try clear hb); (try clear hb2); (try clear hk); (try clear hi); obtain ⟨hcz16_0, hcz16_1, hcz16_2, hcz16_3, hcz16_4⟩ := cz5_ BK219.out; obtain ⟨hfz16_0, hfz16_1, hfz16_2, hfz16_3, hfz16_4⟩ := fz5_ BK219.out) | (go_at_call 70; (with_reducible refine (impl_isStation.calls a0_3 false _ A8.out).mono ?_); rintro e w' ⟨rfl, ⟨nd, rfl⟩⟩))
      go_meet
      case rel => exact ⟨_, (true), (by first | rfl | (simp; done) | (simp [*]; done)), H', ⟨by first | omega | exact Nat.le_refl _⟩, ⟨bk_ BK219.out⟩, ⟨lb1_ HB.out GE219.out⟩⟩
    ·
     rw [if_neg c7] at H
     have c7b0 : ((l0_2.length : Int) == 8) = false := beq_eq_false_iff_ne.mpr c7
     have c7b1 : ((l0_2.length : Int) != 8) = true := bne_iff_ne.mpr c7
     have H' := Aside0.mk H
     clear H
     obtain ⟨hcz17_0, hcz17_1, hcz17_2, hcz17_3, hcz17_4⟩ := cz5_ BK219.out
     obtain ⟨hfz17_0, hfz17_1, hfz17_2, hfz17_3, hfz17_4⟩ := fz5_ BK219.out
     go_wp2_with (first | ((with_reducible refine gate_callee (f := 69) rfl ?_); refine ga_ (some 7) Try.func69 #[.slice A0_0 l0_0.length c0_0] ?_; (with_reducible refine (impl_areLegs.calls k _ _ l0_0 true _ ?side1 ?side2 A4.out).mono ?_); (case side1 => exact kc_ (Kd.C_below HR0_0.out HB.out)); (case side2 => exact HC0_0.out); rintro e w18 ⟨rfl, hb⟩; refine ⟨_, rfl, ?_⟩; replace BK219 := Aside0.mk (bb_ (bk_ BK219.out) hb); replace HB := Aside0.mk (below_step (lb1_ HB.out GE219.out) hb); (try clear hb); (try clear hb2); (try clear hk); (try clear hi); obtain ⟨hcz19_0, hcz19_1, hcz19_2, hcz19_3, hcz19_4⟩ := cz5_ BK219.out; obtain ⟨hfz19_0, hfz19_1, hfz19_2, hfz19_3, hfz19_4⟩ := fz5_ BK219.out))
     go_meet
     case rel => exact ⟨_, (true), (by first | rfl | (simp; done) | (simp [*]; done)), H', ⟨by first | omega | exact Nat.le_refl _⟩, ⟨bk_ BK219.out⟩, ⟨lb1_ HB.out GE219.out⟩⟩
   ·
    rw [if_neg c6] at H
    have c6b0 : ((l0_1.length : Int) == 8) = false := beq_eq_false_iff_ne.mpr c6
    have c6b1 : ((l0_1.length : Int) != 8) = true := bne_iff_ne.mpr c6
    (first | rw [c6b0] | (simp only [i64_w, i32_w]; rw [c6b0]) | skip)
    have H' := Aside0.mk H
    clear H
    obtain ⟨hcz20_0, hcz20_1, hcz20_2, hcz20_3, hcz20_4⟩ := cz5_ BK219.out
    obtain ⟨hfz20_0, hfz20_1, hfz20_2, hfz20_3, hfz20_4⟩ := fz5_ BK219.out
    go_wp2_with (first | ((with_reducible refine gate_callee (f := 69) rfl ?_); refine ga_ (some 7) Try.func69 #[.slice A0_0 l0_0.length c0_0] ?_; (with_reducible refine (impl_areLegs.calls k _ _ l0_0 true _ ?side1 ?side2 A4.out).mono ?_); (case side1 => exact kc_ (Kd.C_below HR0_0.out HB.out)); (case side2 => exact HC0_0.out); rintro e w21 ⟨rfl, hb⟩; refine ⟨_, rfl, ?_⟩; replace BK219 := Aside0.mk (bb_ (bk_ BK219.out) hb); replace HB := Aside0.mk (below_step (lb1_ HB.out GE219.out) hb); (try clear hb); (try clear hb2); (try clear hk); (try clear hi); obtain ⟨hcz22_0, hcz22_1, hcz22_2, hcz22_3, hcz22_4⟩ := cz5_ BK219.out; obtain ⟨hfz22_0, hfz22_1, hfz22_2, hfz22_3, hfz22_4⟩ := fz5_ BK219.out))
    go_meet
    case rel => exact ⟨_, (true), (by first | rfl | (simp; done) | (simp [*]; done)), H', ⟨by first | omega | exact Nat.le_refl _⟩, ⟨bk_ BK219.out⟩, ⟨lb1_ HB.out GE219.out⟩⟩
  ·
   replace c5 := Bool.eq_false_iff.mpr c5
   subst c5
   have H1 : (impl_IsExploration.j0 k true l0_0 l0_1 l0_2 a0_3 a0_4) = some r := by rw [if_neg (show ¬ (false = true) by decide)] at H; exact H
   clear H
   have H := H1
   clear H1
   have H' := Aside0.mk H
   clear H
   obtain ⟨hcz23_0, hcz23_1, hcz23_2, hcz23_3, hcz23_4⟩ := cz5_ BK219.out
   obtain ⟨hfz23_0, hfz23_1, hfz23_2, hfz23_3, hfz23_4⟩ := fz5_ BK219.out
   go_wp2_with (first | ((with_reducible refine gate_callee (f := 69) rfl ?_); refine ga_ (some 7) Try.func69 #[.slice A0_0 l0_0.length c0_0] ?_; (with_reducible refine (impl_areLegs.calls k _ _ l0_0 false _ ?side1 ?side2 A4.out).mono ?_); (case side1 => exact kc_ (Kd.C_below HR0_0.out HB.out)); (case side2 => exact HC0_0.out); rintro e w24 ⟨rfl, hb⟩; refine ⟨_, rfl, ?_⟩; replace BK219 := Aside0.mk (bb_ (bk_ BK219.out) hb); replace HB := Aside0.mk (below_step (lb1_ HB.out GE219.out) hb); (try clear hb); (try clear hb2); (try clear hk); (try clear hi)))
   go_meet
   case rel => exact ⟨_, (true), (by first | rfl | (simp; done) | (simp [*]; done)), H', ⟨by first | omega | exact Nat.le_refl _⟩, ⟨bk_ BK219.out⟩, ⟨lb1_ HB.out GE219.out⟩⟩
 case rest =>
  clear HC2
  try clear c1
  try clear p2
  try clear c5
  try clear c6
  try clear c6b0
  try clear c6b1
  try clear c7
  try clear c7b0
  try clear c7b1
  try clear c9
  try clear c18
  try clear hcz11_0 hcz11_1 hcz11_2 hcz11_3 hcz11_4
  try clear hcz13_0 hcz13_1 hcz13_2 hcz13_3 hcz13_4
  try clear hcz14_0 hcz14_1 hcz14_2 hcz14_3 hcz14_4
  try clear hcz16_0 hcz16_1 hcz16_2 hcz16_3 hcz16_4
  try clear hcz17_0 hcz17_1 hcz17_2 hcz17_3 hcz17_4
  try clear hcz19_0 hcz19_1 hcz19_2 hcz19_3 hcz19_4
  try clear hcz20_0 hcz20_1 hcz20_2 hcz20_3 hcz20_4
  try clear hcz22_0 hcz22_1 hcz22_2 hcz22_3 hcz22_4
  try clear hcz23_0 hcz23_1 hcz23_2 hcz23_3 hcz23_4
  try clear hfz11_0 hfz11_1 hfz11_2 hfz11_3 hfz11_4
  try clear hfz13_0 hfz13_1 hfz13_2 hfz13_3 hfz13_4
  try clear hfz14_0 hfz14_1 hfz14_2 hfz14_3 hfz14_4
  try clear hfz16_0 hfz16_1 hfz16_2 hfz16_3 hfz16_4
  try clear hfz17_0 hfz17_1 hfz17_2 hfz17_3 hfz17_4
  try clear hfz19_0 hfz19_1 hfz19_2 hfz19_3 hfz19_4
  try clear hfz20_0 hfz20_1 hfz20_2 hfz20_3 hfz20_4
  try clear hfz22_0 hfz22_1 hfz22_2 hfz22_3 hfz22_4
  try clear hfz23_0 hfz23_1 hfz23_2 hfz23_3 hfz23_4
  obtain ⟨kq, x32_1, rfl, HA, HJ1, BK219, HB⟩ := hcut
  cases kq with
  | zero => exact absurd HA.out (by simp [impl_IsExploration.j0])
  | succ kj1 =>
   have H := HA.out
   clear HA
   simp only [impl_IsExploration.j0] at H
   by_cases c25 : x32_1 = true
   ·
    subst c25
    have H1 : (some false) = some r := by rw [if_pos rfl] at H; exact H
    clear H
    have H := H1
    clear H1
    obtain rfl := Option.some.inj H
    go_wp2
    go_ret
    exact ⟨rr_, lb1_ HB.out GE219.out⟩
   ·
    replace c25 := Bool.eq_false_iff.mpr c25
    subst c25
    have H1 : (if 0 < (l0_1.length : Int) then (if rdOf false l0_1 0 = true then (if 0 ≤ a0_3 then (if a0_3 < (l0_1.length : Int) then (if rdOf false l0_1 a0_3 = true then ((impl_Exploration_wayOut.f kj1 l0_0 l0_1 l0_2 a0_3 a0_4).bind fun bt225 => (if bt225.2 = true then (some (decide (bt225.1 ≤ a0_4))) else (some false))) else (some false)) else (none)) else (none)) else (some false)) else (none)) = some r := by rw [if_neg (show ¬ (false = true) by decide)] at H; exact H
    clear H
    have H := H1
    clear H1
    by_cases c26 : 0 < (l0_1.length : Int)
    ·
     rw [if_pos c26] at H
     have c26b0 : decide (0 < (l0_1.length : Int)) = true := decide_eq_true c26
     have c26b1 : decide (0 < l0_1.length) = true := decide_eq_true (by omega)
     clear c26
     obtain ⟨bq27, hbq27⟩ : ∃ b_ : Bool, b_ = (rdOf false l0_1 0) := ⟨_, rfl⟩
     replace H : (if bq27 = true then (if 0 ≤ a0_3 then (if a0_3 < (l0_1.length : Int) then (if rdOf false l0_1 a0_3 = true then ((impl_Exploration_wayOut.f kj1 l0_0 l0_1 l0_2 a0_3 a0_4).bind fun bt225 => (if bt225.2 = true then (some (decide (bt225.1 ≤ a0_4))) else (some false))) else (some false)) else (none)) else (none)) else (some false)) = some r := by rw [← hbq27] at H; exact H
     have Nbq27 := Aside0.mk hbq27
     clear hbq27
     by_cases c28 : bq27 = true
     ·
      subst c28
      have H1 : (if 0 ≤ a0_3 then (if a0_3 < (l0_1.length : Int) then (if rdOf false l0_1 a0_3 = true then ((impl_Exploration_wayOut.f kj1 l0_0 l0_1 l0_2 a0_3 a0_4).bind fun bt225 => (if bt225.2 = true then (some (decide (bt225.1 ≤ a0_4))) else (some false))) else (some false)) else (none)) else (none)) = some r := by rw [if_pos rfl] at H; exact H
      clear H
      have H := H1
      clear H1
      by_cases c29 : 0 ≤ a0_3
      ·
       rw [if_pos c29] at H
       have c29b0 : decide (0 ≤ a0_3) = true := decide_eq_true c29
       clear c29
       by_cases c30 : a0_3 < (l0_1.length : Int)
       ·
        rw [if_pos c30] at H
        have c30b0 : decide (a0_3 < (l0_1.length : Int)) = true := decide_eq_true c30; clear c30
        obtain ⟨bq31, hbq31⟩ : ∃ b_ : Bool, b_ = (rdOf false l0_1 a0_3) := ⟨_, rfl⟩
        replace H : (if bq31 = true then ((impl_Exploration_wayOut.f kj1 l0_0 l0_1 l0_2 a0_3 a0_4).bind fun bt225 => (if bt225.2 = true then (some (decide (bt225.1 ≤ a0_4))) else (some false))) else (some false)) = some r := by rw [← hbq31] at H; exact H
        have Nbq31 := Aside0.mk hbq31; clear hbq31
        by_cases c32 : bq31 = true
        ·
         subst c32
         have H1 : ((impl_Exploration_wayOut.f kj1 l0_0 l0_1 l0_2 a0_3 a0_4).bind fun bt225 => (if bt225.2 = true then (some (decide (bt225.1 ≤ a0_4))) else (some false))) = some r := by rw [if_pos rfl] at H; exact H
         clear H; have H := H1; clear H1; replace H := Option.bind_eq_some_iff.mp H; obtain ⟨⟨t225, t226⟩, A330, H⟩ := H; replace H : (if t226 = true then (some (decide (t225 ≤ a0_4))) else (some false)) = some r := H; have A33 := Aside0.mk A330; clear A330
         by_cases c34 : t226 = true
         ·
          subst c34
          have H1 : (some (decide (t225 ≤ a0_4))) = some r := by rw [if_pos rfl] at H; exact H
          clear H; have H := H1; clear H1; obtain rfl := Option.some.inj H; obtain ⟨hcz35_0, hcz35_1, hcz35_2, hcz35_3, hcz35_4⟩ := cz5_ BK219.out; obtain ⟨hfz35_0, hfz35_1, hfz35_2, hfz35_3, hfz35_4⟩ := fz5_ BK219.out
          have p223 : 0 ≤ (0 : Int) := (by omega)
          have q223 : 0 < (l0_1.length : Int) := dt_; obtain ⟨ad223, e223, hx223_0⟩ := Kd.at_bool HR0_1.out 0 p223 q223; (try rw [← Nbq27.out] at hx223_0); (try rw [← Nbq31.out] at hx223_0)
          cases e223
          have qi223 : (0 < l0_1.length) = True := eq_true (by omega); (try rw [show ((0 : Int)).toNat = 0 from rfl] at hx223_0); (try rw [Addr.add_zero'] at hx223_0); replace hx223_0 := bc_ HB.out hx223_0; replace p223 := eq_true p223; replace q223 := eq_true q223; have p224 : 0 ≤ (a0_3 : Int) := dt_; have q224 : a0_3 < (l0_1.length : Int) := dt_; obtain ⟨ad224, e224, hx224_0⟩ := Kd.at_bool HR0_1.out a0_3 p224 q224; (try rw [← Nbq27.out] at hx224_0); (try rw [← Nbq31.out] at hx224_0)
          obtain rfl : ad223 = ad224 := (by injection e224)
          replace hx224_0 := bc_ HB.out hx224_0; replace p224 := eq_true p224; replace q224 := eq_true q224
          go_wp2_with (first | ((with_reducible refine gate_callee (f := 72) rfl ?_); refine ga_ (some 49) Try.func72 #[.agg #[.slice A0_0 l0_0.length c0_0, .slice (some ad223) l0_1.length c0_1, .slice A0_2 l0_2.length c0_2, .int .i64 a0_3, .int .i64 a0_4]] ?_; (with_reducible refine (impl_Exploration_wayOut.calls kj1 _ _ l0_0 _ _ l0_1 _ _ l0_2 a0_3 a0_4 t225 true _ ?side1 ?side2 ?side3 ?side4 ?side5 ?side6 A33.out).mono ?_); (case side1 => exact kc_ (Kd.C_below HR0_0.out HB.out)); (case side2 => exact HC0_0.out); (case side3 => exact kc_ (Kd.C_below HR0_1.out HB.out)); (case side4 => exact HC0_1.out); (case side5 => exact kc_ (Kd.C_below HR0_2.out HB.out)); (case side6 => exact HC0_2.out); rintro e w36 ⟨rfl, hb⟩; refine ⟨_, rfl, ?_⟩; replace BK219 := Aside0.mk (bb_ (bk_ BK219.out) hb); replace HB := Aside0.mk (below_step (lb1_ HB.out GE219.out) hb); (try clear hb); (try clear hb2); (try clear hk); (try clear hi); obtain ⟨hcz37_0, hcz37_1, hcz37_2, hcz37_3, hcz37_4⟩ := cz5_ BK219.out; obtain ⟨hfz37_0, hfz37_1, hfz37_2, hfz37_3, hfz37_4⟩ := fz5_ BK219.out))
          go_ret
          exact ⟨rr_, lb1_ HB.out GE219.out⟩
         ·
          replace c34 := Bool.eq_false_iff.mpr c34; subst c34
          have H1 : (some false) = some r := by rw [if_neg (show ¬ (false = true) by decide)] at H; exact H
          clear H; have H := H1; clear H1; obtain rfl := Option.some.inj H; obtain ⟨hcz38_0, hcz38_1, hcz38_2, hcz38_3, hcz38_4⟩ := cz5_ BK219.out; obtain ⟨hfz38_0, hfz38_1, hfz38_2, hfz38_3, hfz38_4⟩ := fz5_ BK219.out
          have p223 : 0 ≤ (0 : Int) := (by omega)
          have q223 : 0 < (l0_1.length : Int) := dt_; obtain ⟨ad223, e223, hx223_0⟩ := Kd.at_bool HR0_1.out 0 p223 q223; (try rw [← Nbq27.out] at hx223_0); (try rw [← Nbq31.out] at hx223_0)
          cases e223
          have qi223 : (0 < l0_1.length) = True := eq_true (by omega); (try rw [show ((0 : Int)).toNat = 0 from rfl] at hx223_0); (try rw [Addr.add_zero'] at hx223_0); replace hx223_0 := bc_ HB.out hx223_0; replace p223 := eq_true p223; replace q223 := eq_true q223; have p224 : 0 ≤ (a0_3 : Int) := dt_; have q224 : a0_3 < (l0_1.length : Int) := dt_; obtain ⟨ad224, e224, hx224_0⟩ := Kd.at_bool HR0_1.out a0_3 p224 q224; (try rw [← Nbq27.out] at hx224_0); (try rw [← Nbq31.out] at hx224_0)
          obtain rfl : ad223 = ad224 := (by injection e224)
          replace hx224_0 := bc_ HB.out hx224_0; replace p224 := eq_true p224; replace q224 := eq_true q224
          go_wp2_with (first | ((with_reducible refine gate_callee (f := 72) rfl ?_); refine ga_ (some 49) Try.func72 #[.agg #[.slice A0_0 l0_0.length c0_0, .slice (some ad223) l0_1.length c0_1, .slice A0_2 l0_2.length c0_2, .int .i64 a0_3, .int .i64 a0_4]] ?_; (with_reducible refine (impl_Exploration_wayOut.calls kj1 _ _ l0_0 _ _ l0_1 _ _ l0_2 a0_3 a0_4 t225 false _ ?side1 ?side2 ?side3 ?side4 ?side5 ?side6 A33.out).mono ?_); (case side1 => exact kc_ (Kd.C_below HR0_0.out HB.out)); (case side2 => exact HC0_0.out); (case side3 => exact kc_ (Kd.C_below HR0_1.out HB.out)); (case side4 => exact HC0_1.out); (case side5 => exact kc_ (Kd.C_below HR0_2.out HB.out)); (case side6 => exact HC0_2.out); rintro e w39 ⟨rfl, hb⟩; refine ⟨_, rfl, ?_⟩; replace BK219 := Aside0.mk (bb_ (bk_ BK219.out) hb); replace HB := Aside0.mk (below_step (lb1_ HB.out GE219.out) hb); (try clear hb); (try clear hb2); (try clear hk); (try clear hi)))
          go_ret
          exact ⟨rr_, lb1_ HB.out GE219.out⟩
        ·
         replace c32 := Bool.eq_false_iff.mpr c32; subst c32
         have H1 : (some false) = some r := by rw [if_neg (show ¬ (false = true) by decide)] at H; exact H
         clear H; have H := H1; clear H1; obtain rfl := Option.some.inj H; obtain ⟨hcz40_0, hcz40_1, hcz40_2, hcz40_3, hcz40_4⟩ := cz5_ BK219.out; obtain ⟨hfz40_0, hfz40_1, hfz40_2, hfz40_3, hfz40_4⟩ := fz5_ BK219.out
         have p223 : 0 ≤ (0 : Int) := (by omega)
         have q223 : 0 < (l0_1.length : Int) := dt_; obtain ⟨ad223, e223, hx223_0⟩ := Kd.at_bool HR0_1.out 0 p223 q223; (try rw [← Nbq27.out] at hx223_0); (try rw [← Nbq31.out] at hx223_0)
         cases e223
         have qi223 : (0 < l0_1.length) = True := eq_true (by omega); (try rw [show ((0 : Int)).toNat = 0 from rfl] at hx223_0); (try rw [Addr.add_zero'] at hx223_0); replace hx223_0 := bc_ HB.out hx223_0; replace p223 := eq_true p223; replace q223 := eq_true q223; have p224 : 0 ≤ (a0_3 : Int) := dt_; have q224 : a0_3 < (l0_1.length : Int) := dt_; obtain ⟨ad224, e224, hx224_0⟩ := Kd.at_bool HR0_1.out a0_3 p224 q224; (try rw [← Nbq27.out] at hx224_0); (try rw [← Nbq31.out] at hx224_0)
         obtain rfl : ad223 = ad224 := (by injection e224)
         replace hx224_0 := bc_ HB.out hx224_0; replace p224 := eq_true p224; replace q224 := eq_true q224
         go_wp2
         go_ret
         exact ⟨rr_, lb1_ HB.out GE219.out⟩
       ·
        rw [if_neg c30] at H
        exact absurd H (by simp)
      ·
       rw [if_neg c29] at H
       exact absurd H (by simp)
     ·
      replace c28 := Bool.eq_false_iff.mpr c28
      subst c28
      have H1 : (some false) = some r := by rw [if_neg (show ¬ (false = true) by decide)] at H; exact H
      clear H
      have H := H1
      clear H1
      obtain rfl := Option.some.inj H
      obtain ⟨hcz41_0, hcz41_1, hcz41_2, hcz41_3, hcz41_4⟩ := cz5_ BK219.out
      obtain ⟨hfz41_0, hfz41_1, hfz41_2, hfz41_3, hfz41_4⟩ := fz5_ BK219.out
      have p223 : 0 ≤ (0 : Int) := (by omega)
      have q223 : 0 < (l0_1.length : Int) := dt_
      obtain ⟨ad223, e223, hx223_0⟩ := Kd.at_bool HR0_1.out 0 p223 q223
      (try rw [← Nbq27.out] at hx223_0)
      cases e223
      have qi223 : (0 < l0_1.length) = True := eq_true (by omega)
      (try rw [show ((0 : Int)).toNat = 0 from rfl] at hx223_0)
      (try rw [Addr.add_zero'] at hx223_0)
      replace hx223_0 := bc_ HB.out hx223_0
      replace p223 := eq_true p223
      replace q223 := eq_true q223
      go_wp2
      go_ret
      exact ⟨rr_, lb1_ HB.out GE219.out⟩
    ·
     rw [if_neg c26] at H
     exact absurd H (by simp)
def impl_Leg_87.f (l0 : List S37) : Option (List S37) := if l0.length ≤ 3518437208883 then some l0 else none
set_option maxHeartbeats 4000000 in
set_option maxRecDepth 100000 in
theorem impl_Leg_87.calls (A0 : Option Addr) (c0 : Nat) (l0 : List S37) (r : List S37) (w : World) (hr0 : Kd.C k37 w A0 l0.length l0) (hc0 : l0.length ≤ c0) (h : impl_Leg_87.f l0 = some r) :
  Calls Try.prog 87 #[.slice A0 l0.length c0] w fun e w' => ∃ v0_ : Value, e = .returned (v0_) ∧ Kd.R k37 37 w' w.heap.size (fun _ => True) v0_ r ∧ Below w.heap.size w w' := by
 unfold impl_Leg_87.f at h
 by_cases hl : l0.length ≤ 3518437208883
 ·
  rw [if_pos hl] at h
  obtain rfl := Option.some.inj h
  have HR := Aside0.mk hr0
  clear hr0
  cases A0 with
  | none =>
   have hn : l0 = [] := by
    rcases Nat.eq_zero_or_pos l0.length with h0 | h0
    ·
     exact List.length_eq_zero_iff.1 h0
    ·
     obtain ⟨ad, e, _⟩ := HR.out.2.2 h0
     cases e
   subst hn
   have hq : ∀ w, Sem.run Try.prog (binOp .eql 28 (.slice none 0 c0) (.slice none 0 0)) w = .ok (.bool true) w := fun w => by rfl
   go_enter Try.func87, Try.ntmps87
   go_wp2
   go_ret
   exact ⟨_, rfl, Kd.R_nil _ _ _ _ _, Below.refl _ _⟩
  | some ad =>
   have hq : ∀ w, Sem.run Try.prog (binOp .eql 28 (.slice (some ad) l0.length c0) (.slice none 0 0)) w = .ok (.bool false) w := fun w => by rfl
   go_enter Try.func87, Try.ntmps87
   go_wp2_with (first | ((with_reducible refine gate_dst (N := 5) rfl ?_); refine Kd.R_lit k37 _ 37 ?hg (N := 5) ?hd (xs := []) (inner := []) (ok := fun _ => True) (okp := fun _ => True) ?hr ?hp (fun _ hk => hk) trivial (Below.refl _ _) (Nat.le_refl _) (by simp) ?_; (case hd => rfl); (case hg => rfl); (case hr => first | (go_simp; done) | (go_simp; rfl)); (case hp => exact (Reps.none _ _)); intro v5 w4 ho5 hb5 hg_ hnew_; clear hg_ hnew_; have HO5 := Aside0.mk ho5; have HB5 := Aside0.mk hb5; clear ho5 hb5) | ((with_reducible refine gate_builtin (b := .append) (xs := #[.tmp 5, .tmp 6]) rfl ?_); at_builtin; refine Kd.R_append_rows k37 (w0 := w) w.heap.size rfl (.tmp 5) (.tmp 6) 28 37 (.agg #[(.int .i64 0), (.int .i64 0), (.int .i64 0), (.int .i64 0), (.int .i64 0)]) 40 rfl Try.underlying28 info37 rfl (by decide) (by omega) v5 [] l0 (some ad) _ _ (fun _ => True) (fun _ => False) rfl rfl HO5.out (Kd.C_below HR.out HB5.out) (fun _ _ h => h) (fun _ h => h.elim) (fun _ _ => trivial) HB5.out (below_size HB5.out) (by simp; omega) ?_; intro v7 w7 ho7 hb7 hg7 hat7; have HO7 := Aside0.mk ho7; have HB7 := Aside0.mk hb7; clear ho7 hb7 hg7 hat7))
   go_ret
   exact ⟨_, rfl, HO7.out, HB7.out⟩
 ·
  rw [if_neg hl] at h
  cases h
def slices_Clone_bool_bool.f (l0 : List Bool) : Option (List Bool) := if l0.length ≤ 140737488355328 then some l0 else none
set_option maxHeartbeats 4000000 in
set_option maxRecDepth 100000 in
theorem slices_Clone_bool_bool.calls (A0 : Option Addr) (c0 : Nat) (l0 : List Bool) (r : List Bool) (w : World) (hr0 : Kd.C Kd.bool w A0 l0.length l0) (hc0 : l0.length ≤ c0) (h : slices_Clone_bool_bool.f l0 = some r) :
  Calls Try.prog 109 #[.slice A0 l0.length c0] w fun e w' => ∃ v0_ : Value, e = .returned (v0_) ∧ Kd.R Kd.bool 4 w' w.heap.size (fun _ => True) v0_ r ∧ Below w.heap.size w w' := by
 unfold slices_Clone_bool_bool.f at h
 by_cases hl : l0.length ≤ 140737488355328
 ·
  rw [if_pos hl] at h
  obtain rfl := Option.some.inj h
  have HR := Aside0.mk hr0
  clear hr0
  cases A0 with
  | none =>
   have hn : l0 = [] := by
    rcases Nat.eq_zero_or_pos l0.length with h0 | h0
    ·
     exact List.length_eq_zero_iff.1 h0
    ·
     obtain ⟨ad, e, _⟩ := HR.out.2.2 h0
     cases e
   subst hn
   have hq : ∀ w, Sem.run Try.prog (binOp .eql 23 (.slice none 0 c0) (.slice none 0 0)) w = .ok (.bool true) w := fun w => by rfl
   go_enter Try.func109, Try.ntmps109
   go_wp2
   go_ret
   exact ⟨_, rfl, Kd.R_nil _ _ _ _ _, Below.refl _ _⟩
  | some ad =>
   have hq : ∀ w, Sem.run Try.prog (binOp .eql 23 (.slice (some ad) l0.length c0) (.slice none 0 0)) w = .ok (.bool false) w := fun w => by rfl
   go_enter Try.func109, Try.ntmps109
   go_wp2_with (first | ((with_reducible refine gate_dst (N := 5) rfl ?_); refine Kd.R_lit Kd.bool _ 4 ?hg (N := 5) ?hd (xs := []) (inner := []) (ok := fun _ => True) (okp := fun _ => True) ?hr ?hp (fun _ hk => hk) trivial (Below.refl _ _) (Nat.le_refl _) (by simp) ?_; (case hd => rfl); (case hg => rfl); (case hr => first | (go_simp; done) | (go_simp; rfl)); (case hp => exact (Reps.none _ _)); intro v5 w4 ho5 hb5 hg_ hnew_; clear hg_ hnew_; have HO5 := Aside0.mk ho5; have HB5 := Aside0.mk hb5; clear ho5 hb5) | ((with_reducible refine gate_builtin (b := .append) (xs := #[.tmp 5, .tmp 6]) rfl ?_); at_builtin; refine Kd.R_append_rows Kd.bool (w0 := w) w.heap.size rfl (.tmp 5) (.tmp 6) 23 4 (.bool false) 1 rfl Try.underlying23 info4 rfl (by decide) (by omega) v5 [] l0 (some ad) _ _ (fun _ => True) (fun _ => False) rfl rfl HO5.out (Kd.C_below HR.out HB5.out) (fun _ _ h => h) (fun _ h => h.elim) (fun _ _ => trivial) HB5.out (below_size HB5.out) (by simp; omega) ?_; intro v7 w7 ho7 hb7 hg7 hat7; have HO7 := Aside0.mk ho7; have HB7 := Aside0.mk hb7; clear ho7 hb7 hg7 hat7))
   go_ret
   exact ⟨_, rfl, HO7.out, HB7.out⟩
 ·
  rw [if_neg hl] at h
  cases h
end Go.Proofs.Ythmjimboajmhmaa.Pr

