/-
What is proved: parts of the law FnCaveRanks: what the functions that it reaches compute, and the plain law.
Conditions: those of each theorem.
-/
import Derived.Test.YteepnlofbfccgaaDoorCFnCaveRanks2
namespace Go.Proofs.YteepnlofbfccgaaDoor.Pr
open Go.RowKit Go.Proofs.YteepnlofbfccgaaDoorW.PrintWords Go.Proofs.YteepnlofbfccgaaDoorW.PrintLast Go.Proofs.YteepnlofbfccgaaDoorW.PrintMore
attribute [local go_sem] max2_int min2_int max_two min_two max_three min_three max_four min_four   -- for this text's walks alone
set_option linter.unusedVariables false
set_option linter.unusedSimpArgs false
def spec_l26Before.f (a0_0 : ByteArray) (a0_1 : Int) (a0_2 : Int) (a0_3 : Int) (a1_0 : ByteArray) (a1_1 : Int) (a1_2 : Int) (a1_3 : Int) (a2 : Bool) : Option (Bool) := if a2 = true then (if a0_2 = a1_2 then (if a0_1 > a1_1 then (some true) else (if a0_1 = a1_1 then (some (Op.bytesLess a0_0.toList a1_0.toList)) else (some false))) else (some (decide (a0_2 > a1_2)))) else (if a0_1 > a1_1 then (some true) else (if a0_1 = a1_1 then (some (Op.bytesLess a0_0.toList a1_0.toList)) else (some false)))
set_option maxHeartbeats 8000000 in
set_option maxRecDepth 100000 in
theorem spec_l26Before.calls (a0_0 : ByteArray) (a0_1 : Int) (a0_2 : Int) (a0_3 : Int) (a1_0 : ByteArray) (a1_1 : Int) (a1_2 : Int) (a1_3 : Int) (a2 : Bool) (r : Bool) (w : World) (h : spec_l26Before.f a0_0 a0_1 a0_2 a0_3 a1_0 a1_1 a1_2 a1_3 a2 = some r) :
  Calls Tryd.prog 95 #[.agg #[.string a0_0, .int .i64 a0_1, .int .i64 a0_2, .int .i64 a0_3], .agg #[.string a1_0, .int .i64 a1_1, .int .i64 a1_2, .int .i64 a1_3], .bool a2] w fun e w' => e = .returned (.bool r) ∧ Below w.heap.size w w' := by
 have hu26 := Tryd.underlying26
 have HB := Aside0.mk (Below.refl w.heap.size w)
 have H : (if a2 = true then (if a0_2 = a1_2 then (if a0_1 > a1_1 then (some true) else (if a0_1 = a1_1 then (some (Op.bytesLess a0_0.toList a1_0.toList)) else (some false))) else (some (decide (a0_2 > a1_2)))) else (if a0_1 > a1_1 then (some true) else (if a0_1 = a1_1 then (some (Op.bytesLess a0_0.toList a1_0.toList)) else (some false)))) = some r := h
 clear h
 by_cases c4 : a2 = true
 ·
  subst c4
  have H1 : (if a0_2 = a1_2 then (if a0_1 > a1_1 then (some true) else (if a0_1 = a1_1 then (some (Op.bytesLess a0_0.toList a1_0.toList)) else (some false))) else (some (decide (a0_2 > a1_2)))) = some r := by rw [if_pos rfl] at H; exact H
  clear H
  have H := H1
  clear H1
  by_cases c5 : a0_2 = a1_2
  ·
   rw [if_pos c5] at H
   have c5b0 : (a0_2 == a1_2) = true := beq_iff_eq.mpr c5
   have c5b1 : (a0_2 != a1_2) = false := bne_eq_false_iff_eq.mpr c5
   clear c5
   by_cases c6 : a0_1 > a1_1
   ·
    rw [if_pos c6] at H
    have c6b0 : decide (a1_1 < a0_1) = true := decide_eq_true c6
    clear c6
    obtain rfl := Option.some.inj H
    go_enter Tryd.func95, Tryd.ntmps95
    go_wp2_with (first | ((with_reducible refine gate_dst (N := 3) rfl ?_); refine box_event ?hg (N := 3) ?hd (cs := #[.string a0_0, .int .i64 a0_1, .int .i64 a0_2, .int .i64 a0_3]) (t := 26) ?hr ?_; (case hd => rfl); (case hg => rfl); (case hr => first | (go_simp; done) | (go_simp; rfl)); intro gb467 hg w7 hbox hb; have n0_ := Aside0.mk (below_step (lb0_ HB.out) hb); have n1_ := Aside0.mk (hbox); have n2_ := Aside0.mk ((by rw [hg]; exact (below_size (lb0_ HB.out)) : w.heap.size ≤ gb467)); have n3_ := Aside0.mk ((by rw [hg]; exact (below_size (lb0_ HB.out)) : w.heap.size ≤ gb467)); clear HB; have HB := n0_; have BK467 := n1_; have GW467 := n2_; have GE467 := n3_; clear n0_ n1_ n2_ n3_; clear hb hbox hg) | ((with_reducible refine gate_dst (N := 4) rfl ?_); refine box_event ?hg (N := 4) ?hd (cs := #[.string a1_0, .int .i64 a1_1, .int .i64 a1_2, .int .i64 a1_3]) (t := 26) ?hr ?_; (case hd => rfl); (case hg => rfl); (case hr => first | (go_simp; done) | (go_simp; rfl)); intro gb468 hg w8 hbox hb; have n0_ := Aside0.mk (blk_below (g := gb467) (o := .cells #[.string a0_0, .int .i64 a0_1, .int .i64 a0_2, .int .i64 a0_3] 26 (0, 0)) (bk_ BK467.out) hb); have n1_ := Aside0.mk (below_step (lb1_ HB.out GE467.out) hb); have n2_ := Aside0.mk (hbox); have n3_ := Aside0.mk ((by rw [hg]; exact (below_size (lb1_ HB.out GE467.out)) : w.heap.size ≤ gb468)); have n4_ := Aside0.mk ((by rw [hg]; exact (below_size (lb1_ HB.out GE467.out)) : w.heap.size ≤ gb468)); have n5_ := Aside0.mk ((by rw [hg]; exact Nat.ne_of_lt (blk_lt (g := gb467) (o := .cells #[.string a0_0, .int .i64 a0_1, .int .i64 a0_2, .int .i64 a0_3] 26 (0, 0)) (bk_ BK467.out)) : gb467 ≠ gb468)); have n6_ := Aside0.mk ((by rw [hg]; exact Nat.ne_of_gt (blk_lt (g := gb467) (o := .cells #[.string a0_0, .int .i64 a0_1, .int .i64 a0_2, .int .i64 a0_3] 26 (0, 0)) (bk_ BK467.out)) : gb468 ≠ gb467)); clear BK467; clear HB; have BK467 := n0_; have HB := n1_; have BK468 := n2_; have GW468 := n3_; have GE468 := n4_; have NB467_468 := n5_; have NB468_467 := n6_; clear n0_ n1_ n2_ n3_ n4_ n5_ n6_; clear hb hbox hg; have hnb9 := NB467_468.out; have hnc9 := NB468_467.out; have hcz10_0 : w8.cell? ⟨gb467, 0, none⟩ = some (.string a0_0) := (blk_cell BK467.out 0).trans rfl; have hcz10_1 : w8.cell? ⟨gb467, 1, none⟩ = some (.int .i64 a0_1) := (blk_cell BK467.out 1).trans rfl; have hcz10_2 : w8.cell? ⟨gb467, 2, none⟩ = some (.int .i64 a0_2) := (blk_cell BK467.out 2).trans rfl; have hcz10_3 : w8.cell? ⟨gb467, 3, none⟩ = some (.int .i64 a0_3) := (blk_cell BK467.out 3).trans rfl; have hfz10_0 := blk_frozen BK467.out 0; have hfz10_1 := blk_frozen BK467.out 1; have hfz10_2 := blk_frozen BK467.out 2; have hfz10_3 := blk_frozen BK467.out 3; have hcz11_0 : w8.cell? ⟨gb468, 0, none⟩ = some (.string a1_0) := (blk_cell BK468.out 0).trans rfl; have hcz11_1 : w8.cell? ⟨gb468, 1, none⟩ = some (.int .i64 a1_1) := (blk_cell BK468.out 1).trans rfl; have hcz11_2 : w8.cell? ⟨gb468, 2, none⟩ = some (.int .i64 a1_2) := (blk_cell BK468.out 2).trans rfl; have hcz11_3 : w8.cell? ⟨gb468, 3, none⟩ = some (.int .i64 a1_3) := (blk_cell BK468.out 3).trans rfl; have hfz11_0 := blk_frozen BK468.out 0; have hfz11_1 := blk_frozen BK468.out 1; have hfz11_2 := blk_frozen BK468.out 2; have hfz11_3 := blk_frozen BK468.out 3))
    go_ret
    exact ⟨rr_, lb2_ HB.out GE467.out GE468.out⟩
   ·
    rw [if_neg c6] at H
    have c6b0 : decide (a1_1 < a0_1) = false := decide_eq_false c6
    clear c6
    by_cases c12 : a0_1 = a1_1
    ·
     rw [if_pos c12] at H
     have c12b0 : (a0_1 == a1_1) = true := beq_iff_eq.mpr c12
     have c12b1 : (a0_1 != a1_1) = false := bne_eq_false_iff_eq.mpr c12
     clear c12
     obtain rfl := Option.some.inj H
     go_enter Tryd.func95, Tryd.ntmps95
     go_wp2_with (first | ((with_reducible refine gate_dst (N := 3) rfl ?_); refine box_event ?hg (N := 3) ?hd (cs := #[.string a0_0, .int .i64 a0_1, .int .i64 a0_2, .int .i64 a0_3]) (t := 26) ?hr ?_; (case hd => rfl); (case hg => rfl); (case hr => first | (go_simp; done) | (go_simp; rfl)); intro gb467 hg w13 hbox hb; have n0_ := Aside0.mk (below_step (lb0_ HB.out) hb); have n1_ := Aside0.mk (hbox); have n2_ := Aside0.mk ((by rw [hg]; exact (below_size (lb0_ HB.out)) : w.heap.size ≤ gb467)); have n3_ := Aside0.mk ((by rw [hg]; exact (below_size (lb0_ HB.out)) : w.heap.size ≤ gb467)); clear HB; have HB := n0_; have BK467 := n1_; have GW467 := n2_; have GE467 := n3_; clear n0_ n1_ n2_ n3_; clear hb hbox hg) | ((with_reducible refine gate_dst (N := 4) rfl ?_); refine box_event ?hg (N := 4) ?hd (cs := #[.string a1_0, .int .i64 a1_1, .int .i64 a1_2, .int .i64 a1_3]) (t := 26) ?hr ?_; (case hd => rfl); (case hg => rfl); (case hr => first | (go_simp; done) | (go_simp; rfl)); intro gb468 hg w14 hbox hb; have n0_ := Aside0.mk (blk_below (g := gb467) (o := .cells #[.string a0_0, .int .i64 a0_1, .int .i64 a0_2, .int .i64 a0_3] 26 (0, 0)) (bk_ BK467.out) hb); have n1_ := Aside0.mk (below_step (lb1_ HB.out GE467.out) hb); have n2_ := Aside0.mk (hbox); have n3_ := Aside0.mk ((by rw [hg]; exact (below_size (lb1_ HB.out GE467.out)) : w.heap.size ≤ gb468)); have n4_ := Aside0.mk ((by rw [hg]; exact (below_size (lb1_ HB.out GE467.out)) : w.heap.size ≤ gb468)); have n5_ := Aside0.mk ((by rw [hg]; exact Nat.ne_of_lt (blk_lt (g := gb467) (o := .cells #[.string a0_0, .int .i64 a0_1, .int .i64 a0_2, .int .i64 a0_3] 26 (0, 0)) (bk_ BK467.out)) : gb467 ≠ gb468)); have n6_ := Aside0.mk ((by rw [hg]; exact Nat.ne_of_gt (blk_lt (g := gb467) (o := .cells #[.string a0_0, .int .i64 a0_1, .int .i64 a0_2, .int .i64 a0_3] 26 (0, 0)) (bk_ BK467.out)) : gb468 ≠ gb467)); clear BK467; clear HB; have BK467 := n0_; have HB := n1_; have BK468 := n2_; have GW468 := n3_; have GE468 := n4_; have NB467_468 := n5_; have NB468_467 := n6_; clear n0_ n1_ n2_ n3_ n4_ n5_ n6_; clear hb hbox hg; have hnb15 := NB467_468.out; have hnc15 := NB468_467.out; have hcz16_0 : w14.cell? ⟨gb467, 0, none⟩ = some (.string a0_0) := (blk_cell BK467.out 0).trans rfl; have hcz16_1 : w14.cell? ⟨gb467, 1, none⟩ = some (.int .i64 a0_1) := (blk_cell BK467.out 1).trans rfl; have hcz16_2 : w14.cell? ⟨gb467, 2, none⟩ = some (.int .i64 a0_2) := (blk_cell BK467.out 2).trans rfl; have hcz16_3 : w14.cell? ⟨gb467, 3, none⟩ = some (.int .i64 a0_3) := (blk_cell BK467.out 3).trans rfl; have hfz16_0 := blk_frozen BK467.out 0; have hfz16_1 := blk_frozen BK467.out 1; have hfz16_2 := blk_frozen BK467.out 2; have hfz16_3 := blk_frozen BK467.out 3; have hcz17_0 : w14.cell? ⟨gb468, 0, none⟩ = some (.string a1_0) := (blk_cell BK468.out 0).trans rfl; have hcz17_1 : w14.cell? ⟨gb468, 1, none⟩ = some (.int .i64 a1_1) := (blk_cell BK468.out 1).trans rfl; have hcz17_2 : w14.cell? ⟨gb468, 2, none⟩ = some (.int .i64 a1_2) := (blk_cell BK468.out 2).trans rfl; have hcz17_3 : w14.cell? ⟨gb468, 3, none⟩ = some (.int .i64 a1_3) := (blk_cell BK468.out 3).trans rfl; have hfz17_0 := blk_frozen BK468.out 0; have hfz17_1 := blk_frozen BK468.out 1; have hfz17_2 := blk_frozen BK468.out 2; have hfz17_3 := blk_frozen BK468.out 3))
     go_ret
     exact ⟨rr_, lb2_ HB.out GE467.out GE468.out⟩
    ·
     rw [if_neg c12] at H
     have c12b0 : (a0_1 == a1_1) = false := beq_eq_false_iff_ne.mpr c12
     have c12b1 : (a0_1 != a1_1) = true := bne_iff_ne.mpr c12
     obtain rfl := Option.some.inj H
     go_enter Tryd.func95, Tryd.ntmps95
     go_wp2_with (first | ((with_reducible refine gate_dst (N := 3) rfl ?_); refine box_event ?hg (N := 3) ?hd (cs := #[.string a0_0, .int .i64 a0_1, .int .i64 a0_2, .int .i64 a0_3]) (t := 26) ?hr ?_; (case hd => rfl); (case hg => rfl); (case hr => first | (go_simp; done) | (go_simp; rfl)); intro gb467 hg w18 hbox hb; have n0_ := Aside0.mk (below_step (lb0_ HB.out) hb); have n1_ := Aside0.mk (hbox); have n2_ := Aside0.mk ((by rw [hg]; exact (below_size (lb0_ HB.out)) : w.heap.size ≤ gb467)); have n3_ := Aside0.mk ((by rw [hg]; exact (below_size (lb0_ HB.out)) : w.heap.size ≤ gb467)); clear HB; have HB := n0_; have BK467 := n1_; have GW467 := n2_; have GE467 := n3_; clear n0_ n1_ n2_ n3_; clear hb hbox hg) | ((with_reducible refine gate_dst (N := 4) rfl ?_); refine box_event ?hg (N := 4) ?hd (cs := #[.string a1_0, .int .i64 a1_1, .int .i64 a1_2, .int .i64 a1_3]) (t := 26) ?hr ?_; (case hd => rfl); (case hg => rfl); (case hr => first | (go_simp; done) | (go_simp; rfl)); intro gb468 hg w19 hbox hb; have n0_ := Aside0.mk (blk_below (g := gb467) (o := .cells #[.string a0_0, .int .i64 a0_1, .int .i64 a0_2, .int .i64 a0_3] 26 (0, 0)) (bk_ BK467.out) hb); have n1_ := Aside0.mk (below_step (lb1_ HB.out GE467.out) hb); have n2_ := Aside0.mk (hbox); have n3_ := Aside0.mk ((by rw [hg]; exact (below_size (lb1_ HB.out GE467.out)) : w.heap.size ≤ gb468)); have n4_ := Aside0.mk ((by rw [hg]; exact (below_size (lb1_ HB.out GE467.out)) : w.heap.size ≤ gb468)); have n5_ := Aside0.mk ((by rw [hg]; exact Nat.ne_of_lt (blk_lt (g := gb467) (o := .cells #[.string a0_0, .int .i64 a0_1, .int .i64 a0_2, .int .i64 a0_3] 26 (0, 0)) (bk_ BK467.out)) : gb467 ≠ gb468)); have n6_ := Aside0.mk ((by rw [hg]; exact Nat.ne_of_gt (blk_lt (g := gb467) (o := .cells #[.string a0_0, .int .i64 a0_1, .int .i64 a0_2, .int .i64 a0_3] 26 (0, 0)) (bk_ BK467.out)) : gb468 ≠ gb467)); clear BK467; clear HB; have BK467 := n0_; have HB := n1_; have BK468 := n2_; have GW468 := n3_; have GE468 := n4_; have NB467_468 := n5_; have NB468_467 := n6_; clear n0_ n1_ n2_ n3_ n4_ n5_ n6_; clear hb hbox hg; have hnb20 := NB467_468.out; have hnc20 := NB468_467.out; have hcz21_0 : w19.cell? ⟨gb467, 0, none⟩ = some (.string a0_0) := (blk_cell BK467.out 0).trans rfl; have hcz21_1 : w19.cell? ⟨gb467, 1, none⟩ = some (.int .i64 a0_1) := (blk_cell BK467.out 1).trans rfl; have hcz21_2 : w19.cell? ⟨gb467, 2, none⟩ = some (.int .i64 a0_2) := (blk_cell BK467.out 2).trans rfl; have hcz21_3 : w19.cell? ⟨gb467, 3, none⟩ = some (.int .i64 a0_3) := (blk_cell BK467.out 3).trans rfl; have hfz21_0 := blk_frozen BK467.out 0; have hfz21_1 := blk_frozen BK467.out 1; have hfz21_2 := blk_frozen BK467.out 2; have hfz21_3 := blk_frozen BK467.out 3; have hcz22_0 : w19.cell? ⟨gb468, 0, none⟩ = some (.string a1_0) := (blk_cell BK468.out 0).trans rfl; have hcz22_1 : w19.cell? ⟨gb468, 1, none⟩ = some (.int .i64 a1_1) := (blk_cell BK468.out 1).trans rfl; have hcz22_2 : w19.cell? ⟨gb468, 2, none⟩ = some (.int .i64 a1_2) := (blk_cell BK468.out 2).trans rfl; have hcz22_3 : w19.cell? ⟨gb468, 3, none⟩ = some (.int .i64 a1_3) := (blk_cell BK468.out 3).trans rfl; have hfz22_0 := blk_frozen BK468.out 0; have hfz22_1 := blk_frozen BK468.out 1; have hfz22_2 := blk_frozen BK468.out 2; have hfz22_3 := blk_frozen BK468.out 3))
     go_ret
     exact ⟨rr_, lb2_ HB.out GE467.out GE468.out⟩
  ·
   rw [if_neg c5] at H
   have c5b0 : (a0_2 == a1_2) = false := beq_eq_false_iff_ne.mpr c5
   have c5b1 : (a0_2 != a1_2) = true := bne_iff_ne.mpr c5
   obtain rfl := Option.some.inj H
   go_enter Tryd.func95, Tryd.ntmps95
   go_wp2_with (first | ((with_reducible refine gate_dst (N := 3) rfl ?_); refine box_event ?hg (N := 3) ?hd (cs := #[.string a0_0, .int .i64 a0_1, .int .i64 a0_2, .int .i64 a0_3]) (t := 26) ?hr ?_; (case hd => rfl); (case hg => rfl); (case hr => first | (go_simp; done) | (go_simp; rfl)); intro gb467 hg w23 hbox hb; have n0_ := Aside0.mk (below_step (lb0_ HB.out) hb); have n1_ := Aside0.mk (hbox); have n2_ := Aside0.mk ((by rw [hg]; exact (below_size (lb0_ HB.out)) : w.heap.size ≤ gb467)); have n3_ := Aside0.mk ((by rw [hg]; exact (below_size (lb0_ HB.out)) : w.heap.size ≤ gb467)); clear HB; have HB := n0_; have BK467 := n1_; have GW467 := n2_; have GE467 := n3_; clear n0_ n1_ n2_ n3_; clear hb hbox hg) | ((with_reducible refine gate_dst (N := 4) rfl ?_); refine box_event ?hg (N := 4) ?hd (cs := #[.string a1_0, .int .i64 a1_1, .int .i64 a1_2, .int .i64 a1_3]) (t := 26) ?hr ?_; (case hd => rfl); (case hg => rfl); (case hr => first | (go_simp; done) | (go_simp; rfl)); intro gb468 hg w24 hbox hb; have n0_ := Aside0.mk (blk_below (g := gb467) (o := .cells #[.string a0_0, .int .i64 a0_1, .int .i64 a0_2, .int .i64 a0_3] 26 (0, 0)) (bk_ BK467.out) hb); have n1_ := Aside0.mk (below_step (lb1_ HB.out GE467.out) hb); have n2_ := Aside0.mk (hbox); have n3_ := Aside0.mk ((by rw [hg]; exact (below_size (lb1_ HB.out GE467.out)) : w.heap.size ≤ gb468)); have n4_ := Aside0.mk ((by rw [hg]; exact (below_size (lb1_ HB.out GE467.out)) : w.heap.size ≤ gb468)); have n5_ := Aside0.mk ((by rw [hg]; exact Nat.ne_of_lt (blk_lt (g := gb467) (o := .cells #[.string a0_0, .int .i64 a0_1, .int .i64 a0_2, .int .i64 a0_3] 26 (0, 0)) (bk_ BK467.out)) : gb467 ≠ gb468)); have n6_ := Aside0.mk ((by rw [hg]; exact Nat.ne_of_gt (blk_lt (g := gb467) (o := .cells #[.string a0_0, .int .i64 a0_1, .int .i64 a0_2, .int .i64 a0_3] 26 (0, 0)) (bk_ BK467.out)) : gb468 ≠ gb467)); clear BK467; clear HB; have BK467 := n0_; have HB := n1_; have BK468 := n2_; have GW468 := n3_; have GE468 := n4_; have NB467_468 := n5_; have NB468_467 := n6_; clear n0_ n1_ n2_ n3_ n4_ n5_ n6_; clear hb hbox hg; have hnb25 := NB467_468.out; have hnc25 := NB468_467.out; have hcz26_0 : w24.cell? ⟨gb467, 0, none⟩ = some (.string a0_0) := (blk_cell BK467.out 0).trans rfl; have hcz26_1 : w24.cell? ⟨gb467, 1, none⟩ = some (.int .i64 a0_1) := (blk_cell BK467.out 1).trans rfl; have hcz26_2 : w24.cell? ⟨gb467, 2, none⟩ = some (.int .i64 a0_2) := (blk_cell BK467.out 2).trans rfl; have hcz26_3 : w24.cell? ⟨gb467, 3, none⟩ = some (.int .i64 a0_3) := (blk_cell BK467.out 3).trans rfl; have hfz26_0 := blk_frozen BK467.out 0; have hfz26_1 := blk_frozen BK467.out 1; have hfz26_2 := blk_frozen BK467.out 2; have hfz26_3 := blk_frozen BK467.out 3; have hcz27_0 : w24.cell? ⟨gb468, 0, none⟩ = some (.string a1_0) := (blk_cell BK468.out 0).trans rfl; have hcz27_1 : w24.cell? ⟨gb468, 1, none⟩ = some (.int .i64 a1_1) := (blk_cell BK468.out 1).trans rfl; have hcz27_2 : w24.cell? ⟨gb468, 2, none⟩ = some (.int .i64 a1_2) := (blk_cell BK468.out 2).trans rfl; have hcz27_3 : w24.cell? ⟨gb468, 3, none⟩ = some (.int .i64 a1_3) := (blk_cell BK468.out 3).trans rfl; have hfz27_0 := blk_frozen BK468.out 0; have hfz27_1 := blk_frozen BK468.out 1; have hfz27_2 := blk_frozen BK468.out 2; have hfz27_3 := blk_frozen BK468.out 3))
   go_ret
   exact ⟨rr_, lb2_ HB.out GE467.out GE468.out⟩
 ·
  replace c4 := Bool.eq_false_iff.mpr c4
  subst c4
  have H1 : (if a0_1 > a1_1 then (some true) else (if a0_1 = a1_1 then (some (Op.bytesLess a0_0.toList a1_0.toList)) else (some false))) = some r := by rw [if_neg (show ¬ (false = true) by decide)] at H; exact H
  clear H
  have H := H1
  clear H1
  by_cases c28 : a0_1 > a1_1
  ·
   rw [if_pos c28] at H
   have c28b0 : decide (a1_1 < a0_1) = true := decide_eq_true c28
   clear c28
   obtain rfl := Option.some.inj H
   go_enter Tryd.func95, Tryd.ntmps95
   go_wp2_with (first | ((with_reducible refine gate_dst (N := 3) rfl ?_); refine box_event ?hg (N := 3) ?hd (cs := #[.string a0_0, .int .i64 a0_1, .int .i64 a0_2, .int .i64 a0_3]) (t := 26) ?hr ?_; (case hd => rfl); (case hg => rfl); (case hr => first | (go_simp; done) | (go_simp; rfl)); intro gb467 hg w29 hbox hb; have n0_ := Aside0.mk (below_step (lb0_ HB.out) hb); have n1_ := Aside0.mk (hbox); have n2_ := Aside0.mk ((by rw [hg]; exact (below_size (lb0_ HB.out)) : w.heap.size ≤ gb467)); have n3_ := Aside0.mk ((by rw [hg]; exact (below_size (lb0_ HB.out)) : w.heap.size ≤ gb467)); clear HB; have HB := n0_; have BK467 := n1_; have GW467 := n2_; have GE467 := n3_; clear n0_ n1_ n2_ n3_; clear hb hbox hg) | ((with_reducible refine gate_dst (N := 4) rfl ?_); refine box_event ?hg (N := 4) ?hd (cs := #[.string a1_0, .int .i64 a1_1, .int .i64 a1_2, .int .i64 a1_3]) (t := 26) ?hr ?_; (case hd => rfl); (case hg => rfl); (case hr => first | (go_simp; done) | (go_simp; rfl)); intro gb468 hg w30 hbox hb; have n0_ := Aside0.mk (blk_below (g := gb467) (o := .cells #[.string a0_0, .int .i64 a0_1, .int .i64 a0_2, .int .i64 a0_3] 26 (0, 0)) (bk_ BK467.out) hb); have n1_ := Aside0.mk (below_step (lb1_ HB.out GE467.out) hb); have n2_ := Aside0.mk (hbox); have n3_ := Aside0.mk ((by rw [hg]; exact (below_size (lb1_ HB.out GE467.out)) : w.heap.size ≤ gb468)); have n4_ := Aside0.mk ((by rw [hg]; exact (below_size (lb1_ HB.out GE467.out)) : w.heap.size ≤ gb468)); have n5_ := Aside0.mk ((by rw [hg]; exact Nat.ne_of_lt (blk_lt (g := gb467) (o := .cells #[.string a0_0, .int .i64 a0_1, .int .i64 a0_2, .int .i64 a0_3] 26 (0, 0)) (bk_ BK467.out)) : gb467 ≠ gb468)); have n6_ := Aside0.mk ((by rw [hg]; exact Nat.ne_of_gt (blk_lt (g := gb467) (o := .cells #[.string a0_0, .int .i64 a0_1, .int .i64 a0_2, .int .i64 a0_3] 26 (0, 0)) (bk_ BK467.out)) : gb468 ≠ gb467)); clear BK467; clear HB; have BK467 := n0_; have HB := n1_; have BK468 := n2_; have GW468 := n3_; have GE468 := n4_; have NB467_468 := n5_; have NB468_467 := n6_; clear n0_ n1_ n2_ n3_ n4_ n5_ n6_; clear hb hbox hg; have hnb31 := NB467_468.out; have hnc31 := NB468_467.out; have hcz32_0 : w30.cell? ⟨gb467, 0, none⟩ = some (.string a0_0) := (blk_cell BK467.out 0).trans rfl; have hcz32_1 : w30.cell? ⟨gb467, 1, none⟩ = some (.int .i64 a0_1) := (blk_cell BK467.out 1).trans rfl; have hcz32_2 : w30.cell? ⟨gb467, 2, none⟩ = some (.int .i64 a0_2) := (blk_cell BK467.out 2).trans rfl; have hcz32_3 : w30.cell? ⟨gb467, 3, none⟩ = some (.int .i64 a0_3) := (blk_cell BK467.out 3).trans rfl; have hfz32_0 := blk_frozen BK467.out 0; have hfz32_1 := blk_frozen BK467.out 1; have hfz32_2 := blk_frozen BK467.out 2; have hfz32_3 := blk_frozen BK467.out 3; have hcz33_0 : w30.cell? ⟨gb468, 0, none⟩ = some (.string a1_0) := (blk_cell BK468.out 0).trans rfl; have hcz33_1 : w30.cell? ⟨gb468, 1, none⟩ = some (.int .i64 a1_1) := (blk_cell BK468.out 1).trans rfl; have hcz33_2 : w30.cell? ⟨gb468, 2, none⟩ = some (.int .i64 a1_2) := (blk_cell BK468.out 2).trans rfl; have hcz33_3 : w30.cell? ⟨gb468, 3, none⟩ = some (.int .i64 a1_3) := (blk_cell BK468.out 3).trans rfl; have hfz33_0 := blk_frozen BK468.out 0; have hfz33_1 := blk_frozen BK468.out 1; have hfz33_2 := blk_frozen BK468.out 2; have hfz33_3 := blk_frozen BK468.out 3))
   go_ret
   exact ⟨rr_, lb2_ HB.out GE467.out GE468.out⟩
  ·
   rw [if_neg c28] at H
   have c28b0 : decide (a1_1 < a0_1) = false := decide_eq_false c28
   clear c28
   by_cases c34 : a0_1 = a1_1
   ·
    rw [if_pos c34] at H
    have c34b0 : (a0_1 == a1_1) = true := beq_iff_eq.mpr c34
    have c34b1 : (a0_1 != a1_1) = false := bne_eq_false_iff_eq.mpr c34
    clear c34
    obtain rfl := Option.some.inj H
    go_enter Tryd.func95, Tryd.ntmps95
    go_wp2_with (first | ((with_reducible refine gate_dst (N := 3) rfl ?_); refine box_event ?hg (N := 3) ?hd (cs := #[.string a0_0, .int .i64 a0_1, .int .i64 a0_2, .int .i64 a0_3]) (t := 26) ?hr ?_; (case hd => rfl); (case hg => rfl); (case hr => first | (go_simp; done) | (go_simp; rfl)); intro gb467 hg w35 hbox hb; have n0_ := Aside0.mk (below_step (lb0_ HB.out) hb); have n1_ := Aside0.mk (hbox); have n2_ := Aside0.mk ((by rw [hg]; exact (below_size (lb0_ HB.out)) : w.heap.size ≤ gb467)); have n3_ := Aside0.mk ((by rw [hg]; exact (below_size (lb0_ HB.out)) : w.heap.size ≤ gb467)); clear HB; have HB := n0_; have BK467 := n1_; have GW467 := n2_; have GE467 := n3_; clear n0_ n1_ n2_ n3_; clear hb hbox hg) | ((with_reducible refine gate_dst (N := 4) rfl ?_); refine box_event ?hg (N := 4) ?hd (cs := #[.string a1_0, .int .i64 a1_1, .int .i64 a1_2, .int .i64 a1_3]) (t := 26) ?hr ?_; (case hd => rfl); (case hg => rfl); (case hr => first | (go_simp; done) | (go_simp; rfl)); intro gb468 hg w36 hbox hb; have n0_ := Aside0.mk (blk_below (g := gb467) (o := .cells #[.string a0_0, .int .i64 a0_1, .int .i64 a0_2, .int .i64 a0_3] 26 (0, 0)) (bk_ BK467.out) hb); have n1_ := Aside0.mk (below_step (lb1_ HB.out GE467.out) hb); have n2_ := Aside0.mk (hbox); have n3_ := Aside0.mk ((by rw [hg]; exact (below_size (lb1_ HB.out GE467.out)) : w.heap.size ≤ gb468)); have n4_ := Aside0.mk ((by rw [hg]; exact (below_size (lb1_ HB.out GE467.out)) : w.heap.size ≤ gb468)); have n5_ := Aside0.mk ((by rw [hg]; exact Nat.ne_of_lt (blk_lt (g := gb467) (o := .cells #[.string a0_0, .int .i64 a0_1, .int .i64 a0_2, .int .i64 a0_3] 26 (0, 0)) (bk_ BK467.out)) : gb467 ≠ gb468)); have n6_ := Aside0.mk ((by rw [hg]; exact Nat.ne_of_gt (blk_lt (g := gb467) (o := .cells #[.string a0_0, .int .i64 a0_1, .int .i64 a0_2, .int .i64 a0_3] 26 (0, 0)) (bk_ BK467.out)) : gb468 ≠ gb467)); clear BK467; clear HB; have BK467 := n0_; have HB := n1_; have BK468 := n2_; have GW468 := n3_; have GE468 := n4_; have NB467_468 := n5_; have NB468_467 := n6_; clear n0_ n1_ n2_ n3_ n4_ n5_ n6_; clear hb hbox hg; have hnb37 := NB467_468.out; have hnc37 := NB468_467.out; have hcz38_0 : w36.cell? ⟨gb467, 0, none⟩ = some (.string a0_0) := (blk_cell BK467.out 0).trans rfl; have hcz38_1 : w36.cell? ⟨gb467, 1, none⟩ = some (.int .i64 a0_1) := (blk_cell BK467.out 1).trans rfl; have hcz38_2 : w36.cell? ⟨gb467, 2, none⟩ = some (.int .i64 a0_2) := (blk_cell BK467.out 2).trans rfl; have hcz38_3 : w36.cell? ⟨gb467, 3, none⟩ = some (.int .i64 a0_3) := (blk_cell BK467.out 3).trans rfl; have hfz38_0 := blk_frozen BK467.out 0; have hfz38_1 := blk_frozen BK467.out 1; have hfz38_2 := blk_frozen BK467.out 2; have hfz38_3 := blk_frozen BK467.out 3; have hcz39_0 : w36.cell? ⟨gb468, 0, none⟩ = some (.string a1_0) := (blk_cell BK468.out 0).trans rfl; have hcz39_1 : w36.cell? ⟨gb468, 1, none⟩ = some (.int .i64 a1_1) := (blk_cell BK468.out 1).trans rfl; have hcz39_2 : w36.cell? ⟨gb468, 2, none⟩ = some (.int .i64 a1_2) := (blk_cell BK468.out 2).trans rfl; have hcz39_3 : w36.cell? ⟨gb468, 3, none⟩ = some (.int .i64 a1_3) := (blk_cell BK468.out 3).trans rfl; have hfz39_0 := blk_frozen BK468.out 0; have hfz39_1 := blk_frozen BK468.out 1; have hfz39_2 := blk_frozen BK468.out 2; have hfz39_3 := blk_frozen BK468.out 3))
    go_ret
    exact ⟨rr_, lb2_ HB.out GE467.out GE468.out⟩
   ·
    rw [if_neg c34] at H
    have c34b0 : (a0_1 == a1_1) = false := beq_eq_false_iff_ne.mpr c34
    have c34b1 : (a0_1 != a1_1) = true := bne_iff_ne.mpr c34
    obtain rfl := Option.some.inj H
    go_enter Tryd.func95, Tryd.ntmps95
    go_wp2_with (first | ((with_reducible refine gate_dst (N := 3) rfl ?_); refine box_event ?hg (N := 3) ?hd (cs := #[.string a0_0, .int .i64 a0_1, .int .i64 a0_2, .int .i64 a0_3]) (t := 26) ?hr ?_; (case hd => rfl); (case hg => rfl); (case hr => first | (go_simp; done) | (go_simp; rfl)); intro gb467 hg w40 hbox hb; have n0_ := Aside0.mk (below_step (lb0_ HB.out) hb); have n1_ := Aside0.mk (hbox); have n2_ := Aside0.mk ((by rw [hg]; exact (below_size (lb0_ HB.out)) : w.heap.size ≤ gb467)); have n3_ := Aside0.mk ((by rw [hg]; exact (below_size (lb0_ HB.out)) : w.heap.size ≤ gb467)); clear HB; have HB := n0_; have BK467 := n1_; have GW467 := n2_; have GE467 := n3_; clear n0_ n1_ n2_ n3_; clear hb hbox hg) | ((with_reducible refine gate_dst (N := 4) rfl ?_); refine box_event ?hg (N := 4) ?hd (cs := #[.string a1_0, .int .i64 a1_1, .int .i64 a1_2, .int .i64 a1_3]) (t := 26) ?hr ?_; (case hd => rfl); (case hg => rfl); (case hr => first | (go_simp; done) | (go_simp; rfl)); intro gb468 hg w41 hbox hb; have n0_ := Aside0.mk (blk_below (g := gb467) (o := .cells #[.string a0_0, .int .i64 a0_1, .int .i64 a0_2, .int .i64 a0_3] 26 (0, 0)) (bk_ BK467.out) hb); have n1_ := Aside0.mk (below_step (lb1_ HB.out GE467.out) hb); have n2_ := Aside0.mk (hbox); have n3_ := Aside0.mk ((by rw [hg]; exact (below_size (lb1_ HB.out GE467.out)) : w.heap.size ≤ gb468)); have n4_ := Aside0.mk ((by rw [hg]; exact (below_size (lb1_ HB.out GE467.out)) : w.heap.size ≤ gb468)); have n5_ := Aside0.mk ((by rw [hg]; exact Nat.ne_of_lt (blk_lt (g := gb467) (o := .cells #[.string a0_0, .int .i64 a0_1, .int .i64 a0_2, .int .i64 a0_3] 26 (0, 0)) (bk_ BK467.out)) : gb467 ≠ gb468)); have n6_ := Aside0.mk ((by rw [hg]; exact Nat.ne_of_gt (blk_lt (g := gb467) (o := .cells #[.string a0_0, .int .i64 a0_1, .int .i64 a0_2, .int .i64 a0_3] 26 (0, 0)) (bk_ BK467.out)) : gb468 ≠ gb467)); clear BK467; clear HB; have BK467 := n0_; have HB := n1_; have BK468 := n2_; have GW468 := n3_; have GE468 := n4_; have NB467_468 := n5_; have NB468_467 := n6_; clear n0_ n1_ n2_ n3_ n4_ n5_ n6_; clear hb hbox hg; have hnb42 := NB467_468.out; have hnc42 := NB468_467.out; have hcz43_0 : w41.cell? ⟨gb467, 0, none⟩ = some (.string a0_0) := (blk_cell BK467.out 0).trans rfl; have hcz43_1 : w41.cell? ⟨gb467, 1, none⟩ = some (.int .i64 a0_1) := (blk_cell BK467.out 1).trans rfl; have hcz43_2 : w41.cell? ⟨gb467, 2, none⟩ = some (.int .i64 a0_2) := (blk_cell BK467.out 2).trans rfl; have hcz43_3 : w41.cell? ⟨gb467, 3, none⟩ = some (.int .i64 a0_3) := (blk_cell BK467.out 3).trans rfl; have hfz43_0 := blk_frozen BK467.out 0; have hfz43_1 := blk_frozen BK467.out 1; have hfz43_2 := blk_frozen BK467.out 2; have hfz43_3 := blk_frozen BK467.out 3; have hcz44_0 : w41.cell? ⟨gb468, 0, none⟩ = some (.string a1_0) := (blk_cell BK468.out 0).trans rfl; have hcz44_1 : w41.cell? ⟨gb468, 1, none⟩ = some (.int .i64 a1_1) := (blk_cell BK468.out 1).trans rfl; have hcz44_2 : w41.cell? ⟨gb468, 2, none⟩ = some (.int .i64 a1_2) := (blk_cell BK468.out 2).trans rfl; have hcz44_3 : w41.cell? ⟨gb468, 3, none⟩ = some (.int .i64 a1_3) := (blk_cell BK468.out 3).trans rfl; have hfz44_0 := blk_frozen BK468.out 0; have hfz44_1 := blk_frozen BK468.out 1; have hfz44_2 := blk_frozen BK468.out 2; have hfz44_3 := blk_frozen BK468.out 3))
    go_ret
    exact ⟨rr_, lb2_ HB.out GE467.out GE468.out⟩
def befB_ (d : Bool) (x y : S26) : Bool := (spec_l26Before.f x.f0 x.f1 x.f2 x.f3 y.f0 y.f1 y.f2 y.f3 d).getD false
theorem befB_eq (d : Bool) (x y : S26) : spec_l26Before.f x.f0 x.f1 x.f2 x.f3 y.f0 y.f1 y.f2 y.f3 d = some (befB_ d x y) := by
 have h : ∃ b, spec_l26Before.f x.f0 x.f1 x.f2 x.f3 y.f0 y.f1 y.f2 y.f3 d = some b := by
  unfold spec_l26Before.f
  repeat' split
  all_goals exact ⟨_, rfl⟩
 obtain ⟨b, hb⟩ := h
 unfold befB_
 rw [hb]
 rfl
structure CxR (W : World) (a b : Addr) (x y : S26) (W' : World) : Prop where
 bel : Below W.heap.size W W'
 x0 : W'.cell? a = some (.string x.f0)
 x1 : W'.cell? ⟨a.block, a.off + 1, none⟩ = some (.int .i64 x.f1)
 x2 : W'.cell? ⟨a.block, a.off + 2, none⟩ = some (.int .i64 x.f2)
 x3 : W'.cell? ⟨a.block, a.off + 3, none⟩ = some (.int .i64 x.f3)
 y0 : W'.cell? b = some (.string y.f0)
 y1 : W'.cell? ⟨b.block, b.off + 1, none⟩ = some (.int .i64 y.f1)
 y2 : W'.cell? ⟨b.block, b.off + 2, none⟩ = some (.int .i64 y.f2)
 y3 : W'.cell? ⟨b.block, b.off + 3, none⟩ = some (.int .i64 y.f3)
theorem CxR.step {W : World} {a b : Addr} {x y : S26} {W1 W2 : World} (h : CxR W a b x y W1) (hb : Below W1.heap.size W1 W2) : CxR W a b x y W2 :=
 ⟨below_step h.bel hb, (hb.cell (World.block_lt_of_cell? _ _ h.x0)).trans h.x0, (hb.cell (World.block_lt_of_cell? _ _ h.x1)).trans h.x1, (hb.cell (World.block_lt_of_cell? _ _ h.x2)).trans h.x2, (hb.cell (World.block_lt_of_cell? _ _ h.x3)).trans h.x3, (hb.cell (World.block_lt_of_cell? _ _ h.y0)).trans h.y0, (hb.cell (World.block_lt_of_cell? _ _ h.y1)).trans h.y1, (hb.cell (World.block_lt_of_cell? _ _ h.y2)).trans h.y2, (hb.cell (World.block_lt_of_cell? _ _ h.y3)).trans h.y3⟩
theorem new_at_ {w : World} {cs : Array Value} {t g : Nat} (hg : w.heap.size = g) : (w.alloc (.cells cs t)).heap[g]? = some (.cells cs t (0, 0)) := by
 subst hg
 exact heap_new_ w cs t
theorem R_empty_ {W : World} {base g : Nat} (hb : base ≤ g) (h : W.heap[g]? = some (.cells #[] 26 (0, 0))) : Kd.R k26 26 W base (fun _ => True) (.slice (some ⟨g, 0, none⟩) 0 0) [] :=
 ⟨fun _ _ => trivial, [], ⟨rfl, .inr ⟨g, 0, #[], rfl, hb, h, Nat.le_refl _, by decide, rfl, rfl⟩⟩, Reps.none _ _⟩
theorem one_row_ {W : World} {g : Nat} {x : S26} (h : W.heap[g]? = some (.cells #[.string x.f0, .int .i64 x.f1, .int .i64 x.f2, .int .i64 x.f3] 26 (0, 0))) : Kd.C k26 W (some ⟨g, 0, none⟩) 1 [x] := by
 refine ⟨rfl, by omega, fun _ => ⟨_, rfl, fun j p hj => ?_⟩⟩
 cases j with
 | zero =>
  obtain rfl := Option.some.inj hj
  refine ⟨_, rfl, k26_mk W x, fun i u hu => ?_⟩
  show W.cell? (Addr.add ⟨g, 0, none⟩ (0 * 4 + i)) = some u
  rw [Addr.add_lit, blk_cell h, ← hu]
  rw [show 0 + (0 * 4 + i) = i by omega]
  match i with
  | 0 => rfl
  | 1 => rfl
  | 2 => rfl
  | 3 => rfl
  | i + 4 => rfl
 | succ j => simp at hj
theorem own_apart_ {W : World} {base base' : Nat} {ok ok' : Nat → Prop} {v u : Value} {D : List S26} {xs : List ByteArray} (hR : Kd.R k26 26 W base ok v D) (hN : Kd.R Kd.string 9 W base' ok' u xs) : Kd.R k26 26 W base (fun k => some k ≠ u.ownBlock) v D := by
 refine Kd.R_mono (Kd.R_bound hR) (fun k hk he => ?_)
 obtain ⟨_, _, _, q, hq, cells, hc⟩ := hk
 obtain ⟨inner, ho⟩ := Kd.R_own hN
 obtain ⟨cells', hc'⟩ := own_typed ho k he.symm
 rw [hc] at hc'
 rw [show (k26).E = [] from rfl, List.mem_singleton] at hq
 subst hq
 injection hc' with hc'
 injection hc' with _ hc'
 exact absurd hc' (by decide)
def spec_l26Rank.f (l0 : List S26) (a1 : Bool) : Option (List ByteArray) := if l0.length ≤ 1000 then some ((ranked (befB_ a1) l0).map (fun x => x.f0)) else none
set_option maxHeartbeats 8000000 in
set_option maxRecDepth 100000 in
theorem spec_l26Rank.calls (A0 : Option Addr) (c0 : Nat) (l0 : List S26) (a1 : Bool) (r : List ByteArray) (w : World) (hr0 : Kd.C k26 w A0 l0.length l0) (hc0 : l0.length ≤ c0) (h : spec_l26Rank.f l0 a1 = some r) :
  Calls Tryd.prog 72 #[.slice A0 l0.length c0, .bool a1] w fun e w' => ∃ v0_ : Value, e = .returned v0_ ∧ Kd.R Kd.string 9 w' w.heap.size (fun _ => True) v0_ r ∧ Below w.heap.size w w' := by
 unfold spec_l26Rank.f at h
 by_cases hl : l0.length ≤ 1000
 ·
  rw [if_pos hl] at h
  obtain rfl := Option.some.inj h
  clear h
  have HR := Aside0.mk hr0
  have HL := Aside0.mk hl
  clear hr0 hl
  go_enter Tryd.func72, Tryd.ntmps72
  go_wp2_with (first | ((with_reducible refine gate_dst (N := 10) rfl ?_); refine Kd.R_lit k26 w.heap.size 26 (w0 := w) ?hg (N := 10) ?hd (xs := []) (inner := []) (ok := fun _ => True) (okp := fun _ => True) ?hr ?hp (fun _ hk => hk) trivial (Below.refl _ _) (Nat.le_refl _) (by simp) ?_; (case hd => rfl); (case hg => rfl); (case hr => first | (go_simp; done) | (go_simp; rfl)); (case hp => exact (Reps.none _ _)); intro v5 w4 ho5 hb5 hg_ hnew_; clear hg_ hnew_; have HO5 := Aside0.mk ho5; have HB5 := Aside0.mk hb5; clear ho5 hb5) | ((with_reducible refine gate_dst (N := 11) rfl ?_); refine Kd.R_lit Kd.string w.heap.size 9 (w0 := w) ?hg (N := 11) ?hd (xs := []) (inner := []) (ok := fun _ => True) (okp := fun _ => True) ?hr ?hp (fun _ hk => hk) trivial HB5.out HB5.out.size (by simp) ?_; (case hd => rfl); (case hg => rfl); (case hr => first | (go_simp; done) | (go_simp; rfl)); (case hp => exact (Reps.none _ _)); intro v6 w5 ho6 hb6 hg_ hnew_; have HO5' := Aside0.mk (Kd.R_grown HO5.out hg_ (fun _ _ => by simp)); have HO6 := Aside0.mk ho6; have HB6 := Aside0.mk hb6; clear ho6 hb6 hg_ hnew_ HO5 HB5))
  have hL : l0.length ≤ 9223372036854775807 := by have := HL.out; omega
  go_loopg [5, 7] l0.length (fun gg v5 v7 wr => ∃ kk : Nat, kk ≤ l0.length ∧ l0.length - kk ≤ gg ∧ v7 = .int .i64 kk ∧ Aside0 (Kd.R k26 26 wr w.heap.size (fun _ => True) v5 (ranked (befB_ a1) (l0.take kk))) ∧ Aside0 (Below w5.heap.size w5 wr))
  case atStart => exact ⟨0, Nat.zero_le _, by omega, rfl, HO5', ⟨Below.refl _ _⟩⟩
  case round =>
   obtain ⟨kk, hkk, hg, rfl, HO, BW⟩ := hrel
   by_cases hlt : kk < l0.length
   ·
    have hltz : (kk : Int) < (l0.length : Int) := by omega
    have hk0 : (0 : Int) ≤ (kk : Int) := by omega
    obtain ⟨ad, e0, hx0, hx1, hx2, hx3⟩ := at_T26 HR.out (kk : Int) hk0 hltz
    have hbw := below_step HB6.out BW.out
    replace hx0 := (hbw.cell (World.block_lt_of_cell? w _ hx0)).trans hx0
    replace hx1 := (hbw.cell (World.block_lt_of_cell? w _ hx1)).trans hx1
    replace hx2 := (hbw.cell (World.block_lt_of_cell? w _ hx2)).trans hx2
    replace hx3 := (hbw.cell (World.block_lt_of_cell? w _ hx3)).trans hx3
    have hn : ranked (befB_ a1) (l0.take (kk + 1)) = (insB (befB_ a1) (rd_T26 l0 (kk : Int)) ((l0.take kk).foldl (fun R x => insB (befB_ a1) x R) [])).reverse := by
     unfold ranked
     rw [List.take_add_one, List.getElem?_eq_getElem hlt, List.foldl_append]
     show _ = (insB (befB_ a1) (l0.getD (kk : Int).toNat _) _).reverse
     rw [Int.toNat_natCast, List.getD_eq_getElem?_getD, List.getElem?_eq_getElem hlt]
     rfl
    have HN := Aside0.mk hn
    have HG := Aside0.mk hg
    have HBW := Aside0.mk hbw
    have hlk : ((l0.take kk).foldl (fun R x => insB (befB_ a1) x R) []).length ≤ 1000 := by
     rw [foldB_len, List.length_take]
     have := HL.out
     simp
     omega
    clear hn hg hbw
    have HO2 := HO.out
    unfold ranked at HO2
    clear HO
    generalize (l0.take kk).foldl (fun R x => insB (befB_ a1) x R) [] = R at HO2 HN hlk
    generalize rd_T26 l0 (kk : Int) = x at hx0 hx1 hx2 hx3 HN
    subst e0
    rw [Int.toNat_natCast] at hx0 hx1 hx2 hx3
    obtain ⟨rows, hrows⟩ : ∃ rows, rows = R.reverse := ⟨_, rfl⟩
    have hrl : rows.length = R.length := by rw [hrows, List.length_reverse]
    rw [← hrows] at HO2
    have HRW := Aside0.mk hrows
    have HRL := Aside0.mk hrl
    obtain ⟨A, cap, hv, hcapl, hC⟩ := Kd.R_reads HO2
    subst hv
    have HC := Aside0.mk hC
    have HCap := Aside0.mk hcapl
    have HO := Aside0.mk HO2
    have HLK := Aside0.mk hlk
    clear hC hcapl HO2 hlk hrows hrl
    obtain ⟨W0, hW0⟩ : ∃ W0, W0 = wr := ⟨_, rfl⟩
    subst hW0
    go_wp2
    go_loopg [8] rows.length (fun gg v8 wi => ∃ j : Nat, j ≤ rows.length ∧ j ≤ gg ∧ v8 = .int .i64 j ∧ Aside0 (posB (befB_ a1) x (R.drop (rows.length - j)) = posB (befB_ a1) x R) ∧ Aside0 (Below W0.heap.size W0 wi))
    case atStart => exact ⟨rows.length, Nat.le_refl _, Nat.le_refl _, rfl, ⟨by rw [Nat.sub_self]; rfl⟩, ⟨Below.refl _ _⟩⟩
    case round =>
     obtain ⟨j, hj, hg2, rfl, HP, BI⟩ := hrel
     go_upto_region 6 with (fail)
     go_cut [34] (fun v34 wc => ∃ b : Bool, v34 = .bool b ∧ Aside0 (Below W0.heap.size W0 wc) ∧ Aside0 (if b = true then ∃ j', j = j' + 1 ∧ posB (befB_ a1) x (R.drop (rows.length - j')) = posB (befB_ a1) x R else posB (befB_ a1) x R = j))
     case first =>
      rename_i J0 K0 hJ0 hK0
      cases j with
      | zero =>
       have hp := HP.out
       rw [Nat.sub_zero, HRL.out, List.drop_length] at hp
       go_quiet (fail)
       first | refine hJ0 _ _ ?_ | refine hK0 _ _ (Met.intro (hJ0 _ _ ?_))
       (repeat apply Exists.intro)
       refine ⟨?rel, rfl⟩
       case rel => exact ⟨false, rfl, ⟨by first | exact pw_below_drewN BI.out _ | exact below_drew BI.out⟩, ⟨by rw [if_neg (by decide)]; exact hp.symm⟩⟩
      | succ j' =>
       have hj0 : (0 : Int) ≤ (j' : Int) := by omega
       have hj1 : (j' : Int) < (rows.length : Int) := by omega
       obtain ⟨ad2, e2, hy0, hy1, hy2, hy3⟩ := at_T26 HC.out (j' : Int) hj0 hj1
       have hdr : R.drop (rows.length - (j' + 1)) = rd_T26 rows (j' : Int) :: R.drop (rows.length - j') := by
        have h1 := HRL.out
        rw [List.drop_eq_getElem_cons (by omega), show rows.length - (j' + 1) + 1 = rows.length - j' by omega]
        congr 1
        show _ = rows.getD (j' : Int).toNat _
        have h3 : rows[j']? = some R[rows.length - (j' + 1)] := by
         have h4 : R.reverse[j']? = some (R[R.length - 1 - j']'(by omega)) := by
          rw [List.getElem?_reverse (by omega), List.getElem?_eq_getElem (by omega)]
         rw [← HRW.out] at h4
         rw [h4]
         congr 2
         omega
        rw [Int.toNat_natCast, List.getD_eq_getElem?_getD, h3]
        rfl
       have hp := HP.out
       rw [hdr] at hp
       have hdl : (R.drop (rows.length - j')).length = j' := by rw [List.length_drop]; have := HRL.out; omega
       generalize rd_T26 rows (j' : Int) = y at hy0 hy1 hy2 hy3 hp
       clear hdr
       subst e2
       rw [Int.toNat_natCast] at hy0 hy1 hy2 hy3
       replace hy0 := (BI.out.cell (World.block_lt_of_cell? W0 _ hy0)).trans hy0
       replace hy1 := (BI.out.cell (World.block_lt_of_cell? W0 _ hy1)).trans hy1
       replace hy2 := (BI.out.cell (World.block_lt_of_cell? W0 _ hy2)).trans hy2
       replace hy3 := (BI.out.cell (World.block_lt_of_cell? W0 _ hy3)).trans hy3
       have hz0 := (BI.out.cell (World.block_lt_of_cell? W0 _ hx0)).trans hx0
       have hz1 := (BI.out.cell (World.block_lt_of_cell? W0 _ hx1)).trans hx1
       have hz2 := (BI.out.cell (World.block_lt_of_cell? W0 _ hx2)).trans hx2
       have hz3 := (BI.out.cell (World.block_lt_of_cell? W0 _ hx3)).trans hx3
       have hbf := befB_eq a1 x y
       have HPB : Aside0 (if befB_ a1 x y = true then ∃ j'', j' + 1 = j'' + 1 ∧ posB (befB_ a1) x (R.drop (rows.length - j'')) = posB (befB_ a1) x R else posB (befB_ a1) x R = j' + 1) := by
        refine ⟨?_⟩
        have hpc : ∀ ys, posB (befB_ a1) x (y :: ys) = if befB_ a1 x y = true then posB (befB_ a1) x ys else ys.length + 1 := fun _ => rfl
        rw [hpc] at hp
        by_cases cb : befB_ a1 x y = true
        ·
         rw [if_pos cb]
         rw [if_pos cb] at hp
         exact ⟨j', rfl, hp⟩
        ·
         rw [if_neg cb]
         rw [if_neg cb, hdl] at hp
         exact hp.symm
       clear hp hdl
       generalize befB_ a1 x y = t at hbf HPB
       have HBF := Aside0.mk hbf
       clear hbf
       have hgt : (0 : Int) < ((j' + 1 : Nat) : Int) := by omega
       have hgt2 : (0 : Int) < (j' : Int) + 1 := by omega
       have hw1 : wrap64 (j' : Int) = (j' : Int) := by have h1 := HRL.out; have h2 := HLK.out; unfold wrap64; omega
       have hw3 : IntKind.i64.wrap (j' : Int) = (j' : Int) := by rw [i64_w]; exact hw1
       have hw2 : wrap64 (((j' + 1 : Nat) : Int) - 1) = (j' : Int) := by have h1 := HRL.out; have h2 := HLK.out; unfold wrap64; omega
       refine wp_region_quiet (C := CxR W0 (ad.add (kk * 4)) (ad2.add (j' * 4)) x y) (by kernel_rfl) (by kernel_rfl) ((CxR.mk BI.out hz0 hz1 hz2 hz3 hy0 hy1 hy2 hy3).step (below_drew (Below.refl _ _))) ?_
       repeat (refine wpQuiet_step (fun K hK => ?_); go_simp; first | (refine hK _ ?_; clear hK K) | (apply Exists.intro; refine ⟨fun w_ hw_ => ?_, hK _ ?_⟩; (first | rfl | (obtain ⟨hb_, a0_, a1_, a2_, a3_, b0_, b1_, b2_, b3_⟩ := hw_; go_simp; done) | (obtain ⟨hb_, a0_, a1_, a2_, a3_, b0_, b1_, b2_, b3_⟩ := hw_; go_simp; rfl) | (have hw2_ := hw_; obtain ⟨hb_, a0_, a1_, a2_, a3_, b0_, b1_, b2_, b3_⟩ := hw_; go_simp; go_at_call 95; refine (spec_l26Before.calls x.f0 x.f1 x.f2 x.f3 y.f0 y.f1 y.f2 y.f3 a1 t _ HBF.out).mono ?_; rintro e w1 ⟨rfl, hb⟩; exact ⟨rfl, hw2_.step hb⟩) | trace_state); clear hK K))
       refine wpQuiet_nil ?_
       intro w1 hw1
       refine hK0 _ _ (Met.intro (hJ0 _ _ ?_))
       (repeat apply Exists.intro)
       refine ⟨?rel, rfl⟩
       case rel => exact ⟨t, rfl, ⟨hw1.bel⟩, HPB⟩
     case rest =>
      obtain ⟨b, rfl, BC, HJ⟩ := hcut
      cases b with
      | true =>
       have HJ2 := HJ.out
       rw [if_pos rfl] at HJ2
       obtain ⟨j', rfl, hp⟩ := HJ2
       go_wp2
       go_roundg j'
       case measure => omega
       case rel => exact ⟨j', by omega, by omega, by have h1 := HRL.out; have h2 := HLK.out; congr 1; unfold wrap64; omega, ⟨hp⟩, BC⟩
      | false =>
       have HJ2 := HJ.out
       rw [if_neg (by decide)] at HJ2
       have hj0 : (0 : Int) ≤ (j : Int) := by omega
       have hj1 : (j : Int) ≤ (rows.length : Int) := by omega
       obtain ⟨i0, hi0, _, hsz0, _⟩ := info_parts info26
       have hcut1 := cut_to (P := Tryd.prog) 32 26 .i64 Tryd.underlying32 hi0 A rows.length cap (j : Int) hj0 hj1 HCap.out
       have hcut2 := cut_from (P := Tryd.prog) 32 26 .i64 Tryd.underlying32 hi0 4 hsz0 A rows.length cap (j : Int) hj0 hj1
       rw [Int.toNat_natCast] at hcut1 hcut2
       have hz0 := (BC.out.cell (World.block_lt_of_cell? W0 _ hx0)).trans hx0
       have hz1 := (BC.out.cell (World.block_lt_of_cell? W0 _ hx1)).trans hx1
       have hz2 := (BC.out.cell (World.block_lt_of_cell? W0 _ hx2)).trans hx2
       have hz3 := (BC.out.cell (World.block_lt_of_cell? W0 _ hx3)).trans hx3
       have hq0 : ∀ o : Obj, (wc.alloc o).cell? (ad.add (kk * 4)) = some (.string x.f0) := fun o => ((below_alloc (Below.refl wc.heap.size wc) o).cell (World.block_lt_of_cell? wc _ hz0)).trans hz0
       have hq1 : ∀ o : Obj, (wc.alloc o).cell? ⟨(ad.add (kk * 4)).block, (ad.add (kk * 4)).off + 1, none⟩ = some (.int .i64 x.f1) := fun o => ((below_alloc (Below.refl wc.heap.size wc) o).cell (World.block_lt_of_cell? wc _ hz1)).trans hz1
       have hq2 : ∀ o : Obj, (wc.alloc o).cell? ⟨(ad.add (kk * 4)).block, (ad.add (kk * 4)).off + 2, none⟩ = some (.int .i64 x.f2) := fun o => ((below_alloc (Below.refl wc.heap.size wc) o).cell (World.block_lt_of_cell? wc _ hz2)).trans hz2
       have hq3 : ∀ o : Obj, (wc.alloc o).cell? ⟨(ad.add (kk * 4)).block, (ad.add (kk * 4)).off + 3, none⟩ = some (.int .i64 x.f3) := fun o => ((below_alloc (Below.refl wc.heap.size wc) o).cell (World.block_lt_of_cell? wc _ hz3)).trans hz3
       have HCW := Aside0.mk (Kd.C_below HC.out BC.out)
       have hct := Kd.C_take (m := j) HCW.out hj
       have hcd := Kd.C_drop (m := j) (c := cap) HCW.out hj HCap.out
       have hlt1 : (rows.take j).length = j := by rw [List.length_take]; omega
       have hld1 : (rows.drop j).length = rows.length - j := List.length_drop
       rw [hlt1] at hct
       rw [hld1] at hcd
       replace hcd : Kd.C k26 wc (if cap = j then A else A.map (·.add (j * 4))) (rows.length - j) (rows.drop j) := hcd
       generalize (if cap = j then A else A.map (·.add (j * 4))) = A2 at hcut2 hcd
       have HT := Aside0.mk hct
       have HD := Aside0.mk hcd
       clear hct hcd
       have HJL := Aside0.mk (show j ≤ 1000 from by have h1 := HRL.out; have h2 := HLK.out; omega)
       have HJ3 := Aside0.mk (show (rows.take j).length = j ∧ rows.length ≤ 1000 from ⟨hlt1, by have h1 := HRL.out; have h2 := HLK.out; omega⟩)
       have hfin : ([] ++ rows.take j ++ [x]) ++ rows.drop j = ranked (befB_ a1) (l0.take (kk + 1)) := by
        have h1 := posB_ins (befB_ a1) x R []
        rw [HJ2, List.append_nil, List.append_nil, ← HRW.out] at h1
        rw [HN.out, ← h1]
        simp
       have HFIN := Aside0.mk hfin
       have HSZ := Aside0.mk (show w.heap.size ≤ wc.heap.size from Nat.le_trans HBW.out.size BC.out.size)
       have HBC := Aside0.mk (below_step BW.out BC.out)
       clear hfin hlt1 hld1 HJ2 HJ hi0 hsz0
       have HXB := Aside0.mk (show ((wc.alloc (.cells #[] 26)).alloc (.cells #[.string x.f0, .int .i64 x.f1, .int .i64 x.f2, .int .i64 x.f3] 26)).heap[wc.heap.size + 1]? = some (.cells #[.string x.f0, .int .i64 x.f1, .int .i64 x.f2, .int .i64 x.f3] 26 (0, 0)) from new_at_ (heap_size_ _ _))
       have HXC := Aside0.mk (show ((wc.alloc (.cells #[.string x.f0, .int .i64 x.f1, .int .i64 x.f2, .int .i64 x.f3] 26)).alloc (.cells #[] 26)).heap[wc.heap.size]? = some (.cells #[.string x.f0, .int .i64 x.f1, .int .i64 x.f2, .int .i64 x.f3] 26 (0, 0)) from blk_alloc (new_at_ rfl) _)
       go_wp2
       go_region_law (first | (refine Kd.R_append_rows_step k26 (w0 := wc) wc.heap.size (by rfl) (.tmp 37) (.tmp 40) 32 26 (.agg #[(.string (⟨#[]⟩ : ByteArray)), (.int .i64 0), (.int .i64 0), (.int .i64 0)]) 40 rfl Tryd.underlying32 info26 rfl (by decide) (by omega) _ [] (rows.take j) _ _ _ (fun _ => True) (fun _ => False) rfl rfl ?aO ?aR (fun _ _ h => h) (fun _ h => h.elim) (fun _ _ => trivial) ?aB ?aS ?aL ?_; (case aO => first | exact R_empty_ (Nat.le_refl _) (new_at_ rfl) | exact R_empty_ (Nat.le_refl _) (blk_alloc (new_at_ rfl) _) | exact R_empty_ (by omega) (new_at_ (by simp)) | exact R_empty_ (Nat.le_succ _) (new_at_ (heap_size_ _ _))); (case aB => repeat (first | exact Below.refl _ _ | apply below_drew | apply below_alloc)); (case aS => exact Below.size (by repeat (first | exact Below.refl _ _ | apply below_drew | apply below_alloc))); (case aR => exact Kd.C_below HT.out (by repeat (first | exact Below.refl _ _ | apply below_drew | apply below_alloc))); (case aL => have h1 := HJL.out; simp only [List.length_nil]; omega); intro v1 w1 ho hb hg hat; (first | (have bk_ := Aside0.mk ((hg.block (wc.heap.size + 1) (blk_lt HXB.out) (fun e_ => by have e2_ := Option.some.inj (show some (wc.heap.size + 1) = some wc.heap.size from e_); omega)).trans HXB.out)) | (have bk_ := Aside0.mk ((hg.block wc.heap.size (blk_lt HXC.out) (fun e_ => by have e2_ := Option.some.inj (show some wc.heap.size = some (wc.heap.size + 1) from e_); omega)).trans HXC.out)) | skip); have HO41 := Aside0.mk ho; have HB41 := Aside0.mk hb; have y0_ := (hb.cell (World.block_lt_of_cell? wc _ hz0)).trans hz0; have y1_ := (hb.cell (World.block_lt_of_cell? wc _ hz1)).trans hz1; have y2_ := (hb.cell (World.block_lt_of_cell? wc _ hz2)).trans hz2; have y3_ := (hb.cell (World.block_lt_of_cell? wc _ hz3)).trans hz3; clear ho hb hg hat) | (refine Kd.R_append_rows_step k26 (w0 := wc) wc.heap.size (by rfl) (.tmp 41) (.tmp 46) 32 26 (.agg #[(.string (⟨#[]⟩ : ByteArray)), (.int .i64 0), (.int .i64 0), (.int .i64 0)]) 40 rfl Tryd.underlying32 info26 rfl (by decide) (by omega) _ ([] ++ rows.take j) [x] _ _ _ (fun _ => True) (fun _ => False) rfl rfl ?aO ?aR (fun _ _ h => h) (fun _ h => h.elim) (fun _ _ => trivial) ?aB ?aS ?aL ?_; (case aO => ((with_reducible repeat (first | apply Kd.R_alloc | apply Kd.R_drewN | apply Kd.R_drew)); exact HO41.out)); (case aB => repeat (first | exact HB41.out | exact Below.refl _ _ | apply below_drew | apply below_alloc)); (case aS => exact Below.size (B := wc.heap.size) (w := wc) (by repeat (first | exact HB41.out | exact Below.refl _ _ | apply below_drew | apply below_alloc))); (case aR => first | exact one_row_ bk_.out | exact one_row_ (new_at_ rfl) | fail); (case aL => have h1 := HJL.out; have h2 := HJ3.out; simp only [List.length_append, List.length_nil]; omega); intro v2 w2 ho hb hg hat; have HO47 := Aside0.mk ho; have HB47 := Aside0.mk hb; clear ho hb hg hat) | (refine Kd.R_append_rows_step k26 (w0 := wc) wc.heap.size (by rfl) (.tmp 47) (.tmp 50) 32 26 (.agg #[(.string (⟨#[]⟩ : ByteArray)), (.int .i64 0), (.int .i64 0), (.int .i64 0)]) 40 rfl Tryd.underlying32 info26 rfl (by decide) (by omega) _ ([] ++ rows.take j ++ [x]) (rows.drop j) _ _ _ (fun _ => True) (fun _ => False) rfl rfl ?aO ?aR (fun _ _ h => h) (fun _ h => h.elim) (fun _ _ => trivial) ?aB ?aS ?aL ?_; (case aO => ((with_reducible repeat (first | apply Kd.R_alloc | apply Kd.R_drewN | apply Kd.R_drew)); exact HO47.out)); (case aB => repeat (first | exact HB47.out | exact Below.refl _ _ | apply below_drew | apply below_alloc)); (case aS => exact Below.size (B := wc.heap.size) (w := wc) (by repeat (first | exact HB47.out | exact Below.refl _ _ | apply below_drew | apply below_alloc))); (case aR => exact Kd.C_below HD.out (by repeat (first | exact HB47.out | exact Below.refl _ _ | apply below_drew | apply below_alloc))); (case aL => have h1 := HJL.out; have h2 := HJ3.out; simp only [List.length_append, List.length_nil, List.length_singleton]; omega); intro v3 w3 ho hb hg hat; have HO51 := Aside0.mk ho; have HB51 := Aside0.mk hb; clear ho hb hg hat))
       all_goals (go_wp2; go_roundg (l0.length - (kk + 1)))
       all_goals first | (have := HG.out; omega) | exact ⟨kk + 1, by omega, by omega, by go_num, ⟨by rw [← HFIN.out]; exact Kd.R_lower HO51.out HSZ.out⟩, ⟨below_step HBC.out HB51.out⟩⟩
   ·
    have hltz : ¬ (kk : Int) < (l0.length : Int) := by omega
    have hkl : kk = l0.length := by omega
    have hrl0 : ranked (befB_ a1) (l0.take kk) = ranked (befB_ a1) l0 := by rw [hkl, List.take_length]
    have HO2 := HO.out
    rw [hrl0] at HO2
    have HLEN := Aside0.mk (ranked_len (befB_ a1) l0)
    have HW := Aside0.mk (below_step HB6.out BW.out)
    have HN6 := Aside0.mk (Kd.R_below HO6.out BW.out)
    clear HO hrl0
    obtain ⟨W0, hW0⟩ : ∃ W0, W0 = wr := ⟨_, rfl⟩
    subst hW0
    obtain ⟨A, cap, hv, hcapl, hC⟩ := Kd.R_reads HO2
    subst hv
    have HC := Aside0.mk hC
    have HRD := Aside0.mk HO2
    clear hC hcapl HO2
    have HDD : Aside0 (∃ D, D = ranked (befB_ a1) l0) := ⟨_, rfl⟩
    obtain ⟨D, hD⟩ := HDD.out
    rw [← hD] at HC HLEN HRD
    have HDE := Aside0.mk hD
    clear hD HDD
    have hDL : D.length ≤ 1000 := by have h1 := HLEN.out; have h2 := HL.out; omega
    have hrows : (ranked (befB_ a1) l0).length = D.length := by rw [HDE.out]
    rw [hrows]
    clear hrows HC
    go_wp2
    go_loopg [6, 9] D.length (fun gg v6 v9 wi => ∃ j : Nat, j ≤ D.length ∧ D.length - j ≤ gg ∧ v9 = .int .i64 j ∧ Aside0 (Kd.R Kd.string 9 wi w.heap.size (fun _ => True) v6 ((D.take j).map (fun x => x.f0))) ∧ Aside0 (Kd.R k26 26 wi w.heap.size (fun _ => True) (.slice A D.length cap) D) ∧ Aside0 (Below w.heap.size w wi))
    case atStart => exact ⟨0, Nat.zero_le _, by omega, rfl, HN6, HRD, HW⟩
    case round =>
     obtain ⟨j, hj, hg2, rfl, HNi, HRi, HBi⟩ := hrel
     by_cases hlt2 : j < D.length
     ·
      have hlt2z : (j : Int) < (D.length : Int) := by omega
      have hj0 : (0 : Int) ≤ (j : Int) := by omega
      obtain ⟨ad, e0, hx0, hx1, hx2, hx3⟩ := at_T26 (Kd.R_reads' HRi.out).2.2 (j : Int) hj0 hlt2z
      have hn : (D.take (j + 1)).map (fun x => x.f0) = (D.take j).map (fun x => x.f0) ++ [(rd_T26 D (j : Int)).f0] := by
       rw [List.take_add_one, List.getElem?_eq_getElem hlt2, List.map_append]
       show _ ++ [D[j].f0] = _ ++ [(D.getD (j : Int).toNat _).f0]
       rw [Int.toNat_natCast, List.getD_eq_getElem?_getD, List.getElem?_eq_getElem hlt2]
       rfl
      have HNn := Aside0.mk hn
      have HG := Aside0.mk hg2
      have hlk : ((D.take j).map (fun x => x.f0)).length ≤ 1000 := by rw [List.length_map, List.length_take]; omega
      have HK := Aside0.mk hlk
      have HJ := Aside0.mk hlt2
      clear hn hg2 hlk
      generalize (D.take j).map (fun x => x.f0) = xs at HNi HNn HK
      generalize rd_T26 D (j : Int) = y at hx0 hx1 hx2 hx3 HNn
      subst e0
      rw [Int.toNat_natCast] at hx0 hx1 hx2 hx3
      go_wp2_with ((with_reducible refine gate_builtin (b := .append) (xs := #[.tmp 58, .tmp 64]) rfl ?_); at_builtin; refine Kd.R_append Kd.string (w0 := w) w.heap.size rfl (.tmp 58) (.tmp 64) 38 9 (.string ⟨#[]⟩) 16 rfl Tryd.underlying38 info9 rfl (by decide) (by omega) u6 xs y.f0 [.string y.f0] (fun _ => True) (fun _ => False) rfl (by first | (go_simp; done) | (go_simp; rfl)) ?aP (fun _ hk => hk.elim) ?aF ?aO ?aB ?aS ?aL ?_; (case aP => exact rfl); (case aB => exact HBi.out); (case aF => exact (fun _ _ => trivial)); (case aO => exact HNi.out); (case aS => exact below_size HBi.out); (case aL => have := HK.out; omega); intro v217 w17 ho hb hg hat; have HO2 := Aside0.mk ho; have HB2' := Aside0.mk hb; have HR2' := Aside0.mk (Kd.R_mono (Kd.R_grown (own_apart_ HRi.out HNi.out) hg (fun _ hk => hk)) (fun _ _ => trivial)); clear ho hb hg hat)
      go_roundg (D.length - (j + 1))
      case measure => have := HG.out; omega
      case rel => exact ⟨j + 1, by omega, by omega, by go_num, ⟨by rw [HNn.out]; exact HO2.out⟩, HR2', HB2'⟩
     ·
      have hlt2z : ¬ (j : Int) < (D.length : Int) := by omega
      have hjl : j = D.length := by omega
      go_wp2
      go_ret
      refine ⟨_, rfl, ?_, HBi.out⟩
      have ho := HNi.out
      rw [hjl, List.take_length, HDE.out] at ho
      exact ho
 ·
  rw [if_neg hl] at h
  cases h
def spec_RankByLength.f (k : Nat) (l0 : List (S26)) : Option (List ByteArray × Bool) := (spec_l26Good.f k l0).bind fun t469 => (if t469 = true then ((spec_l26Rank.f l0 false).bind fun t470 => (some (t470, true))) else (some ((([] : List ByteArray)), false)))
set_option maxHeartbeats 8000000 in
set_option maxRecDepth 100000 in
theorem spec_RankByLength.calls (k : Nat) (A0 : Option Addr) (c0 : Nat) (l0 : List (S26)) (r1 : List ByteArray) (r2 : Bool) (w : World) (hr0 : Kd.C k26 w A0 l0.length l0) (hc0 : l0.length ≤ c0) (h : spec_RankByLength.f k l0 = some (r1, r2)) :
  Calls Tryd.prog 39 #[.slice A0 l0.length c0] w fun e w' => ∃ v0_ : Value, e = .returned (.tuple #[v0_, .bool r2]) ∧ Kd.R Kd.string 9 w' w.heap.size (fun _ => True) v0_ r1 ∧ Below w.heap.size w w' := by
 have HR0 := Aside0.mk hr0
 have HC0 := Aside0.mk hc0
 clear hr0 hc0
 have HB := Aside0.mk (Below.refl w.heap.size w)
 have H : ((spec_l26Good.f k l0).bind fun t469 => (if t469 = true then ((spec_l26Rank.f l0 false).bind fun t470 => (some (t470, true))) else (some ((([] : List ByteArray)), false)))) = some (r1, r2) := h
 clear h
 replace H := Option.bind_eq_some_iff.mp H
 obtain ⟨t469, A20, H⟩ := H
 replace H : (if t469 = true then ((spec_l26Rank.f l0 false).bind fun t470 => (some (t470, true))) else (some ((([] : List ByteArray)), false))) = some (r1, r2) := H
 have A2 := Aside0.mk A20
 clear A20
 by_cases c3 : t469 = true
 ·
  subst c3
  have H1 : ((spec_l26Rank.f l0 false).bind fun t470 => (some (t470, true))) = some (r1, r2) := by rw [if_pos rfl] at H; exact H
  clear H
  have H := H1
  clear H1
  replace H := Option.bind_eq_some_iff.mp H
  obtain ⟨t470, A40, H⟩ := H
  replace H : (some (t470, true)) = some (r1, r2) := H
  have A4 := Aside0.mk A40
  clear A40
  simp only [Option.some.injEq, Prod.mk.injEq] at H
  obtain ⟨rfl, rfl⟩ := H
  go_enter Tryd.func39, Tryd.ntmps39
  go_wp2_with (first | ((with_reducible refine gate_callee (f := 58) rfl ?_); refine ga_ (some 5) Tryd.func58 #[.slice A0 l0.length c0] ?_; (with_reducible refine (spec_l26Good.calls k _ _ l0 true _ ?side1 ?side2 A2.out).mono ?_); (case side1 => exact kc_ HR0.out); (case side2 => exact HC0.out); rintro e w5 ⟨rfl, hb⟩; refine ⟨_, rfl, ?_⟩; have n0_ := Aside0.mk (below_step (lb0_ HB.out) hb); clear HB; have HB := n0_; clear n0_; (try clear hb); (try clear hb2); (try clear hk); (try clear hi)) | ((with_reducible refine gate_callee (f := 72) rfl ?_); refine ga_ (some 9) Tryd.func72 #[.slice A0 l0.length c0, .bool false] ?_; (with_reducible refine (spec_l26Rank.calls _ _ l0 false t470 _ ?side1 ?side2 A4.out).mono ?_); (case side1 => exact kc_ (Kd.C_below HR0.out HB.out)); (case side2 => exact HC0.out); rintro e w6 ⟨v471, rfl, ho0, hb⟩; refine ⟨_, rfl, ?_⟩; have n0_ := Aside0.mk (Kd.R_lower ho0 (below_size (lb0_ HB.out))); have n1_ := Aside0.mk (below_step (lb0_ HB.out) hb); clear HB; have HO472 := n0_; have HB := n1_; clear n0_ n1_; (try clear hb); (try clear hb2); (try clear hk); (try clear hi); (try clear ho0)))
  go_ret2
  exact ⟨_, rr_, kr_ HO472.out, lb0_ HB.out⟩
 ·
  replace c3 := Bool.eq_false_iff.mpr c3
  subst c3
  have H1 : (some ((([] : List ByteArray)), false)) = some (r1, r2) := by rw [if_neg (show ¬ (false = true) by decide)] at H; exact H
  clear H
  have H := H1
  clear H1
  obtain ⟨y473, hy473⟩ : ∃ y_ : List ByteArray, y_ = (([] : List ByteArray)) := ⟨_, rfl⟩
  replace H : (some (y473, false)) = some (r1, r2) := by first | (rw [hy473]; with_reducible exact H) | (have H2_ := (Option.bind_some _ _).symm.trans H; rw [hy473]; with_reducible exact H2_) | (have H2_ := (Option.bind_some _ _).symm.trans H; with_reducible exact H2_) | with_reducible exact H | (rw [hy473]; exact H) | exact H
  have Ny473 := Aside0.mk hy473
  clear hy473
  simp only [Option.some.injEq, Prod.mk.injEq] at H
  obtain ⟨rfl, rfl⟩ := H
  go_enter Tryd.func39, Tryd.ntmps39
  go_wp2_with (first | ((with_reducible refine gate_callee (f := 58) rfl ?_); refine ga_ (some 5) Tryd.func58 #[.slice A0 l0.length c0] ?_; (with_reducible refine (spec_l26Good.calls k _ _ l0 false _ ?side1 ?side2 A2.out).mono ?_); (case side1 => exact kc_ HR0.out); (case side2 => exact HC0.out); rintro e w7 ⟨rfl, hb⟩; refine ⟨_, rfl, ?_⟩; have n0_ := Aside0.mk (below_step (lb0_ HB.out) hb); clear HB; have HB := n0_; clear n0_; (try clear hb); (try clear hb2); (try clear hk); (try clear hi)) | ((with_reducible refine gate_dst (N := 7) rfl ?_); refine Kd.R_lit Kd.string _ 9 ?hg (N := 7) ?hd (xs := ([] : List ByteArray)) (inner := []) (ok := fun _ => True) (okp := fun _ => True) ?hr ?hp (fun _ hk => hk) trivial (Below.refl _ _) (Nat.le_refl _) (by simp) ?_; (case hd => rfl); (case hg => rfl); (case hr => first | (go_simp; done) | (go_simp; rfl)); (case hp => exact (Reps.none _ _)); intro v474 w8 ho9 hb hg_ hnew_; clear hg_ hnew_; (first | rw [← Ny473.out] at ho9 | (simp only [Int.reduceToNat] at ho9; rw [← Ny473.out] at ho9)); have n0_ := Aside0.mk (Kd.R_lower ho9 (below_size (lb0_ HB.out))); have n1_ := Aside0.mk (below_step (lb0_ HB.out) hb); clear HB; have HO475 := n0_; have HB := n1_; clear n0_ n1_; clear hb ho9))
  go_ret2
  exact ⟨_, rr_, kr_ HO475.out, lb0_ HB.out⟩
instance inhRow_ : Inhabited S26 := ⟨z26⟩
def encR_ (x : S26) : List Value := [.string x.f0, .int .i64 x.f1, .int .i64 x.f2, .int .i64 x.f3]
def cmpI_ (x y : Int) : Int := if x < y then -1 else if y < x then 1 else 0
theorem isNaN_c (x : Int) (w : World) : Calls Tryd.prog 97 #[.int .i64 x] w fun e w' => e = .returned (.bool false) ∧ w' = w := by
 go_enter Tryd.func97, Tryd.ntmps97
 go_wp2
 go_ret
 exact ⟨rfl, rfl⟩
theorem cmp_c (x y : Int) (w : World) : Calls Tryd.prog 75 #[.int .i64 x, .int .i64 y] w fun e w' => e = .returned (.int .i64 (cmpI_ x y)) ∧ w' = w := by
 unfold cmpI_
 by_cases c : x < y
 ·
  rw [if_pos c]
  have cb : decide (x < y) = true := decide_eq_true c
  go_enter Tryd.func75, Tryd.ntmps75
  go_wp2_with (go_at_call 97; refine (isNaN_c _ _).mono ?_; rintro e w1 ⟨rfl, rfl⟩)
  go_ret
  exact ⟨rfl, rfl⟩
 ·
  rw [if_neg c]
  have cb : decide (x < y) = false := decide_eq_false c
  by_cases c2 : y < x
  ·
   rw [if_pos c2]
   have cb2 : decide (y < x) = true := decide_eq_true c2
   go_enter Tryd.func75, Tryd.ntmps75
   go_wp2_with (go_at_call 97; refine (isNaN_c _ _).mono ?_; rintro e w1 ⟨rfl, rfl⟩)
   go_ret
   exact ⟨rfl, rfl⟩
  ·
   rw [if_neg c2]
   have cb2 : decide (y < x) = false := decide_eq_false c2
   go_enter Tryd.func75, Tryd.ntmps75
   go_wp2_with (go_at_call 97; refine (isNaN_c _ _).mono ?_; rintro e w1 ⟨rfl, rfl⟩)
   go_ret
   exact ⟨rfl, rfl⟩
theorem grow_two_ (w : World) (a b : Obj) : (w.alloc a).alloc b = Go.Sort.grow (w.drewN 0) #[a, b] := by
 show ({ w with heap := (w.heap.push a).push b } : World) = { w.drewN 0 with heap := w.heap ++ #[a, b] }
 have : (w.heap.push a).push b = w.heap ++ #[a, b] := by
  apply Array.ext'
  simp
 rw [this]
 rfl
theorem rankL_c (x y : S26) (w : World) : Calls Tryd.prog 74 #[.agg (encR_ x).toArray, .agg (encR_ y).toArray] w fun e w' => e = .returned (.int .i64 (cmpI_ y.f1 x.f1)) ∧ ∃ q os, w' = Go.Sort.grow (w.drewN q) os := by
 show Calls Tryd.prog 74 #[.agg #[.string x.f0, .int .i64 x.f1, .int .i64 x.f2, .int .i64 x.f3], .agg #[.string y.f0, .int .i64 y.f1, .int .i64 y.f2, .int .i64 y.f3]] w _
 go_enter Tryd.func74, Tryd.ntmps74
 go_wp2_with (go_at_call 75; refine (cmp_c _ _ _).mono ?_; rintro e w1 ⟨rfl, rfl⟩)
 go_ret
 exact ⟨rfl, 0, _, grow_two_ w _ _⟩
theorem ins0_c (p : Option Addr) (cap : Nat) (fv : Value) (w : World) : Calls Tryd.prog 118 #[.slice p 0 cap, .int .i64 0, .int .i64 0, fv] w fun e w' => e = .returned (.tuple #[]) ∧ w' = w := by
 go_enter Tryd.func118, Tryd.ntmps118
 go_wp2
 go_loopg [8] 0 (fun gg v8 wr => v8 = .int .i64 1 ∧ wr = w)
 case atStart => exact ⟨rfl, rfl⟩
 case round =>
  obtain ⟨rfl, rfl⟩ := hrel
  go_wp2
  go_end0
  exact ⟨rfl, rfl⟩
theorem stab_c (v fv : Value) (n : Nat) (hn : n ≤ 19) (w : World) (Q : World → Prop) (hins : Calls Tryd.prog 118 #[v, .int .i64 0, .int .i64 n, fv] w fun e w' => e = .returned (.tuple #[]) ∧ Q w') :
  Calls Tryd.prog 111 #[v, .int .i64 n, fv] w fun e w' => e = .returned (.tuple #[]) ∧ Q w' := by
 have c1 : ¬ (20 : Int) ≤ (n : Int) := by omega
 have c2 : ¬ (20 : Int) < (n : Int) := by omega
 go_enter Tryd.func111, Tryd.ntmps111
 go_wp2
 go_loopg [7, 8] 0 (fun gg v7 v8 wr => v7 = .int .i64 0 ∧ v8 = .int .i64 20 ∧ wr = w)
 case atStart => exact ⟨rfl, rfl, rfl⟩
 case round =>
  obtain ⟨rfl, rfl, rfl⟩ := hrel
  go_wp2_with (go_at_call 118; refine hins.mono ?_; rintro e w1 ⟨rfl, hq1⟩)
  go_loopg [6] 0 (fun gg v6 wr => v6 = .int .i64 20 ∧ wr = w1)
  case atStart => exact ⟨rfl, rfl⟩
  case round =>
   obtain ⟨rfl, rfl⟩ := hrel
   go_wp2
   go_end0
   exact ⟨rfl, hq1⟩
theorem sort_c (v fv : Value) (p : Option Addr) (cap n : Nat) (hv : v = .slice p n cap) (hn : n ≤ 19) (w : World) (Q : World → Prop) (hins : Calls Tryd.prog 118 #[v, .int .i64 0, .int .i64 n, fv] w fun e w' => e = .returned (.tuple #[]) ∧ Q w') :
  Calls Tryd.prog 96 #[v, fv] w fun e w' => e = .returned (.tuple #[]) ∧ Q w' := by
 subst hv
 have h := stab_c _ fv n hn w Q hins
 clear hins
 go_enter Tryd.func96, Tryd.ntmps96
 go_wp2_with (go_at_call 111; refine h.mono ?_; rintro e w1 ⟨rfl, hq1⟩)
 go_end0
 exact ⟨rfl, hq1⟩
theorem holdsR_ {w : World} {base : Nat} {ok : Nat → Prop} {gv cap : Nat} {l : List S26} (h : Kd.R k26 26 w base ok (.slice (some ⟨gv, 0, none⟩) l.length cap) l) : Go.Sort.HoldsK encR_ 4 w gv 0 l.toArray ∧ gv < w.heap.size := by
 obtain ⟨_, inner, ho, hr⟩ := h
 have hlt := own_lt ho gv rfl
 refine ⟨?_, hlt⟩
 rcases ho.2 with ⟨h0, _⟩ | ⟨g, cap', cur, e, hb, hg, hn, hm, hs, ht⟩
 ·
  cases h0
 ·
  injection e with e1 e2 e3
  injection e1 with e1
  injection e1 with e1
  subst e1
  intro j hj
  have hj' : j < l.length * 4 := by simpa using hj
  refine ⟨?_, blk_frozen hg _⟩
  have hjl : j / 4 < l.length := by omega
  have hp := hr.2 (j / 4) l[j / 4] (List.getElem?_eq_getElem hjl)
  have hc := k26_openM hp
  have hk : inner[j]? = (encR_ l[j / 4])[j % 4]? := by
   have h1 : ((inner.drop (j / 4 * 4)).take 4)[j % 4]? = inner[j]? := by
    rw [List.getElem?_take_of_lt (by omega), List.getElem?_drop]
    congr 1
    omega
   rw [← h1]
   show ((inner.drop (j / 4 * k26.sz)).take k26.sz)[j % 4]? = _
   rw [hc]
   rfl
  rw [blk_cell hg, Nat.zero_add]
  have h2 : cur[j]? = inner[j]? := by
   rw [← ht, List.getElem?_take_of_lt (by show j < l.length * k26.sz; exact hj'), Array.getElem?_toList]
  rw [h2, hk, Go.Sort.get_flatK encR_ 4 l.toArray j (by simpa using hj')]
  have h3 : l.toArray[j / 4]! = l[j / 4] := by
   rw [getElem!_pos _ _ (by simpa using hjl)]
   simp
  rw [h3]
  have h4 : j % 4 < (encR_ l[j / 4]).length := by show j % 4 < 4; omega
  rw [List.getElem?_eq_getElem h4]
  show some _ = some ((encR_ l[j / 4])[j % 4]!)
  rw [getElem!_pos (encR_ l[j / 4]) (j % 4) h4]
theorem readR_ {w : World} {gv : Nat} {l : List S26} (hl : l.length ≤ 1000) (h : Go.Sort.HoldsK encR_ 4 w gv 0 l.toArray) : Kd.C k26 w (some ⟨gv, 0, none⟩) l.length l := by
 refine ⟨rfl, by omega, fun _ => ⟨_, rfl, fun j p hj => ?_⟩⟩
 have hjl : j < l.length := (List.getElem?_eq_some_iff.1 hj).1
 refine ⟨encR_ p, rfl, k26_mk w p, fun i u hu => ?_⟩
 have hi : i < 4 := (List.getElem?_eq_some_iff.1 hu).1
 have := (h (j * 4 + i) (by simp; omega)).1
 rw [Go.Sort.get_flatK encR_ 4 l.toArray (j * 4 + i) (by simp; omega), show (j * 4 + i) / 4 = j by omega, show (j * 4 + i) % 4 = i by omega] at this
 have h3 : l.toArray[j]! = p := by
  rw [getElem!_pos _ _ (by simpa using hjl)]
  rw [List.getElem?_eq_getElem hjl] at hj
  have hj2 := Option.some.inj hj
  simpa using hj2
 rw [h3] at this
 have h4 : (encR_ p)[i]! = u := by
  rw [getElem!_pos (encR_ p) i (by show i < 4; exact hi)]
  rw [List.getElem?_eq_getElem (by show i < 4; exact hi)] at hu
  exact Option.some.inj hu
 show w.cell? (Addr.add ⟨gv, 0, none⟩ (j * 4 + i)) = some u
 rw [Addr.add_lit, ← h4]
 exact this
theorem sort_below_ {w : World} {B gv : Nat} (hB : B ≤ gv) (hlt : gv < w.heap.size) (n : Nat) (d : Array S26) (os : Array Obj) : Below B w (sortWorldK encR_ 4 w gv 0 n d os) := by
 refine ⟨rfl, rfl, rfl, Go.Proofs.size_sortWorldK_c encR_ 4 w gv 0 n d os, fun k hk => ?_⟩
 show ((w.heap.modify gv _) ++ os)[k]? = w.heap[k]?
 rw [Array.getElem?_append_left (by rw [Array.size_modify]; omega), Array.getElem?_modify, if_neg (by omega)]
def rkF_ (cf : S26 → S26 → Int) (k : Nat) (l0 : List S26) : Option (List ByteArray × Bool) :=
 (impl_AreCaves.f k l0).bind fun t => if t = true then (if l0.length ≤ 19 then some ((ranked (ltOf cf) l0).map (fun x => x.f0), true) else none) else some ([], false)
set_option maxHeartbeats 8000000 in
set_option maxRecDepth 100000 in
theorem rk_calls (cf : S26 → S26 → Int) (g : Nat) (eg : ∀ args w, (callFunc g args).run Tryd.prog w = .ok (.enter g args) w)
  (hc : ∀ (x y : S26) (W : World), Calls Tryd.prog g #[.agg (encR_ x).toArray, .agg (encR_ y).toArray] W fun e w' => e = .returned (.int .i64 (cf x y)) ∧ ∃ q os, w' = Go.Sort.grow (W.drewN q) os)
  (k : Nat) (A0 : Option Addr) (c0 : Nat) (l0 : List S26) (r1 : List ByteArray) (r2 : Bool) (w : World) (hr0 : Kd.C k26 w A0 l0.length l0) (hc0 : l0.length ≤ c0) (h : rkF_ cf k l0 = some (r1, r2)) :
  Calls Tryd.prog 73 #[.slice A0 l0.length c0, .func (.func g) #[] #[]] w fun e w' => ∃ v0_ : Value, e = .returned (.tuple #[v0_, .bool r2]) ∧ Kd.R Kd.string 9 w' w.heap.size (fun _ => True) v0_ r1 ∧ Below w.heap.size w w' := by
 unfold rkF_ at h
 obtain ⟨t, e1, h⟩ := Option.bind_eq_some_iff.mp h
 have HR := Aside0.mk hr0
 have E1 := Aside0.mk e1
 clear hr0 e1
 cases t with
 | false =>
  rw [if_neg (by decide)] at h
  simp only [Option.some.injEq, Prod.mk.injEq] at h
  obtain ⟨rfl, rfl⟩ := h
  go_enter Tryd.func73, Tryd.ntmps73
  go_wp2_with (go_at_call 22; refine (impl_AreCaves.calls k A0 c0 l0 false _ HR.out hc0 E1.out).mono ?_; rintro e w1 ⟨rfl, hb1⟩)
  go_ret2
  exact ⟨_, rfl, Kd.R_nil _ _ _ _ _, hb1⟩
 | true =>
  rw [if_pos rfl] at h
  by_cases hl : l0.length ≤ 19
  ·
   rw [if_pos hl] at h
   simp only [Option.some.injEq, Prod.mk.injEq] at h
   obtain ⟨rfl, rfl⟩ := h
   have hlen : (ranked (ltOf cf) l0).length = l0.length := ranked_len _ _
   have hcl : impl_CaveRow_67.f l0 = some l0 := by
    unfold impl_CaveRow_67.f
    rw [if_pos (by omega)]
   have HCL := Aside0.mk hcl
   have HL := Aside0.mk hl
   have HLEN := Aside0.mk hlen
   clear hcl hl hlen
   -- the sort, whatever the row's place
   have hsort : ∀ (v : Value) (W : World) (base : Nat), Kd.R k26 26 W base (fun _ => True) v l0 → ∃ (A : Option Addr) (cap : Nat), v = .slice A l0.length cap ∧ Calls Tryd.prog 96 #[v, .func (.func g) #[] #[]] W fun e w' => e = .returned (.tuple #[]) ∧ (Below base W w' ∧ Kd.C k26 w' A l0.length (ranked (ltOf cf) l0)) := by
    intro v W base hR
    obtain ⟨inner, ho⟩ := Kd.R_own hR
    by_cases h0 : l0.length = 0
    ·
     have hn : l0 = [] := List.length_eq_zero_iff.1 h0
     subst hn
     rcases ho.2 with ⟨rfl, _⟩ | ⟨gv, cap, cur, rfl, _⟩
     ·
      refine ⟨none, 0, rfl, sort_c _ _ none 0 0 rfl (by omega) W _ ((ins0_c none 0 _ W).mono ?_)⟩
      rintro e w' ⟨rfl, rfl⟩
      exact ⟨rfl, Below.refl _ _, ⟨rfl, by decide, fun z => absurd z (by decide)⟩⟩
     ·
      refine ⟨some ⟨gv, 0, none⟩, cap, rfl, sort_c _ _ (some ⟨gv, 0, none⟩) cap 0 rfl (by omega) W _ ((ins0_c _ _ _ W).mono ?_)⟩
      rintro e w' ⟨rfl, rfl⟩
      exact ⟨rfl, Below.refl _ _, ⟨rfl, by decide, fun z => absurd z (by decide)⟩⟩
    ·
     rcases ho.2 with ⟨_, z⟩ | ⟨gv, cap, cur, rfl, hbv, _⟩
     ·
      exact absurd z h0
     ·
      obtain ⟨hH, hlt⟩ := holdsR_ hR
      have hins := AnyQ.insertionSortCmpFunc Tryd.laysIns 4 Tryd.isAgg26 Tryd.sizeOf26 encR_ (fun _ => rfl) (fun x v hv => by simp [encR_] at hv; rcases hv with rfl | rfl | rfl | rfl <;> rfl) cf g #[] gv 0 cap 0 l0.length l0.toArray W eg (fun m os dk hs x y => hc x y _) hH hlt (Nat.zero_le _) (by simp) (by have := HL.out; simp; omega)
      refine ⟨some ⟨gv, 0, none⟩, cap, rfl, sort_c _ _ (some ⟨gv, 0, none⟩) cap l0.length rfl HL.out W _ (Calls.mono (show Calls Tryd.prog 118 #[.slice (some ⟨gv, 0, none⟩) l0.length cap, .int .i64 0, .int .i64 l0.length, .func (.func g) #[] #[]] W _ from hins) ?_)⟩
      rintro e w' ⟨rfl, n, os, rfl⟩
      rw [insertionSort_eq]
      refine ⟨rfl, sort_below_ hbv hlt n _ os, ?_⟩
      have hh := holdsK_sortWorldK_c encR_ 4 W gv 0 l0.toArray (ranked (ltOf cf) l0).toArray n os hH hlt (by simpa using HLEN.out)
      rw [← HLEN.out]
      exact readR_ (by have := HL.out; have := HLEN.out; omega) hh
   generalize ranked (ltOf cf) l0 = D at hsort HLEN ⊢
   have HS := Aside0.mk hsort
   clear hsort
   go_enter Tryd.func73, Tryd.ntmps73
   go_wp2_with (first | (go_at_call 22; refine (impl_AreCaves.calls k A0 c0 l0 true _ HR.out hc0 E1.out).mono ?_; rintro e w1 ⟨rfl, hb1⟩; have HB1 := Aside0.mk hb1; clear hb1) | (go_at_call 67; refine (impl_CaveRow_67.calls A0 c0 l0 l0 _ (Kd.C_below HR.out HB1.out) hc0 HCL.out).mono ?_; rintro e w2 ⟨v, rfl, hR2, hb2⟩; obtain ⟨A, cap, hv, hsc⟩ := HS.out v w2 w1.heap.size hR2; subst hv; have HB2 := Aside0.mk (below_step HB1.out hb2); have HSC := Aside0.mk hsc; have HZ2 := Aside0.mk (HB1.out.size); clear hR2 hb2 hsc) | (go_at_call 96; refine HSC.out.mono ?_; rintro e w3 ⟨rfl, hb3, hC3⟩; have HB3 := Aside0.mk (HB2.out.trans (hb3.mono HZ2.out)); have HC3 := Aside0.mk hC3; clear hb3 hC3))
   clear HS HSC HCL
   have hL : l0.length ≤ 9223372036854775807 := by have := HL.out; omega
   go_loopg [7, 20] l0.length (fun gg v7 v20 wr => ∃ kk : Nat, kk ≤ l0.length ∧ l0.length - kk ≤ gg ∧ v20 = .int .i64 kk ∧ Aside0 (Kd.R Kd.string 9 wr w3.heap.size (fun _ => True) v7 ((D.take kk).map (fun x => x.f0))) ∧ Aside0 (Below w3.heap.size w3 wr))
   case atStart => exact ⟨0, Nat.zero_le _, by omega, rfl, ⟨Kd.R_nil _ _ _ _ _⟩, ⟨Below.refl _ w3⟩⟩
   case round =>
    obtain ⟨kk, hkk, hg, rfl, HO, BW⟩ := hrel
    by_cases hlt : kk < l0.length
    ·
     have hltz : (kk : Int) < (l0.length : Int) := by omega
     have hk0 : (0 : Int) ≤ (kk : Int) := by omega
     obtain ⟨ad, e0, hx0, hx1, hx2, hx3⟩ := at_T26 HC3.out (kk : Int) hk0 hltz
     replace hx0 := (BW.out.cell (World.block_lt_of_cell? w3 _ hx0)).trans hx0
     replace hx1 := (BW.out.cell (World.block_lt_of_cell? w3 _ hx1)).trans hx1
     replace hx2 := (BW.out.cell (World.block_lt_of_cell? w3 _ hx2)).trans hx2
     replace hx3 := (BW.out.cell (World.block_lt_of_cell? w3 _ hx3)).trans hx3
     have hn : (D.take (kk + 1)).map (fun x => x.f0) = (D.take kk).map (fun x => x.f0) ++ [(rd_T26 D (kk : Int)).f0] := by
      have hkd : kk < D.length := by have := HLEN.out; omega
      rw [List.take_add_one, List.getElem?_eq_getElem hkd, List.map_append]
      show _ ++ [D[kk].f0] = _ ++ [(D.getD (kk : Int).toNat _).f0]
      rw [Int.toNat_natCast, List.getD_eq_getElem?_getD, List.getElem?_eq_getElem hkd]
      rfl
     have HN := Aside0.mk hn
     have HG := Aside0.mk hg
     have hlk : ((D.take kk).map (fun x => x.f0)).length < 8796093022208 := by rw [List.length_map, List.length_take]; have := HL.out; omega
     have HK := Aside0.mk hlk
     clear hn hg hlk
     generalize (D.take kk).map (fun x => x.f0) = xs at HO HN HK
     generalize rd_T26 D (kk : Int) = y at hx0 hx1 hx2 hx3 HN
     subst e0
     rw [Int.toNat_natCast] at hx0 hx1 hx2 hx3
     go_wp2_with ((with_reducible refine gate_builtin (b := .append) (xs := #[.tmp 24, .tmp 27]) rfl ?_); at_builtin; refine Kd.R_append Kd.string (w0 := w3) w3.heap.size rfl (.tmp 24) (.tmp 27) 38 9 (.string ⟨#[]⟩) 16 rfl Tryd.underlying38 info9 rfl (by decide) (by omega) u7 xs y.f0 [.string y.f0] (fun _ => True) (fun _ => False) rfl (by first | (go_simp; done) | (go_simp; rfl)) ?aP (fun _ hk => hk.elim) ?aF ?aO ?aB ?aS ?aL ?_; (case aP => exact rfl); (case aB => exact (by repeat (first | (with_reducible first | exact BW.out | apply below_alloc) | exact BW.out))); (case aF => exact (fun _ _ => trivial)); (case aO => exact (kr_ HO.out)); (case aS => exact (below_size (by repeat (first | (with_reducible first | exact BW.out | apply below_alloc) | exact BW.out)))); (case aL => have := HK.out; omega); intro v217 w17 ho hb hg hat; have HO2 := Aside0.mk ho; have HB2' := Aside0.mk hb; clear ho hb hg hat)
     go_roundg (l0.length - (kk + 1))
     case measure => have := HG.out; omega
     case rel => exact ⟨kk + 1, by omega, by omega, by go_num, ⟨by rw [HN.out]; exact HO2.out⟩, HB2'⟩
    ·
     have hltz : ¬ (kk : Int) < (l0.length : Int) := by omega
     have hkl : kk = D.length := by have := HLEN.out; omega
     go_wp2
     go_ret2
     refine ⟨_, rfl, Kd.R_lower ?_ HB3.out.size, below_step HB3.out BW.out⟩
     have ho := HO.out
     rw [hkl, List.take_length] at ho
     exact ho
  ·
   rw [if_neg hl] at h
   cases h
def impl_RankByLength.f (k : Nat) (l0 : List S26) : Option (List ByteArray × Bool) := rkF_ (fun x y => cmpI_ y.f1 x.f1) k l0
set_option maxHeartbeats 4000000 in
set_option maxRecDepth 100000 in
theorem impl_RankByLength.calls (k : Nat) (A0 : Option Addr) (c0 : Nat) (l0 : List S26) (r1 : List ByteArray) (r2 : Bool) (w : World) (hr0 : Kd.C k26 w A0 l0.length l0) (hc0 : l0.length ≤ c0) (h : impl_RankByLength.f k l0 = some (r1, r2)) :
  Calls Tryd.prog 40 #[.slice A0 l0.length c0] w fun e w' => ∃ v0_ : Value, e = .returned (.tuple #[v0_, .bool r2]) ∧ Kd.R Kd.string 9 w' w.heap.size (fun _ => True) v0_ r1 ∧ Below w.heap.size w w' := by
 have hcall := rk_calls (fun x y => cmpI_ y.f1 x.f1) 74 (fun _ _ => rfl) rankL_c k A0 c0 l0 r1 r2 w hr0 hc0 h
 have HC := Aside0.mk hcall
 clear hcall hr0 h
 go_enter Tryd.func40, Tryd.ntmps40
 go_wp2_with (go_at_call 73; refine HC.out.mono ?_; rintro e w1 ⟨v, rfl, hR, hb⟩)
 go_ret2
 exact ⟨_, rfl, hR, hb⟩
def spec_RankByDepth.f (k : Nat) (l0 : List (S26)) : Option (List ByteArray × Bool) := (spec_l26Good.f k l0).bind fun t529 => (if t529 = true then ((spec_l26Rank.f l0 true).bind fun t530 => (some (t530, true))) else (some ((([] : List ByteArray)), false)))
set_option maxHeartbeats 8000000 in
set_option maxRecDepth 100000 in
theorem spec_RankByDepth.calls (k : Nat) (A0 : Option Addr) (c0 : Nat) (l0 : List (S26)) (r1 : List ByteArray) (r2 : Bool) (w : World) (hr0 : Kd.C k26 w A0 l0.length l0) (hc0 : l0.length ≤ c0) (h : spec_RankByDepth.f k l0 = some (r1, r2)) :
  Calls Tryd.prog 43 #[.slice A0 l0.length c0] w fun e w' => ∃ v0_ : Value, e = .returned (.tuple #[v0_, .bool r2]) ∧ Kd.R Kd.string 9 w' w.heap.size (fun _ => True) v0_ r1 ∧ Below w.heap.size w w' := by
 have HR0 := Aside0.mk hr0
 have HC0 := Aside0.mk hc0
 clear hr0 hc0
 have HB := Aside0.mk (Below.refl w.heap.size w)
 have H : ((spec_l26Good.f k l0).bind fun t529 => (if t529 = true then ((spec_l26Rank.f l0 true).bind fun t530 => (some (t530, true))) else (some ((([] : List ByteArray)), false)))) = some (r1, r2) := h
 clear h
 replace H := Option.bind_eq_some_iff.mp H
 obtain ⟨t529, A20, H⟩ := H
 replace H : (if t529 = true then ((spec_l26Rank.f l0 true).bind fun t530 => (some (t530, true))) else (some ((([] : List ByteArray)), false))) = some (r1, r2) := H
 have A2 := Aside0.mk A20
 clear A20
 by_cases c3 : t529 = true
 ·
  subst c3
  have H1 : ((spec_l26Rank.f l0 true).bind fun t530 => (some (t530, true))) = some (r1, r2) := by rw [if_pos rfl] at H; exact H
  clear H
  have H := H1
  clear H1
  replace H := Option.bind_eq_some_iff.mp H
  obtain ⟨t530, A40, H⟩ := H
  replace H : (some (t530, true)) = some (r1, r2) := H
  have A4 := Aside0.mk A40
  clear A40
  simp only [Option.some.injEq, Prod.mk.injEq] at H
  obtain ⟨rfl, rfl⟩ := H
  go_enter Tryd.func43, Tryd.ntmps43
  go_wp2_with (first | ((with_reducible refine gate_callee (f := 58) rfl ?_); refine ga_ (some 5) Tryd.func58 #[.slice A0 l0.length c0] ?_; (with_reducible refine (spec_l26Good.calls k _ _ l0 true _ ?side1 ?side2 A2.out).mono ?_); (case side1 => exact kc_ HR0.out); (case side2 => exact HC0.out); rintro e w5 ⟨rfl, hb⟩; refine ⟨_, rfl, ?_⟩; have n0_ := Aside0.mk (below_step (lb0_ HB.out) hb); clear HB; have HB := n0_; clear n0_; (try clear hb); (try clear hb2); (try clear hk); (try clear hi)) | ((with_reducible refine gate_callee (f := 72) rfl ?_); refine ga_ (some 9) Tryd.func72 #[.slice A0 l0.length c0, .bool true] ?_; (with_reducible refine (spec_l26Rank.calls _ _ l0 true t530 _ ?side1 ?side2 A4.out).mono ?_); (case side1 => exact kc_ (Kd.C_below HR0.out HB.out)); (case side2 => exact HC0.out); rintro e w6 ⟨v531, rfl, ho0, hb⟩; refine ⟨_, rfl, ?_⟩; have n0_ := Aside0.mk (Kd.R_lower ho0 (below_size (lb0_ HB.out))); have n1_ := Aside0.mk (below_step (lb0_ HB.out) hb); clear HB; have HO532 := n0_; have HB := n1_; clear n0_ n1_; (try clear hb); (try clear hb2); (try clear hk); (try clear hi); (try clear ho0)))
  go_ret2
  exact ⟨_, rr_, kr_ HO532.out, lb0_ HB.out⟩
 ·
  replace c3 := Bool.eq_false_iff.mpr c3
  subst c3
  have H1 : (some ((([] : List ByteArray)), false)) = some (r1, r2) := by rw [if_neg (show ¬ (false = true) by decide)] at H; exact H
  clear H
  have H := H1
  clear H1
  obtain ⟨y533, hy533⟩ : ∃ y_ : List ByteArray, y_ = (([] : List ByteArray)) := ⟨_, rfl⟩
  replace H : (some (y533, false)) = some (r1, r2) := by first | (rw [hy533]; with_reducible exact H) | (have H2_ := (Option.bind_some _ _).symm.trans H; rw [hy533]; with_reducible exact H2_) | (have H2_ := (Option.bind_some _ _).symm.trans H; with_reducible exact H2_) | with_reducible exact H | (rw [hy533]; exact H) | exact H
  have Ny533 := Aside0.mk hy533
  clear hy533
  simp only [Option.some.injEq, Prod.mk.injEq] at H
  obtain ⟨rfl, rfl⟩ := H
  go_enter Tryd.func43, Tryd.ntmps43
  go_wp2_with (first | ((with_reducible refine gate_callee (f := 58) rfl ?_); refine ga_ (some 5) Tryd.func58 #[.slice A0 l0.length c0] ?_; (with_reducible refine (spec_l26Good.calls k _ _ l0 false _ ?side1 ?side2 A2.out).mono ?_); (case side1 => exact kc_ HR0.out); (case side2 => exact HC0.out); rintro e w7 ⟨rfl, hb⟩; refine ⟨_, rfl, ?_⟩; have n0_ := Aside0.mk (below_step (lb0_ HB.out) hb); clear HB; have HB := n0_; clear n0_; (try clear hb); (try clear hb2); (try clear hk); (try clear hi)) | ((with_reducible refine gate_dst (N := 7) rfl ?_); refine Kd.R_lit Kd.string _ 9 ?hg (N := 7) ?hd (xs := ([] : List ByteArray)) (inner := []) (ok := fun _ => True) (okp := fun _ => True) ?hr ?hp (fun _ hk => hk) trivial (Below.refl _ _) (Nat.le_refl _) (by simp) ?_; (case hd => rfl); (case hg => rfl); (case hr => first | (go_simp; done) | (go_simp; rfl)); (case hp => exact (Reps.none _ _)); intro v534 w8 ho9 hb hg_ hnew_; clear hg_ hnew_; (first | rw [← Ny533.out] at ho9 | (simp only [Int.reduceToNat] at ho9; rw [← Ny533.out] at ho9)); have n0_ := Aside0.mk (Kd.R_lower ho9 (below_size (lb0_ HB.out))); have n1_ := Aside0.mk (below_step (lb0_ HB.out) hb); clear HB; have HO535 := n0_; have HB := n1_; clear n0_ n1_; clear hb ho9))
  go_ret2
  exact ⟨_, rr_, kr_ HO535.out, lb0_ HB.out⟩
def orI_ (a b : Int) : Int := if a = 0 then b else a
set_option maxHeartbeats 4000000 in
theorem or_c (g cap : Nat) (a b : Int) (w : World) (h0 : w.cell? ⟨g, 0, none⟩ = some (.int .i64 a)) (h1 : w.cell? ⟨g, 1, none⟩ = some (.int .i64 b)) :
  Calls Tryd.prog 79 #[.slice (some ⟨g, 0, none⟩) 2 cap] w fun e w' => e = .returned (.int .i64 (orI_ a b)) ∧ w' = w := by
 unfold orI_
 go_enter Tryd.func79, Tryd.ntmps79
 go_wp2
 go_loopg [8] 2 (fun gg v8 wr => wr = w ∧ ((v8 = .int .i64 0 ∧ 2 ≤ gg) ∨ (v8 = .int .i64 1 ∧ a = 0 ∧ 1 ≤ gg) ∨ (v8 = .int .i64 2 ∧ a = 0 ∧ b = 0)))
 case atStart => exact ⟨rfl, .inl ⟨rfl, Nat.le_refl _⟩⟩
 case round =>
  obtain ⟨rfl, h | h | h⟩ := hrel
  ·
   obtain ⟨rfl, hg⟩ := h
   by_cases c : a = 0
   ·
    subst c
    go_wp2
    go_roundg 1
    case measure => omega
    case rel => exact ⟨by trivial, .inr (.inl ⟨by go_num, by trivial, Nat.le_refl _⟩)⟩
   ·
    have c2 : (decide (a = 0)) = false := decide_eq_false c
    go_wp2
    go_ret
    first | exact ⟨rfl, rfl⟩ | exact ⟨by rw [if_neg c], rfl⟩
  ·
   obtain ⟨rfl, rfl, hg⟩ := h
   by_cases c : b = 0
   ·
    subst c
    go_wp2
    go_roundg 0
    case measure => omega
    case rel => exact ⟨by trivial, .inr (.inr ⟨by go_num, by trivial, by trivial⟩)⟩
   ·
    have c2 : (decide (b = 0)) = false := decide_eq_false c
    go_wp2
    go_ret
    first | exact ⟨rfl, rfl⟩ | exact ⟨by rw [if_pos rfl], rfl⟩
  ·
   obtain ⟨rfl, rfl, rfl⟩ := h
   go_wp2
   go_ret
   exact ⟨rfl, rfl⟩
theorem or_new_c (g : Nat) (a b : Int) (W : World) (hg : W.heap.size = g) : Calls Tryd.prog 79 #[.slice (some ⟨g, 0, none⟩) 2 2] (W.alloc (.cells #[.int .i64 a, .int .i64 b] 3)) fun e w' => e = .returned (.int .i64 (orI_ a b)) ∧ w' = W.alloc (.cells #[.int .i64 a, .int .i64 b] 3) := by
 subst hg
 have hb := heap_new_ W #[.int .i64 a, .int .i64 b] 3
 exact or_c W.heap.size 2 a b _ ((blk_cell hb 0).trans rfl) ((blk_cell hb 1).trans rfl)
theorem grow_three_ (w : World) (a b c : Obj) : (((w.alloc a).alloc b).drew).alloc c = Go.Sort.grow (w.drewN 1) #[a, b, c] := by
 have : ((w.heap.push a).push b).push c = w.heap ++ #[a, b, c] := by
  apply Array.ext'
  simp
 show ({ w with heap := ((w.heap.push a).push b).push c, drawn := w.drawn + 1 } : World) = { w.drewN 1 with heap := w.heap ++ #[a, b, c] }
 rw [this]
 rfl
set_option maxHeartbeats 4000000 in
set_option maxRecDepth 100000 in
theorem rankD_c (x y : S26) (w : World) : Calls Tryd.prog 78 #[.agg (encR_ x).toArray, .agg (encR_ y).toArray] w fun e w' => e = .returned (.int .i64 (orI_ (cmpI_ y.f2 x.f2) (cmpI_ y.f1 x.f1))) ∧ ∃ q os, w' = Go.Sort.grow (w.drewN q) os := by
 show Calls Tryd.prog 78 #[.agg #[.string x.f0, .int .i64 x.f1, .int .i64 x.f2, .int .i64 x.f3], .agg #[.string y.f0, .int .i64 y.f1, .int .i64 y.f2, .int .i64 y.f3]] w _
 go_enter Tryd.func78, Tryd.ntmps78
 go_wp2_with fail
 have hs1 : (w.alloc (.cells #[.string x.f0, .int .i64 x.f1, .int .i64 x.f2, .int .i64 x.f3] 26)).heap.size = w.heap.size + 1 := heap_size_ w _
 have hy := heap_new_ (w.alloc (.cells #[.string x.f0, .int .i64 x.f1, .int .i64 x.f2, .int .i64 x.f3] 26)) #[.string y.f0, .int .i64 y.f1, .int .i64 y.f2, .int .i64 y.f3] 26
 rw [hs1] at hy
 have hx := blk_alloc (heap_new_ w #[.string x.f0, .int .i64 x.f1, .int .i64 x.f2, .int .i64 x.f3] 26) (.cells #[.string y.f0, .int .i64 y.f1, .int .i64 y.f2, .int .i64 y.f3] 26)
 have hs2 : ((w.alloc (.cells #[.string x.f0, .int .i64 x.f1, .int .i64 x.f2, .int .i64 x.f3] 26)).alloc (.cells #[.string y.f0, .int .i64 y.f1, .int .i64 y.f2, .int .i64 y.f3] 26)).heap.size = w.heap.size + 1 + 1 := (heap_size_ _ _).trans (congrArg (· + 1) hs1)
 have hg := fun c => grow_three_ w (.cells #[.string x.f0, .int .i64 x.f1, .int .i64 x.f2, .int .i64 x.f3] 26) (.cells #[.string y.f0, .int .i64 y.f1, .int .i64 y.f2, .int .i64 y.f3] 26) c
 generalize (w.alloc (.cells #[.string x.f0, .int .i64 x.f1, .int .i64 x.f2, .int .i64 x.f3] 26)).alloc (.cells #[.string y.f0, .int .i64 y.f1, .int .i64 y.f2, .int .i64 y.f3] 26) = W at hx hy hs2 hg ⊢
 have x1 : W.cell? ⟨w.heap.size, 1, none⟩ = some (.int .i64 x.f1) := (blk_cell hx 1).trans rfl
 have x2 : W.cell? ⟨w.heap.size, 2, none⟩ = some (.int .i64 x.f2) := (blk_cell hx 2).trans rfl
 have y1 : W.cell? ⟨w.heap.size + 1, 1, none⟩ = some (.int .i64 y.f1) := (blk_cell hy 1).trans rfl
 have y2 : W.cell? ⟨w.heap.size + 1, 2, none⟩ = some (.int .i64 y.f2) := (blk_cell hy 2).trans rfl
 have HG := Aside0.mk hg
 have HS2 := Aside0.mk hs2
 clear hx hy hs1 hs2 hg
 refine wp_region_still_tail 10 (by kernel_rfl) (by kernel_rfl) ?_
 simp only [List.take_succ_cons, List.take_zero, List.drop_succ_cons, List.drop_zero]
 change wpStill _ _ W.drew (fun a' => wpList _ _ _ _ a' W.drew) _ _
 repeat (first | still_step | still_call (cmp_c _ _ _))
 refine wpStill_nil ?_
 go_wp2_with (refine (or_new_c W.drew.heap.size _ _ _ rfl).mono ?_; rintro e w1 ⟨rfl, rfl⟩)
 go_ret
 exact ⟨rfl, 1, _, HG.out _⟩
def impl_RankByDepth.f (k : Nat) (l0 : List S26) : Option (List ByteArray × Bool) := rkF_ (fun x y => orI_ (cmpI_ y.f2 x.f2) (cmpI_ y.f1 x.f1)) k l0
set_option maxHeartbeats 4000000 in
set_option maxRecDepth 100000 in
theorem impl_RankByDepth.calls (k : Nat) (A0 : Option Addr) (c0 : Nat) (l0 : List S26) (r1 : List ByteArray) (r2 : Bool) (w : World) (hr0 : Kd.C k26 w A0 l0.length l0) (hc0 : l0.length ≤ c0) (h : impl_RankByDepth.f k l0 = some (r1, r2)) :
  Calls Tryd.prog 44 #[.slice A0 l0.length c0] w fun e w' => ∃ v0_ : Value, e = .returned (.tuple #[v0_, .bool r2]) ∧ Kd.R Kd.string 9 w' w.heap.size (fun _ => True) v0_ r1 ∧ Below w.heap.size w w' := by
 have hcall := rk_calls (fun x y => orI_ (cmpI_ y.f2 x.f2) (cmpI_ y.f1 x.f1)) 78 (fun _ _ => rfl) rankD_c k A0 c0 l0 r1 r2 w hr0 hc0 h
 have HC := Aside0.mk hcall
 clear hcall hr0 h
 go_enter Tryd.func44, Tryd.ntmps44
 go_wp2_with (go_at_call 73; refine HC.out.mono ?_; rintro e w1 ⟨v, rfl, hR, hb⟩)
 go_ret2
 exact ⟨_, rfl, hR, hb⟩
def laws_rBig.f (l0 : List Int) : Option (Bool) := some (decide ((l0.length : Int) > 65536))
set_option maxHeartbeats 8000000 in
set_option maxRecDepth 100000 in
theorem laws_rBig.calls (A0 : Option Addr) (c0 : Nat) (l0 : List Int) (r : Bool) (w : World) (hr0 : Kd.C (Kd.int .u8) w A0 l0.length l0) (hc0 : l0.length ≤ c0) (h : laws_rBig.f l0 = some r) :
  Calls Tryd.prog 45 #[.slice A0 l0.length c0] w fun e w' => e = .returned (.bool r) ∧ Drawn0 w w' := by
 have HR0 := Aside0.mk hr0
 have HC0 := Aside0.mk hc0
 clear hr0 hc0
 have H : (some (decide ((l0.length : Int) > 65536))) = some r := h
 clear h
 obtain rfl := Option.some.inj H
 go_enter Tryd.func45, Tryd.ntmps45
 go_wp2
 go_ret
 exact ⟨by first | rfl | (simp; done) | (simp [*]; done), by repeat (first | exact Drawn0.refl _ | apply Drawn0.step)⟩
def spec_newCur.f (l0 : List Int) : Option (List Int × Int × Int) := some (l0, 0, 0)
def IsS93 (w0 W : World) (g : Nat) (f0 : List Int) (f1 : Int) (f2 : Int) : Prop := ∃ A0 c0, W.heap[g]? = some (.cells #[.slice A0 f0.length c0, .int .i64 f1, .int .u64 f2] 93 (0, 0)) ∧ w0.heap.size ≤ g ∧ Kd.C (Kd.int .u8) w0 A0 f0.length f0
theorem IsS93.grown {w0 W : World} {g : Nat} {f0 : List Int} {f1 : Int} {f2 : Int} {W1 : World} {row : Option Nat} (h : IsS93 w0 W g f0 f1 f2) (hw : W.grownBy W1 row) (hne : some g ≠ row) : IsS93 w0 W1 g f0 f1 f2 := by
 obtain ⟨A0, c0, hb, hg, hr0⟩ := h
 exact ⟨A0, c0, blk_grown hb hw hne, hg, hr0⟩
theorem IsS93.below {w0 W : World} {g : Nat} {f0 : List Int} {f1 : Int} {f2 : Int} {W1 : World} (h : IsS93 w0 W g f0 f1 f2) (hw : Below W.heap.size W W1) : IsS93 w0 W1 g f0 f1 f2 := h.grown (grown_of_below hw none) (by simp)
theorem IsS93.alloc {w0 W : World} {g : Nat} {f0 : List Int} {f1 : Int} {f2 : Int} (h : IsS93 w0 W g f0 f1 f2) (o : Obj) : IsS93 w0 (W.alloc o) g f0 f1 f2 := h.below (below_alloc (Below.refl _ _) o)
theorem IsS93.drewN {w0 W : World} {g : Nat} {f0 : List Int} {f1 : Int} {f2 : Int} (h : IsS93 w0 W g f0 f1 f2) (m : Nat) : IsS93 w0 (W.drewN m) g f0 f1 f2 := h
theorem IsS93.drew {w0 W : World} {g : Nat} {f0 : List Int} {f1 : Int} {f2 : Int} (h : IsS93 w0 W g f0 f1 f2) : IsS93 w0 W.drew g f0 f1 f2 := h
theorem IsS93.apart {w0 W : World} {g : Nat} {f0 : List Int} {f1 : Int} {f2 : Int} {α : Type} {d : Kd α} {e : Nat} {base : Nat} {ok : Nat → Prop} {v : Value} {xs : List α} (h : IsS93 w0 W g f0 f1 f2) (ho : d.R e W base ok v xs) (ht : ∀ q, q ∈ e :: d.E → q ≠ 93) : d.R e W base (fun k => ok k ∧ k ≠ g) v xs := by
 obtain ⟨A0, c0, hb, hg, hr0⟩ := h
 exact Kd.R_types ho hb ht
theorem IsS93.own_ne {w0 W : World} {g : Nat} {f0 : List Int} {f1 : Int} {f2 : Int} {α : Type} {d : Kd α} {e : Nat} {base : Nat} {ok : Nat → Prop} {v : Value} {xs : List α} (h : IsS93 w0 W g f0 f1 f2) (ho : d.R e W base ok v xs) (ht : e ≠ 93) : some g ≠ v.ownBlock := by
 obtain ⟨A0, c0, hb, hg, hr0⟩ := h
 exact Kd.R_ne ho hb ht
theorem IsS93.lt {w0 W : World} {g : Nat} {f0 : List Int} {f1 : Int} {f2 : Int} (h : IsS93 w0 W g f0 f1 f2) : g < W.heap.size := by
 obtain ⟨A0, c0, hb, hg, hr0⟩ := h
 exact blk_lt hb
theorem IsS93.ge {w0 W : World} {g : Nat} {f0 : List Int} {f1 : Int} {f2 : Int} (h : IsS93 w0 W g f0 f1 f2) : w0.heap.size ≤ g := by
 obtain ⟨A0, c0, hb, hg, hr0⟩ := h
 exact hg
theorem IsS93.far {w0 W : World} {g : Nat} {f0 : List Int} {f1 : Int} {f2 : Int} {p : Addr} (h : IsS93 w0 W g f0 f1 f2) (hne : g ≠ p.block) (u : Value) : IsS93 w0 (W.setCell p u) g f0 f1 f2 := by
 obtain ⟨A0, c0, hb, hg, hr0⟩ := h
 exact ⟨A0, c0, blk_far hb hne u, hg, hr0⟩
theorem cellS93_0 {W : World} {g : Nat} {A0 : Option Addr} {c0 : Nat} {f0 : List Int} {f1 : Int} {f2 : Int} (h : W.heap[g]? = some (.cells #[.slice A0 f0.length c0, .int .i64 f1, .int .u64 f2] 93 (0, 0))) : W.cell? ⟨g, 0, none⟩ = some (.slice A0 f0.length c0) := (blk_cell h 0).trans rfl
theorem cellS93_1 {W : World} {g : Nat} {A0 : Option Addr} {c0 : Nat} {f0 : List Int} {f1 : Int} {f2 : Int} (h : W.heap[g]? = some (.cells #[.slice A0 f0.length c0, .int .i64 f1, .int .u64 f2] 93 (0, 0))) : W.cell? ⟨g, 1, none⟩ = some (.int .i64 f1) := (blk_cell h 1).trans rfl
theorem IsS93.set_1 {w0 W : World} {g : Nat} {f0 : List Int} {f1 : Int} {f2 : Int} (h : IsS93 w0 W g f0 f1 f2) (x : Int) : IsS93 w0 (W.setCell ⟨g, 1, none⟩ (.int .i64 x)) g f0 x f2 := by
 obtain ⟨A0, c0, hb, hg, hr0⟩ := h
 exact ⟨A0, c0, by simpa using blk_set hb 1 (.int .i64 x), hg, hr0⟩
theorem cellS93_2 {W : World} {g : Nat} {A0 : Option Addr} {c0 : Nat} {f0 : List Int} {f1 : Int} {f2 : Int} (h : W.heap[g]? = some (.cells #[.slice A0 f0.length c0, .int .i64 f1, .int .u64 f2] 93 (0, 0))) : W.cell? ⟨g, 2, none⟩ = some (.int .u64 f2) := (blk_cell h 2).trans rfl
theorem IsS93.set_2 {w0 W : World} {g : Nat} {f0 : List Int} {f1 : Int} {f2 : Int} (h : IsS93 w0 W g f0 f1 f2) (x : Int) : IsS93 w0 (W.setCell ⟨g, 2, none⟩ (.int .u64 x)) g f0 f1 x := by
 obtain ⟨A0, c0, hb, hg, hr0⟩ := h
 exact ⟨A0, c0, by simpa using blk_set hb 2 (.int .u64 x), hg, hr0⟩
def spec_l1Cur_next.f (s0_0 : List Int) (s0_1 : Int) (s0_2 : Int) : Option (Int × Int × Int) := if s0_1 < (s0_0.length : Int) then (if 0 ≤ s0_1 then (if (wrap64 (s0_1 + 1)) ≤ (s0_0.length : Int) then (some (wrap64 (rd s0_0 s0_1), wrap64 (s0_1 + 1), IntKind.u64.wrap ((IntKind.u64.wrap ((IntKind.u64.wrap (s0_2 * 6364136223846793005)) + (IntKind.u64.wrap (wrap64 (rd s0_0 s0_1))))) + 933933))) else (some (wrap64 (Go.bits .and .u64 ((IntKind.u64.wrap ((IntKind.u64.wrap ((IntKind.u64.wrap (s0_2 * 6364136223846793005)) + (IntKind.u64.wrap (wrap64 (rd s0_0 s0_1))))) + 933933)) / 1099511627776) 255), wrap64 (s0_1 + 1), IntKind.u64.wrap ((IntKind.u64.wrap ((IntKind.u64.wrap (s0_2 * 6364136223846793005)) + (IntKind.u64.wrap (wrap64 (rd s0_0 s0_1))))) + 933933)))) else (none)) else (if (wrap64 (s0_1 + 1)) ≤ (s0_0.length : Int) then (some (0, wrap64 (s0_1 + 1), IntKind.u64.wrap ((IntKind.u64.wrap ((IntKind.u64.wrap (s0_2 * 6364136223846793005)) + 0)) + 933933))) else (some (wrap64 (Go.bits .and .u64 ((IntKind.u64.wrap ((IntKind.u64.wrap ((IntKind.u64.wrap (s0_2 * 6364136223846793005)) + 0)) + 933933)) / 1099511627776) 255), wrap64 (s0_1 + 1), IntKind.u64.wrap ((IntKind.u64.wrap ((IntKind.u64.wrap (s0_2 * 6364136223846793005)) + 0)) + 933933))))
set_option maxHeartbeats 8000000 in
set_option maxRecDepth 100000 in
theorem spec_l1Cur_next.calls (g : Nat) (s0_0 : List Int) (s0_1 : Int) (s0_2 : Int) (r1 : Int) (r2 : Int) (r3 : Int) (w0 w : World) (hI : IsS93 w0 w g s0_0 s0_1 s0_2) (hB : Below w0.heap.size w0 w) (h : spec_l1Cur_next.f s0_0 s0_1 s0_2 = some (r1, r2, r3)) :
  Calls Tryd.prog 100 #[.pointer (some ⟨g, 0, none⟩)] w fun e w' => e = .returned (.int .i64 r1) ∧ IsS93 w0 w' g s0_0 r2 r3 ∧ Below w0.heap.size w0 w' ∧ KeepBut w w' g none := by
 have HI0 := Aside0.mk hI
 have HK := Aside0.mk (KeepBut.refl w g none)
 have HL := Aside0.mk hB.size
 clear hI
 have HW0 := Aside0.mk hB.size
 have HB := Aside0.mk hB
 clear hB
 have H : (if s0_1 < (s0_0.length : Int) then (if 0 ≤ s0_1 then (if (wrap64 (s0_1 + 1)) ≤ (s0_0.length : Int) then (some (wrap64 (rd s0_0 s0_1), wrap64 (s0_1 + 1), IntKind.u64.wrap ((IntKind.u64.wrap ((IntKind.u64.wrap (s0_2 * 6364136223846793005)) + (IntKind.u64.wrap (wrap64 (rd s0_0 s0_1))))) + 933933))) else (some (wrap64 (Go.bits .and .u64 ((IntKind.u64.wrap ((IntKind.u64.wrap ((IntKind.u64.wrap (s0_2 * 6364136223846793005)) + (IntKind.u64.wrap (wrap64 (rd s0_0 s0_1))))) + 933933)) / 1099511627776) 255), wrap64 (s0_1 + 1), IntKind.u64.wrap ((IntKind.u64.wrap ((IntKind.u64.wrap (s0_2 * 6364136223846793005)) + (IntKind.u64.wrap (wrap64 (rd s0_0 s0_1))))) + 933933)))) else (none)) else (if (wrap64 (s0_1 + 1)) ≤ (s0_0.length : Int) then (some (0, wrap64 (s0_1 + 1), IntKind.u64.wrap ((IntKind.u64.wrap ((IntKind.u64.wrap (s0_2 * 6364136223846793005)) + 0)) + 933933))) else (some (wrap64 (Go.bits .and .u64 ((IntKind.u64.wrap ((IntKind.u64.wrap ((IntKind.u64.wrap (s0_2 * 6364136223846793005)) + 0)) + 933933)) / 1099511627776) 255), wrap64 (s0_1 + 1), IntKind.u64.wrap ((IntKind.u64.wrap ((IntKind.u64.wrap (s0_2 * 6364136223846793005)) + 0)) + 933933))))) = some (r1, r2, r3) := h
 clear h
 by_cases c2 : s0_1 < (s0_0.length : Int)
 ·
  rw [if_pos c2] at H
  have c2b0 : decide (s0_1 < (s0_0.length : Int)) = true := decide_eq_true c2
  clear c2
  by_cases c3 : 0 ≤ s0_1
  ·
   rw [if_pos c3] at H
   have c3b0 : decide (0 ≤ s0_1) = true := decide_eq_true c3
   clear c3
   by_cases c4 : (wrap64 (s0_1 + 1)) ≤ (s0_0.length : Int)
   ·
    rw [if_pos c4] at H
    have c4b0 : decide ((wrap64 (s0_1 + 1)) ≤ (s0_0.length : Int)) = true := decide_eq_true c4
    clear c4
    simp only [Option.some.injEq, Prod.mk.injEq] at H
    obtain ⟨rfl, rfl, rfl⟩ := H
    obtain ⟨ASz5_0, cSz5_0, HGz5, hgz5, HSz5_0⟩ := HI0.out
    have hcz5_0 := cellS93_0 HGz5
    have hcz5_1 := cellS93_1 HGz5
    have hcz5_2 := cellS93_2 HGz5
    have hfz5_1 := blk_frozen HGz5 1
    have hfz5_2 := blk_frozen HGz5 2
    clear HGz5 hgz5
    have p571 : 0 ≤ (s0_1 : Int) := dt_
    have q571 : s0_1 < (s0_0.length : Int) := dt_
    obtain ⟨ad571, e571, hx571_0⟩ := Kd.at_int HSz5_0 s0_1 p571 q571
    cases e571
    replace hx571_0 := pw_cell_below HB.out hx571_0
    replace p571 := eq_true p571
    replace q571 := eq_true q571
    go_enter Tryd.func100, Tryd.ntmps100
    go_wp2
    repeat (go_quiet (fail); try go_wp2)
    go_ret
    (try simp only [Int.add_zero])
    exact ⟨rr_, by repeat (first | (with_reducible first | exact HI0.out | apply IsS93.alloc | apply IsS93.drewN | apply IsS93.drew | apply IsS93.set_1 | apply IsS93.set_2) | exact HI0.out), by repeat (first | (with_reducible first | exact HB.out | apply below_alloc | apply pw_below_drewN | apply below_drew1 | refine below_set ?_ (IsS93.ge HI0.out)) | exact HB.out), by repeat (first | (with_reducible first | exact HK.out | apply KeepBut.set_ | apply keep_drewN | apply keep_drew | apply keep_alloc) | exact HK.out)⟩
   ·
    rw [if_neg c4] at H
    have c4b0 : decide ((wrap64 (s0_1 + 1)) ≤ (s0_0.length : Int)) = false := decide_eq_false c4
    clear c4
    simp only [Option.some.injEq, Prod.mk.injEq] at H
    obtain ⟨rfl, rfl, rfl⟩ := H
    obtain ⟨ASz6_0, cSz6_0, HGz6, hgz6, HSz6_0⟩ := HI0.out
    have hcz6_0 := cellS93_0 HGz6
    have hcz6_1 := cellS93_1 HGz6
    have hcz6_2 := cellS93_2 HGz6
    have hfz6_1 := blk_frozen HGz6 1
    have hfz6_2 := blk_frozen HGz6 2
    clear HGz6 hgz6
    have p571 : 0 ≤ (s0_1 : Int) := dt_
    have q571 : s0_1 < (s0_0.length : Int) := dt_
    obtain ⟨ad571, e571, hx571_0⟩ := Kd.at_int HSz6_0 s0_1 p571 q571
    cases e571
    replace hx571_0 := pw_cell_below HB.out hx571_0
    replace p571 := eq_true p571
    replace q571 := eq_true q571
    go_enter Tryd.func100, Tryd.ntmps100
    go_wp2
    repeat (go_quiet (fail); try go_wp2)
    go_ret
    (try simp only [Int.add_zero])
    exact ⟨rr_, by repeat (first | (with_reducible first | exact HI0.out | apply IsS93.alloc | apply IsS93.drewN | apply IsS93.drew | apply IsS93.set_1 | apply IsS93.set_2) | exact HI0.out), by repeat (first | (with_reducible first | exact HB.out | apply below_alloc | apply pw_below_drewN | apply below_drew1 | refine below_set ?_ (IsS93.ge HI0.out)) | exact HB.out), by repeat (first | (with_reducible first | exact HK.out | apply KeepBut.set_ | apply keep_drewN | apply keep_drew | apply keep_alloc) | exact HK.out)⟩
  ·
   rw [if_neg c3] at H
   exact absurd H (by simp)
 ·
  rw [if_neg c2] at H
  have c2b0 : decide (s0_1 < (s0_0.length : Int)) = false := decide_eq_false c2
  clear c2
  by_cases c7 : (wrap64 (s0_1 + 1)) ≤ (s0_0.length : Int)
  ·
   rw [if_pos c7] at H
   have c7b0 : decide ((wrap64 (s0_1 + 1)) ≤ (s0_0.length : Int)) = true := decide_eq_true c7
   clear c7
   simp only [Option.some.injEq, Prod.mk.injEq] at H
   obtain ⟨rfl, rfl, rfl⟩ := H
   obtain ⟨ASz8_0, cSz8_0, HGz8, hgz8, HSz8_0⟩ := HI0.out
   have hcz8_0 := cellS93_0 HGz8
   have hcz8_1 := cellS93_1 HGz8
   have hcz8_2 := cellS93_2 HGz8
   have hfz8_1 := blk_frozen HGz8 1
   have hfz8_2 := blk_frozen HGz8 2
   clear HGz8 hgz8
   go_enter Tryd.func100, Tryd.ntmps100
   go_wp2
   repeat (go_quiet (fail); try go_wp2)
   go_ret
   (try simp only [Int.add_zero])
   exact ⟨rr_, by repeat (first | (with_reducible first | exact HI0.out | apply IsS93.alloc | apply IsS93.drewN | apply IsS93.drew | apply IsS93.set_1 | apply IsS93.set_2) | exact HI0.out), by repeat (first | (with_reducible first | exact HB.out | apply below_alloc | apply pw_below_drewN | apply below_drew1 | refine below_set ?_ (IsS93.ge HI0.out)) | exact HB.out), by repeat (first | (with_reducible first | exact HK.out | apply KeepBut.set_ | apply keep_drewN | apply keep_drew | apply keep_alloc) | exact HK.out)⟩
  ·
   rw [if_neg c7] at H
   have c7b0 : decide ((wrap64 (s0_1 + 1)) ≤ (s0_0.length : Int)) = false := decide_eq_false c7
   clear c7
   simp only [Option.some.injEq, Prod.mk.injEq] at H
   obtain ⟨rfl, rfl, rfl⟩ := H
   obtain ⟨ASz9_0, cSz9_0, HGz9, hgz9, HSz9_0⟩ := HI0.out
   have hcz9_0 := cellS93_0 HGz9
   have hcz9_1 := cellS93_1 HGz9
   have hcz9_2 := cellS93_2 HGz9
   have hfz9_1 := blk_frozen HGz9 1
   have hfz9_2 := blk_frozen HGz9 2
   clear HGz9 hgz9
   go_enter Tryd.func100, Tryd.ntmps100
   go_wp2
   repeat (go_quiet (fail); try go_wp2)
   go_ret
   (try simp only [Int.add_zero])
   exact ⟨rr_, by repeat (first | (with_reducible first | exact HI0.out | apply IsS93.alloc | apply IsS93.drewN | apply IsS93.drew | apply IsS93.set_1 | apply IsS93.set_2) | exact HI0.out), by repeat (first | (with_reducible first | exact HB.out | apply below_alloc | apply pw_below_drewN | apply below_drew1 | refine below_set ?_ (IsS93.ge HI0.out)) | exact HB.out), by repeat (first | (with_reducible first | exact HK.out | apply KeepBut.set_ | apply keep_drewN | apply keep_drew | apply keep_alloc) | exact HK.out)⟩
def spec_l1Cur_pick.f (s0_0 : List Int) (s0_1 : Int) (s0_2 : Int) (a1 : Int) : Option (Int × Int × Int) := if a1 ≤ 1 then (some (0, s0_1, s0_2)) else ((spec_l1Cur_next.f s0_0 s0_1 s0_2).bind fun bt572 => (if a1 > 200 then ((spec_l1Cur_next.f s0_0 bt572.2.1 bt572.2.2).bind fun bt575 => (if a1 = 0 then (none) else (some (Int.tmod (wrap64 ((wrap64 (bt572.1 * 256)) + bt575.1)) a1, bt575.2.1, bt575.2.2)))) else (if a1 = 0 then (none) else (some (Int.tmod bt572.1 a1, bt572.2.1, bt572.2.2)))))
set_option maxHeartbeats 8000000 in
set_option maxRecDepth 100000 in
theorem spec_l1Cur_pick.calls (g : Nat) (s0_0 : List Int) (s0_1 : Int) (s0_2 : Int) (a1 : Int) (r1 : Int) (r2 : Int) (r3 : Int) (w0 w : World) (hI : IsS93 w0 w g s0_0 s0_1 s0_2) (hB : Below w0.heap.size w0 w) (h : spec_l1Cur_pick.f s0_0 s0_1 s0_2 a1 = some (r1, r2, r3)) :
  Calls Tryd.prog 82 #[.pointer (some ⟨g, 0, none⟩), .int .i64 a1] w fun e w' => e = .returned (.int .i64 r1) ∧ IsS93 w0 w' g s0_0 r2 r3 ∧ Below w0.heap.size w0 w' ∧ KeepBut w w' g none := by
 have HI0 := Aside0.mk hI
 have HK := Aside0.mk (KeepBut.refl w g none)
 have HL := Aside0.mk hB.size
 clear hI
 have HW0 := Aside0.mk hB.size
 have HB := Aside0.mk hB
 clear hB
 have H : (if a1 ≤ 1 then (some (0, s0_1, s0_2)) else ((spec_l1Cur_next.f s0_0 s0_1 s0_2).bind fun bt572 => (if a1 > 200 then ((spec_l1Cur_next.f s0_0 bt572.2.1 bt572.2.2).bind fun bt575 => (if a1 = 0 then (none) else (some (Int.tmod (wrap64 ((wrap64 (bt572.1 * 256)) + bt575.1)) a1, bt575.2.1, bt575.2.2)))) else (if a1 = 0 then (none) else (some (Int.tmod bt572.1 a1, bt572.2.1, bt572.2.2)))))) = some (r1, r2, r3) := h
 clear h
 by_cases c3 : a1 ≤ 1
 ·
  rw [if_pos c3] at H
  have c3b0 : decide (a1 ≤ 1) = true := decide_eq_true c3
  clear c3
  simp only [Option.some.injEq, Prod.mk.injEq] at H
  obtain ⟨rfl, rfl, rfl⟩ := H
  go_enter Tryd.func82, Tryd.ntmps82
  go_wp2
  go_ret
  exact ⟨rr_, by repeat (first | (with_reducible first | exact HI0.out | apply IsS93.alloc | apply IsS93.drewN | apply IsS93.drew | apply IsS93.set_1 | apply IsS93.set_2) | exact HI0.out), by repeat (first | (with_reducible first | exact HB.out | apply below_alloc | apply pw_below_drewN | apply below_drew1 | refine below_set ?_ (IsS93.ge HI0.out)) | exact HB.out), by repeat (first | (with_reducible first | exact HK.out | apply KeepBut.set_ | apply keep_drewN | apply keep_drew | apply keep_alloc) | exact HK.out)⟩
 ·
  rw [if_neg c3] at H
  have c3b0 : decide (a1 ≤ 1) = false := decide_eq_false c3
  clear c3
  replace H := Option.bind_eq_some_iff.mp H
  obtain ⟨⟨t572, t573, t574⟩, A40, H⟩ := H
  replace H : (if a1 > 200 then ((spec_l1Cur_next.f s0_0 t573 t574).bind fun bt575 => (if a1 = 0 then (none) else (some (Int.tmod (wrap64 ((wrap64 (t572 * 256)) + bt575.1)) a1, bt575.2.1, bt575.2.2)))) else (if a1 = 0 then (none) else (some (Int.tmod t572 a1, t573, t574)))) = some (r1, r2, r3) := H
  have A4 := Aside0.mk A40
  clear A40
  by_cases c5 : a1 > 200
  ·
   rw [if_pos c5] at H
   have c5b0 : decide (200 < a1) = true := decide_eq_true c5
   clear c5
   replace H := Option.bind_eq_some_iff.mp H
   obtain ⟨⟨t575, t576, t577⟩, A60, H⟩ := H
   replace H : (if a1 = 0 then (none) else (some (Int.tmod (wrap64 ((wrap64 (t572 * 256)) + t575)) a1, t576, t577))) = some (r1, r2, r3) := H
   have A6 := Aside0.mk A60
   clear A60
   by_cases c7 : a1 = 0
   ·
    rw [if_pos c7] at H
    exact absurd H (by simp)
   ·
    rw [if_neg c7] at H
    have c7b0 : (a1 == 0) = false := beq_eq_false_iff_ne.mpr c7
    have c7b1 : (a1 != 0) = true := bne_iff_ne.mpr c7
    simp only [Option.some.injEq, Prod.mk.injEq] at H
    obtain ⟨rfl, rfl, rfl⟩ := H
    go_enter Tryd.func82, Tryd.ntmps82
    go_wp2_with (first | ((with_reducible refine gate_callee (f := 100) rfl ?_); refine ga_ (some 9) Tryd.func100 #[.pointer (some ⟨g, 0, none⟩)] ?_; (with_reducible refine (spec_l1Cur_next.calls g s0_0 s0_1 s0_2 t572 t573 t574 w0 _ ?side1 ?side2 A4.out).mono ?_); (case side1 => repeat (first | (with_reducible first | exact HI0.out | apply IsS93.alloc | apply IsS93.drewN | apply IsS93.drew | apply IsS93.set_1 | apply IsS93.set_2) | exact HI0.out)); (case side2 => repeat (first | (with_reducible first | exact HB.out | apply below_alloc | apply pw_below_drewN | apply below_drew1 | refine below_set ?_ (IsS93.ge HI0.out)) | exact HB.out)); rintro e w8 ⟨rfl, hi, hb, hk⟩; refine ⟨_, rfl, ?_⟩; have n0_ := Aside0.mk (KeepBut.trans (by repeat (first | (with_reducible first | exact HK.out | apply KeepBut.set_ | apply keep_drewN | apply keep_drew | apply keep_alloc) | exact HK.out)) hk (.inl rfl)); have n1_ := Aside0.mk (hb); have n2_ := Aside0.mk (hi); clear HK; clear HB; clear HI0; have HK := n0_; have HB := n1_; have HI0 := n2_; clear n0_ n1_ n2_; (try clear hb); (try clear hb2); (try clear hk); (try clear hi)) | ((with_reducible refine gate_callee (f := 100) rfl ?_); refine ga_ (some 15) Tryd.func100 #[.pointer (some ⟨g, 0, none⟩)] ?_; (with_reducible refine (spec_l1Cur_next.calls g s0_0 t573 t574 t575 t576 t577 w0 _ ?side1 ?side2 A6.out).mono ?_); (case side1 => repeat (first | (with_reducible first | exact HI0.out | apply IsS93.alloc | apply IsS93.drewN | apply IsS93.drew | apply IsS93.set_1 | apply IsS93.set_2) | exact HI0.out)); (case side2 => repeat (first | (with_reducible first | exact HB.out | apply below_alloc | apply pw_below_drewN | apply below_drew1 | refine below_set ?_ (IsS93.ge HI0.out)) | exact HB.out)); rintro e w9 ⟨rfl, hi, hb, hk⟩; refine ⟨_, rfl, ?_⟩; have n0_ := Aside0.mk (KeepBut.trans (by repeat (first | (with_reducible first | exact HK.out | apply KeepBut.set_ | apply keep_drewN | apply keep_drew | apply keep_alloc) | exact HK.out)) hk (.inl rfl)); have n1_ := Aside0.mk (hb); have n2_ := Aside0.mk (hi); clear HK; clear HB; clear HI0; have HK := n0_; have HB := n1_; have HI0 := n2_; clear n0_ n1_ n2_; (try clear hb); (try clear hb2); (try clear hk); (try clear hi)))
    go_ret
    exact ⟨rr_, by repeat (first | (with_reducible first | exact HI0.out | apply IsS93.alloc | apply IsS93.drewN | apply IsS93.drew | apply IsS93.set_1 | apply IsS93.set_2) | exact HI0.out), by repeat (first | (with_reducible first | exact HB.out | apply below_alloc | apply pw_below_drewN | apply below_drew1 | refine below_set ?_ (IsS93.ge HI0.out)) | exact HB.out), by repeat (first | (with_reducible first | exact HK.out | apply KeepBut.set_ | apply keep_drewN | apply keep_drew | apply keep_alloc) | exact HK.out)⟩
  ·
   rw [if_neg c5] at H
   have c5b0 : decide (200 < a1) = false := decide_eq_false c5
   clear c5
   by_cases c10 : a1 = 0
   ·
    rw [if_pos c10] at H
    exact absurd H (by simp)
   ·
    rw [if_neg c10] at H
    have c10b0 : (a1 == 0) = false := beq_eq_false_iff_ne.mpr c10
    have c10b1 : (a1 != 0) = true := bne_iff_ne.mpr c10
    simp only [Option.some.injEq, Prod.mk.injEq] at H
    obtain ⟨rfl, rfl, rfl⟩ := H
    go_enter Tryd.func82, Tryd.ntmps82
    go_wp2_with (first | ((with_reducible refine gate_callee (f := 100) rfl ?_); refine ga_ (some 9) Tryd.func100 #[.pointer (some ⟨g, 0, none⟩)] ?_; (with_reducible refine (spec_l1Cur_next.calls g s0_0 s0_1 s0_2 t572 t573 t574 w0 _ ?side1 ?side2 A4.out).mono ?_); (case side1 => repeat (first | (with_reducible first | exact HI0.out | apply IsS93.alloc | apply IsS93.drewN | apply IsS93.drew | apply IsS93.set_1 | apply IsS93.set_2) | exact HI0.out)); (case side2 => repeat (first | (with_reducible first | exact HB.out | apply below_alloc | apply pw_below_drewN | apply below_drew1 | refine below_set ?_ (IsS93.ge HI0.out)) | exact HB.out)); rintro e w11 ⟨rfl, hi, hb, hk⟩; refine ⟨_, rfl, ?_⟩; have n0_ := Aside0.mk (KeepBut.trans (by repeat (first | (with_reducible first | exact HK.out | apply KeepBut.set_ | apply keep_drewN | apply keep_drew | apply keep_alloc) | exact HK.out)) hk (.inl rfl)); have n1_ := Aside0.mk (hb); have n2_ := Aside0.mk (hi); clear HK; clear HB; clear HI0; have HK := n0_; have HB := n1_; have HI0 := n2_; clear n0_ n1_ n2_; (try clear hb); (try clear hb2); (try clear hk); (try clear hi)))
    go_ret
    exact ⟨rr_, by repeat (first | (with_reducible first | exact HI0.out | apply IsS93.alloc | apply IsS93.drewN | apply IsS93.drew | apply IsS93.set_1 | apply IsS93.set_2) | exact HI0.out), by repeat (first | (with_reducible first | exact HB.out | apply below_alloc | apply pw_below_drewN | apply below_drew1 | refine below_set ?_ (IsS93.ge HI0.out)) | exact HB.out), by repeat (first | (with_reducible first | exact HK.out | apply KeepBut.set_ | apply keep_drewN | apply keep_drew | apply keep_alloc) | exact HK.out)⟩
def spec_l1Cur_one.f (s0_0 : List Int) (s0_1 : Int) (s0_2 : Int) (a1 : Int) : Option (Bool × Int × Int) := (spec_l1Cur_pick.f s0_0 s0_1 s0_2 a1).bind fun bt578 => (some ((bt578.1 == 0), bt578.2.1, bt578.2.2))
set_option maxHeartbeats 8000000 in
set_option maxRecDepth 100000 in
theorem spec_l1Cur_one.calls (g : Nat) (s0_0 : List Int) (s0_1 : Int) (s0_2 : Int) (a1 : Int) (r1 : Bool) (r2 : Int) (r3 : Int) (w0 w : World) (hI : IsS93 w0 w g s0_0 s0_1 s0_2) (hB : Below w0.heap.size w0 w) (h : spec_l1Cur_one.f s0_0 s0_1 s0_2 a1 = some (r1, r2, r3)) :
  Calls Tryd.prog 81 #[.pointer (some ⟨g, 0, none⟩), .int .i64 a1] w fun e w' => e = .returned (.bool r1) ∧ IsS93 w0 w' g s0_0 r2 r3 ∧ Below w0.heap.size w0 w' ∧ KeepBut w w' g none := by
 have HI0 := Aside0.mk hI
 have HK := Aside0.mk (KeepBut.refl w g none)
 have HL := Aside0.mk hB.size
 clear hI
 have HW0 := Aside0.mk hB.size
 have HB := Aside0.mk hB
 clear hB
 have H : ((spec_l1Cur_pick.f s0_0 s0_1 s0_2 a1).bind fun bt578 => (some ((bt578.1 == 0), bt578.2.1, bt578.2.2))) = some (r1, r2, r3) := h
 clear h
 replace H := Option.bind_eq_some_iff.mp H
 obtain ⟨⟨t578, t579, t580⟩, A30, H⟩ := H
 replace H : (some ((t578 == 0), t579, t580)) = some (r1, r2, r3) := H
 have A3 := Aside0.mk A30
 clear A30
 simp only [Option.some.injEq, Prod.mk.injEq] at H
 obtain ⟨rfl, rfl, rfl⟩ := H
 go_enter Tryd.func81, Tryd.ntmps81
 go_wp2_with (first | ((with_reducible refine gate_callee (f := 82) rfl ?_); refine ga_ (some 7) Tryd.func82 #[.pointer (some ⟨g, 0, none⟩), .int .i64 a1] ?_; (with_reducible refine (spec_l1Cur_pick.calls g s0_0 s0_1 s0_2 a1 t578 t579 t580 w0 _ ?side1 ?side2 A3.out).mono ?_); (case side1 => repeat (first | (with_reducible first | exact HI0.out | apply IsS93.alloc | apply IsS93.drewN | apply IsS93.drew | apply IsS93.set_1 | apply IsS93.set_2) | exact HI0.out)); (case side2 => repeat (first | (with_reducible first | exact HB.out | apply below_alloc | apply pw_below_drewN | apply below_drew1 | refine below_set ?_ (IsS93.ge HI0.out)) | exact HB.out)); rintro e w4 ⟨rfl, hi, hb, hk⟩; refine ⟨_, rfl, ?_⟩; have n0_ := Aside0.mk (KeepBut.trans (by repeat (first | (with_reducible first | exact HK.out | apply KeepBut.set_ | apply keep_drewN | apply keep_drew | apply keep_alloc) | exact HK.out)) hk (.inl rfl)); have n1_ := Aside0.mk (hb); have n2_ := Aside0.mk (hi); clear HK; clear HB; clear HI0; have HK := n0_; have HB := n1_; have HI0 := n2_; clear n0_ n1_ n2_; (try clear hb); (try clear hb2); (try clear hk); (try clear hi)))
 go_ret
 exact ⟨rr_, by repeat (first | (with_reducible first | exact HI0.out | apply IsS93.alloc | apply IsS93.drewN | apply IsS93.drew | apply IsS93.set_1 | apply IsS93.set_2) | exact HI0.out), by repeat (first | (with_reducible first | exact HB.out | apply below_alloc | apply pw_below_drewN | apply below_drew1 | refine below_set ?_ (IsS93.ge HI0.out)) | exact HB.out), by repeat (first | (with_reducible first | exact HK.out | apply KeepBut.set_ | apply keep_drewN | apply keep_drew | apply keep_alloc) | exact HK.out)⟩
def spec_l1Cur_among.f (s0_0 : List Int) (s0_1 : Int) (s0_2 : Int) (l1 : List Int) : Option (Int × Int × Int) := (spec_l1Cur_pick.f s0_0 s0_1 s0_2 (l1.length : Int)).bind fun bt581 => (if 0 ≤ bt581.1 then (if bt581.1 < (l1.length : Int) then (some (rd l1 bt581.1, bt581.2.1, bt581.2.2)) else (none)) else (none))
set_option maxHeartbeats 8000000 in
set_option maxRecDepth 100000 in
theorem spec_l1Cur_among.calls (g : Nat) (s0_0 : List Int) (s0_1 : Int) (s0_2 : Int) (A1 : Option Addr) (c1 : Nat) (l1 : List Int) (r1 : Int) (r2 : Int) (r3 : Int) (w0 w : World) (hI : IsS93 w0 w g s0_0 s0_1 s0_2) (hB : Below w0.heap.size w0 w) (hr1 : Kd.C (Kd.int .i64) w A1 l1.length l1) (hc1 : l1.length ≤ c1) (hf1 : ∀ ad, A1 = some ad → 0 < l1.length → ad.block ≠ g) (h : spec_l1Cur_among.f s0_0 s0_1 s0_2 l1 = some (r1, r2, r3)) :
  Calls Tryd.prog 83 #[.pointer (some ⟨g, 0, none⟩), .slice A1 l1.length c1] w fun e w' => e = .returned (.int .i64 r1) ∧ IsS93 w0 w' g s0_0 r2 r3 ∧ Below w0.heap.size w0 w' ∧ KeepBut w w' g none := by
 have HR1 := Aside0.mk hr1
 have HC1 := Aside0.mk hc1
 clear hr1 hc1
 have HI0 := Aside0.mk hI
 have HK := Aside0.mk (KeepBut.refl w g none)
 have HL := Aside0.mk hB.size
 clear hI
 have HW0 := Aside0.mk hB.size
 have HB := Aside0.mk hB
 clear hB
 have H : ((spec_l1Cur_pick.f s0_0 s0_1 s0_2 (l1.length : Int)).bind fun bt581 => (if 0 ≤ bt581.1 then (if bt581.1 < (l1.length : Int) then (some (rd l1 bt581.1, bt581.2.1, bt581.2.2)) else (none)) else (none))) = some (r1, r2, r3) := h
 clear h
 replace H := Option.bind_eq_some_iff.mp H
 obtain ⟨⟨t581, t582, t583⟩, A30, H⟩ := H
 replace H : (if 0 ≤ t581 then (if t581 < (l1.length : Int) then (some (rd l1 t581, t582, t583)) else (none)) else (none)) = some (r1, r2, r3) := H
 have A3 := Aside0.mk A30
 clear A30
 by_cases c4 : 0 ≤ t581
 ·
  rw [if_pos c4] at H
  have c4b0 : decide (0 ≤ t581) = true := decide_eq_true c4
  clear c4
  by_cases c5 : t581 < (l1.length : Int)
  ·
   rw [if_pos c5] at H
   have c5b0 : decide (t581 < (l1.length : Int)) = true := decide_eq_true c5
   clear c5
   simp only [Option.some.injEq, Prod.mk.injEq] at H
   obtain ⟨rfl, rfl, rfl⟩ := H
   go_enter Tryd.func83, Tryd.ntmps83
   go_wp2_with (first | ((with_reducible refine gate_callee (f := 82) rfl ?_); refine ga_ (some 9) Tryd.func82 #[.pointer (some ⟨g, 0, none⟩), .int .i64 (l1.length : Int)] ?_; (with_reducible refine (spec_l1Cur_pick.calls g s0_0 s0_1 s0_2 (l1.length : Int) t581 t582 t583 w0 _ ?side1 ?side2 A3.out).mono ?_); (case side1 => repeat (first | (with_reducible first | exact HI0.out | apply IsS93.alloc | apply IsS93.drewN | apply IsS93.drew | apply IsS93.set_1 | apply IsS93.set_2) | exact HI0.out)); (case side2 => repeat (first | (with_reducible first | exact HB.out | apply below_alloc | apply pw_below_drewN | apply below_drew1 | refine below_set ?_ (IsS93.ge HI0.out)) | exact HB.out)); rintro e w6 ⟨rfl, hi, hb, hk⟩; refine ⟨_, rfl, ?_⟩; have n0_ := Aside0.mk (KeepBut.trans (by repeat (first | (with_reducible first | exact HK.out | apply KeepBut.set_ | apply keep_drewN | apply keep_drew | apply keep_alloc) | exact HK.out)) hk (.inl rfl)); have n1_ := Aside0.mk (hb); have n2_ := Aside0.mk (hi); clear HK; clear HB; clear HI0; have HK := n0_; have HB := n1_; have HI0 := n2_; clear n0_ n1_ n2_; (try clear hb); (try clear hb2); (try clear hk); (try clear hi); have p584 : 0 ≤ (t581 : Int) := dt_; have q584 : t581 < (l1.length : Int) := dt_; obtain ⟨ad584, e584, hx584_0⟩ := Kd.at_int HR1.out t581 p584 q584; cases e584; replace hx584_0 := keep_cell HK.out hx584_0 (by first | (rw [add_block]; exact hf1 _ rfl (by omega)) | exact hf1 _ rfl (by omega) | exact hf1 ad584 rfl (by omega)); replace p584 := eq_true p584; replace q584 := eq_true q584))
   go_ret
   exact ⟨rr_, by repeat (first | (with_reducible first | exact HI0.out | apply IsS93.alloc | apply IsS93.drewN | apply IsS93.drew | apply IsS93.set_1 | apply IsS93.set_2) | exact HI0.out), by repeat (first | (with_reducible first | exact HB.out | apply below_alloc | apply pw_below_drewN | apply below_drew1 | refine below_set ?_ (IsS93.ge HI0.out)) | exact HB.out), by repeat (first | (with_reducible first | exact HK.out | apply KeepBut.set_ | apply keep_drewN | apply keep_drew | apply keep_alloc) | exact HK.out)⟩
  ·
   rw [if_neg c5] at H
   exact absurd H (by simp)
 ·
  rw [if_neg c4] at H
  exact absurd H (by simp)
def spec_l1Cur_of.f (s0_0 : List Int) (s0_1 : Int) (s0_2 : Int) (l1 : List ByteArray) : Option (ByteArray × Int × Int) := (spec_l1Cur_pick.f s0_0 s0_1 s0_2 (l1.length : Int)).bind fun bt585 => (if 0 ≤ bt585.1 then (if bt585.1 < (l1.length : Int) then (some (rdOf ByteArray.empty l1 bt585.1, bt585.2.1, bt585.2.2)) else (none)) else (none))
set_option maxHeartbeats 8000000 in
set_option maxRecDepth 100000 in
theorem spec_l1Cur_of.calls (g : Nat) (s0_0 : List Int) (s0_1 : Int) (s0_2 : Int) (A1 : Option Addr) (c1 : Nat) (l1 : List ByteArray) (r1 : ByteArray) (r2 : Int) (r3 : Int) (w0 w : World) (hI : IsS93 w0 w g s0_0 s0_1 s0_2) (hB : Below w0.heap.size w0 w) (hr1 : Kd.C Kd.string w A1 l1.length l1) (hc1 : l1.length ≤ c1) (hf1 : ∀ ad, A1 = some ad → 0 < l1.length → ad.block ≠ g) (h : spec_l1Cur_of.f s0_0 s0_1 s0_2 l1 = some (r1, r2, r3)) :
  Calls Tryd.prog 101 #[.pointer (some ⟨g, 0, none⟩), .slice A1 l1.length c1] w fun e w' => e = .returned (.string r1) ∧ IsS93 w0 w' g s0_0 r2 r3 ∧ Below w0.heap.size w0 w' ∧ KeepBut w w' g none := by
 have HR1 := Aside0.mk hr1
 have HC1 := Aside0.mk hc1
 clear hr1 hc1
 have HI0 := Aside0.mk hI
 have HK := Aside0.mk (KeepBut.refl w g none)
 have HL := Aside0.mk hB.size
 clear hI
 have HW0 := Aside0.mk hB.size
 have HB := Aside0.mk hB
 clear hB
 have H : ((spec_l1Cur_pick.f s0_0 s0_1 s0_2 (l1.length : Int)).bind fun bt585 => (if 0 ≤ bt585.1 then (if bt585.1 < (l1.length : Int) then (some (rdOf ByteArray.empty l1 bt585.1, bt585.2.1, bt585.2.2)) else (none)) else (none))) = some (r1, r2, r3) := h
 clear h
 replace H := Option.bind_eq_some_iff.mp H
 obtain ⟨⟨t585, t586, t587⟩, A30, H⟩ := H
 replace H : (if 0 ≤ t585 then (if t585 < (l1.length : Int) then (some (rdOf ByteArray.empty l1 t585, t586, t587)) else (none)) else (none)) = some (r1, r2, r3) := H
 have A3 := Aside0.mk A30
 clear A30
 by_cases c4 : 0 ≤ t585
 ·
  rw [if_pos c4] at H
  have c4b0 : decide (0 ≤ t585) = true := decide_eq_true c4
  clear c4
  by_cases c5 : t585 < (l1.length : Int)
  ·
   rw [if_pos c5] at H
   have c5b0 : decide (t585 < (l1.length : Int)) = true := decide_eq_true c5
   clear c5
   simp only [Option.some.injEq, Prod.mk.injEq] at H
   obtain ⟨rfl, rfl, rfl⟩ := H
   go_enter Tryd.func101, Tryd.ntmps101
   go_wp2_with (first | ((with_reducible refine gate_callee (f := 82) rfl ?_); refine ga_ (some 9) Tryd.func82 #[.pointer (some ⟨g, 0, none⟩), .int .i64 (l1.length : Int)] ?_; (with_reducible refine (spec_l1Cur_pick.calls g s0_0 s0_1 s0_2 (l1.length : Int) t585 t586 t587 w0 _ ?side1 ?side2 A3.out).mono ?_); (case side1 => repeat (first | (with_reducible first | exact HI0.out | apply IsS93.alloc | apply IsS93.drewN | apply IsS93.drew | apply IsS93.set_1 | apply IsS93.set_2) | exact HI0.out)); (case side2 => repeat (first | (with_reducible first | exact HB.out | apply below_alloc | apply pw_below_drewN | apply below_drew1 | refine below_set ?_ (IsS93.ge HI0.out)) | exact HB.out)); rintro e w6 ⟨rfl, hi, hb, hk⟩; refine ⟨_, rfl, ?_⟩; have n0_ := Aside0.mk (KeepBut.trans (by repeat (first | (with_reducible first | exact HK.out | apply KeepBut.set_ | apply keep_drewN | apply keep_drew | apply keep_alloc) | exact HK.out)) hk (.inl rfl)); have n1_ := Aside0.mk (hb); have n2_ := Aside0.mk (hi); clear HK; clear HB; clear HI0; have HK := n0_; have HB := n1_; have HI0 := n2_; clear n0_ n1_ n2_; (try clear hb); (try clear hb2); (try clear hk); (try clear hi); have p588 : 0 ≤ (t585 : Int) := dt_; have q588 : t585 < (l1.length : Int) := dt_; obtain ⟨ad588, e588, hx588_0⟩ := Kd.at_string HR1.out t585 p588 q588; cases e588; replace hx588_0 := keep_cell HK.out hx588_0 (by first | (rw [add_block]; exact hf1 _ rfl (by omega)) | exact hf1 _ rfl (by omega) | exact hf1 ad588 rfl (by omega)); replace p588 := eq_true p588; replace q588 := eq_true q588))
   go_ret
   exact ⟨rr_, by repeat (first | (with_reducible first | exact HI0.out | apply IsS93.alloc | apply IsS93.drewN | apply IsS93.drew | apply IsS93.set_1 | apply IsS93.set_2) | exact HI0.out), by repeat (first | (with_reducible first | exact HB.out | apply below_alloc | apply pw_below_drewN | apply below_drew1 | refine below_set ?_ (IsS93.ge HI0.out)) | exact HB.out), by repeat (first | (with_reducible first | exact HK.out | apply KeepBut.set_ | apply keep_drewN | apply keep_drew | apply keep_alloc) | exact HK.out)⟩
  ·
   rw [if_neg c5] at H
   exact absurd H (by simp)
 ·
  rw [if_neg c4] at H
  exact absurd H (by simp)
def spec_l1Cur_caveRow.j0 : Nat → List Int → Int → Int → ByteArray → Int → Int → Int → Option (ByteArray × Int × Int × Int × Int × Int)
 | 0, _, _, _, _, _, _, _ => none
 | k + 1, x1000, x1001, x1002, x597000, x597001, x597002, x597003 => (spec_l1Cur_pick.f x1000 x1001 x1002 60).bind fun bt610 => (if bt610.1 = 0 then ((spec_l1Cur_of.f x1000 bt610.2.1 bt610.2.2 (([(⟨#[]⟩ : ByteArray), (⟨#[65]⟩ : ByteArray), (⟨#[97, 98, 99, 100, 101, 102, 103, 104, 105, 106, 107]⟩ : ByteArray)] : List ByteArray))).bind fun bt616 => (some (bt616.1, x597001, x597002, x597003, bt616.2.1, bt616.2.2))) else (if bt610.1 = 1 then ((spec_l1Cur_among.f x1000 bt610.2.1 bt610.2.2 (([(-1), 0, 1000001] : List Int))).bind fun bt622 => (some (x597000, bt622.1, x597002, x597003, bt622.2.1, bt622.2.2))) else (if bt610.1 = 2 then ((spec_l1Cur_among.f x1000 bt610.2.1 bt610.2.2 (([(-1), wrap64 (x597001 + 1), 20001] : List Int))).bind fun bt628 => (some (x597000, x597001, bt628.1, x597003, bt628.2.1, bt628.2.2))) else (if bt610.1 = 3 then ((spec_l1Cur_among.f x1000 bt610.2.1 bt610.2.2 (([(-1), 0, 10000] : List Int))).bind fun bt634 => (some (x597000, x597001, x597002, bt634.1, bt634.2.1, bt634.2.2))) else (some (x597000, x597001, x597002, x597003, bt610.2.1, bt610.2.2))))))
def spec_l1Cur_caveRow.f (k : Nat) (s0_0 : List Int) (s0_1 : Int) (s0_2 : Int) (a1 : ByteArray) : Option (ByteArray × Int × Int × Int × Int × Int) := (spec_l1Cur_among.f s0_0 s0_1 s0_2 (([0, 1, 105, 12030, 12030, 999900] : List Int))).bind fun bt593 => (if bt593.1 > 0 then ((spec_l1Cur_among.f s0_0 bt593.2.1 bt593.2.2 (([1, 2, 410, 9999] : List Int))).bind fun bt600 => ((spec_l1Cur_among.f s0_0 bt600.2.1 bt600.2.2 (([0, 9, 845, 20000] : List Int))).bind fun bt606 => ((spec_l1Least.f bt593.1 bt606.1).bind fun t609 => (spec_l1Cur_caveRow.j0 k s0_0 bt606.2.1 bt606.2.2 a1 bt593.1 t609 bt600.1)))) else (spec_l1Cur_caveRow.j0 k s0_0 bt593.2.1 bt593.2.2 a1 bt593.1 0 0))
def spec_l1Cur_caveRow.T4 : Bool × List (List Nat × List Nat) := (true, [([], []), ([0], [0]), ([], []), ([], []), ([2, 3], [2, 3]), ([1, 4, 4], [1, 4]), ([0, 1, 2, 3, 4, 5], []), ([6, 5, 5, 0, 1, 2, 3, 4, 5], [5, 6])])
def spec_l1Cur_caveRow.B4 : List Nat := [0, 1, 0, 0, 12, 31, 63, 127]
theorem spec_l1Cur_caveRow.tab4 : rtab .any (opsOf Tryd.f99 4) = spec_l1Cur_caveRow.T4 := by kernel_rfl
theorem spec_l1Cur_caveRow.bits4 : waitsOk spec_l1Cur_caveRow.T4.2 spec_l1Cur_caveRow.B4 = true := by kernel_rfl
set_option maxHeartbeats 8000000 in
set_option maxRecDepth 100000 in
theorem spec_l1Cur_caveRow.calls (k : Nat) (g : Nat) (s0_0 : List Int) (s0_1 : Int) (s0_2 : Int) (a1 : ByteArray) (r1 : ByteArray) (r2 : Int) (r3 : Int) (r4 : Int) (r5 : Int) (r6 : Int) (w0 w : World) (hI : IsS93 w0 w g s0_0 s0_1 s0_2) (hB : Below w0.heap.size w0 w) (h : spec_l1Cur_caveRow.f k s0_0 s0_1 s0_2 a1 = some (r1, r2, r3, r4, r5, r6)) :
  Calls Tryd.prog 99 #[.pointer (some ⟨g, 0, none⟩), .string a1] w fun e w' => e = .returned (.agg #[.string r1, .int .i64 r2, .int .i64 r3, .int .i64 r4]) ∧ IsS93 w0 w' g s0_0 r5 r6 ∧ Below w0.heap.size w0 w' ∧ KeepBut w w' g none := by
 have hu26 := Tryd.underlying26
 have HI0 := Aside0.mk hI
 have HK := Aside0.mk (KeepBut.refl w g none)
 have HL := Aside0.mk hB.size
 clear hI
 have HW0 := Aside0.mk hB.size
 have HB := Aside0.mk hB
 clear hB
 have H : ((spec_l1Cur_among.f s0_0 s0_1 s0_2 (([0, 1, 105, 12030, 12030, 999900] : List Int))).bind fun bt593 => (if bt593.1 > 0 then ((spec_l1Cur_among.f s0_0 bt593.2.1 bt593.2.2 (([1, 2, 410, 9999] : List Int))).bind fun bt600 => ((spec_l1Cur_among.f s0_0 bt600.2.1 bt600.2.2 (([0, 9, 845, 20000] : List Int))).bind fun bt606 => ((spec_l1Least.f bt593.1 bt606.1).bind fun t609 => (spec_l1Cur_caveRow.j0 k s0_0 bt606.2.1 bt606.2.2 a1 bt593.1 t609 bt600.1)))) else (spec_l1Cur_caveRow.j0 k s0_0 bt593.2.1 bt593.2.2 a1 bt593.1 0 0))) = some (r1, r2, r3, r4, r5, r6) := h
 clear h
 obtain ⟨y590, hy590⟩ : ∃ y_ : List Int, y_ = (([0, 1, 105, 12030, 12030, 999900] : List Int)) := ⟨_, rfl⟩
 replace H : ((spec_l1Cur_among.f s0_0 s0_1 s0_2 y590).bind fun bt593 => (if bt593.1 > 0 then ((spec_l1Cur_among.f s0_0 bt593.2.1 bt593.2.2 (([1, 2, 410, 9999] : List Int))).bind fun bt600 => ((spec_l1Cur_among.f s0_0 bt600.2.1 bt600.2.2 (([0, 9, 845, 20000] : List Int))).bind fun bt606 => ((spec_l1Least.f bt593.1 bt606.1).bind fun t609 => (spec_l1Cur_caveRow.j0 k s0_0 bt606.2.1 bt606.2.2 a1 bt593.1 t609 bt600.1)))) else (spec_l1Cur_caveRow.j0 k s0_0 bt593.2.1 bt593.2.2 a1 bt593.1 0 0))) = some (r1, r2, r3, r4, r5, r6) := by first | (rw [hy590]; with_reducible exact H) | (have H2_ := (Option.bind_some _ _).symm.trans H; rw [hy590]; with_reducible exact H2_) | (have H2_ := (Option.bind_some _ _).symm.trans H; with_reducible exact H2_) | with_reducible exact H | (rw [hy590]; exact H) | exact H
 have Ny590 := Aside0.mk hy590
 clear hy590
 replace H := Option.bind_eq_some_iff.mp H
 obtain ⟨⟨t593, t594, t595⟩, A30, H⟩ := H
 replace H : (if t593 > 0 then ((spec_l1Cur_among.f s0_0 t594 t595 (([1, 2, 410, 9999] : List Int))).bind fun bt600 => ((spec_l1Cur_among.f s0_0 bt600.2.1 bt600.2.2 (([0, 9, 845, 20000] : List Int))).bind fun bt606 => ((spec_l1Least.f t593 bt606.1).bind fun t609 => (spec_l1Cur_caveRow.j0 k s0_0 bt606.2.1 bt606.2.2 a1 t593 t609 bt600.1)))) else (spec_l1Cur_caveRow.j0 k s0_0 t594 t595 a1 t593 0 0)) = some (r1, r2, r3, r4, r5, r6) := H
 have A3 := Aside0.mk A30
 clear A30
 have HC4 := Aside0.mk H
 clear H
 go_enter Tryd.func99, Tryd.ntmps99
 go_upto_if 13 with (first | ((with_reducible refine gate_dst (N := 4) rfl ?_); refine box_event ?hg (N := 4) ?hd (cs := #[.string (⟨#[]⟩ : ByteArray), .int .i64 0, .int .i64 0, .int .i64 0]) (t := 26) ?hr ?_; (case hd => rfl); (case hg => rfl); (case hr => first | (go_simp; done) | (go_simp; rfl)); intro gb589 hg w5 hbox hb; have n0_ := Aside0.mk (IsS93.below (by repeat (first | (with_reducible first | exact HI0.out | apply IsS93.alloc | apply IsS93.drewN | apply IsS93.drew | apply IsS93.set_1 | apply IsS93.set_2) | exact HI0.out)) hb); have n1_ := Aside0.mk (KeepBut.trans (by repeat (first | (with_reducible first | exact HK.out | apply KeepBut.set_ | apply keep_drewN | apply keep_drew | apply keep_alloc) | exact HK.out)) (KeepBut.of_below hb g none) (.inl rfl)); have n2_ := Aside0.mk (below_step (by repeat (first | (with_reducible first | exact HB.out | apply below_alloc | apply pw_below_drewN | apply below_drew1 | refine below_set ?_ (IsS93.ge HI0.out)) | exact HB.out)) hb); have n3_ := Aside0.mk (hbox); have n4_ := Aside0.mk ((by rw [hg]; exact (keep_size (w := w) (g := g) (row := none) (by repeat (first | (with_reducible first | exact HK.out | apply KeepBut.set_ | apply keep_drewN | apply keep_drew | apply keep_alloc) | exact HK.out))) : w.heap.size ≤ gb589)); have n5_ := Aside0.mk ((Nat.le_trans HW0.out (by rw [hg]; exact (keep_size (w := w) (g := g) (row := none) (by repeat (first | (with_reducible first | exact HK.out | apply KeepBut.set_ | apply keep_drewN | apply keep_drew | apply keep_alloc) | exact HK.out))) : w.heap.size ≤ gb589) : w0.heap.size ≤ gb589)); have n6_ := Aside0.mk ((by rw [hg]; exact Nat.ne_of_lt (IsS93.lt (show IsS93 w0 _ g s0_0 s0_1 s0_2 from by repeat (first | (with_reducible first | exact HI0.out | apply IsS93.alloc | apply IsS93.drewN | apply IsS93.drew | apply IsS93.set_1 | apply IsS93.set_2) | exact HI0.out))) : g ≠ gb589)); have n7_ := Aside0.mk ((by rw [hg]; exact Nat.ne_of_gt (IsS93.lt (show IsS93 w0 _ g s0_0 s0_1 s0_2 from by repeat (first | (with_reducible first | exact HI0.out | apply IsS93.alloc | apply IsS93.drewN | apply IsS93.drew | apply IsS93.set_1 | apply IsS93.set_2) | exact HI0.out))) : gb589 ≠ g)); clear HI0; clear HK; clear HB; have HI0 := n0_; have HK := n1_; have HB := n2_; have BK589 := n3_; have GW589 := n4_; have GE589 := n5_; have NB0_589 := n6_; have NB589_0 := n7_; clear n0_ n1_ n2_ n3_ n4_ n5_ n6_ n7_; clear hb hbox hg) | ((with_reducible refine gate_dst (N := 8) rfl ?_); refine Kd.R_lit (Kd.int .i64) _ 3 ?hg (N := 8) ?hd (xs := ([0, 1, 105, 12030, 12030, 999900] : List Int)) (inner := [.int .i64 0, .int .i64 1, .int .i64 105, .int .i64 12030, .int .i64 12030, .int .i64 999900]) (ok := fun _ => True) (okp := fun _ => True) ?hr ?hp (fun _ hk => hk) trivial (Below.refl _ _) (Nat.le_refl _) (by simp) ?_; (case hd => rfl); (case hg => rfl); (case hr => first | (go_simp; done) | (go_simp; rfl)); (case hp => exact (Reps.one (show Kd.M (Kd.int .i64) _ _ _ 0 [.int .i64 0] from rfl) (Reps.one (show Kd.M (Kd.int .i64) _ _ _ 1 [.int .i64 1] from rfl) (Reps.one (show Kd.M (Kd.int .i64) _ _ _ 105 [.int .i64 105] from rfl) (Reps.one (show Kd.M (Kd.int .i64) _ _ _ 12030 [.int .i64 12030] from rfl) (Reps.one (show Kd.M (Kd.int .i64) _ _ _ 12030 [.int .i64 12030] from rfl) (Reps.one (show Kd.M (Kd.int .i64) _ _ _ 999900 [.int .i64 999900] from rfl) (Reps.none _ _)))))))); intro v591 w6 ho7 hb hg_ hnew_; clear hg_ hnew_; (first | rw [← Ny590.out] at ho7 | (simp only [Int.reduceToNat] at ho7; rw [← Ny590.out] at ho7)); have n0_ := Aside0.mk (Kd.R_lower ho7 (keep_size (w := w) (g := g) (row := none) (by repeat (first | (with_reducible first | exact HK.out | apply KeepBut.set_ | apply keep_drewN | apply keep_drew | apply keep_alloc | refine keep_far ?_ GW589.out _) | exact HK.out)))); have n1_ := Aside0.mk (IsS93.below (by repeat (first | (with_reducible first | exact HI0.out | apply IsS93.alloc | apply IsS93.drewN | apply IsS93.drew | apply IsS93.set_1 | apply IsS93.set_2 | refine IsS93.far ?_ NB0_589.out _) | exact HI0.out)) hb); have n2_ := Aside0.mk (blk_below (g := gb589) (o := .cells #[.string (⟨#[]⟩ : ByteArray), .int .i64 0, .int .i64 0, .int .i64 0] 26 (0, 0)) (bk_ BK589.out) hb); have n3_ := Aside0.mk (KeepBut.trans (by repeat (first | (with_reducible first | exact HK.out | apply KeepBut.set_ | apply keep_drewN | apply keep_drew | apply keep_alloc | refine keep_far ?_ GW589.out _) | exact HK.out)) (KeepBut.of_below hb g none) (.inl rfl)); have n4_ := Aside0.mk (below_step (by repeat (first | (with_reducible first | exact HB.out | apply below_alloc | apply pw_below_drewN | apply below_drew1 | refine below_set ?_ (IsS93.ge HI0.out) | refine below_set ?_ GE589.out) | exact HB.out)) hb); clear HI0; clear BK589; clear HK; clear HB; have HO592 := n0_; have HI0 := n1_; have BK589 := n2_; have HK := n3_; have HB := n4_; clear n0_ n1_ n2_ n3_ n4_; clear hb ho7; obtain ⟨Ao8, co8, eo8⟩ := Kd.R_slice HO592.out; subst eo8) | ((with_reducible refine gate_callee (f := 83) rfl ?_); refine ga_ (some 9) Tryd.func83 #[.pointer (some ⟨g, 0, none⟩), .slice Ao8 y590.length co8] ?_; (with_reducible refine (spec_l1Cur_among.calls g s0_0 s0_1 s0_2 _ _ y590 t593 t594 t595 w0 _ ?side1 ?side2 ?side3 ?side4 ?side5 A3.out).mono ?_); (case side1 => repeat (first | (with_reducible first | exact HI0.out | apply IsS93.alloc | apply IsS93.drewN | apply IsS93.drew | apply IsS93.set_1 | apply IsS93.set_2 | refine IsS93.far ?_ NB0_589.out _) | exact HI0.out)); (case side2 => repeat (first | (with_reducible first | exact HB.out | apply below_alloc | apply pw_below_drewN | apply below_drew1 | refine below_set ?_ (IsS93.ge HI0.out) | refine below_set ?_ GE589.out) | exact HB.out)); (case side3 => exact kc_ (Kd.R_reads' HO592.out).2.2); (case side4 => exact (Kd.R_reads' HO592.out).2.1); (case side5 => exact far_slice (IsS93.own_ne HI0.out HO592.out (by decide))); rintro e w9 ⟨rfl, hi, hb, hk⟩; refine ⟨_, rfl, ?_⟩; have n0_ := Aside0.mk (KeepBut.blk hk (g' := gb589) (o := .cells #[.string (⟨#[]⟩ : ByteArray), .int .i64 0, .int .i64 0, .int .i64 0] 26 (0, 0)) (bk_ BK589.out) NB589_0.out (by simp)); have n1_ := Aside0.mk (Kd.R_mono (Kd.R_keep (IsS93.apart (show IsS93 w0 _ g s0_0 s0_1 s0_2 from by repeat (first | (with_reducible first | exact HI0.out | apply IsS93.alloc | apply IsS93.drewN | apply IsS93.drew | apply IsS93.set_1 | apply IsS93.set_2 | refine IsS93.far ?_ NB0_589.out _) | exact HI0.out)) (kr_ HO592.out) (by decide)) hk (fun _ h => h.2)) (fun _ h => h.1)); have n2_ := Aside0.mk (KeepBut.trans (by repeat (first | (with_reducible first | exact HK.out | apply KeepBut.set_ | apply keep_drewN | apply keep_drew | apply keep_alloc | refine keep_far ?_ GW589.out _) | exact HK.out)) hk (.inl rfl)); have n3_ := Aside0.mk (hb); have n4_ := Aside0.mk (hi); clear BK589; clear HO592; clear HK; clear HB; clear HI0; have BK589 := n0_; have HO592 := n1_; have HK := n2_; have HB := n3_; have HI0 := n4_; clear n0_ n1_ n2_ n3_ n4_; (try clear hb); (try clear hb2); (try clear hk); (try clear hi)) | ((with_reducible refine gate_dst (N := 5) rfl ?_); refine box_event ?hg (N := 5) ?hd (cs := #[.string (⟨#[]⟩ : ByteArray), .int .i64 0, .int .i64 0, .int .i64 0]) (t := 26) ?hr ?_; (case hd => rfl); (case hg => rfl); (case hr => first | (go_simp; done) | (go_simp; rfl)); intro gb596 hg w10 hbox hb; have n0_ := Aside0.mk (Kd.R_below (kr_ HO592.out) hb); have n1_ := Aside0.mk (IsS93.below (by repeat (first | (with_reducible first | exact HI0.out | apply IsS93.alloc | apply IsS93.drewN | apply IsS93.drew | apply IsS93.set_1 | apply IsS93.set_2 | refine IsS93.far ?_ NB0_589.out _) | exact HI0.out)) hb); have n2_ := Aside0.mk (blk_below (g := gb589) (o := .cells #[.string (⟨#[]⟩ : ByteArray), .int .i64 0, .int .i64 0, .int .i64 0] 26 (0, 0)) (bk_ BK589.out) hb); have n3_ := Aside0.mk (KeepBut.trans (by repeat (first | (with_reducible first | exact HK.out | apply KeepBut.set_ | apply keep_drewN | apply keep_drew | apply keep_alloc | refine keep_far ?_ GW589.out _) | exact HK.out)) (KeepBut.of_below hb g none) (.inl rfl)); have n4_ := Aside0.mk (below_step (by repeat (first | (with_reducible first | exact HB.out | apply below_alloc | apply pw_below_drewN | apply below_drew1 | refine below_set ?_ (IsS93.ge HI0.out) | refine below_set ?_ GE589.out) | exact HB.out)) hb); have n5_ := Aside0.mk (hbox); have n6_ := Aside0.mk ((by rw [hg]; exact (keep_size (w := w) (g := g) (row := none) (by repeat (first | (with_reducible first | exact HK.out | apply KeepBut.set_ | apply keep_drewN | apply keep_drew | apply keep_alloc | refine keep_far ?_ GW589.out _) | exact HK.out))) : w.heap.size ≤ gb596)); have n7_ := Aside0.mk ((Nat.le_trans HW0.out (by rw [hg]; exact (keep_size (w := w) (g := g) (row := none) (by repeat (first | (with_reducible first | exact HK.out | apply KeepBut.set_ | apply keep_drewN | apply keep_drew | apply keep_alloc | refine keep_far ?_ GW589.out _) | exact HK.out))) : w.heap.size ≤ gb596) : w0.heap.size ≤ gb596)); have n8_ := Aside0.mk ((by rw [hg]; exact Nat.ne_of_lt (blk_lt (g := gb589) (o := .cells #[.string (⟨#[]⟩ : ByteArray), .int .i64 0, .int .i64 0, .int .i64 0] 26 (0, 0)) (bk_ BK589.out)) : gb589 ≠ gb596)); have n9_ := Aside0.mk ((by rw [hg]; exact Nat.ne_of_gt (blk_lt (g := gb589) (o := .cells #[.string (⟨#[]⟩ : ByteArray), .int .i64 0, .int .i64 0, .int .i64 0] 26 (0, 0)) (bk_ BK589.out)) : gb596 ≠ gb589)); have n10_ := Aside0.mk ((by rw [hg]; exact Nat.ne_of_lt (IsS93.lt (show IsS93 w0 _ g s0_0 t594 t595 from by repeat (first | (with_reducible first | exact HI0.out | apply IsS93.alloc | apply IsS93.drewN | apply IsS93.drew | apply IsS93.set_1 | apply IsS93.set_2 | refine IsS93.far ?_ NB0_589.out _) | exact HI0.out))) : g ≠ gb596)); have n11_ := Aside0.mk ((by rw [hg]; exact Nat.ne_of_gt (IsS93.lt (show IsS93 w0 _ g s0_0 t594 t595 from by repeat (first | (with_reducible first | exact HI0.out | apply IsS93.alloc | apply IsS93.drewN | apply IsS93.drew | apply IsS93.set_1 | apply IsS93.set_2 | refine IsS93.far ?_ NB0_589.out _) | exact HI0.out))) : gb596 ≠ g)); clear HO592; clear HI0; clear BK589; clear HK; clear HB; have HO592 := n0_; have HI0 := n1_; have BK589 := n2_; have HK := n3_; have HB := n4_; have BK596 := n5_; have GW596 := n6_; have GE596 := n7_; have NB589_596 := n8_; have NB596_589 := n9_; have NB0_596 := n10_; have NB596_0 := n11_; clear n0_ n1_ n2_ n3_ n4_ n5_ n6_ n7_ n8_ n9_ n10_ n11_; clear hb hbox hg; have hnb11 := NB596_589.out; have hnc11 := NB589_596.out; have hnb12 := NB596_0.out; have hnc12 := NB0_596.out; have hcz13_0 : w10.cell? ⟨gb596, 0, none⟩ = some (.string (⟨#[]⟩ : ByteArray)) := (blk_cell BK596.out 0).trans rfl; have hcz13_1 : w10.cell? ⟨gb596, 1, none⟩ = some (.int .i64 0) := (blk_cell BK596.out 1).trans rfl; have hcz13_2 : w10.cell? ⟨gb596, 2, none⟩ = some (.int .i64 0) := (blk_cell BK596.out 2).trans rfl; have hcz13_3 : w10.cell? ⟨gb596, 3, none⟩ = some (.int .i64 0) := (blk_cell BK596.out 3).trans rfl; have hfz13_0 := blk_frozen BK596.out 0; have hfz13_1 := blk_frozen BK596.out 1; have hfz13_2 := blk_frozen BK596.out 2; have hfz13_3 := blk_frozen BK596.out 3))
 (try simp only [Act.put, List.setIfInBounds_toArray, List.set_cons_zero, List.set_cons_succ])
 go_cut [] (fun wc => ∃ (kq : Nat) (x1001_3 : Int) (x1002_3 : Int) (x597002_3 : Int) (x597003_3 : Int), Aside0 (spec_l1Cur_caveRow.j0 kq s0_0 x1001_3 x1002_3 a1 t593 x597002_3 x597003_3 = some (r1, r2, r3, r4, r5, r6)) ∧ Aside0 (kq ≤ k) ∧ Aside0 (wc.heap[gb589]? = some (.cells #[.string (⟨#[]⟩ : ByteArray), .int .i64 0, .int .i64 0, .int .i64 0] 26 (0, 0))) ∧ Aside0 (wc.heap[gb596]? = some (.cells #[.string a1, .int .i64 t593, .int .i64 x597002_3, .int .i64 x597003_3] 26 (0, 0))) ∧ Aside0 (IsS93 w0 wc g s0_0 x1001_3 x1002_3) ∧ Aside0 (KeepBut w wc g none) ∧ Aside0 (Below w0.heap.size w0 wc))
 case first =>
  have H := HC4.out
  clear HC4
  by_cases c14 : t593 > 0
  ·
   rw [if_pos c14] at H
   have c14b0 : decide (0 < t593) = true := decide_eq_true c14
   clear c14
   (first | rw [c14b0] | (simp only [i64_w, i32_w]; rw [c14b0]) | skip)
   obtain ⟨y597, hy597⟩ : ∃ y_ : List Int, y_ = (([1, 2, 410, 9999] : List Int)) := ⟨_, rfl⟩
   replace H : ((spec_l1Cur_among.f s0_0 t594 t595 y597).bind fun bt600 => ((spec_l1Cur_among.f s0_0 bt600.2.1 bt600.2.2 (([0, 9, 845, 20000] : List Int))).bind fun bt606 => ((spec_l1Least.f t593 bt606.1).bind fun t609 => (spec_l1Cur_caveRow.j0 k s0_0 bt606.2.1 bt606.2.2 a1 t593 t609 bt600.1)))) = some (r1, r2, r3, r4, r5, r6) := by first | (rw [hy597]; with_reducible exact H) | (have H2_ := (Option.bind_some _ _).symm.trans H; rw [hy597]; with_reducible exact H2_) | (have H2_ := (Option.bind_some _ _).symm.trans H; with_reducible exact H2_) | with_reducible exact H | (rw [hy597]; exact H) | exact H
   have Ny597 := Aside0.mk hy597
   clear hy597
   replace H := Option.bind_eq_some_iff.mp H
   obtain ⟨⟨t600, t601, t602⟩, A150, H⟩ := H
   replace H : ((spec_l1Cur_among.f s0_0 t601 t602 (([0, 9, 845, 20000] : List Int))).bind fun bt606 => ((spec_l1Least.f t593 bt606.1).bind fun t609 => (spec_l1Cur_caveRow.j0 k s0_0 bt606.2.1 bt606.2.2 a1 t593 t609 t600))) = some (r1, r2, r3, r4, r5, r6) := H
   have A15 := Aside0.mk A150
   clear A150
   obtain ⟨y603, hy603⟩ : ∃ y_ : List Int, y_ = (([0, 9, 845, 20000] : List Int)) := ⟨_, rfl⟩
   replace H : ((spec_l1Cur_among.f s0_0 t601 t602 y603).bind fun bt606 => ((spec_l1Least.f t593 bt606.1).bind fun t609 => (spec_l1Cur_caveRow.j0 k s0_0 bt606.2.1 bt606.2.2 a1 t593 t609 t600))) = some (r1, r2, r3, r4, r5, r6) := by first | (rw [hy603]; with_reducible exact H) | (have H2_ := (Option.bind_some _ _).symm.trans H; rw [hy603]; with_reducible exact H2_) | (have H2_ := (Option.bind_some _ _).symm.trans H; with_reducible exact H2_) | with_reducible exact H | (rw [hy603]; exact H) | exact H
   have Ny603 := Aside0.mk hy603
   clear hy603
   replace H := Option.bind_eq_some_iff.mp H
   obtain ⟨⟨t606, t607, t608⟩, A160, H⟩ := H
   replace H : ((spec_l1Least.f t593 t606).bind fun t609 => (spec_l1Cur_caveRow.j0 k s0_0 t607 t608 a1 t593 t609 t600)) = some (r1, r2, r3, r4, r5, r6) := H
   have A16 := Aside0.mk A160
   clear A160
   replace H := Option.bind_eq_some_iff.mp H
   obtain ⟨t609, A170, H⟩ := H
   replace H : (spec_l1Cur_caveRow.j0 k s0_0 t607 t608 a1 t593 t609 t600) = some (r1, r2, r3, r4, r5, r6) := H
   have A17 := Aside0.mk A170
   clear A170
   have H' := Aside0.mk H
   clear H
   try go_wp2_with (first | ((with_reducible refine gate_dst (N := 15) rfl ?_); refine Kd.R_lit (Kd.int .i64) _ 3 ?hg (N := 15) ?hd (xs := ([1, 2, 410, 9999] : List Int)) (inner := [.int .i64 1, .int .i64 2, .int .i64 410, .int .i64 9999]) (ok := fun _ => True) (okp := fun _ => True) ?hr ?hp (fun _ hk => hk) trivial (Below.refl _ _) (Nat.le_refl _) (by simp) ?_; (case hd => rfl); (case hg => rfl); (case hr => first | (go_simp; done) | (go_simp; rfl)); (case hp => exact (Reps.one (show Kd.M (Kd.int .i64) _ _ _ 1 [.int .i64 1] from rfl) (Reps.one (show Kd.M (Kd.int .i64) _ _ _ 2 [.int .i64 2] from rfl) (Reps.one (show Kd.M (Kd.int .i64) _ _ _ 410 [.int .i64 410] from rfl) (Reps.one (show Kd.M (Kd.int .i64) _ _ _ 9999 [.int .i64 9999] from rfl) (Reps.none _ _)))))); intro v598 w18 ho19 hb hg_ hnew_; clear hg_ hnew_; (first | rw [← Ny597.out] at ho19 | (simp only [Int.reduceToNat] at ho19; rw [← Ny597.out] at ho19)); have n0_ := Aside0.mk (Kd.R_elder' (by (with_reducible repeat (first | apply Kd.R_alloc | apply Kd.R_drewN | apply Kd.R_drew)); exact (Kd.R_mono (Kd.R_far (p := ⟨gb596, 3, none⟩) (Kd.R_far (p := ⟨gb596, 2, none⟩) (Kd.R_far (p := ⟨gb596, 1, none⟩) (Kd.R_far (p := ⟨gb596, 0, none⟩) (Kd.R_types HO592.out BK596.out (by decide)) (fun _ hk => hk.2) (.string a1)) (fun _ hk => hk.2) (.int .i64 t593)) (fun _ hk => hk.2) (.int .i64 0)) (fun _ hk => hk.2) (.int .i64 0)) (fun _ h_ => h_.1))) (Kd.R_base ho19) hb); have n1_ := Aside0.mk (Kd.R_lower (Kd.R_new' ho19 (Kd.R_lt (by (with_reducible repeat (first | apply Kd.R_alloc | apply Kd.R_drewN | apply Kd.R_drew)); exact (Kd.R_mono (Kd.R_far (p := ⟨gb596, 3, none⟩) (Kd.R_far (p := ⟨gb596, 2, none⟩) (Kd.R_far (p := ⟨gb596, 1, none⟩) (Kd.R_far (p := ⟨gb596, 0, none⟩) (Kd.R_types HO592.out BK596.out (by decide)) (fun _ hk => hk.2) (.string a1)) (fun _ hk => hk.2) (.int .i64 t593)) (fun _ hk => hk.2) (.int .i64 0)) (fun _ hk => hk.2) (.int .i64 0)) (fun _ h_ => h_.1))))) (keep_size (w := w) (g := g) (row := none) (by repeat (first | (with_reducible first | exact HK.out | apply KeepBut.set_ | apply keep_drewN | apply keep_drew | apply keep_alloc | refine keep_far ?_ GW589.out _ | refine keep_far ?_ GW596.out _) | exact HK.out)))); have n2_ := Aside0.mk (IsS93.below (show IsS93 w0 ((((w10.setCell ⟨gb596, 0, none⟩ (.string a1)).setCell ⟨gb596, 1, none⟩ (.int .i64 t593)).setCell ⟨gb596, 2, none⟩ (.int .i64 0)).setCell ⟨gb596, 3, none⟩ (.int .i64 0)) g s0_0 t594 t595 from by repeat (first | (with_reducible first | exact HI0.out | apply IsS93.alloc | apply IsS93.drewN | apply IsS93.drew | apply IsS93.set_1 | apply IsS93.set_2 | refine IsS93.far ?_ NB0_589.out _ | refine IsS93.far ?_ NB0_596.out _) | exact HI0.out)) hb); have n3_ := Aside0.mk (blk_below (g := gb589) (o := .cells #[.string (⟨#[]⟩ : ByteArray), .int .i64 0, .int .i64 0, .int .i64 0] 26 (0, 0)) (by (with_reducible repeat (first | refine blk_drewN ?_ _ | refine blk_drew ?_ | refine blk_alloc ?_ _)); refine blk_far ?_ NB589_596.out _; (with_reducible repeat (first | refine blk_drewN ?_ _ | refine blk_drew ?_ | refine blk_alloc ?_ _)); refine blk_far ?_ NB589_596.out _; (with_reducible repeat (first | refine blk_drewN ?_ _ | refine blk_drew ?_ | refine blk_alloc ?_ _)); refine blk_far ?_ NB589_596.out _; (with_reducible repeat (first | refine blk_drewN ?_ _ | refine blk_drew ?_ | refine blk_alloc ?_ _)); refine blk_far ?_ NB589_596.out _; (with_reducible repeat (first | refine blk_drewN ?_ _ | refine blk_drew ?_ | refine blk_alloc ?_ _)); exact BK589.out) hb); have n4_ := Aside0.mk (blk_below (g := gb596) (o := .cells #[.string a1, .int .i64 t593, .int .i64 0, .int .i64 0] 26 (0, 0)) (by (with_reducible repeat (first | refine blk_drewN ?_ _ | refine blk_drew ?_ | refine blk_alloc ?_ _)); refine blk_put (cs := #[.string a1, .int .i64 t593, .int .i64 0, .int .i64 0]) ?_ 3 _ rfl; (with_reducible repeat (first | refine blk_drewN ?_ _ | refine blk_drew ?_ | refine blk_alloc ?_ _)); refine blk_put (cs := #[.string a1, .int .i64 t593, .int .i64 0, .int .i64 0]) ?_ 2 _ rfl; (with_reducible repeat (first | refine blk_drewN ?_ _ | refine blk_drew ?_ | refine blk_alloc ?_ _)); refine blk_put (cs := #[.string a1, .int .i64 0, .int .i64 0, .int .i64 0]) ?_ 1 _ rfl; (with_reducible repeat (first | refine blk_drewN ?_ _ | refine blk_drew ?_ | refine blk_alloc ?_ _)); refine blk_put (cs := #[.string (⟨#[]⟩ : ByteArray), .int .i64 0, .int .i64 0, .int .i64 0]) ?_ 0 _ rfl; (with_reducible repeat (first | refine blk_drewN ?_ _ | refine blk_drew ?_ | refine blk_alloc ?_ _)); exact BK596.out) hb); have n5_ := Aside0.mk (KeepBut.trans (by repeat (first | (with_reducible first | exact HK.out | apply KeepBut.set_ | apply keep_drewN | apply keep_drew | apply keep_alloc | refine keep_far ?_ GW589.out _ | refine keep_far ?_ GW596.out _) | exact HK.out)) (KeepBut.of_below hb g none) (.inl rfl)); have n6_ := Aside0.mk (below_step (by repeat (first | (with_reducible first | exact HB.out | apply below_alloc | apply pw_below_drewN | apply below_drew1 | refine below_set ?_ (IsS93.ge HI0.out) | refine below_set ?_ GE589.out | refine below_set ?_ GE596.out) | exact HB.out)) hb); clear HO592; clear HI0; clear BK589; clear BK596; clear HK; clear HB; have HO592 := n0_; have HO599 := n1_; have HI0 := n2_; have BK589 := n3_; have BK596 := n4_; have HK := n5_; have HB := n6_; clear n0_ n1_ n2_ n3_ n4_ n5_ n6_; clear hb ho19; obtain ⟨Ao20, co20, eo20⟩ := Kd.R_slice HO599.out; subst eo20) | ((with_reducible refine gate_callee (f := 83) rfl ?_); refine ga_ (some 16) Tryd.func83 #[.pointer (some ⟨g, 0, none⟩), .slice Ao20 y597.length co20] ?_; (with_reducible refine (spec_l1Cur_among.calls g s0_0 t594 t595 _ _ y597 t600 t601 t602 w0 _ ?side1 ?side2 ?side3 ?side4 ?side5 A15.out).mono ?_); (case side1 => repeat (first | (with_reducible first | exact HI0.out | apply IsS93.alloc | apply IsS93.drewN | apply IsS93.drew | apply IsS93.set_1 | apply IsS93.set_2 | refine IsS93.far ?_ NB0_589.out _ | refine IsS93.far ?_ NB0_596.out _) | exact HI0.out)); (case side2 => repeat (first | (with_reducible first | exact HB.out | apply below_alloc | apply pw_below_drewN | apply below_drew1 | refine below_set ?_ (IsS93.ge HI0.out) | refine below_set ?_ GE589.out | refine below_set ?_ GE596.out) | exact HB.out)); (case side3 => exact kc_ (Kd.R_reads' HO599.out).2.2); (case side4 => exact (Kd.R_reads' HO599.out).2.1); (case side5 => exact far_slice (IsS93.own_ne HI0.out HO599.out (by decide))); rintro e w21 ⟨rfl, hi, hb, hk⟩; refine ⟨_, rfl, ?_⟩; have n0_ := Aside0.mk (KeepBut.blk hk (g' := gb589) (o := .cells #[.string (⟨#[]⟩ : ByteArray), .int .i64 0, .int .i64 0, .int .i64 0] 26 (0, 0)) (bk_ BK589.out) NB589_0.out (by simp)); have n1_ := Aside0.mk (Kd.R_mono (Kd.R_keep (IsS93.apart (show IsS93 w0 _ g s0_0 t594 t595 from by repeat (first | (with_reducible first | exact HI0.out | apply IsS93.alloc | apply IsS93.drewN | apply IsS93.drew | apply IsS93.set_1 | apply IsS93.set_2 | refine IsS93.far ?_ NB0_589.out _ | refine IsS93.far ?_ NB0_596.out _) | exact HI0.out)) (kr_ HO592.out) (by decide)) hk (fun _ h => h.2)) (fun _ h => h.1)); have n2_ := Aside0.mk (KeepBut.blk hk (g' := gb596) (o := .cells #[.string a1, .int .i64 t593, .int .i64 0, .int .i64 0] 26 (0, 0)) (bk_ BK596.out) NB596_0.out (by simp)); have n3_ := Aside0.mk (Kd.R_mono (Kd.R_keep (IsS93.apart (show IsS93 w0 _ g s0_0 t594 t595 from by repeat (first | (with_reducible first | exact HI0.out | apply IsS93.alloc | apply IsS93.drewN | apply IsS93.drew | apply IsS93.set_1 | apply IsS93.set_2 | refine IsS93.far ?_ NB0_589.out _ | refine IsS93.far ?_ NB0_596.out _) | exact HI0.out)) (kr_ HO599.out) (by decide)) hk (fun _ h => h.2)) (fun _ h => h.1)); have n4_ := Aside0.mk (KeepBut.trans (by repeat (first | (with_reducible first | exact HK.out | apply KeepBut.set_ | apply keep_drewN | apply keep_drew | apply keep_alloc | refine keep_far ?_ GW589.out _ | refine keep_far ?_ GW596.out _) | exact HK.out)) hk (.inl rfl)); have n5_ := Aside0.mk (hb); have n6_ := Aside0.mk (hi); clear BK589; clear HO592; clear BK596; clear HO599; clear HK; clear HB; clear HI0; have BK589 := n0_; have HO592 := n1_; have BK596 := n2_; have HO599 := n3_; have HK := n4_; have HB := n5_; have HI0 := n6_; clear n0_ n1_ n2_ n3_ n4_ n5_ n6_; (try clear hb); (try clear hb2); (try clear hk); (try clear hi); have hnb22 := NB596_589.out; have hnc22 := NB589_596.out; have hnb23 := NB596_0.out; have hnc23 := NB0_596.out; have hcz24_0 : w21.cell? ⟨gb596, 0, none⟩ = some (.string a1) := (blk_cell BK596.out 0).trans rfl; have hcz24_1 : w21.cell? ⟨gb596, 1, none⟩ = some (.int .i64 t593) := (blk_cell BK596.out 1).trans rfl; have hcz24_2 : w21.cell? ⟨gb596, 2, none⟩ = some (.int .i64 0) := (blk_cell BK596.out 2).trans rfl; have hcz24_3 : w21.cell? ⟨gb596, 3, none⟩ = some (.int .i64 0) := (blk_cell BK596.out 3).trans rfl; have hfz24_0 := blk_frozen BK596.out 0; have hfz24_1 := blk_frozen BK596.out 1; have hfz24_2 := blk_frozen BK596.out 2; have hfz24_3 := blk_frozen BK596.out 3))
   have n0_ : Aside0 (Kd.R (Kd.int .i64) 3 (w21.setCell ⟨gb596, 3, none⟩ (.int .i64 t600)) w.heap.size (fun k_ => some k_ ≠ (.slice Ao20 y597.length co20 : Value).ownBlock) (.slice Ao8 y590.length co8) y590) := ⟨by (with_reducible repeat (first | apply Kd.R_alloc | apply Kd.R_drewN | apply Kd.R_drew)); exact Kd.R_mono (Kd.R_far (p := ⟨gb596, 3, none⟩) (Kd.R_types HO592.out BK596.out (by decide)) (fun _ hk => hk.2) (.int .i64 t600)) (fun _ hk => hk.1.2)⟩
   have n1_ : Aside0 (Kd.R (Kd.int .i64) 3 (w21.setCell ⟨gb596, 3, none⟩ (.int .i64 t600)) w.heap.size (fun k_ => some k_ ≠ (.slice Ao8 y590.length co8 : Value).ownBlock) (.slice Ao20 y597.length co20) y597) := ⟨by (with_reducible repeat (first | apply Kd.R_alloc | apply Kd.R_drewN | apply Kd.R_drew)); exact Kd.R_mono (Kd.R_far (p := ⟨gb596, 3, none⟩) (Kd.R_types HO599.out BK596.out (by decide)) (fun _ hk => hk.2) (.int .i64 t600)) (fun _ hk => hk.1.2)⟩
   have n2_ : Aside0 ((w21.setCell ⟨gb596, 3, none⟩ (.int .i64 t600)).heap[gb589]? = some (.cells #[.string (⟨#[]⟩ : ByteArray), .int .i64 0, .int .i64 0, .int .i64 0] 26 (0, 0))) := ⟨by (with_reducible repeat (first | refine blk_drewN ?_ _ | refine blk_drew ?_ | refine blk_alloc ?_ _)); refine blk_far ?_ NB589_596.out _; (with_reducible repeat (first | refine blk_drewN ?_ _ | refine blk_drew ?_ | refine blk_alloc ?_ _)); exact BK589.out⟩
   have n3_ : Aside0 ((w21.setCell ⟨gb596, 3, none⟩ (.int .i64 t600)).heap[gb596]? = some (.cells #[.string a1, .int .i64 t593, .int .i64 0, .int .i64 t600] 26 (0, 0))) := ⟨by (with_reducible repeat (first | refine blk_drewN ?_ _ | refine blk_drew ?_ | refine blk_alloc ?_ _)); refine blk_put (cs := #[.string a1, .int .i64 t593, .int .i64 0, .int .i64 0]) ?_ 3 _ rfl; (with_reducible repeat (first | refine blk_drewN ?_ _ | refine blk_drew ?_ | refine blk_alloc ?_ _)); exact BK596.out⟩
   have n4_ : Aside0 (IsS93 w0 (w21.setCell ⟨gb596, 3, none⟩ (.int .i64 t600)) g s0_0 t601 t602) := ⟨by repeat (first | (with_reducible first | exact HI0.out | apply IsS93.alloc | apply IsS93.drewN | apply IsS93.drew | apply IsS93.set_1 | apply IsS93.set_2 | refine IsS93.far ?_ NB0_589.out _ | refine IsS93.far ?_ NB0_596.out _) | exact HI0.out)⟩
   have n5_ : Aside0 (KeepBut w (w21.setCell ⟨gb596, 3, none⟩ (.int .i64 t600)) g none) := ⟨by repeat (first | (with_reducible first | exact HK.out | apply KeepBut.set_ | apply keep_drewN | apply keep_drew | apply keep_alloc | refine keep_far ?_ GW589.out _ | refine keep_far ?_ GW596.out _) | exact HK.out)⟩
   have n6_ : Aside0 (Below w0.heap.size w0 (w21.setCell ⟨gb596, 3, none⟩ (.int .i64 t600))) := ⟨by repeat (first | (with_reducible first | exact HB.out | apply below_alloc | apply pw_below_drewN | apply below_drew1 | refine below_set ?_ (IsS93.ge HI0.out) | refine below_set ?_ GE589.out | refine below_set ?_ GE596.out) | exact HB.out)⟩
   (try clear HO592)
   (try clear HO599)
   (try clear BK589)
   (try clear BK596)
   (try clear HI0)
   (try clear HK)
   (try clear HB)
   generalize (w21.setCell ⟨gb596, 3, none⟩ (.int .i64 t600)) = w25 at n0_ n1_ n2_ n3_ n4_ n5_ n6_ ⊢
   have HO592 := n0_
   have HO599 := n1_
   have BK589 := n2_
   have BK596 := n3_
   have HI0 := n4_
   have HK := n5_
   have HB := n6_
   clear n0_ n1_ n2_ n3_ n4_ n5_ n6_
   have n0_ := Aside0.mk (Kd.R_drew HO592.out)
   have n1_ := Aside0.mk (Kd.R_drew HO599.out)
   have n2_ := Aside0.mk (blk_drew BK589.out)
   have n3_ := Aside0.mk (blk_drew BK596.out)
   have n4_ := Aside0.mk (IsS93.drew HI0.out)
   have n5_ := Aside0.mk (keep_drew HK.out)
   have n6_ := Aside0.mk (below_drew1 HB.out)
   clear HO592
   clear HO599
   clear BK589
   clear BK596
   clear HI0
   clear HK
   clear HB
   have HO592 := n0_
   have HO599 := n1_
   have BK589 := n2_
   have BK596 := n3_
   have HI0 := n4_
   have HK := n5_
   have HB := n6_
   clear n0_ n1_ n2_ n3_ n4_ n5_ n6_
   refine start_ (n := 8) (S := fun w' => w'.cell? ⟨gb596, 0, none⟩ = some (.string a1) ∧ w'.cell? ⟨gb596, 1, none⟩ = some (.int .i64 t593) ∧ w'.cell? ⟨gb596, 2, none⟩ = some (.int .i64 0) ∧ w'.cell? ⟨gb596, 3, none⟩ = some (.int .i64 t600)) (ds := [7]) #[false, false, false, false, false, false, false, false] (by kernel_rfl) rfl rfl ⟨(blk_cell BK596.out 0).trans rfl, (blk_cell BK596.out 1).trans rfl, (blk_cell BK596.out 2).trans rfl, (blk_cell BK596.out 3).trans rfl⟩ (fun hHeld => ?_); refine with_tabW spec_l1Cur_caveRow.tab4 spec_l1Cur_caveRow.bits4 (fun HT_ HW_ => ?_)
   generalize w25.drew = w26 at HO592 HO599 BK589 BK596 HI0 HK HB hHeld ⊢
   refine pz_ HT_ 0 (some 18) #[true, false, false, false, false, false, false, false] ?_
   refine pz_ HT_ 2 (some 20) #[true, false, true, false, false, false, false, false] ?_
   refine take_ (i := 1) (N := some 19) (v := ?_) (a' := ?_) #[true, true, true, false, false, false, false, false] rfl rfl (take_ofW HT_.out HW_.out (by kernel_rfl)) (fun _ _ _ h => h) (Or.inl ⟨by rfl, ?_⟩) hHeld ?_ ?_
   rotate_left
   ·
    rintro w' ⟨s0, s1, s2, s3⟩
    go_simp
    with_reducible rfl
   rotate_left
   ·
    simp only [Act.put, List.setIfInBounds_toArray, List.set_cons_zero, List.set_cons_succ, i64_w, i32_w]
    rfl
   refine one_ (i := 3) (N := some 21) #[true, true, true, true, false, false, false, false] rfl rfl (one_of HT_.out (by kernel_rfl)) (by decide) (fun K hK => ?_)
   refine Kd.R_lit_step (Kd.int .i64) _ 3 ?hg (N := 21) ?hd (xs := ([0, 9, 845, 20000] : List Int)) (inner := [.int .i64 0, .int .i64 9, .int .i64 845, .int .i64 20000]) (ok := fun _ => True) (okp := fun _ => True) ?hr ?hp (fun _ hk => hk) trivial (Below.refl _ _) (Nat.le_refl _) (by simp) ?_; (case hd => rfl); (case hg => rfl); (case hr => first | (go_simp; done) | (go_simp; rfl)); (case hp => exact (Reps.one (show Kd.M (Kd.int .i64) _ _ _ 0 [.int .i64 0] from rfl) (Reps.one (show Kd.M (Kd.int .i64) _ _ _ 9 [.int .i64 9] from rfl) (Reps.one (show Kd.M (Kd.int .i64) _ _ _ 845 [.int .i64 845] from rfl) (Reps.one (show Kd.M (Kd.int .i64) _ _ _ 20000 [.int .i64 20000] from rfl) (Reps.none _ _))))))
   intro v604 w27 ho28 hb hg_ hnew_
   clear hg_ hnew_
   (first | rw [← Ny603.out] at ho28 | (simp only [Int.reduceToNat] at ho28; rw [← Ny603.out] at ho28))
   have n0_ := Aside0.mk (Kd.R_elder' (kr_ HO592.out) (Kd.R_base ho28) hb)
   have n1_ := Aside0.mk (Kd.R_elder' (kr_ HO599.out) (Kd.R_base ho28) hb)
   have n2_ := Aside0.mk (Kd.R_lower (Kd.R_new' (Kd.R_new' ho28 (Kd.R_lt (kr_ HO592.out))) (Kd.R_lt (kr_ HO599.out))) (keep_size (w := w) (g := g) (row := none) (by repeat (first | (with_reducible first | exact HK.out | apply KeepBut.set_ | apply keep_drewN | apply keep_drew | apply keep_alloc | refine keep_far ?_ GW589.out _ | refine keep_far ?_ GW596.out _) | exact HK.out))))
   have n3_ := Aside0.mk (IsS93.below (by repeat (first | (with_reducible first | exact HI0.out | apply IsS93.alloc | apply IsS93.drewN | apply IsS93.drew | apply IsS93.set_1 | apply IsS93.set_2 | refine IsS93.far ?_ NB0_589.out _ | refine IsS93.far ?_ NB0_596.out _) | exact HI0.out)) hb)
   have n4_ := Aside0.mk (blk_below (g := gb589) (o := .cells #[.string (⟨#[]⟩ : ByteArray), .int .i64 0, .int .i64 0, .int .i64 0] 26 (0, 0)) (bk_ BK589.out) hb)
   have n5_ := Aside0.mk (blk_below (g := gb596) (o := .cells #[.string a1, .int .i64 t593, .int .i64 0, .int .i64 t600] 26 (0, 0)) (bk_ BK596.out) hb)
   have n6_ := Aside0.mk (KeepBut.trans (by repeat (first | (with_reducible first | exact HK.out | apply KeepBut.set_ | apply keep_drewN | apply keep_drew | apply keep_alloc | refine keep_far ?_ GW589.out _ | refine keep_far ?_ GW596.out _) | exact HK.out)) (KeepBut.of_below hb g none) (.inl rfl))
   have n7_ := Aside0.mk (below_step (by repeat (first | (with_reducible first | exact HB.out | apply below_alloc | apply pw_below_drewN | apply below_drew1 | refine below_set ?_ (IsS93.ge HI0.out) | refine below_set ?_ GE589.out | refine below_set ?_ GE596.out) | exact HB.out)) hb)
   clear HO592
   clear HO599
   clear HI0
   clear BK589
   clear BK596
   clear HK
   clear HB
   have HO592 := n0_
   have HO599 := n1_
   have HO605 := n2_
   have HI0 := n3_
   have BK589 := n4_
   have BK596 := n5_
   have HK := n6_
   have HB := n7_
   clear n0_ n1_ n2_ n3_ n4_ n5_ n6_ n7_
   clear hb ho28
   obtain ⟨Ao29, co29, eo29⟩ := Kd.R_slice HO605.out
   (first | subst eo29 | (injection eo29 with f1_ f2_ f3_; have f4_ := f1_.symm; have f5_ := f3_.symm; clear f1_ f2_ f3_; subst f4_; subst f5_))
   refine hK.out _ _ ⟨(blk_cell BK596.out 0).trans rfl, (blk_cell BK596.out 1).trans rfl, (blk_cell BK596.out 2).trans rfl, (blk_cell BK596.out 3).trans rfl⟩ (fun hHeld => ?_)
   clear hK K
   refine norm_ (a' := ?_) ?_ ?_
   rotate_left
   ·
    show Act.put _ (some 21) _ = _
    simp only [Act.put, List.setIfInBounds_toArray, List.set_cons_zero, List.set_cons_succ, i64_w, i32_w]
    rfl
   refine one_ (i := 4) (N := some 22) #[true, true, true, true, true, false, false, false] rfl rfl (one_of HT_.out (by kernel_rfl)) (by decide) (fun K hK => ?_)
   refine goes_ Tryd.func83 (by kernel_rfl) rfl #[.pointer (some ⟨g, 0, none⟩), .slice Ao29 y603.length co29] (by rfl) rfl rfl (by (try simp only [List.map_toArray, List.map_cons, List.map_nil]); first | done | rfl | (simp only [List.length_drop, List.length_take]; rfl)) ?_
   with_reducible refine (spec_l1Cur_among.calls g s0_0 t601 t602 _ _ y603 t606 t607 t608 w0 _ ?side1 ?side2 ?side3 ?side4 ?side5 A16.out).mono ?_
   (case side1 => repeat (first | (with_reducible first | exact HI0.out | apply IsS93.alloc | apply IsS93.drewN | apply IsS93.drew | apply IsS93.set_1 | apply IsS93.set_2 | refine IsS93.far ?_ NB0_589.out _ | refine IsS93.far ?_ NB0_596.out _) | exact HI0.out))
   (case side2 => repeat (first | (with_reducible first | exact HB.out | apply below_alloc | apply pw_below_drewN | apply below_drew1 | refine below_set ?_ (IsS93.ge HI0.out) | refine below_set ?_ GE589.out | refine below_set ?_ GE596.out) | exact HB.out))
   (case side3 => exact kc_ (Kd.R_reads' HO605.out).2.2)
   (case side4 => exact (Kd.R_reads' HO605.out).2.1)
   (case side5 => exact far_slice (IsS93.own_ne HI0.out HO605.out (by decide)))
   rintro e w30 ⟨rfl, hi, hb, hk⟩
   refine ⟨_, rfl, ?_⟩
   have n0_ := Aside0.mk (KeepBut.blk hk (g' := gb589) (o := .cells #[.string (⟨#[]⟩ : ByteArray), .int .i64 0, .int .i64 0, .int .i64 0] 26 (0, 0)) (bk_ BK589.out) NB589_0.out (by simp))
   have n1_ := Aside0.mk (Kd.R_mono (Kd.R_keep (IsS93.apart (show IsS93 w0 _ g s0_0 t601 t602 from by repeat (first | (with_reducible first | exact HI0.out | apply IsS93.alloc | apply IsS93.drewN | apply IsS93.drew | apply IsS93.set_1 | apply IsS93.set_2 | refine IsS93.far ?_ NB0_589.out _ | refine IsS93.far ?_ NB0_596.out _) | exact HI0.out)) (kr_ HO592.out) (by decide)) hk (fun _ h => h.2)) (fun _ h => h.1))
   have n2_ := Aside0.mk (KeepBut.blk hk (g' := gb596) (o := .cells #[.string a1, .int .i64 t593, .int .i64 0, .int .i64 t600] 26 (0, 0)) (bk_ BK596.out) NB596_0.out (by simp))
   have n3_ := Aside0.mk (Kd.R_mono (Kd.R_keep (IsS93.apart (show IsS93 w0 _ g s0_0 t601 t602 from by repeat (first | (with_reducible first | exact HI0.out | apply IsS93.alloc | apply IsS93.drewN | apply IsS93.drew | apply IsS93.set_1 | apply IsS93.set_2 | refine IsS93.far ?_ NB0_589.out _ | refine IsS93.far ?_ NB0_596.out _) | exact HI0.out)) (kr_ HO599.out) (by decide)) hk (fun _ h => h.2)) (fun _ h => h.1))
   have n4_ := Aside0.mk (Kd.R_mono (Kd.R_keep (IsS93.apart (show IsS93 w0 _ g s0_0 t601 t602 from by repeat (first | (with_reducible first | exact HI0.out | apply IsS93.alloc | apply IsS93.drewN | apply IsS93.drew | apply IsS93.set_1 | apply IsS93.set_2 | refine IsS93.far ?_ NB0_589.out _ | refine IsS93.far ?_ NB0_596.out _) | exact HI0.out)) (kr_ HO605.out) (by decide)) hk (fun _ h => h.2)) (fun _ h => h.1))
   have n5_ := Aside0.mk (KeepBut.trans (by repeat (first | (with_reducible first | exact HK.out | apply KeepBut.set_ | apply keep_drewN | apply keep_drew | apply keep_alloc | refine keep_far ?_ GW589.out _ | refine keep_far ?_ GW596.out _) | exact HK.out)) hk (.inl rfl))
   have n6_ := Aside0.mk (hb)
   have n7_ := Aside0.mk (hi)
   clear BK589
   clear HO592
   clear BK596
   clear HO599
   clear HO605
   clear HK
   clear HB
   clear HI0
   have BK589 := n0_
   have HO592 := n1_
   have BK596 := n2_
   have HO599 := n3_
   have HO605 := n4_
   have HK := n5_
   have HB := n6_
   have HI0 := n7_
   clear n0_ n1_ n2_ n3_ n4_ n5_ n6_ n7_
   (try clear hb)
   (try clear hb2)
   (try clear hk)
   (try clear hi)
   refine hK.out _ _ ⟨(blk_cell BK596.out 0).trans rfl, (blk_cell BK596.out 1).trans rfl, (blk_cell BK596.out 2).trans rfl, (blk_cell BK596.out 3).trans rfl⟩ (fun hHeld => ?_)
   clear hK K
   refine norm_ (a' := ?_) ?_ ?_
   rotate_left
   ·
    show Act.put _ (some 22) _ = _
    simp only [Act.put, List.setIfInBounds_toArray, List.set_cons_zero, List.set_cons_succ, i64_w, i32_w]
    rfl
   refine one_ (i := 5) (N := some 23) #[true, true, true, true, true, true, false, false] rfl rfl (one_of HT_.out (by kernel_rfl)) (by decide) (fun K hK => ?_)
   refine goes_ Tryd.func68 (by kernel_rfl) rfl #[.int .i64 t593, .int .i64 t606] (by rfl) rfl rfl (by (try simp only [List.map_toArray, List.map_cons, List.map_nil]); first | done | rfl | (simp only [List.length_drop, List.length_take]; rfl)) ?_
   with_reducible refine (spec_l1Least.calls t593 t606 t609 _ A17.out).mono ?_
   rintro e w' ⟨rfl, ⟨nd, rfl⟩⟩
   refine ⟨_, rfl, ?_⟩
   refine hK.out _ _ ⟨(blk_cell BK596.out 0).trans rfl, (blk_cell BK596.out 1).trans rfl, (blk_cell BK596.out 2).trans rfl, (blk_cell BK596.out 3).trans rfl⟩ (fun hHeld => ?_)
   clear hK K
   refine norm_ (a' := ?_) ?_ ?_
   rotate_left
   ·
    show Act.put _ (some 23) _ = _
    simp only [Act.put, List.setIfInBounds_toArray, List.set_cons_zero, List.set_cons_succ, i64_w, i32_w]
    rfl
   refine pz_ HT_ 6 (some 24) #[true, true, true, true, true, true, true, false] ?_
   refine last_ (i := 7) (N := none) #[true, true, true, true, true, true, true, true] rfl rfl (one_of HT_.out (by kernel_rfl)) (by decide) (fun K hK => ?_)
   have hs31 : w30.cell? ⟨gb596, 2, none⟩ = some (.int .i64 0) := (blk_cell BK596.out 2).trans rfl
   have hfs31 := blk_frozen BK596.out 2
   have hns31_0 := NB589_596.out
   have hms31_0 := NB596_589.out
   refine skip_ (w1 := ?_) (by rfl) rfl ?_ ?_
   rotate_left
   ·
    go_simp
    rfl
   refine hK.out _ _ ?_
   clear hK K
   refine done_ (done_of HT_.out (by kernel_rfl)) ?_
   try go_wp2
   go_meet
   case rel => exact ⟨_, (t607), (t608), (t609), (t600), H', ⟨by first | omega | exact Nat.le_refl _⟩, ⟨by (with_reducible repeat (first | refine blk_drewN ?_ _ | refine blk_drew ?_ | refine blk_alloc ?_ _)); refine blk_far ?_ NB589_596.out _; (with_reducible repeat (first | refine blk_drewN ?_ _ | refine blk_drew ?_ | refine blk_alloc ?_ _)); exact BK589.out⟩, ⟨by (with_reducible repeat (first | refine blk_drewN ?_ _ | refine blk_drew ?_ | refine blk_alloc ?_ _)); refine blk_put (cs := #[.string a1, .int .i64 t593, .int .i64 0, .int .i64 t600]) ?_ 2 _ rfl; (with_reducible repeat (first | refine blk_drewN ?_ _ | refine blk_drew ?_ | refine blk_alloc ?_ _)); exact BK596.out⟩, ⟨by repeat (first | (with_reducible first | exact HI0.out | apply IsS93.alloc | apply IsS93.drewN | apply IsS93.drew | apply IsS93.set_1 | apply IsS93.set_2 | refine IsS93.far ?_ NB0_589.out _ | refine IsS93.far ?_ NB0_596.out _) | exact HI0.out)⟩, ⟨by repeat (first | (with_reducible first | exact HK.out | apply KeepBut.set_ | apply keep_drewN | apply keep_drew | apply keep_alloc | refine keep_far ?_ GW589.out _ | refine keep_far ?_ GW596.out _) | exact HK.out)⟩, ⟨by repeat (first | (with_reducible first | exact HB.out | apply below_alloc | apply pw_below_drewN | apply below_drew1 | refine below_set ?_ (IsS93.ge HI0.out) | refine below_set ?_ GE589.out | refine below_set ?_ GE596.out) | exact HB.out)⟩⟩
  ·
   rw [if_neg c14] at H
   have c14b0 : decide (0 < t593) = false := decide_eq_false c14
   clear c14
   (first | rw [c14b0] | (simp only [i64_w, i32_w]; rw [c14b0]) | skip)
   have H' := Aside0.mk H
   clear H
   go_wp2
   go_meet
   case rel => exact ⟨_, (t594), (t595), (0), (0), H', ⟨by first | omega | exact Nat.le_refl _⟩, ⟨by (with_reducible repeat (first | refine blk_drewN ?_ _ | refine blk_drew ?_ | refine blk_alloc ?_ _)); refine blk_far ?_ NB589_596.out _; (with_reducible repeat (first | refine blk_drewN ?_ _ | refine blk_drew ?_ | refine blk_alloc ?_ _)); refine blk_far ?_ NB589_596.out _; (with_reducible repeat (first | refine blk_drewN ?_ _ | refine blk_drew ?_ | refine blk_alloc ?_ _)); refine blk_far ?_ NB589_596.out _; (with_reducible repeat (first | refine blk_drewN ?_ _ | refine blk_drew ?_ | refine blk_alloc ?_ _)); refine blk_far ?_ NB589_596.out _; (with_reducible repeat (first | refine blk_drewN ?_ _ | refine blk_drew ?_ | refine blk_alloc ?_ _)); exact BK589.out⟩, ⟨by (with_reducible repeat (first | refine blk_drewN ?_ _ | refine blk_drew ?_ | refine blk_alloc ?_ _)); refine blk_put (cs := #[.string a1, .int .i64 t593, .int .i64 0, .int .i64 0]) ?_ 3 _ rfl; (with_reducible repeat (first | refine blk_drewN ?_ _ | refine blk_drew ?_ | refine blk_alloc ?_ _)); refine blk_put (cs := #[.string a1, .int .i64 t593, .int .i64 0, .int .i64 0]) ?_ 2 _ rfl; (with_reducible repeat (first | refine blk_drewN ?_ _ | refine blk_drew ?_ | refine blk_alloc ?_ _)); refine blk_put (cs := #[.string a1, .int .i64 0, .int .i64 0, .int .i64 0]) ?_ 1 _ rfl; (with_reducible repeat (first | refine blk_drewN ?_ _ | refine blk_drew ?_ | refine blk_alloc ?_ _)); refine blk_put (cs := #[.string (⟨#[]⟩ : ByteArray), .int .i64 0, .int .i64 0, .int .i64 0]) ?_ 0 _ rfl; (with_reducible repeat (first | refine blk_drewN ?_ _ | refine blk_drew ?_ | refine blk_alloc ?_ _)); exact BK596.out⟩, ⟨by repeat (first | (with_reducible first | exact HI0.out | apply IsS93.alloc | apply IsS93.drewN | apply IsS93.drew | apply IsS93.set_1 | apply IsS93.set_2 | refine IsS93.far ?_ NB0_589.out _ | refine IsS93.far ?_ NB0_596.out _) | exact HI0.out)⟩, ⟨by repeat (first | (with_reducible first | exact HK.out | apply KeepBut.set_ | apply keep_drewN | apply keep_drew | apply keep_alloc | refine keep_far ?_ GW589.out _ | refine keep_far ?_ GW596.out _) | exact HK.out)⟩, ⟨by repeat (first | (with_reducible first | exact HB.out | apply below_alloc | apply pw_below_drewN | apply below_drew1 | refine below_set ?_ (IsS93.ge HI0.out) | refine below_set ?_ GE589.out | refine below_set ?_ GE596.out) | exact HB.out)⟩⟩
 case rest =>
  clear HC4
  try clear c1
  try clear c2
  try clear p2
  try clear c6
  try clear c8
  try clear c9
  try clear c11
  try clear c12
  try clear c14
  try clear c14b0
  try clear c22
  try clear c23
  try clear hcz13_0
  try clear hcz13_1
  try clear hcz13_2
  try clear hcz13_3
  try clear hcz24_0
  try clear hcz24_1
  try clear hcz24_2
  try clear hcz24_3
  try clear hfz13_0
  try clear hfz13_1
  try clear hfz13_2
  try clear hfz13_3
  try clear hfz24_0
  try clear hfz24_1
  try clear hfz24_2
  try clear hfz24_3
  obtain ⟨kq, x1001_3, x1002_3, x597002_3, x597003_3, HA, HJ3, BK589, BK596, HI0, HK, HB⟩ := hcut
  cases kq with
  | zero => exact absurd HA.out (by simp [spec_l1Cur_caveRow.j0])
  | succ kj3 =>
   have H := HA.out
   clear HA
   simp only [spec_l1Cur_caveRow.j0] at H
   replace H := Option.bind_eq_some_iff.mp H
   obtain ⟨⟨t610, t611, t612⟩, A320, H⟩ := H
   replace H : (if t610 = 0 then ((spec_l1Cur_of.f s0_0 t611 t612 (([(⟨#[]⟩ : ByteArray), (⟨#[65]⟩ : ByteArray), (⟨#[97, 98, 99, 100, 101, 102, 103, 104, 105, 106, 107]⟩ : ByteArray)] : List ByteArray))).bind fun bt616 => (some (bt616.1, t593, x597002_3, x597003_3, bt616.2.1, bt616.2.2))) else (if t610 = 1 then ((spec_l1Cur_among.f s0_0 t611 t612 (([(-1), 0, 1000001] : List Int))).bind fun bt622 => (some (a1, bt622.1, x597002_3, x597003_3, bt622.2.1, bt622.2.2))) else (if t610 = 2 then ((spec_l1Cur_among.f s0_0 t611 t612 (([(-1), wrap64 (t593 + 1), 20001] : List Int))).bind fun bt628 => (some (a1, t593, bt628.1, x597003_3, bt628.2.1, bt628.2.2))) else (if t610 = 3 then ((spec_l1Cur_among.f s0_0 t611 t612 (([(-1), 0, 10000] : List Int))).bind fun bt634 => (some (a1, t593, x597002_3, bt634.1, bt634.2.1, bt634.2.2))) else (some (a1, t593, x597002_3, x597003_3, t611, t612)))))) = some (r1, r2, r3, r4, r5, r6) := H
   have A32 := Aside0.mk A320
   clear A320
   by_cases c33 : t610 = 0
   ·
    rw [if_pos c33] at H
    have c33b0 : (t610 == 0) = true := beq_iff_eq.mpr c33
    have c33b1 : (t610 != 0) = false := bne_eq_false_iff_eq.mpr c33
    clear c33
    obtain ⟨y613, hy613⟩ : ∃ y_ : List ByteArray, y_ = (([(⟨#[]⟩ : ByteArray), (⟨#[65]⟩ : ByteArray), (⟨#[97, 98, 99, 100, 101, 102, 103, 104, 105, 106, 107]⟩ : ByteArray)] : List ByteArray)) := ⟨_, rfl⟩
    replace H : ((spec_l1Cur_of.f s0_0 t611 t612 y613).bind fun bt616 => (some (bt616.1, t593, x597002_3, x597003_3, bt616.2.1, bt616.2.2))) = some (r1, r2, r3, r4, r5, r6) := by first | (rw [hy613]; with_reducible exact H) | (have H2_ := (Option.bind_some _ _).symm.trans H; rw [hy613]; with_reducible exact H2_) | (have H2_ := (Option.bind_some _ _).symm.trans H; with_reducible exact H2_) | with_reducible exact H | (rw [hy613]; exact H) | exact H
    have Ny613 := Aside0.mk hy613
    clear hy613
    replace H := Option.bind_eq_some_iff.mp H
    obtain ⟨⟨t616, t617, t618⟩, A340, H⟩ := H
    replace H : (some (t616, t593, x597002_3, x597003_3, t617, t618)) = some (r1, r2, r3, r4, r5, r6) := H
    have A34 := Aside0.mk A340
    clear A340
    simp only [Option.some.injEq, Prod.mk.injEq] at H
    obtain ⟨rfl, rfl, rfl, rfl, rfl, rfl⟩ := H
    go_wp2_with (first | ((with_reducible refine gate_callee (f := 82) rfl ?_); refine ga_ (some 26) Tryd.func82 #[.pointer (some ⟨g, 0, none⟩), .int .i64 60] ?_; (with_reducible refine (spec_l1Cur_pick.calls g s0_0 x1001_3 x1002_3 60 t610 t611 t612 w0 _ ?side1 ?side2 A32.out).mono ?_); (case side1 => repeat (first | (with_reducible first | exact HI0.out | apply IsS93.alloc | apply IsS93.drewN | apply IsS93.drew | apply IsS93.set_1 | apply IsS93.set_2 | refine IsS93.far ?_ NB0_589.out _ | refine IsS93.far ?_ NB0_596.out _) | exact HI0.out)); (case side2 => repeat (first | (with_reducible first | exact HB.out | apply below_alloc | apply pw_below_drewN | apply below_drew1 | refine below_set ?_ (IsS93.ge HI0.out) | refine below_set ?_ GE589.out | refine below_set ?_ GE596.out) | exact HB.out)); rintro e w35 ⟨rfl, hi, hb, hk⟩; refine ⟨_, rfl, ?_⟩; have n0_ := Aside0.mk (KeepBut.blk hk (g' := gb589) (o := .cells #[.string (⟨#[]⟩ : ByteArray), .int .i64 0, .int .i64 0, .int .i64 0] 26 (0, 0)) (bk_ BK589.out) NB589_0.out (by simp)); have n1_ := Aside0.mk (KeepBut.blk hk (g' := gb596) (o := .cells #[.string a1, .int .i64 t593, .int .i64 x597002_3, .int .i64 x597003_3] 26 (0, 0)) (bk_ BK596.out) NB596_0.out (by simp)); have n2_ := Aside0.mk (KeepBut.trans (by repeat (first | (with_reducible first | exact HK.out | apply KeepBut.set_ | apply keep_drewN | apply keep_drew | apply keep_alloc | refine keep_far ?_ GW589.out _ | refine keep_far ?_ GW596.out _) | exact HK.out)) hk (.inl rfl)); have n3_ := Aside0.mk (hb); have n4_ := Aside0.mk (hi); clear BK589; clear BK596; clear HK; clear HB; clear HI0; have BK589 := n0_; have BK596 := n1_; have HK := n2_; have HB := n3_; have HI0 := n4_; clear n0_ n1_ n2_ n3_ n4_; (try clear hb); (try clear hb2); (try clear hk); (try clear hi)) | ((with_reducible refine gate_dst (N := 30) rfl ?_); refine Kd.R_lit Kd.string _ 9 ?hg (N := 30) ?hd (xs := ([(⟨#[]⟩ : ByteArray), (⟨#[65]⟩ : ByteArray), (⟨#[97, 98, 99, 100, 101, 102, 103, 104, 105, 106, 107]⟩ : ByteArray)] : List ByteArray)) (inner := [.string (⟨#[]⟩ : ByteArray), .string (⟨#[65]⟩ : ByteArray), .string (⟨#[97, 98, 99, 100, 101, 102, 103, 104, 105, 106, 107]⟩ : ByteArray)]) (ok := fun _ => True) (okp := fun _ => True) ?hr ?hp (fun _ hk => hk) trivial (Below.refl _ _) (Nat.le_refl _) (by simp) ?_; (case hd => rfl); (case hg => rfl); (case hr => first | (go_simp; done) | (go_simp; rfl)); (case hp => exact (Reps.one (show Kd.M Kd.string _ _ _ (⟨#[]⟩ : ByteArray) [.string (⟨#[]⟩ : ByteArray)] from rfl) (Reps.one (show Kd.M Kd.string _ _ _ (⟨#[65]⟩ : ByteArray) [.string (⟨#[65]⟩ : ByteArray)] from rfl) (Reps.one (show Kd.M Kd.string _ _ _ (⟨#[97, 98, 99, 100, 101, 102, 103, 104, 105, 106, 107]⟩ : ByteArray) [.string (⟨#[97, 98, 99, 100, 101, 102, 103, 104, 105, 106, 107]⟩ : ByteArray)] from rfl) (Reps.none _ _))))); intro v614 w36 ho37 hb hg_ hnew_; clear hg_ hnew_; (first | rw [← Ny613.out] at ho37 | (simp only [Int.reduceToNat] at ho37; rw [← Ny613.out] at ho37)); have n0_ := Aside0.mk (Kd.R_lower ho37 (keep_size (w := w) (g := g) (row := none) (by repeat (first | (with_reducible first | exact HK.out | apply KeepBut.set_ | apply keep_drewN | apply keep_drew | apply keep_alloc | refine keep_far ?_ GW589.out _ | refine keep_far ?_ GW596.out _) | exact HK.out)))); have n1_ := Aside0.mk (blk_below (g := gb589) (o := .cells #[.string (⟨#[]⟩ : ByteArray), .int .i64 0, .int .i64 0, .int .i64 0] 26 (0, 0)) (bk_ BK589.out) hb); have n2_ := Aside0.mk (blk_below (g := gb596) (o := .cells #[.string a1, .int .i64 t593, .int .i64 x597002_3, .int .i64 x597003_3] 26 (0, 0)) (bk_ BK596.out) hb); have n3_ := Aside0.mk (IsS93.below (by repeat (first | (with_reducible first | exact HI0.out | apply IsS93.alloc | apply IsS93.drewN | apply IsS93.drew | apply IsS93.set_1 | apply IsS93.set_2 | refine IsS93.far ?_ NB0_589.out _ | refine IsS93.far ?_ NB0_596.out _) | exact HI0.out)) hb); have n4_ := Aside0.mk (KeepBut.trans (by repeat (first | (with_reducible first | exact HK.out | apply KeepBut.set_ | apply keep_drewN | apply keep_drew | apply keep_alloc | refine keep_far ?_ GW589.out _ | refine keep_far ?_ GW596.out _) | exact HK.out)) (KeepBut.of_below hb g none) (.inl rfl)); have n5_ := Aside0.mk (below_step (by repeat (first | (with_reducible first | exact HB.out | apply below_alloc | apply pw_below_drewN | apply below_drew1 | refine below_set ?_ (IsS93.ge HI0.out) | refine below_set ?_ GE589.out | refine below_set ?_ GE596.out) | exact HB.out)) hb); clear BK589; clear BK596; clear HI0; clear HK; clear HB; have HO615 := n0_; have BK589 := n1_; have BK596 := n2_; have HI0 := n3_; have HK := n4_; have HB := n5_; clear n0_ n1_ n2_ n3_ n4_ n5_; clear hb ho37; obtain ⟨Ao38, co38, eo38⟩ := Kd.R_slice HO615.out; subst eo38) | ((with_reducible refine gate_callee (f := 101) rfl ?_); refine ga_ (some 31) Tryd.func101 #[.pointer (some ⟨g, 0, none⟩), .slice Ao38 y613.length co38] ?_; (with_reducible refine (spec_l1Cur_of.calls g s0_0 t611 t612 _ _ y613 t616 t617 t618 w0 _ ?side1 ?side2 ?side3 ?side4 ?side5 A34.out).mono ?_); (case side1 => repeat (first | (with_reducible first | exact HI0.out | apply IsS93.alloc | apply IsS93.drewN | apply IsS93.drew | apply IsS93.set_1 | apply IsS93.set_2 | refine IsS93.far ?_ NB0_589.out _ | refine IsS93.far ?_ NB0_596.out _) | exact HI0.out)); (case side2 => repeat (first | (with_reducible first | exact HB.out | apply below_alloc | apply pw_below_drewN | apply below_drew1 | refine below_set ?_ (IsS93.ge HI0.out) | refine below_set ?_ GE589.out | refine below_set ?_ GE596.out) | exact HB.out)); (case side3 => exact kc_ (Kd.R_reads' HO615.out).2.2); (case side4 => exact (Kd.R_reads' HO615.out).2.1); (case side5 => exact far_slice (IsS93.own_ne HI0.out HO615.out (by decide))); rintro e w39 ⟨rfl, hi, hb, hk⟩; refine ⟨_, rfl, ?_⟩; have n0_ := Aside0.mk (KeepBut.blk hk (g' := gb589) (o := .cells #[.string (⟨#[]⟩ : ByteArray), .int .i64 0, .int .i64 0, .int .i64 0] 26 (0, 0)) (bk_ BK589.out) NB589_0.out (by simp)); have n1_ := Aside0.mk (KeepBut.blk hk (g' := gb596) (o := .cells #[.string a1, .int .i64 t593, .int .i64 x597002_3, .int .i64 x597003_3] 26 (0, 0)) (bk_ BK596.out) NB596_0.out (by simp)); have n2_ := Aside0.mk (Kd.R_mono (Kd.R_keep (IsS93.apart (show IsS93 w0 _ g s0_0 t611 t612 from by repeat (first | (with_reducible first | exact HI0.out | apply IsS93.alloc | apply IsS93.drewN | apply IsS93.drew | apply IsS93.set_1 | apply IsS93.set_2 | refine IsS93.far ?_ NB0_589.out _ | refine IsS93.far ?_ NB0_596.out _) | exact HI0.out)) (kr_ HO615.out) (by decide)) hk (fun _ h => h.2)) (fun _ h => h.1)); have n3_ := Aside0.mk (KeepBut.trans (by repeat (first | (with_reducible first | exact HK.out | apply KeepBut.set_ | apply keep_drewN | apply keep_drew | apply keep_alloc | refine keep_far ?_ GW589.out _ | refine keep_far ?_ GW596.out _) | exact HK.out)) hk (.inl rfl)); have n4_ := Aside0.mk (hb); have n5_ := Aside0.mk (hi); clear BK589; clear BK596; clear HO615; clear HK; clear HB; clear HI0; have BK589 := n0_; have BK596 := n1_; have HO615 := n2_; have HK := n3_; have HB := n4_; have HI0 := n5_; clear n0_ n1_ n2_ n3_ n4_ n5_; (try clear hb); (try clear hb2); (try clear hk); (try clear hi); have hnb40 := NB596_589.out; have hnc40 := NB589_596.out; have hnb41 := NB596_0.out; have hnc41 := NB0_596.out; have hcz42_0 : w39.cell? ⟨gb596, 0, none⟩ = some (.string a1) := (blk_cell BK596.out 0).trans rfl; have hcz42_1 : w39.cell? ⟨gb596, 1, none⟩ = some (.int .i64 t593) := (blk_cell BK596.out 1).trans rfl; have hcz42_2 : w39.cell? ⟨gb596, 2, none⟩ = some (.int .i64 x597002_3) := (blk_cell BK596.out 2).trans rfl; have hcz42_3 : w39.cell? ⟨gb596, 3, none⟩ = some (.int .i64 x597003_3) := (blk_cell BK596.out 3).trans rfl; have hfz42_0 := blk_frozen BK596.out 0; have hfz42_1 := blk_frozen BK596.out 1; have hfz42_2 := blk_frozen BK596.out 2; have hfz42_3 := blk_frozen BK596.out 3; have hnb43 := NB589_0.out; have hnc43 := NB0_589.out; have hcz44_0 : w39.cell? ⟨gb589, 0, none⟩ = some (.string (⟨#[]⟩ : ByteArray)) := (blk_cell BK589.out 0).trans rfl; have hcz44_1 : w39.cell? ⟨gb589, 1, none⟩ = some (.int .i64 0) := (blk_cell BK589.out 1).trans rfl; have hcz44_2 : w39.cell? ⟨gb589, 2, none⟩ = some (.int .i64 0) := (blk_cell BK589.out 2).trans rfl; have hcz44_3 : w39.cell? ⟨gb589, 3, none⟩ = some (.int .i64 0) := (blk_cell BK589.out 3).trans rfl; have hfz44_0 := blk_frozen BK589.out 0; have hfz44_1 := blk_frozen BK589.out 1; have hfz44_2 := blk_frozen BK589.out 2; have hfz44_3 := blk_frozen BK589.out 3))
    refine bodyPost_ret (results_cell_row rfl _ _ gb589 26 #[.string t616, .int .i64 t593, .int .i64 x597002_3, .int .i64 x597003_3] (0, 0) _ rfl (by (with_reducible repeat (first | refine blk_drewN ?_ _ | refine blk_drew ?_ | refine blk_alloc ?_ _)); refine blk_put (cs := #[.string t616, .int .i64 t593, .int .i64 x597002_3, .int .i64 0]) ?_ 3 _ rfl; (with_reducible repeat (first | refine blk_drewN ?_ _ | refine blk_drew ?_ | refine blk_alloc ?_ _)); refine blk_put (cs := #[.string t616, .int .i64 t593, .int .i64 0, .int .i64 0]) ?_ 2 _ rfl; (with_reducible repeat (first | refine blk_drewN ?_ _ | refine blk_drew ?_ | refine blk_alloc ?_ _)); refine blk_put (cs := #[.string t616, .int .i64 0, .int .i64 0, .int .i64 0]) ?_ 1 _ rfl; (with_reducible repeat (first | refine blk_drewN ?_ _ | refine blk_drew ?_ | refine blk_alloc ?_ _)); refine blk_put (cs := #[.string (⟨#[]⟩ : ByteArray), .int .i64 0, .int .i64 0, .int .i64 0]) ?_ 0 _ rfl; (with_reducible repeat (first | refine blk_drewN ?_ _ | refine blk_drew ?_ | refine blk_alloc ?_ _)); refine blk_far ?_ NB589_596.out _; (with_reducible repeat (first | refine blk_drewN ?_ _ | refine blk_drew ?_ | refine blk_alloc ?_ _)); exact BK589.out) Tryd.underlying26 rfl (by kernel_rfl)) rfl ?_
    exact ⟨rr_, by repeat (first | (with_reducible first | exact HI0.out | apply IsS93.alloc | apply IsS93.drewN | apply IsS93.drew | apply IsS93.set_1 | apply IsS93.set_2 | refine IsS93.far ?_ NB0_589.out _ | refine IsS93.far ?_ NB0_596.out _) | exact HI0.out), by repeat (first | (with_reducible first | exact HB.out | apply below_alloc | apply pw_below_drewN | apply below_drew1 | refine below_set ?_ (IsS93.ge HI0.out) | refine below_set ?_ GE589.out | refine below_set ?_ GE596.out) | exact HB.out), by repeat (first | (with_reducible first | exact HK.out | apply KeepBut.set_ | apply keep_drewN | apply keep_drew | apply keep_alloc | refine keep_far ?_ GW589.out _ | refine keep_far ?_ GW596.out _) | exact HK.out)⟩
   ·
    rw [if_neg c33] at H
    have c33b0 : (t610 == 0) = false := beq_eq_false_iff_ne.mpr c33
    have c33b1 : (t610 != 0) = true := bne_iff_ne.mpr c33
    by_cases c45 : t610 = 1
    ·
     rw [if_pos c45] at H
     have c45b0 : (t610 == 1) = true := beq_iff_eq.mpr c45
     have c45b1 : (t610 != 1) = false := bne_eq_false_iff_eq.mpr c45
     clear c45
     obtain ⟨y619, hy619⟩ : ∃ y_ : List Int, y_ = (([(-1), 0, 1000001] : List Int)) := ⟨_, rfl⟩
     replace H : ((spec_l1Cur_among.f s0_0 t611 t612 y619).bind fun bt622 => (some (a1, bt622.1, x597002_3, x597003_3, bt622.2.1, bt622.2.2))) = some (r1, r2, r3, r4, r5, r6) := by first | (rw [hy619]; with_reducible exact H) | (have H2_ := (Option.bind_some _ _).symm.trans H; rw [hy619]; with_reducible exact H2_) | (have H2_ := (Option.bind_some _ _).symm.trans H; with_reducible exact H2_) | with_reducible exact H | (rw [hy619]; exact H) | exact H
     have Ny619 := Aside0.mk hy619
     clear hy619
     replace H := Option.bind_eq_some_iff.mp H
     obtain ⟨⟨t622, t623, t624⟩, A460, H⟩ := H
     replace H : (some (a1, t622, x597002_3, x597003_3, t623, t624)) = some (r1, r2, r3, r4, r5, r6) := H
     have A46 := Aside0.mk A460
     clear A460
     simp only [Option.some.injEq, Prod.mk.injEq] at H
     obtain ⟨rfl, rfl, rfl, rfl, rfl, rfl⟩ := H
     go_wp2_with (first | ((with_reducible refine gate_callee (f := 82) rfl ?_); refine ga_ (some 26) Tryd.func82 #[.pointer (some ⟨g, 0, none⟩), .int .i64 60] ?_; (with_reducible refine (spec_l1Cur_pick.calls g s0_0 x1001_3 x1002_3 60 t610 t611 t612 w0 _ ?side1 ?side2 A32.out).mono ?_); (case side1 => repeat (first | (with_reducible first | exact HI0.out | apply IsS93.alloc | apply IsS93.drewN | apply IsS93.drew | apply IsS93.set_1 | apply IsS93.set_2 | refine IsS93.far ?_ NB0_589.out _ | refine IsS93.far ?_ NB0_596.out _) | exact HI0.out)); (case side2 => repeat (first | (with_reducible first | exact HB.out | apply below_alloc | apply pw_below_drewN | apply below_drew1 | refine below_set ?_ (IsS93.ge HI0.out) | refine below_set ?_ GE589.out | refine below_set ?_ GE596.out) | exact HB.out)); rintro e w47 ⟨rfl, hi, hb, hk⟩; refine ⟨_, rfl, ?_⟩; have n0_ := Aside0.mk (KeepBut.blk hk (g' := gb589) (o := .cells #[.string (⟨#[]⟩ : ByteArray), .int .i64 0, .int .i64 0, .int .i64 0] 26 (0, 0)) (bk_ BK589.out) NB589_0.out (by simp)); have n1_ := Aside0.mk (KeepBut.blk hk (g' := gb596) (o := .cells #[.string a1, .int .i64 t593, .int .i64 x597002_3, .int .i64 x597003_3] 26 (0, 0)) (bk_ BK596.out) NB596_0.out (by simp)); have n2_ := Aside0.mk (KeepBut.trans (by repeat (first | (with_reducible first | exact HK.out | apply KeepBut.set_ | apply keep_drewN | apply keep_drew | apply keep_alloc | refine keep_far ?_ GW589.out _ | refine keep_far ?_ GW596.out _) | exact HK.out)) hk (.inl rfl)); have n3_ := Aside0.mk (hb); have n4_ := Aside0.mk (hi); clear BK589; clear BK596; clear HK; clear HB; clear HI0; have BK589 := n0_; have BK596 := n1_; have HK := n2_; have HB := n3_; have HI0 := n4_; clear n0_ n1_ n2_ n3_ n4_; (try clear hb); (try clear hb2); (try clear hk); (try clear hi)) | ((with_reducible refine gate_dst (N := 36) rfl ?_); refine Kd.R_lit (Kd.int .i64) _ 3 ?hg (N := 36) ?hd (xs := ([(-1), 0, 1000001] : List Int)) (inner := [.int .i64 (-1), .int .i64 0, .int .i64 1000001]) (ok := fun _ => True) (okp := fun _ => True) ?hr ?hp (fun _ hk => hk) trivial (Below.refl _ _) (Nat.le_refl _) (by simp) ?_; (case hd => rfl); (case hg => rfl); (case hr => first | (go_simp; done) | (go_simp; rfl)); (case hp => exact (Reps.one (show Kd.M (Kd.int .i64) _ _ _ (-1) [.int .i64 (-1)] from rfl) (Reps.one (show Kd.M (Kd.int .i64) _ _ _ 0 [.int .i64 0] from rfl) (Reps.one (show Kd.M (Kd.int .i64) _ _ _ 1000001 [.int .i64 1000001] from rfl) (Reps.none _ _))))); intro v620 w48 ho49 hb hg_ hnew_; clear hg_ hnew_; (first | rw [← Ny619.out] at ho49 | (simp only [Int.reduceToNat] at ho49; rw [← Ny619.out] at ho49)); have n0_ := Aside0.mk (Kd.R_lower ho49 (keep_size (w := w) (g := g) (row := none) (by repeat (first | (with_reducible first | exact HK.out | apply KeepBut.set_ | apply keep_drewN | apply keep_drew | apply keep_alloc | refine keep_far ?_ GW589.out _ | refine keep_far ?_ GW596.out _) | exact HK.out)))); have n1_ := Aside0.mk (blk_below (g := gb589) (o := .cells #[.string (⟨#[]⟩ : ByteArray), .int .i64 0, .int .i64 0, .int .i64 0] 26 (0, 0)) (bk_ BK589.out) hb); have n2_ := Aside0.mk (blk_below (g := gb596) (o := .cells #[.string a1, .int .i64 t593, .int .i64 x597002_3, .int .i64 x597003_3] 26 (0, 0)) (bk_ BK596.out) hb); have n3_ := Aside0.mk (IsS93.below (by repeat (first | (with_reducible first | exact HI0.out | apply IsS93.alloc | apply IsS93.drewN | apply IsS93.drew | apply IsS93.set_1 | apply IsS93.set_2 | refine IsS93.far ?_ NB0_589.out _ | refine IsS93.far ?_ NB0_596.out _) | exact HI0.out)) hb); have n4_ := Aside0.mk (KeepBut.trans (by repeat (first | (with_reducible first | exact HK.out | apply KeepBut.set_ | apply keep_drewN | apply keep_drew | apply keep_alloc | refine keep_far ?_ GW589.out _ | refine keep_far ?_ GW596.out _) | exact HK.out)) (KeepBut.of_below hb g none) (.inl rfl)); have n5_ := Aside0.mk (below_step (by repeat (first | (with_reducible first | exact HB.out | apply below_alloc | apply pw_below_drewN | apply below_drew1 | refine below_set ?_ (IsS93.ge HI0.out) | refine below_set ?_ GE589.out | refine below_set ?_ GE596.out) | exact HB.out)) hb); clear BK589; clear BK596; clear HI0; clear HK; clear HB; have HO621 := n0_; have BK589 := n1_; have BK596 := n2_; have HI0 := n3_; have HK := n4_; have HB := n5_; clear n0_ n1_ n2_ n3_ n4_ n5_; clear hb ho49; obtain ⟨Ao50, co50, eo50⟩ := Kd.R_slice HO621.out; subst eo50) | ((with_reducible refine gate_callee (f := 83) rfl ?_); refine ga_ (some 37) Tryd.func83 #[.pointer (some ⟨g, 0, none⟩), .slice Ao50 y619.length co50] ?_; (with_reducible refine (spec_l1Cur_among.calls g s0_0 t611 t612 _ _ y619 t622 t623 t624 w0 _ ?side1 ?side2 ?side3 ?side4 ?side5 A46.out).mono ?_); (case side1 => repeat (first | (with_reducible first | exact HI0.out | apply IsS93.alloc | apply IsS93.drewN | apply IsS93.drew | apply IsS93.set_1 | apply IsS93.set_2 | refine IsS93.far ?_ NB0_589.out _ | refine IsS93.far ?_ NB0_596.out _) | exact HI0.out)); (case side2 => repeat (first | (with_reducible first | exact HB.out | apply below_alloc | apply pw_below_drewN | apply below_drew1 | refine below_set ?_ (IsS93.ge HI0.out) | refine below_set ?_ GE589.out | refine below_set ?_ GE596.out) | exact HB.out)); (case side3 => exact kc_ (Kd.R_reads' HO621.out).2.2); (case side4 => exact (Kd.R_reads' HO621.out).2.1); (case side5 => exact far_slice (IsS93.own_ne HI0.out HO621.out (by decide))); rintro e w51 ⟨rfl, hi, hb, hk⟩; refine ⟨_, rfl, ?_⟩; have n0_ := Aside0.mk (KeepBut.blk hk (g' := gb589) (o := .cells #[.string (⟨#[]⟩ : ByteArray), .int .i64 0, .int .i64 0, .int .i64 0] 26 (0, 0)) (bk_ BK589.out) NB589_0.out (by simp)); have n1_ := Aside0.mk (KeepBut.blk hk (g' := gb596) (o := .cells #[.string a1, .int .i64 t593, .int .i64 x597002_3, .int .i64 x597003_3] 26 (0, 0)) (bk_ BK596.out) NB596_0.out (by simp)); have n2_ := Aside0.mk (Kd.R_mono (Kd.R_keep (IsS93.apart (show IsS93 w0 _ g s0_0 t611 t612 from by repeat (first | (with_reducible first | exact HI0.out | apply IsS93.alloc | apply IsS93.drewN | apply IsS93.drew | apply IsS93.set_1 | apply IsS93.set_2 | refine IsS93.far ?_ NB0_589.out _ | refine IsS93.far ?_ NB0_596.out _) | exact HI0.out)) (kr_ HO621.out) (by decide)) hk (fun _ h => h.2)) (fun _ h => h.1)); have n3_ := Aside0.mk (KeepBut.trans (by repeat (first | (with_reducible first | exact HK.out | apply KeepBut.set_ | apply keep_drewN | apply keep_drew | apply keep_alloc | refine keep_far ?_ GW589.out _ | refine keep_far ?_ GW596.out _) | exact HK.out)) hk (.inl rfl)); have n4_ := Aside0.mk (hb); have n5_ := Aside0.mk (hi); clear BK589; clear BK596; clear HO621; clear HK; clear HB; clear HI0; have BK589 := n0_; have BK596 := n1_; have HO621 := n2_; have HK := n3_; have HB := n4_; have HI0 := n5_; clear n0_ n1_ n2_ n3_ n4_ n5_; (try clear hb); (try clear hb2); (try clear hk); (try clear hi); have hnb52 := NB596_589.out; have hnc52 := NB589_596.out; have hnb53 := NB596_0.out; have hnc53 := NB0_596.out; have hcz54_0 : w51.cell? ⟨gb596, 0, none⟩ = some (.string a1) := (blk_cell BK596.out 0).trans rfl; have hcz54_1 : w51.cell? ⟨gb596, 1, none⟩ = some (.int .i64 t593) := (blk_cell BK596.out 1).trans rfl; have hcz54_2 : w51.cell? ⟨gb596, 2, none⟩ = some (.int .i64 x597002_3) := (blk_cell BK596.out 2).trans rfl; have hcz54_3 : w51.cell? ⟨gb596, 3, none⟩ = some (.int .i64 x597003_3) := (blk_cell BK596.out 3).trans rfl; have hfz54_0 := blk_frozen BK596.out 0; have hfz54_1 := blk_frozen BK596.out 1; have hfz54_2 := blk_frozen BK596.out 2; have hfz54_3 := blk_frozen BK596.out 3; have hnb55 := NB589_0.out; have hnc55 := NB0_589.out; have hcz56_0 : w51.cell? ⟨gb589, 0, none⟩ = some (.string (⟨#[]⟩ : ByteArray)) := (blk_cell BK589.out 0).trans rfl; have hcz56_1 : w51.cell? ⟨gb589, 1, none⟩ = some (.int .i64 0) := (blk_cell BK589.out 1).trans rfl; have hcz56_2 : w51.cell? ⟨gb589, 2, none⟩ = some (.int .i64 0) := (blk_cell BK589.out 2).trans rfl; have hcz56_3 : w51.cell? ⟨gb589, 3, none⟩ = some (.int .i64 0) := (blk_cell BK589.out 3).trans rfl; have hfz56_0 := blk_frozen BK589.out 0; have hfz56_1 := blk_frozen BK589.out 1; have hfz56_2 := blk_frozen BK589.out 2; have hfz56_3 := blk_frozen BK589.out 3))
     refine bodyPost_ret (results_cell_row rfl _ _ gb589 26 #[.string a1, .int .i64 t622, .int .i64 x597002_3, .int .i64 x597003_3] (0, 0) _ rfl (by (with_reducible repeat (first | refine blk_drewN ?_ _ | refine blk_drew ?_ | refine blk_alloc ?_ _)); refine blk_put (cs := #[.string a1, .int .i64 t622, .int .i64 x597002_3, .int .i64 0]) ?_ 3 _ rfl; (with_reducible repeat (first | refine blk_drewN ?_ _ | refine blk_drew ?_ | refine blk_alloc ?_ _)); refine blk_put (cs := #[.string a1, .int .i64 t622, .int .i64 0, .int .i64 0]) ?_ 2 _ rfl; (with_reducible repeat (first | refine blk_drewN ?_ _ | refine blk_drew ?_ | refine blk_alloc ?_ _)); refine blk_put (cs := #[.string a1, .int .i64 0, .int .i64 0, .int .i64 0]) ?_ 1 _ rfl; (with_reducible repeat (first | refine blk_drewN ?_ _ | refine blk_drew ?_ | refine blk_alloc ?_ _)); refine blk_put (cs := #[.string (⟨#[]⟩ : ByteArray), .int .i64 0, .int .i64 0, .int .i64 0]) ?_ 0 _ rfl; (with_reducible repeat (first | refine blk_drewN ?_ _ | refine blk_drew ?_ | refine blk_alloc ?_ _)); refine blk_far ?_ NB589_596.out _; (with_reducible repeat (first | refine blk_drewN ?_ _ | refine blk_drew ?_ | refine blk_alloc ?_ _)); exact BK589.out) Tryd.underlying26 rfl (by kernel_rfl)) rfl ?_
     exact ⟨rr_, by repeat (first | (with_reducible first | exact HI0.out | apply IsS93.alloc | apply IsS93.drewN | apply IsS93.drew | apply IsS93.set_1 | apply IsS93.set_2 | refine IsS93.far ?_ NB0_589.out _ | refine IsS93.far ?_ NB0_596.out _) | exact HI0.out), by repeat (first | (with_reducible first | exact HB.out | apply below_alloc | apply pw_below_drewN | apply below_drew1 | refine below_set ?_ (IsS93.ge HI0.out) | refine below_set ?_ GE589.out | refine below_set ?_ GE596.out) | exact HB.out), by repeat (first | (with_reducible first | exact HK.out | apply KeepBut.set_ | apply keep_drewN | apply keep_drew | apply keep_alloc | refine keep_far ?_ GW589.out _ | refine keep_far ?_ GW596.out _) | exact HK.out)⟩
    ·
     rw [if_neg c45] at H
     have c45b0 : (t610 == 1) = false := beq_eq_false_iff_ne.mpr c45
     have c45b1 : (t610 != 1) = true := bne_iff_ne.mpr c45
     by_cases c57 : t610 = 2
     ·
      rw [if_pos c57] at H
      have c57b0 : (t610 == 2) = true := beq_iff_eq.mpr c57
      have c57b1 : (t610 != 2) = false := bne_eq_false_iff_eq.mpr c57
      clear c57
      obtain ⟨y625, hy625⟩ : ∃ y_ : List Int, y_ = (([(-1), wrap64 (t593 + 1), 20001] : List Int)) := ⟨_, rfl⟩
      replace H : ((spec_l1Cur_among.f s0_0 t611 t612 y625).bind fun bt628 => (some (a1, t593, bt628.1, x597003_3, bt628.2.1, bt628.2.2))) = some (r1, r2, r3, r4, r5, r6) := by first | (rw [hy625]; with_reducible exact H) | (have H2_ := (Option.bind_some _ _).symm.trans H; rw [hy625]; with_reducible exact H2_) | (have H2_ := (Option.bind_some _ _).symm.trans H; with_reducible exact H2_) | with_reducible exact H | (rw [hy625]; exact H) | exact H
      have Ny625 := Aside0.mk hy625
      clear hy625
      replace H := Option.bind_eq_some_iff.mp H
      obtain ⟨⟨t628, t629, t630⟩, A580, H⟩ := H
      replace H : (some (a1, t593, t628, x597003_3, t629, t630)) = some (r1, r2, r3, r4, r5, r6) := H
      have A58 := Aside0.mk A580
      clear A580
      simp only [Option.some.injEq, Prod.mk.injEq] at H
      obtain ⟨rfl, rfl, rfl, rfl, rfl, rfl⟩ := H
      go_wp2_with (first | ((with_reducible refine gate_callee (f := 82) rfl ?_); refine ga_ (some 26) Tryd.func82 #[.pointer (some ⟨g, 0, none⟩), .int .i64 60] ?_; (with_reducible refine (spec_l1Cur_pick.calls g s0_0 x1001_3 x1002_3 60 t610 t611 t612 w0 _ ?side1 ?side2 A32.out).mono ?_); (case side1 => repeat (first | (with_reducible first | exact HI0.out | apply IsS93.alloc | apply IsS93.drewN | apply IsS93.drew | apply IsS93.set_1 | apply IsS93.set_2 | refine IsS93.far ?_ NB0_589.out _ | refine IsS93.far ?_ NB0_596.out _) | exact HI0.out)); (case side2 => repeat (first | (with_reducible first | exact HB.out | apply below_alloc | apply pw_below_drewN | apply below_drew1 | refine below_set ?_ (IsS93.ge HI0.out) | refine below_set ?_ GE589.out | refine below_set ?_ GE596.out) | exact HB.out)); rintro e w59 ⟨rfl, hi, hb, hk⟩; refine ⟨_, rfl, ?_⟩; have n0_ := Aside0.mk (KeepBut.blk hk (g' := gb589) (o := .cells #[.string (⟨#[]⟩ : ByteArray), .int .i64 0, .int .i64 0, .int .i64 0] 26 (0, 0)) (bk_ BK589.out) NB589_0.out (by simp)); have n1_ := Aside0.mk (KeepBut.blk hk (g' := gb596) (o := .cells #[.string a1, .int .i64 t593, .int .i64 x597002_3, .int .i64 x597003_3] 26 (0, 0)) (bk_ BK596.out) NB596_0.out (by simp)); have n2_ := Aside0.mk (KeepBut.trans (by repeat (first | (with_reducible first | exact HK.out | apply KeepBut.set_ | apply keep_drewN | apply keep_drew | apply keep_alloc | refine keep_far ?_ GW589.out _ | refine keep_far ?_ GW596.out _) | exact HK.out)) hk (.inl rfl)); have n3_ := Aside0.mk (hb); have n4_ := Aside0.mk (hi); clear BK589; clear BK596; clear HK; clear HB; clear HI0; have BK589 := n0_; have BK596 := n1_; have HK := n2_; have HB := n3_; have HI0 := n4_; clear n0_ n1_ n2_ n3_ n4_; (try clear hb); (try clear hb2); (try clear hk); (try clear hi); have hnb60 := NB596_589.out; have hnc60 := NB589_596.out; have hnb61 := NB596_0.out; have hnc61 := NB0_596.out; have hcz62_0 : w59.cell? ⟨gb596, 0, none⟩ = some (.string a1) := (blk_cell BK596.out 0).trans rfl; have hcz62_1 : w59.cell? ⟨gb596, 1, none⟩ = some (.int .i64 t593) := (blk_cell BK596.out 1).trans rfl; have hcz62_2 : w59.cell? ⟨gb596, 2, none⟩ = some (.int .i64 x597002_3) := (blk_cell BK596.out 2).trans rfl; have hcz62_3 : w59.cell? ⟨gb596, 3, none⟩ = some (.int .i64 x597003_3) := (blk_cell BK596.out 3).trans rfl; have hfz62_0 := blk_frozen BK596.out 0; have hfz62_1 := blk_frozen BK596.out 1; have hfz62_2 := blk_frozen BK596.out 2; have hfz62_3 := blk_frozen BK596.out 3) | ((with_reducible refine gate_dst (N := 45) rfl ?_); refine Kd.R_lit (Kd.int .i64) _ 3 ?hg (N := 45) ?hd (xs := ([(-1), wrap64 (t593 + 1), 20001] : List Int)) (inner := [.int .i64 (-1), .int .i64 (wrap64 (t593 + 1)), .int .i64 20001]) (ok := fun _ => True) (okp := fun _ => True) ?hr ?hp (fun _ hk => hk) trivial (Below.refl _ _) (Nat.le_refl _) (by simp) ?_; (case hd => rfl); (case hg => rfl); (case hr => first | (go_simp; done) | (go_simp; rfl)); (case hp => exact (Reps.one (show Kd.M (Kd.int .i64) _ _ _ (-1) [.int .i64 (-1)] from rfl) (Reps.one (show Kd.M (Kd.int .i64) _ _ _ (wrap64 (t593 + 1)) [.int .i64 (wrap64 (t593 + 1))] from rfl) (Reps.one (show Kd.M (Kd.int .i64) _ _ _ 20001 [.int .i64 20001] from rfl) (Reps.none _ _))))); intro v626 w63 ho64 hb hg_ hnew_; clear hg_ hnew_; (first | rw [← Ny625.out] at ho64 | (simp only [Int.reduceToNat] at ho64; rw [← Ny625.out] at ho64)); have n0_ := Aside0.mk (Kd.R_lower ho64 (keep_size (w := w) (g := g) (row := none) (by repeat (first | (with_reducible first | exact HK.out | apply KeepBut.set_ | apply keep_drewN | apply keep_drew | apply keep_alloc | refine keep_far ?_ GW589.out _ | refine keep_far ?_ GW596.out _) | exact HK.out)))); have n1_ := Aside0.mk (blk_below (g := gb589) (o := .cells #[.string (⟨#[]⟩ : ByteArray), .int .i64 0, .int .i64 0, .int .i64 0] 26 (0, 0)) (bk_ BK589.out) hb); have n2_ := Aside0.mk (blk_below (g := gb596) (o := .cells #[.string a1, .int .i64 t593, .int .i64 x597002_3, .int .i64 x597003_3] 26 (0, 0)) (bk_ BK596.out) hb); have n3_ := Aside0.mk (IsS93.below (by repeat (first | (with_reducible first | exact HI0.out | apply IsS93.alloc | apply IsS93.drewN | apply IsS93.drew | apply IsS93.set_1 | apply IsS93.set_2 | refine IsS93.far ?_ NB0_589.out _ | refine IsS93.far ?_ NB0_596.out _) | exact HI0.out)) hb); have n4_ := Aside0.mk (KeepBut.trans (by repeat (first | (with_reducible first | exact HK.out | apply KeepBut.set_ | apply keep_drewN | apply keep_drew | apply keep_alloc | refine keep_far ?_ GW589.out _ | refine keep_far ?_ GW596.out _) | exact HK.out)) (KeepBut.of_below hb g none) (.inl rfl)); have n5_ := Aside0.mk (below_step (by repeat (first | (with_reducible first | exact HB.out | apply below_alloc | apply pw_below_drewN | apply below_drew1 | refine below_set ?_ (IsS93.ge HI0.out) | refine below_set ?_ GE589.out | refine below_set ?_ GE596.out) | exact HB.out)) hb); clear BK589; clear BK596; clear HI0; clear HK; clear HB; have HO627 := n0_; have BK589 := n1_; have BK596 := n2_; have HI0 := n3_; have HK := n4_; have HB := n5_; clear n0_ n1_ n2_ n3_ n4_ n5_; clear hb ho64; obtain ⟨Ao65, co65, eo65⟩ := Kd.R_slice HO627.out; subst eo65) | ((with_reducible refine gate_callee (f := 83) rfl ?_); refine ga_ (some 46) Tryd.func83 #[.pointer (some ⟨g, 0, none⟩), .slice Ao65 y625.length co65] ?_; (with_reducible refine (spec_l1Cur_among.calls g s0_0 t611 t612 _ _ y625 t628 t629 t630 w0 _ ?side1 ?side2 ?side3 ?side4 ?side5 A58.out).mono ?_); (case side1 => repeat (first | (with_reducible first | exact HI0.out | apply IsS93.alloc | apply IsS93.drewN | apply IsS93.drew | apply IsS93.set_1 | apply IsS93.set_2 | refine IsS93.far ?_ NB0_589.out _ | refine IsS93.far ?_ NB0_596.out _) | exact HI0.out)); (case side2 => repeat (first | (with_reducible first | exact HB.out | apply below_alloc | apply pw_below_drewN | apply below_drew1 | refine below_set ?_ (IsS93.ge HI0.out) | refine below_set ?_ GE589.out | refine below_set ?_ GE596.out) | exact HB.out)); (case side3 => exact kc_ (Kd.R_reads' HO627.out).2.2); (case side4 => exact (Kd.R_reads' HO627.out).2.1); (case side5 => exact far_slice (IsS93.own_ne HI0.out HO627.out (by decide))); rintro e w66 ⟨rfl, hi, hb, hk⟩; refine ⟨_, rfl, ?_⟩; have n0_ := Aside0.mk (KeepBut.blk hk (g' := gb589) (o := .cells #[.string (⟨#[]⟩ : ByteArray), .int .i64 0, .int .i64 0, .int .i64 0] 26 (0, 0)) (bk_ BK589.out) NB589_0.out (by simp)); have n1_ := Aside0.mk (KeepBut.blk hk (g' := gb596) (o := .cells #[.string a1, .int .i64 t593, .int .i64 x597002_3, .int .i64 x597003_3] 26 (0, 0)) (bk_ BK596.out) NB596_0.out (by simp)); have n2_ := Aside0.mk (Kd.R_mono (Kd.R_keep (IsS93.apart (show IsS93 w0 _ g s0_0 t611 t612 from by repeat (first | (with_reducible first | exact HI0.out | apply IsS93.alloc | apply IsS93.drewN | apply IsS93.drew | apply IsS93.set_1 | apply IsS93.set_2 | refine IsS93.far ?_ NB0_589.out _ | refine IsS93.far ?_ NB0_596.out _) | exact HI0.out)) (kr_ HO627.out) (by decide)) hk (fun _ h => h.2)) (fun _ h => h.1)); have n3_ := Aside0.mk (KeepBut.trans (by repeat (first | (with_reducible first | exact HK.out | apply KeepBut.set_ | apply keep_drewN | apply keep_drew | apply keep_alloc | refine keep_far ?_ GW589.out _ | refine keep_far ?_ GW596.out _) | exact HK.out)) hk (.inl rfl)); have n4_ := Aside0.mk (hb); have n5_ := Aside0.mk (hi); clear BK589; clear BK596; clear HO627; clear HK; clear HB; clear HI0; have BK589 := n0_; have BK596 := n1_; have HO627 := n2_; have HK := n3_; have HB := n4_; have HI0 := n5_; clear n0_ n1_ n2_ n3_ n4_ n5_; (try clear hb); (try clear hb2); (try clear hk); (try clear hi); have hcz67_0 : w66.cell? ⟨gb596, 0, none⟩ = some (.string a1) := (blk_cell BK596.out 0).trans rfl; have hcz67_1 : w66.cell? ⟨gb596, 1, none⟩ = some (.int .i64 t593) := (blk_cell BK596.out 1).trans rfl; have hcz67_2 : w66.cell? ⟨gb596, 2, none⟩ = some (.int .i64 x597002_3) := (blk_cell BK596.out 2).trans rfl; have hcz67_3 : w66.cell? ⟨gb596, 3, none⟩ = some (.int .i64 x597003_3) := (blk_cell BK596.out 3).trans rfl; have hfz67_0 := blk_frozen BK596.out 0; have hfz67_1 := blk_frozen BK596.out 1; have hfz67_2 := blk_frozen BK596.out 2; have hfz67_3 := blk_frozen BK596.out 3; have hnb68 := NB589_0.out; have hnc68 := NB0_589.out; have hcz69_0 : w66.cell? ⟨gb589, 0, none⟩ = some (.string (⟨#[]⟩ : ByteArray)) := (blk_cell BK589.out 0).trans rfl; have hcz69_1 : w66.cell? ⟨gb589, 1, none⟩ = some (.int .i64 0) := (blk_cell BK589.out 1).trans rfl; have hcz69_2 : w66.cell? ⟨gb589, 2, none⟩ = some (.int .i64 0) := (blk_cell BK589.out 2).trans rfl; have hcz69_3 : w66.cell? ⟨gb589, 3, none⟩ = some (.int .i64 0) := (blk_cell BK589.out 3).trans rfl; have hfz69_0 := blk_frozen BK589.out 0; have hfz69_1 := blk_frozen BK589.out 1; have hfz69_2 := blk_frozen BK589.out 2; have hfz69_3 := blk_frozen BK589.out 3))
      refine bodyPost_ret (results_cell_row rfl _ _ gb589 26 #[.string a1, .int .i64 t593, .int .i64 t628, .int .i64 x597003_3] (0, 0) _ rfl (by (with_reducible repeat (first | refine blk_drewN ?_ _ | refine blk_drew ?_ | refine blk_alloc ?_ _)); refine blk_put (cs := #[.string a1, .int .i64 t593, .int .i64 t628, .int .i64 0]) ?_ 3 _ rfl; (with_reducible repeat (first | refine blk_drewN ?_ _ | refine blk_drew ?_ | refine blk_alloc ?_ _)); refine blk_put (cs := #[.string a1, .int .i64 t593, .int .i64 0, .int .i64 0]) ?_ 2 _ rfl; (with_reducible repeat (first | refine blk_drewN ?_ _ | refine blk_drew ?_ | refine blk_alloc ?_ _)); refine blk_put (cs := #[.string a1, .int .i64 0, .int .i64 0, .int .i64 0]) ?_ 1 _ rfl; (with_reducible repeat (first | refine blk_drewN ?_ _ | refine blk_drew ?_ | refine blk_alloc ?_ _)); refine blk_put (cs := #[.string (⟨#[]⟩ : ByteArray), .int .i64 0, .int .i64 0, .int .i64 0]) ?_ 0 _ rfl; (with_reducible repeat (first | refine blk_drewN ?_ _ | refine blk_drew ?_ | refine blk_alloc ?_ _)); refine blk_far ?_ NB589_596.out _; (with_reducible repeat (first | refine blk_drewN ?_ _ | refine blk_drew ?_ | refine blk_alloc ?_ _)); exact BK589.out) Tryd.underlying26 rfl (by kernel_rfl)) rfl ?_
      exact ⟨rr_, by repeat (first | (with_reducible first | exact HI0.out | apply IsS93.alloc | apply IsS93.drewN | apply IsS93.drew | apply IsS93.set_1 | apply IsS93.set_2 | refine IsS93.far ?_ NB0_589.out _ | refine IsS93.far ?_ NB0_596.out _) | exact HI0.out), by repeat (first | (with_reducible first | exact HB.out | apply below_alloc | apply pw_below_drewN | apply below_drew1 | refine below_set ?_ (IsS93.ge HI0.out) | refine below_set ?_ GE589.out | refine below_set ?_ GE596.out) | exact HB.out), by repeat (first | (with_reducible first | exact HK.out | apply KeepBut.set_ | apply keep_drewN | apply keep_drew | apply keep_alloc | refine keep_far ?_ GW589.out _ | refine keep_far ?_ GW596.out _) | exact HK.out)⟩
     ·
      rw [if_neg c57] at H
      have c57b0 : (t610 == 2) = false := beq_eq_false_iff_ne.mpr c57
      have c57b1 : (t610 != 2) = true := bne_iff_ne.mpr c57
      by_cases c70 : t610 = 3
      ·
       rw [if_pos c70] at H
       have c70b0 : (t610 == 3) = true := beq_iff_eq.mpr c70
       have c70b1 : (t610 != 3) = false := bne_eq_false_iff_eq.mpr c70
       clear c70
       obtain ⟨y631, hy631⟩ : ∃ y_ : List Int, y_ = (([(-1), 0, 10000] : List Int)) := ⟨_, rfl⟩
       replace H : ((spec_l1Cur_among.f s0_0 t611 t612 y631).bind fun bt634 => (some (a1, t593, x597002_3, bt634.1, bt634.2.1, bt634.2.2))) = some (r1, r2, r3, r4, r5, r6) := by first | (rw [hy631]; with_reducible exact H) | (have H2_ := (Option.bind_some _ _).symm.trans H; rw [hy631]; with_reducible exact H2_) | (have H2_ := (Option.bind_some _ _).symm.trans H; with_reducible exact H2_) | with_reducible exact H | (rw [hy631]; exact H) | exact H
       have Ny631 := Aside0.mk hy631
       clear hy631
       replace H := Option.bind_eq_some_iff.mp H
       obtain ⟨⟨t634, t635, t636⟩, A710, H⟩ := H
       replace H : (some (a1, t593, x597002_3, t634, t635, t636)) = some (r1, r2, r3, r4, r5, r6) := H
       have A71 := Aside0.mk A710
       clear A710
       simp only [Option.some.injEq, Prod.mk.injEq] at H
       obtain ⟨rfl, rfl, rfl, rfl, rfl, rfl⟩ := H
       go_wp2_with (first | ((with_reducible refine gate_callee (f := 82) rfl ?_); refine ga_ (some 26) Tryd.func82 #[.pointer (some ⟨g, 0, none⟩), .int .i64 60] ?_; (with_reducible refine (spec_l1Cur_pick.calls g s0_0 x1001_3 x1002_3 60 t610 t611 t612 w0 _ ?side1 ?side2 A32.out).mono ?_); (case side1 => repeat (first | (with_reducible first | exact HI0.out | apply IsS93.alloc | apply IsS93.drewN | apply IsS93.drew | apply IsS93.set_1 | apply IsS93.set_2 | refine IsS93.far ?_ NB0_589.out _ | refine IsS93.far ?_ NB0_596.out _) | exact HI0.out)); (case side2 => repeat (first | (with_reducible first | exact HB.out | apply below_alloc | apply pw_below_drewN | apply below_drew1 | refine below_set ?_ (IsS93.ge HI0.out) | refine below_set ?_ GE589.out | refine below_set ?_ GE596.out) | exact HB.out)); rintro e w72 ⟨rfl, hi, hb, hk⟩; refine ⟨_, rfl, ?_⟩; have n0_ := Aside0.mk (KeepBut.blk hk (g' := gb589) (o := .cells #[.string (⟨#[]⟩ : ByteArray), .int .i64 0, .int .i64 0, .int .i64 0] 26 (0, 0)) (bk_ BK589.out) NB589_0.out (by simp)); have n1_ := Aside0.mk (KeepBut.blk hk (g' := gb596) (o := .cells #[.string a1, .int .i64 t593, .int .i64 x597002_3, .int .i64 x597003_3] 26 (0, 0)) (bk_ BK596.out) NB596_0.out (by simp)); have n2_ := Aside0.mk (KeepBut.trans (by repeat (first | (with_reducible first | exact HK.out | apply KeepBut.set_ | apply keep_drewN | apply keep_drew | apply keep_alloc | refine keep_far ?_ GW589.out _ | refine keep_far ?_ GW596.out _) | exact HK.out)) hk (.inl rfl)); have n3_ := Aside0.mk (hb); have n4_ := Aside0.mk (hi); clear BK589; clear BK596; clear HK; clear HB; clear HI0; have BK589 := n0_; have BK596 := n1_; have HK := n2_; have HB := n3_; have HI0 := n4_; clear n0_ n1_ n2_ n3_ n4_; (try clear hb); (try clear hb2); (try clear hk); (try clear hi)) | ((with_reducible refine gate_dst (N := 51) rfl ?_); refine Kd.R_lit (Kd.int .i64) _ 3 ?hg (N := 51) ?hd (xs := ([(-1), 0, 10000] : List Int)) (inner := [.int .i64 (-1), .int .i64 0, .int .i64 10000]) (ok := fun _ => True) (okp := fun _ => True) ?hr ?hp (fun _ hk => hk) trivial (Below.refl _ _) (Nat.le_refl _) (by simp) ?_; (case hd => rfl); (case hg => rfl); (case hr => first | (go_simp; done) | (go_simp; rfl)); (case hp => exact (Reps.one (show Kd.M (Kd.int .i64) _ _ _ (-1) [.int .i64 (-1)] from rfl) (Reps.one (show Kd.M (Kd.int .i64) _ _ _ 0 [.int .i64 0] from rfl) (Reps.one (show Kd.M (Kd.int .i64) _ _ _ 10000 [.int .i64 10000] from rfl) (Reps.none _ _))))); intro v632 w73 ho74 hb hg_ hnew_; clear hg_ hnew_; (first | rw [← Ny631.out] at ho74 | (simp only [Int.reduceToNat] at ho74; rw [← Ny631.out] at ho74)); have n0_ := Aside0.mk (Kd.R_lower ho74 (keep_size (w := w) (g := g) (row := none) (by repeat (first | (with_reducible first | exact HK.out | apply KeepBut.set_ | apply keep_drewN | apply keep_drew | apply keep_alloc | refine keep_far ?_ GW589.out _ | refine keep_far ?_ GW596.out _) | exact HK.out)))); have n1_ := Aside0.mk (blk_below (g := gb589) (o := .cells #[.string (⟨#[]⟩ : ByteArray), .int .i64 0, .int .i64 0, .int .i64 0] 26 (0, 0)) (bk_ BK589.out) hb); have n2_ := Aside0.mk (blk_below (g := gb596) (o := .cells #[.string a1, .int .i64 t593, .int .i64 x597002_3, .int .i64 x597003_3] 26 (0, 0)) (bk_ BK596.out) hb); have n3_ := Aside0.mk (IsS93.below (by repeat (first | (with_reducible first | exact HI0.out | apply IsS93.alloc | apply IsS93.drewN | apply IsS93.drew | apply IsS93.set_1 | apply IsS93.set_2 | refine IsS93.far ?_ NB0_589.out _ | refine IsS93.far ?_ NB0_596.out _) | exact HI0.out)) hb); have n4_ := Aside0.mk (KeepBut.trans (by repeat (first | (with_reducible first | exact HK.out | apply KeepBut.set_ | apply keep_drewN | apply keep_drew | apply keep_alloc | refine keep_far ?_ GW589.out _ | refine keep_far ?_ GW596.out _) | exact HK.out)) (KeepBut.of_below hb g none) (.inl rfl)); have n5_ := Aside0.mk (below_step (by repeat (first | (with_reducible first | exact HB.out | apply below_alloc | apply pw_below_drewN | apply below_drew1 | refine below_set ?_ (IsS93.ge HI0.out) | refine below_set ?_ GE589.out | refine below_set ?_ GE596.out) | exact HB.out)) hb); clear BK589; clear BK596; clear HI0; clear HK; clear HB; have HO633 := n0_; have BK589 := n1_; have BK596 := n2_; have HI0 := n3_; have HK := n4_; have HB := n5_; clear n0_ n1_ n2_ n3_ n4_ n5_; clear hb ho74; obtain ⟨Ao75, co75, eo75⟩ := Kd.R_slice HO633.out; subst eo75) | ((with_reducible refine gate_callee (f := 83) rfl ?_); refine ga_ (some 52) Tryd.func83 #[.pointer (some ⟨g, 0, none⟩), .slice Ao75 y631.length co75] ?_; (with_reducible refine (spec_l1Cur_among.calls g s0_0 t611 t612 _ _ y631 t634 t635 t636 w0 _ ?side1 ?side2 ?side3 ?side4 ?side5 A71.out).mono ?_); (case side1 => repeat (first | (with_reducible first | exact HI0.out | apply IsS93.alloc | apply IsS93.drewN | apply IsS93.drew | apply IsS93.set_1 | apply IsS93.set_2 | refine IsS93.far ?_ NB0_589.out _ | refine IsS93.far ?_ NB0_596.out _) | exact HI0.out)); (case side2 => repeat (first | (with_reducible first | exact HB.out | apply below_alloc | apply pw_below_drewN | apply below_drew1 | refine below_set ?_ (IsS93.ge HI0.out) | refine below_set ?_ GE589.out | refine below_set ?_ GE596.out) | exact HB.out)); (case side3 => exact kc_ (Kd.R_reads' HO633.out).2.2); (case side4 => exact (Kd.R_reads' HO633.out).2.1); (case side5 => exact far_slice (IsS93.own_ne HI0.out HO633.out (by decide))); rintro e w76 ⟨rfl, hi, hb, hk⟩; refine ⟨_, rfl, ?_⟩; have n0_ := Aside0.mk (KeepBut.blk hk (g' := gb589) (o := .cells #[.string (⟨#[]⟩ : ByteArray), .int .i64 0, .int .i64 0, .int .i64 0] 26 (0, 0)) (bk_ BK589.out) NB589_0.out (by simp)); have n1_ := Aside0.mk (KeepBut.blk hk (g' := gb596) (o := .cells #[.string a1, .int .i64 t593, .int .i64 x597002_3, .int .i64 x597003_3] 26 (0, 0)) (bk_ BK596.out) NB596_0.out (by simp)); have n2_ := Aside0.mk (Kd.R_mono (Kd.R_keep (IsS93.apart (show IsS93 w0 _ g s0_0 t611 t612 from by repeat (first | (with_reducible first | exact HI0.out | apply IsS93.alloc | apply IsS93.drewN | apply IsS93.drew | apply IsS93.set_1 | apply IsS93.set_2 | refine IsS93.far ?_ NB0_589.out _ | refine IsS93.far ?_ NB0_596.out _) | exact HI0.out)) (kr_ HO633.out) (by decide)) hk (fun _ h => h.2)) (fun _ h => h.1)); have n3_ := Aside0.mk (KeepBut.trans (by repeat (first | (with_reducible first | exact HK.out | apply KeepBut.set_ | apply keep_drewN | apply keep_drew | apply keep_alloc | refine keep_far ?_ GW589.out _ | refine keep_far ?_ GW596.out _) | exact HK.out)) hk (.inl rfl)); have n4_ := Aside0.mk (hb); have n5_ := Aside0.mk (hi); clear BK589; clear BK596; clear HO633; clear HK; clear HB; clear HI0; have BK589 := n0_; have BK596 := n1_; have HO633 := n2_; have HK := n3_; have HB := n4_; have HI0 := n5_; clear n0_ n1_ n2_ n3_ n4_ n5_; (try clear hb); (try clear hb2); (try clear hk); (try clear hi); have hnb77 := NB596_589.out; have hnc77 := NB589_596.out; have hnb78 := NB596_0.out; have hnc78 := NB0_596.out; have hcz79_0 : w76.cell? ⟨gb596, 0, none⟩ = some (.string a1) := (blk_cell BK596.out 0).trans rfl; have hcz79_1 : w76.cell? ⟨gb596, 1, none⟩ = some (.int .i64 t593) := (blk_cell BK596.out 1).trans rfl; have hcz79_2 : w76.cell? ⟨gb596, 2, none⟩ = some (.int .i64 x597002_3) := (blk_cell BK596.out 2).trans rfl; have hcz79_3 : w76.cell? ⟨gb596, 3, none⟩ = some (.int .i64 x597003_3) := (blk_cell BK596.out 3).trans rfl; have hfz79_0 := blk_frozen BK596.out 0; have hfz79_1 := blk_frozen BK596.out 1; have hfz79_2 := blk_frozen BK596.out 2; have hfz79_3 := blk_frozen BK596.out 3; have hnb80 := NB589_0.out; have hnc80 := NB0_589.out; have hcz81_0 : w76.cell? ⟨gb589, 0, none⟩ = some (.string (⟨#[]⟩ : ByteArray)) := (blk_cell BK589.out 0).trans rfl; have hcz81_1 : w76.cell? ⟨gb589, 1, none⟩ = some (.int .i64 0) := (blk_cell BK589.out 1).trans rfl; have hcz81_2 : w76.cell? ⟨gb589, 2, none⟩ = some (.int .i64 0) := (blk_cell BK589.out 2).trans rfl; have hcz81_3 : w76.cell? ⟨gb589, 3, none⟩ = some (.int .i64 0) := (blk_cell BK589.out 3).trans rfl; have hfz81_0 := blk_frozen BK589.out 0; have hfz81_1 := blk_frozen BK589.out 1; have hfz81_2 := blk_frozen BK589.out 2; have hfz81_3 := blk_frozen BK589.out 3))
       refine bodyPost_ret (results_cell_row rfl _ _ gb589 26 #[.string a1, .int .i64 t593, .int .i64 x597002_3, .int .i64 t634] (0, 0) _ rfl (by (with_reducible repeat (first | refine blk_drewN ?_ _ | refine blk_drew ?_ | refine blk_alloc ?_ _)); refine blk_put (cs := #[.string a1, .int .i64 t593, .int .i64 x597002_3, .int .i64 0]) ?_ 3 _ rfl; (with_reducible repeat (first | refine blk_drewN ?_ _ | refine blk_drew ?_ | refine blk_alloc ?_ _)); refine blk_put (cs := #[.string a1, .int .i64 t593, .int .i64 0, .int .i64 0]) ?_ 2 _ rfl; (with_reducible repeat (first | refine blk_drewN ?_ _ | refine blk_drew ?_ | refine blk_alloc ?_ _)); refine blk_put (cs := #[.string a1, .int .i64 0, .int .i64 0, .int .i64 0]) ?_ 1 _ rfl; (with_reducible repeat (first | refine blk_drewN ?_ _ | refine blk_drew ?_ | refine blk_alloc ?_ _)); refine blk_put (cs := #[.string (⟨#[]⟩ : ByteArray), .int .i64 0, .int .i64 0, .int .i64 0]) ?_ 0 _ rfl; (with_reducible repeat (first | refine blk_drewN ?_ _ | refine blk_drew ?_ | refine blk_alloc ?_ _)); refine blk_far ?_ NB589_596.out _; (with_reducible repeat (first | refine blk_drewN ?_ _ | refine blk_drew ?_ | refine blk_alloc ?_ _)); exact BK589.out) Tryd.underlying26 rfl (by kernel_rfl)) rfl ?_
       exact ⟨rr_, by repeat (first | (with_reducible first | exact HI0.out | apply IsS93.alloc | apply IsS93.drewN | apply IsS93.drew | apply IsS93.set_1 | apply IsS93.set_2 | refine IsS93.far ?_ NB0_589.out _ | refine IsS93.far ?_ NB0_596.out _) | exact HI0.out), by repeat (first | (with_reducible first | exact HB.out | apply below_alloc | apply pw_below_drewN | apply below_drew1 | refine below_set ?_ (IsS93.ge HI0.out) | refine below_set ?_ GE589.out | refine below_set ?_ GE596.out) | exact HB.out), by repeat (first | (with_reducible first | exact HK.out | apply KeepBut.set_ | apply keep_drewN | apply keep_drew | apply keep_alloc | refine keep_far ?_ GW589.out _ | refine keep_far ?_ GW596.out _) | exact HK.out)⟩
      ·
       rw [if_neg c70] at H
       have c70b0 : (t610 == 3) = false := beq_eq_false_iff_ne.mpr c70
       have c70b1 : (t610 != 3) = true := bne_iff_ne.mpr c70
       simp only [Option.some.injEq, Prod.mk.injEq] at H
       obtain ⟨rfl, rfl, rfl, rfl, rfl, rfl⟩ := H
       go_wp2_with (first | ((with_reducible refine gate_callee (f := 82) rfl ?_); refine ga_ (some 26) Tryd.func82 #[.pointer (some ⟨g, 0, none⟩), .int .i64 60] ?_; (with_reducible refine (spec_l1Cur_pick.calls g s0_0 x1001_3 x1002_3 60 t610 t611 t612 w0 _ ?side1 ?side2 A32.out).mono ?_); (case side1 => repeat (first | (with_reducible first | exact HI0.out | apply IsS93.alloc | apply IsS93.drewN | apply IsS93.drew | apply IsS93.set_1 | apply IsS93.set_2 | refine IsS93.far ?_ NB0_589.out _ | refine IsS93.far ?_ NB0_596.out _) | exact HI0.out)); (case side2 => repeat (first | (with_reducible first | exact HB.out | apply below_alloc | apply pw_below_drewN | apply below_drew1 | refine below_set ?_ (IsS93.ge HI0.out) | refine below_set ?_ GE589.out | refine below_set ?_ GE596.out) | exact HB.out)); rintro e w82 ⟨rfl, hi, hb, hk⟩; refine ⟨_, rfl, ?_⟩; have n0_ := Aside0.mk (KeepBut.blk hk (g' := gb589) (o := .cells #[.string (⟨#[]⟩ : ByteArray), .int .i64 0, .int .i64 0, .int .i64 0] 26 (0, 0)) (bk_ BK589.out) NB589_0.out (by simp)); have n1_ := Aside0.mk (KeepBut.blk hk (g' := gb596) (o := .cells #[.string a1, .int .i64 t593, .int .i64 x597002_3, .int .i64 x597003_3] 26 (0, 0)) (bk_ BK596.out) NB596_0.out (by simp)); have n2_ := Aside0.mk (KeepBut.trans (by repeat (first | (with_reducible first | exact HK.out | apply KeepBut.set_ | apply keep_drewN | apply keep_drew | apply keep_alloc | refine keep_far ?_ GW589.out _ | refine keep_far ?_ GW596.out _) | exact HK.out)) hk (.inl rfl)); have n3_ := Aside0.mk (hb); have n4_ := Aside0.mk (hi); clear BK589; clear BK596; clear HK; clear HB; clear HI0; have BK589 := n0_; have BK596 := n1_; have HK := n2_; have HB := n3_; have HI0 := n4_; clear n0_ n1_ n2_ n3_ n4_; (try clear hb); (try clear hb2); (try clear hk); (try clear hi); have hnb83 := NB596_589.out; have hnc83 := NB589_596.out; have hnb84 := NB596_0.out; have hnc84 := NB0_596.out; have hcz85_0 : w82.cell? ⟨gb596, 0, none⟩ = some (.string a1) := (blk_cell BK596.out 0).trans rfl; have hcz85_1 : w82.cell? ⟨gb596, 1, none⟩ = some (.int .i64 t593) := (blk_cell BK596.out 1).trans rfl; have hcz85_2 : w82.cell? ⟨gb596, 2, none⟩ = some (.int .i64 x597002_3) := (blk_cell BK596.out 2).trans rfl; have hcz85_3 : w82.cell? ⟨gb596, 3, none⟩ = some (.int .i64 x597003_3) := (blk_cell BK596.out 3).trans rfl; have hfz85_0 := blk_frozen BK596.out 0; have hfz85_1 := blk_frozen BK596.out 1; have hfz85_2 := blk_frozen BK596.out 2; have hfz85_3 := blk_frozen BK596.out 3; have hnb86 := NB589_0.out; have hnc86 := NB0_589.out; have hcz87_0 : w82.cell? ⟨gb589, 0, none⟩ = some (.string (⟨#[]⟩ : ByteArray)) := (blk_cell BK589.out 0).trans rfl; have hcz87_1 : w82.cell? ⟨gb589, 1, none⟩ = some (.int .i64 0) := (blk_cell BK589.out 1).trans rfl; have hcz87_2 : w82.cell? ⟨gb589, 2, none⟩ = some (.int .i64 0) := (blk_cell BK589.out 2).trans rfl; have hcz87_3 : w82.cell? ⟨gb589, 3, none⟩ = some (.int .i64 0) := (blk_cell BK589.out 3).trans rfl; have hfz87_0 := blk_frozen BK589.out 0; have hfz87_1 := blk_frozen BK589.out 1; have hfz87_2 := blk_frozen BK589.out 2; have hfz87_3 := blk_frozen BK589.out 3))
       refine bodyPost_ret (results_cell_row rfl _ _ gb589 26 #[.string a1, .int .i64 t593, .int .i64 x597002_3, .int .i64 x597003_3] (0, 0) _ rfl (by (with_reducible repeat (first | refine blk_drewN ?_ _ | refine blk_drew ?_ | refine blk_alloc ?_ _)); refine blk_put (cs := #[.string a1, .int .i64 t593, .int .i64 x597002_3, .int .i64 0]) ?_ 3 _ rfl; (with_reducible repeat (first | refine blk_drewN ?_ _ | refine blk_drew ?_ | refine blk_alloc ?_ _)); refine blk_put (cs := #[.string a1, .int .i64 t593, .int .i64 0, .int .i64 0]) ?_ 2 _ rfl; (with_reducible repeat (first | refine blk_drewN ?_ _ | refine blk_drew ?_ | refine blk_alloc ?_ _)); refine blk_put (cs := #[.string a1, .int .i64 0, .int .i64 0, .int .i64 0]) ?_ 1 _ rfl; (with_reducible repeat (first | refine blk_drewN ?_ _ | refine blk_drew ?_ | refine blk_alloc ?_ _)); refine blk_put (cs := #[.string (⟨#[]⟩ : ByteArray), .int .i64 0, .int .i64 0, .int .i64 0]) ?_ 0 _ rfl; (with_reducible repeat (first | refine blk_drewN ?_ _ | refine blk_drew ?_ | refine blk_alloc ?_ _)); exact BK589.out) Tryd.underlying26 rfl (by kernel_rfl)) rfl ?_
       exact ⟨rr_, by repeat (first | (with_reducible first | exact HI0.out | apply IsS93.alloc | apply IsS93.drewN | apply IsS93.drew | apply IsS93.set_1 | apply IsS93.set_2 | refine IsS93.far ?_ NB0_589.out _ | refine IsS93.far ?_ NB0_596.out _) | exact HI0.out), by repeat (first | (with_reducible first | exact HB.out | apply below_alloc | apply pw_below_drewN | apply below_drew1 | refine below_set ?_ (IsS93.ge HI0.out) | refine below_set ?_ GE589.out | refine below_set ?_ GE596.out) | exact HB.out), by repeat (first | (with_reducible first | exact HK.out | apply KeepBut.set_ | apply keep_drewN | apply keep_drew | apply keep_alloc | refine keep_far ?_ GW589.out _ | refine keep_far ?_ GW596.out _) | exact HK.out)⟩
mutual
def spec_l1Cur_caves26.l0 : Nat → List (S26) → List ByteArray → Int → List Int → Int → Int → Option ((List (S26)) × Int × Int)
 | 0, _, _, _, _, _, _ => none
 | k + 1, x3, x4, x5, x1000, x1001, x1002 => if x5 < (x4.length : Int) then ((spec_l1Cur_one.f x1000 x1001 x1002 2).bind fun bt643 => (if bt643.1 = true then (if 0 ≤ x5 then ((spec_l1Cur_caveRow.f k x1000 bt643.2.1 bt643.2.2 (rdOf ByteArray.empty x4 x5)).bind fun bt647 => (if x3.length < 3518437208883 then (spec_l1Cur_caves26.l0 k (x3 ++ [(⟨bt647.1, bt647.2.1, bt647.2.2.1, bt647.2.2.2.1⟩ : S26)]) x4 (wrap64 (x5 + 1)) x1000 bt647.2.2.2.2.1 bt647.2.2.2.2.2) else (none))) else (none)) else (spec_l1Cur_caves26.l0 k x3 x4 (wrap64 (x5 + 1)) x1000 bt643.2.1 bt643.2.2))) else ((spec_l1Cur_pick.f x1000 x1001 x1002 30).bind fun bt656 => (if bt656.1 = 0 then ((spec_l1Cur_caveRow.f k x1000 bt656.2.1 bt656.2.2 (⟨#[98, 108, 117, 102, 102]⟩ : ByteArray)).bind fun bt659 => (if x3.length < 3518437208883 then (some ((x3 ++ [(⟨bt659.1, bt659.2.1, bt659.2.2.1, bt659.2.2.2.1⟩ : S26)]), bt659.2.2.2.2.1, bt659.2.2.2.2.2)) else (none))) else (if bt656.1 = 1 then (spec_l1Cur_caves26.l1 k (([] : List (S26))) 0 x1000 bt656.2.1 bt656.2.2) else (some (x3, bt656.2.1, bt656.2.2)))))
def spec_l1Cur_caves26.l1 : Nat → List (S26) → Int → List Int → Int → Int → Option ((List (S26)) × Int × Int)
 | 0, _, _, _, _, _ => none
 | k + 1, x3, x6, x1000, x1001, x1002 => (spec_l1Cur_pick.f x1000 x1001 x1002 2).bind fun bt671 => (if x6 < (wrap64 (10 + bt671.1)) then (if x3.length < 3518437208883 then (spec_l1Cur_caves26.l1 k (x3 ++ [(⟨strOfNums (([(wrap64 (97 + x6)) % 256] : List Int)), 0, 0, 0⟩ : S26)]) (wrap64 (x6 + 1)) x1000 bt671.2.1 bt671.2.2) else (none)) else (some (x3, bt671.2.1, bt671.2.2)))
end
def spec_l1Cur_caves26.f (k : Nat) (s0_0 : List Int) (s0_1 : Int) (s0_2 : Int) : Option ((List (S26)) × Int × Int) := spec_l1Cur_caves26.l0 k (([] : List (S26))) (([(⟨#[97, 114, 99, 104]⟩ : ByteArray), (⟨#[98, 108, 117, 102, 102]⟩ : ByteArray), (⟨#[99, 108, 101, 102, 116]⟩ : ByteArray), (⟨#[100, 101, 110]⟩ : ByteArray), (⟨#[107, 97, 114, 115, 116]⟩ : ByteArray), (⟨#[109, 97, 122, 101]⟩ : ByteArray)] : List ByteArray)) 0 s0_0 s0_1 s0_2
set_option maxHeartbeats 8000000 in
set_option maxRecDepth 100000 in
theorem spec_l1Cur_caves26.calls (k : Nat) (g : Nat) (s0_0 : List Int) (s0_1 : Int) (s0_2 : Int) (r1 : List (S26)) (r2 : Int) (r3 : Int) (w0 w : World) (hI : IsS93 w0 w g s0_0 s0_1 s0_2) (hB : Below w0.heap.size w0 w) (h : spec_l1Cur_caves26.f k s0_0 s0_1 s0_2 = some (r1, r2, r3)) :
  Calls Tryd.prog 80 #[.pointer (some ⟨g, 0, none⟩)] w fun e w' => ∃ v0_ : Value, e = .returned (v0_) ∧ Kd.R k26 26 w' w.heap.size (fun _ => True) v0_ r1 ∧ IsS93 w0 w' g s0_0 r2 r3 ∧ Below w0.heap.size w0 w' ∧ KeepBut w w' g none := by
 have hu26 := Tryd.underlying26
 have HI0 := Aside0.mk hI
 have HK := Aside0.mk (KeepBut.refl w g none)
 have HL := Aside0.mk hB.size
 clear hI
 have HW0 := Aside0.mk hB.size
 have HB := Aside0.mk hB
 clear hB
 have H : (spec_l1Cur_caves26.l0 k (([] : List (S26))) (([(⟨#[97, 114, 99, 104]⟩ : ByteArray), (⟨#[98, 108, 117, 102, 102]⟩ : ByteArray), (⟨#[99, 108, 101, 102, 116]⟩ : ByteArray), (⟨#[100, 101, 110]⟩ : ByteArray), (⟨#[107, 97, 114, 115, 116]⟩ : ByteArray), (⟨#[109, 97, 122, 101]⟩ : ByteArray)] : List ByteArray)) 0 s0_0 s0_1 s0_2) = some (r1, r2, r3) := h
 clear h
 obtain ⟨y637, hy637⟩ : ∃ y_ : List (S26), y_ = (([] : List (S26))) := ⟨_, rfl⟩
 replace H : (spec_l1Cur_caves26.l0 k y637 (([(⟨#[97, 114, 99, 104]⟩ : ByteArray), (⟨#[98, 108, 117, 102, 102]⟩ : ByteArray), (⟨#[99, 108, 101, 102, 116]⟩ : ByteArray), (⟨#[100, 101, 110]⟩ : ByteArray), (⟨#[107, 97, 114, 115, 116]⟩ : ByteArray), (⟨#[109, 97, 122, 101]⟩ : ByteArray)] : List ByteArray)) 0 s0_0 s0_1 s0_2) = some (r1, r2, r3) := by first | (rw [hy637]; with_reducible exact H) | (have H2_ := (Option.bind_some _ _).symm.trans H; rw [hy637]; with_reducible exact H2_) | (have H2_ := (Option.bind_some _ _).symm.trans H; with_reducible exact H2_) | with_reducible exact H | (rw [hy637]; exact H) | exact H
 have Ny637 := Aside0.mk hy637
 clear hy637
 obtain ⟨y640, hy640⟩ : ∃ y_ : List ByteArray, y_ = (([(⟨#[97, 114, 99, 104]⟩ : ByteArray), (⟨#[98, 108, 117, 102, 102]⟩ : ByteArray), (⟨#[99, 108, 101, 102, 116]⟩ : ByteArray), (⟨#[100, 101, 110]⟩ : ByteArray), (⟨#[107, 97, 114, 115, 116]⟩ : ByteArray), (⟨#[109, 97, 122, 101]⟩ : ByteArray)] : List ByteArray)) := ⟨_, rfl⟩
 replace H : (spec_l1Cur_caves26.l0 k y637 y640 0 s0_0 s0_1 s0_2) = some (r1, r2, r3) := by first | (rw [hy640]; with_reducible exact H) | (have H2_ := (Option.bind_some _ _).symm.trans H; rw [hy640]; with_reducible exact H2_) | (have H2_ := (Option.bind_some _ _).symm.trans H; with_reducible exact H2_) | with_reducible exact H | (rw [hy640]; exact H) | exact H
 have Ny640 := Aside0.mk hy640
 clear hy640
 have H' := Aside0.mk H
 clear H
 go_enter Tryd.func80, Tryd.ntmps80
 go_wp2_with (first | ((with_reducible refine gate_dst (N := 7) rfl ?_); refine Kd.R_lit k26 _ 26 ?hg (N := 7) ?hd (xs := ([] : List (S26))) (inner := []) (ok := fun _ => True) (okp := fun _ => True) ?hr ?hp (fun _ hk => hk) trivial (Below.refl _ _) (Nat.le_refl _) (by simp) ?_; (case hd => rfl); (case hg => rfl); (case hr => first | (go_simp; done) | (go_simp; rfl)); (case hp => exact (Reps.none _ _)); intro v638 w2 ho3 hb hg_ hnew_; clear hg_ hnew_; (first | rw [← Ny637.out] at ho3 | (simp only [Int.reduceToNat] at ho3; rw [← Ny637.out] at ho3)); have n0_ := Aside0.mk (Kd.R_lower ho3 (keep_size (w := w) (g := g) (row := none) (by repeat (first | (with_reducible first | exact HK.out | apply KeepBut.set_ | apply keep_drewN | apply keep_drew | apply keep_alloc) | exact HK.out)))); have n1_ := Aside0.mk (IsS93.below (by repeat (first | (with_reducible first | exact HI0.out | apply IsS93.alloc | apply IsS93.drewN | apply IsS93.drew | apply IsS93.set_1 | apply IsS93.set_2) | exact HI0.out)) hb); have n2_ := Aside0.mk (KeepBut.trans (by repeat (first | (with_reducible first | exact HK.out | apply KeepBut.set_ | apply keep_drewN | apply keep_drew | apply keep_alloc) | exact HK.out)) (KeepBut.of_below hb g none) (.inl rfl)); have n3_ := Aside0.mk (below_step (by repeat (first | (with_reducible first | exact HB.out | apply below_alloc | apply pw_below_drewN | apply below_drew1 | refine below_set ?_ (IsS93.ge HI0.out)) | exact HB.out)) hb); clear HI0; clear HK; clear HB; have HO639 := n0_; have HI0 := n1_; have HK := n2_; have HB := n3_; clear n0_ n1_ n2_ n3_; clear hb ho3) | ((with_reducible refine gate_dst (N := 8) rfl ?_); refine Kd.R_lit Kd.string _ 9 ?hg (N := 8) ?hd (xs := ([(⟨#[97, 114, 99, 104]⟩ : ByteArray), (⟨#[98, 108, 117, 102, 102]⟩ : ByteArray), (⟨#[99, 108, 101, 102, 116]⟩ : ByteArray), (⟨#[100, 101, 110]⟩ : ByteArray), (⟨#[107, 97, 114, 115, 116]⟩ : ByteArray), (⟨#[109, 97, 122, 101]⟩ : ByteArray)] : List ByteArray)) (inner := [.string (⟨#[97, 114, 99, 104]⟩ : ByteArray), .string (⟨#[98, 108, 117, 102, 102]⟩ : ByteArray), .string (⟨#[99, 108, 101, 102, 116]⟩ : ByteArray), .string (⟨#[100, 101, 110]⟩ : ByteArray), .string (⟨#[107, 97, 114, 115, 116]⟩ : ByteArray), .string (⟨#[109, 97, 122, 101]⟩ : ByteArray)]) (ok := fun _ => True) (okp := fun _ => True) ?hr ?hp (fun _ hk => hk) trivial (Below.refl _ _) (Nat.le_refl _) (by simp) ?_; (case hd => rfl); (case hg => rfl); (case hr => first | (go_simp; done) | (go_simp; rfl)); (case hp => exact (Reps.one (show Kd.M Kd.string _ _ _ (⟨#[97, 114, 99, 104]⟩ : ByteArray) [.string (⟨#[97, 114, 99, 104]⟩ : ByteArray)] from rfl) (Reps.one (show Kd.M Kd.string _ _ _ (⟨#[98, 108, 117, 102, 102]⟩ : ByteArray) [.string (⟨#[98, 108, 117, 102, 102]⟩ : ByteArray)] from rfl) (Reps.one (show Kd.M Kd.string _ _ _ (⟨#[99, 108, 101, 102, 116]⟩ : ByteArray) [.string (⟨#[99, 108, 101, 102, 116]⟩ : ByteArray)] from rfl) (Reps.one (show Kd.M Kd.string _ _ _ (⟨#[100, 101, 110]⟩ : ByteArray) [.string (⟨#[100, 101, 110]⟩ : ByteArray)] from rfl) (Reps.one (show Kd.M Kd.string _ _ _ (⟨#[107, 97, 114, 115, 116]⟩ : ByteArray) [.string (⟨#[107, 97, 114, 115, 116]⟩ : ByteArray)] from rfl) (Reps.one (show Kd.M Kd.string _ _ _ (⟨#[109, 97, 122, 101]⟩ : ByteArray) [.string (⟨#[109, 97, 122, 101]⟩ : ByteArray)] from rfl) (Reps.none _ _)))))))); intro v641 w4 ho5 hb hg_ hnew_; clear hg_ hnew_; (first | rw [← Ny640.out] at ho5 | (simp only [Int.reduceToNat] at ho5; rw [← Ny640.out] at ho5)); have n0_ := Aside0.mk (Kd.R_below (kr_ HO639.out) hb); have n1_ := Aside0.mk (Kd.R_lower ho5 (keep_size (w := w) (g := g) (row := none) (by repeat (first | (with_reducible first | exact HK.out | apply KeepBut.set_ | apply keep_drewN | apply keep_drew | apply keep_alloc) | exact HK.out)))); have n2_ := Aside0.mk (IsS93.below (by repeat (first | (with_reducible first | exact HI0.out | apply IsS93.alloc | apply IsS93.drewN | apply IsS93.drew | apply IsS93.set_1 | apply IsS93.set_2) | exact HI0.out)) hb); have n3_ := Aside0.mk (KeepBut.trans (by repeat (first | (with_reducible first | exact HK.out | apply KeepBut.set_ | apply keep_drewN | apply keep_drew | apply keep_alloc) | exact HK.out)) (KeepBut.of_below hb g none) (.inl rfl)); have n4_ := Aside0.mk (below_step (by repeat (first | (with_reducible first | exact HB.out | apply below_alloc | apply pw_below_drewN | apply below_drew1 | refine below_set ?_ (IsS93.ge HI0.out)) | exact HB.out)) hb); clear HO639; clear HI0; clear HK; clear HB; have HO639 := n0_; have HO642 := n1_; have HI0 := n2_; have HK := n3_; have HB := n4_; clear n0_ n1_ n2_ n3_ n4_; clear hb ho5))
 go_loopg [3, 5] k (fun kq v3 v5 w' => ∃ (x3_1 : List (S26)) (x5_1 : Int) (x1001_1 : Int) (x1002_1 : Int), v5 = .int .i64 x5_1 ∧ Aside0 (spec_l1Cur_caves26.l0 kq x3_1 y640 x5_1 s0_0 x1001_1 x1002_1 = some (r1, r2, r3)) ∧ Aside0 (kq ≤ k) ∧ Aside0 (Kd.R k26 26 w' w.heap.size (fun _ => True) v3 x3_1) ∧ Aside0 (Kd.R Kd.string 9 w' w.heap.size (fun _ => True) v641 y640) ∧ Aside0 (IsS93 w0 w' g s0_0 x1001_1 x1002_1) ∧ Aside0 (KeepBut w w' g none) ∧ Aside0 (Below w0.heap.size w0 w'))
 case atStart => exact ⟨(y637), (0), (s0_1), (s0_2), (by first | rfl | (simp; done) | (simp [*]; done)), H', ⟨Nat.le_refl _⟩, ⟨kr_ HO639.out⟩, ⟨kr_ HO642.out⟩, ⟨by repeat (first | (with_reducible first | exact HI0.out | apply IsS93.alloc | apply IsS93.drewN | apply IsS93.drew | apply IsS93.set_1 | apply IsS93.set_2) | exact HI0.out)⟩, ⟨by repeat (first | (with_reducible first | exact HK.out | apply KeepBut.set_ | apply keep_drewN | apply keep_drew | apply keep_alloc) | exact HK.out)⟩, ⟨by repeat (first | (with_reducible first | exact HB.out | apply below_alloc | apply pw_below_drewN | apply below_drew1 | refine below_set ?_ (IsS93.ge HI0.out)) | exact HB.out)⟩⟩
 case round =>
  clear H'
  try clear p2
  obtain ⟨x3_1, x5_1, x1001_1, x1002_1, rfl, HA, HK1, HO_3, HO_4, HI0, HK, HB⟩ := hrel
  cases gk with
  | zero => exact absurd HA.out (by simp [spec_l1Cur_caves26.l0])
  | succ k1 =>
   have H := HA.out
   clear HA
   simp only [spec_l1Cur_caves26.l0] at H
   by_cases c6 : x5_1 < (y640.length : Int)
   ·
    rw [if_pos c6] at H
    have c6b0 : decide (x5_1 < (y640.length : Int)) = true := decide_eq_true c6
    clear c6
    replace H := Option.bind_eq_some_iff.mp H
    obtain ⟨⟨t643, t644, t645⟩, A70, H⟩ := H
    replace H : (if t643 = true then (if 0 ≤ x5_1 then ((spec_l1Cur_caveRow.f k1 s0_0 t644 t645 (rdOf ByteArray.empty y640 x5_1)).bind fun bt647 => (if x3_1.length < 3518437208883 then (spec_l1Cur_caves26.l0 k1 (x3_1 ++ [(⟨bt647.1, bt647.2.1, bt647.2.2.1, bt647.2.2.2.1⟩ : S26)]) y640 (wrap64 (x5_1 + 1)) s0_0 bt647.2.2.2.2.1 bt647.2.2.2.2.2) else (none))) else (none)) else (spec_l1Cur_caves26.l0 k1 x3_1 y640 (wrap64 (x5_1 + 1)) s0_0 t644 t645)) = some (r1, r2, r3) := H
    have A7 := Aside0.mk A70
    clear A70
    by_cases c8 : t643 = true
    ·
     subst c8
     have H1 : (if 0 ≤ x5_1 then ((spec_l1Cur_caveRow.f k1 s0_0 t644 t645 (rdOf ByteArray.empty y640 x5_1)).bind fun bt647 => (if x3_1.length < 3518437208883 then (spec_l1Cur_caves26.l0 k1 (x3_1 ++ [(⟨bt647.1, bt647.2.1, bt647.2.2.1, bt647.2.2.2.1⟩ : S26)]) y640 (wrap64 (x5_1 + 1)) s0_0 bt647.2.2.2.2.1 bt647.2.2.2.2.2) else (none))) else (none)) = some (r1, r2, r3) := by rw [if_pos rfl] at H; exact H
     clear H
     have H := H1
     clear H1
     by_cases c9 : 0 ≤ x5_1
     ·
      rw [if_pos c9] at H
      have c9b0 : decide (0 ≤ x5_1) = true := decide_eq_true c9
      clear c9
      replace H := Option.bind_eq_some_iff.mp H
      obtain ⟨⟨t647, t648, t649, t650, t651, t652⟩, A100, H⟩ := H
      replace H : (if x3_1.length < 3518437208883 then (spec_l1Cur_caves26.l0 k1 (x3_1 ++ [(⟨t647, t648, t649, t650⟩ : S26)]) y640 (wrap64 (x5_1 + 1)) s0_0 t651 t652) else (none)) = some (r1, r2, r3) := H
      have A10 := Aside0.mk A100
      clear A100
      by_cases c11 : x3_1.length < 3518437208883
      ·
       rw [if_pos c11] at H
       have LMc11 := Aside0.mk c11
       clear c11
       obtain ⟨y653, hy653⟩ : ∃ y_ : List (S26), y_ = (x3_1 ++ [(⟨t647, t648, t649, t650⟩ : S26)]) := ⟨_, rfl⟩
       replace H : (spec_l1Cur_caves26.l0 k1 y653 y640 (wrap64 (x5_1 + 1)) s0_0 t651 t652) = some (r1, r2, r3) := by first | (rw [hy653]; with_reducible exact H) | (have H2_ := (Option.bind_some _ _).symm.trans H; rw [hy653]; with_reducible exact H2_) | (have H2_ := (Option.bind_some _ _).symm.trans H; with_reducible exact H2_) | with_reducible exact H | (rw [hy653]; exact H) | exact H
       have Ny653 := Aside0.mk hy653
       clear hy653
       have H' := Aside0.mk H
       clear H
       obtain ⟨Ao12, co12, eo12⟩ := Kd.R_slice HO_4.out
       subst eo12
       go_wp2_with (first | ((with_reducible refine gate_callee (f := 81) rfl ?_); refine ga_ (some 16) Tryd.func81 #[.pointer (some ⟨g, 0, none⟩), .int .i64 2] ?_; (with_reducible refine (spec_l1Cur_one.calls g s0_0 x1001_1 x1002_1 2 true t644 t645 w0 _ ?side1 ?side2 A7.out).mono ?_); (case side1 => repeat (first | (with_reducible first | exact HI0.out | apply IsS93.alloc | apply IsS93.drewN | apply IsS93.drew | apply IsS93.set_1 | apply IsS93.set_2) | exact HI0.out)); (case side2 => repeat (first | (with_reducible first | exact HB.out | apply below_alloc | apply pw_below_drewN | apply below_drew1 | refine below_set ?_ (IsS93.ge HI0.out)) | exact HB.out)); rintro e w13 ⟨rfl, hi, hb, hk⟩; refine ⟨_, rfl, ?_⟩; have n0_ := Aside0.mk (Kd.R_mono (Kd.R_keep (IsS93.apart (show IsS93 w0 _ g s0_0 x1001_1 x1002_1 from by repeat (first | (with_reducible first | exact HI0.out | apply IsS93.alloc | apply IsS93.drewN | apply IsS93.drew | apply IsS93.set_1 | apply IsS93.set_2) | exact HI0.out)) (kr_ HO_3.out) (by decide)) hk (fun _ h => h.2)) (fun _ h => h.1)); have n1_ := Aside0.mk (Kd.R_mono (Kd.R_keep (IsS93.apart (show IsS93 w0 _ g s0_0 x1001_1 x1002_1 from by repeat (first | (with_reducible first | exact HI0.out | apply IsS93.alloc | apply IsS93.drewN | apply IsS93.drew | apply IsS93.set_1 | apply IsS93.set_2) | exact HI0.out)) (kr_ HO_4.out) (by decide)) hk (fun _ h => h.2)) (fun _ h => h.1)); have n2_ := Aside0.mk (KeepBut.trans (by repeat (first | (with_reducible first | exact HK.out | apply KeepBut.set_ | apply keep_drewN | apply keep_drew | apply keep_alloc) | exact HK.out)) hk (.inl rfl)); have n3_ := Aside0.mk (hb); have n4_ := Aside0.mk (hi); clear HO_3; clear HO_4; clear HK; clear HB; clear HI0; have HO_3 := n0_; have HO_4 := n1_; have HK := n2_; have HB := n3_; have HI0 := n4_; clear n0_ n1_ n2_ n3_ n4_; (try clear hb); (try clear hb2); (try clear hk); (try clear hi); have p646 : 0 ≤ (x5_1 : Int) := dt_; have q646 : x5_1 < (y640.length : Int) := dt_; obtain ⟨ad646, e646, hx646_0⟩ := Kd.at_string (Kd.R_reads' HO_4.out).2.2 x5_1 p646 q646; cases e646; replace p646 := eq_true p646; replace q646 := eq_true q646) | ((with_reducible refine gate_callee (f := 99) rfl ?_); refine ga_ (some 23) Tryd.func99 #[.pointer (some ⟨g, 0, none⟩), .string (rdOf ByteArray.empty y640 x5_1)] ?_; (with_reducible refine (spec_l1Cur_caveRow.calls k1 g s0_0 t644 t645 (rdOf ByteArray.empty y640 x5_1) t647 t648 t649 t650 t651 t652 w0 _ ?side1 ?side2 A10.out).mono ?_); (case side1 => repeat (first | (with_reducible first | exact HI0.out | apply IsS93.alloc | apply IsS93.drewN | apply IsS93.drew | apply IsS93.set_1 | apply IsS93.set_2) | exact HI0.out)); (case side2 => repeat (first | (with_reducible first | exact HB.out | apply below_alloc | apply pw_below_drewN | apply below_drew1 | refine below_set ?_ (IsS93.ge HI0.out)) | exact HB.out)); rintro e w14 ⟨rfl, hi, hb, hk⟩; refine ⟨_, rfl, ?_⟩; have n0_ := Aside0.mk (Kd.R_mono (Kd.R_keep (IsS93.apart (show IsS93 w0 _ g s0_0 t644 t645 from by repeat (first | (with_reducible first | exact HI0.out | apply IsS93.alloc | apply IsS93.drewN | apply IsS93.drew | apply IsS93.set_1 | apply IsS93.set_2) | exact HI0.out)) (kr_ HO_3.out) (by decide)) hk (fun _ h => h.2)) (fun _ h => h.1)); have n1_ := Aside0.mk (Kd.R_mono (Kd.R_keep (IsS93.apart (show IsS93 w0 _ g s0_0 t644 t645 from by repeat (first | (with_reducible first | exact HI0.out | apply IsS93.alloc | apply IsS93.drewN | apply IsS93.drew | apply IsS93.set_1 | apply IsS93.set_2) | exact HI0.out)) (kr_ HO_4.out) (by decide)) hk (fun _ h => h.2)) (fun _ h => h.1)); have n2_ := Aside0.mk (KeepBut.trans (by repeat (first | (with_reducible first | exact HK.out | apply KeepBut.set_ | apply keep_drewN | apply keep_drew | apply keep_alloc) | exact HK.out)) hk (.inl rfl)); have n3_ := Aside0.mk (hb); have n4_ := Aside0.mk (hi); clear HO_3; clear HO_4; clear HK; clear HB; clear HI0; have HO_3 := n0_; have HO_4 := n1_; have HK := n2_; have HB := n3_; have HI0 := n4_; clear n0_ n1_ n2_ n3_ n4_; (try clear hb); (try clear hb2); (try clear hk); (try clear hi)) | ((with_reducible refine gate_builtin (b := .append) (xs := #[.tmp 17, .tmp 24]) rfl ?_); at_builtin; refine Kd.R_append k26 w.heap.size rfl (.tmp 17) (.tmp 24) 32 26 (.agg #[(.string ⟨#[]⟩), (.int .i64 0), (.int .i64 0), (.int .i64 0)]) 40 rfl Tryd.underlying32 info26 rfl (by decide) (by omega) u3 x3_1 (⟨t647, t648, t649, t650⟩ : S26) [.string t647, .int .i64 t648, .int .i64 t649, .int .i64 t650] (fun _ => True) (fun _ => False) rfl rfl ?aP (fun _ hk => hk.elim) ?aF ?aO (Below.refl _ _) ?aS ?aL ?_; (case aP => exact k26_mkM _ _ _ (⟨t647, t648, t649, t650⟩ : S26)); (case aF => exact (fun _ _ => trivial)); (case aO => exact (kr_ HO_3.out)); (case aS => exact (keep_size (w := w) (g := g) (row := none) (by repeat (first | (with_reducible first | exact HK.out | apply KeepBut.set_ | apply keep_drewN | apply keep_drew | apply keep_alloc) | exact HK.out)))); (case aL => have := LMc11.out; omega); intro v654 w15 ho hb hg hat; rw [← Ny653.out] at ho; have n0_ := Aside0.mk (Kd.R_over' (kr_ HO_4.out) (Kd.R_typed (kr_ HO_3.out)) (by decide) hg); have n1_ := Aside0.mk (IsS93.grown (by repeat (first | (with_reducible first | exact HI0.out | apply IsS93.alloc | apply IsS93.drewN | apply IsS93.drew | apply IsS93.set_1 | apply IsS93.set_2) | exact HI0.out)) hg (IsS93.own_ne HI0.out HO_3.out (by decide))); have n2_ := Aside0.mk (below_weaken (by repeat (first | (with_reducible first | exact HB.out | apply below_alloc | apply pw_below_drewN | apply below_drew1 | refine below_set ?_ (IsS93.ge HI0.out)) | exact HB.out)) HL.out hb); have n3_ := Aside0.mk (KeepBut.trans (by repeat (first | (with_reducible first | exact HK.out | apply KeepBut.set_ | apply keep_drewN | apply keep_drew | apply keep_alloc) | exact HK.out)) (KeepBut.of_grown hg g) (Kd.R_base2 HO_3.out)); have n4_ := Aside0.mk (ho); clear HO_4; clear HI0; clear HB; clear HK; clear HO_3; have HO_4 := n0_; have HI0 := n1_; have HB := n2_; have HK := n3_; have HO655 := n4_; clear n0_ n1_ n2_ n3_ n4_; clear ho hb hg hat))
       go_roundg k1
       case measure => have := HK1.out; omega
       case rel => exact ⟨(y653), (wrap64 (x5_1 + 1)), (t651), (t652), (by first | rfl | (simp; done) | (simp [*]; done)), H', ⟨by have := HK1.out; omega⟩, ⟨kr_ HO655.out⟩, ⟨kr_ HO_4.out⟩, ⟨by repeat (first | (with_reducible first | exact HI0.out | apply IsS93.alloc | apply IsS93.drewN | apply IsS93.drew | apply IsS93.set_1 | apply IsS93.set_2) | exact HI0.out)⟩, ⟨by repeat (first | (with_reducible first | exact HK.out | apply KeepBut.set_ | apply keep_drewN | apply keep_drew | apply keep_alloc) | exact HK.out)⟩, ⟨by repeat (first | (with_reducible first | exact HB.out | apply below_alloc | apply pw_below_drewN | apply below_drew1 | refine below_set ?_ (IsS93.ge HI0.out)) | exact HB.out)⟩⟩
      ·
       rw [if_neg c11] at H
       exact absurd H (by simp)
     ·
      rw [if_neg c9] at H
      exact absurd H (by simp)
    ·
     replace c8 := Bool.eq_false_iff.mpr c8
     subst c8
     have H1 : (spec_l1Cur_caves26.l0 k1 x3_1 y640 (wrap64 (x5_1 + 1)) s0_0 t644 t645) = some (r1, r2, r3) := by rw [if_neg (show ¬ (false = true) by decide)] at H; exact H
     clear H
     have H := H1
     clear H1
     have H' := Aside0.mk H
     clear H
     obtain ⟨Ao16, co16, eo16⟩ := Kd.R_slice HO_4.out
     subst eo16
     go_wp2_with (first | ((with_reducible refine gate_callee (f := 81) rfl ?_); refine ga_ (some 16) Tryd.func81 #[.pointer (some ⟨g, 0, none⟩), .int .i64 2] ?_; (with_reducible refine (spec_l1Cur_one.calls g s0_0 x1001_1 x1002_1 2 false t644 t645 w0 _ ?side1 ?side2 A7.out).mono ?_); (case side1 => repeat (first | (with_reducible first | exact HI0.out | apply IsS93.alloc | apply IsS93.drewN | apply IsS93.drew | apply IsS93.set_1 | apply IsS93.set_2) | exact HI0.out)); (case side2 => repeat (first | (with_reducible first | exact HB.out | apply below_alloc | apply pw_below_drewN | apply below_drew1 | refine below_set ?_ (IsS93.ge HI0.out)) | exact HB.out)); rintro e w17 ⟨rfl, hi, hb, hk⟩; refine ⟨_, rfl, ?_⟩; have n0_ := Aside0.mk (Kd.R_mono (Kd.R_keep (IsS93.apart (show IsS93 w0 _ g s0_0 x1001_1 x1002_1 from by repeat (first | (with_reducible first | exact HI0.out | apply IsS93.alloc | apply IsS93.drewN | apply IsS93.drew | apply IsS93.set_1 | apply IsS93.set_2) | exact HI0.out)) (kr_ HO_3.out) (by decide)) hk (fun _ h => h.2)) (fun _ h => h.1)); have n1_ := Aside0.mk (Kd.R_mono (Kd.R_keep (IsS93.apart (show IsS93 w0 _ g s0_0 x1001_1 x1002_1 from by repeat (first | (with_reducible first | exact HI0.out | apply IsS93.alloc | apply IsS93.drewN | apply IsS93.drew | apply IsS93.set_1 | apply IsS93.set_2) | exact HI0.out)) (kr_ HO_4.out) (by decide)) hk (fun _ h => h.2)) (fun _ h => h.1)); have n2_ := Aside0.mk (KeepBut.trans (by repeat (first | (with_reducible first | exact HK.out | apply KeepBut.set_ | apply keep_drewN | apply keep_drew | apply keep_alloc) | exact HK.out)) hk (.inl rfl)); have n3_ := Aside0.mk (hb); have n4_ := Aside0.mk (hi); clear HO_3; clear HO_4; clear HK; clear HB; clear HI0; have HO_3 := n0_; have HO_4 := n1_; have HK := n2_; have HB := n3_; have HI0 := n4_; clear n0_ n1_ n2_ n3_ n4_; (try clear hb); (try clear hb2); (try clear hk); (try clear hi)))
     go_roundg k1
     case measure => have := HK1.out; omega
     case rel => exact ⟨(x3_1), (wrap64 (x5_1 + 1)), (t644), (t645), (by first | rfl | (simp; done) | (simp [*]; done)), H', ⟨by have := HK1.out; omega⟩, ⟨kr_ HO_3.out⟩, ⟨kr_ HO_4.out⟩, ⟨by repeat (first | (with_reducible first | exact HI0.out | apply IsS93.alloc | apply IsS93.drewN | apply IsS93.drew | apply IsS93.set_1 | apply IsS93.set_2) | exact HI0.out)⟩, ⟨by repeat (first | (with_reducible first | exact HK.out | apply KeepBut.set_ | apply keep_drewN | apply keep_drew | apply keep_alloc) | exact HK.out)⟩, ⟨by repeat (first | (with_reducible first | exact HB.out | apply below_alloc | apply pw_below_drewN | apply below_drew1 | refine below_set ?_ (IsS93.ge HI0.out)) | exact HB.out)⟩⟩
   ·
    rw [if_neg c6] at H
    have c6b0 : decide (x5_1 < (y640.length : Int)) = false := decide_eq_false c6
    clear c6
    replace H := Option.bind_eq_some_iff.mp H
    obtain ⟨⟨t656, t657, t658⟩, A180, H⟩ := H
    replace H : (if t656 = 0 then ((spec_l1Cur_caveRow.f k1 s0_0 t657 t658 (⟨#[98, 108, 117, 102, 102]⟩ : ByteArray)).bind fun bt659 => (if x3_1.length < 3518437208883 then (some ((x3_1 ++ [(⟨bt659.1, bt659.2.1, bt659.2.2.1, bt659.2.2.2.1⟩ : S26)]), bt659.2.2.2.2.1, bt659.2.2.2.2.2)) else (none))) else (if t656 = 1 then (spec_l1Cur_caves26.l1 k1 (([] : List (S26))) 0 s0_0 t657 t658) else (some (x3_1, t657, t658)))) = some (r1, r2, r3) := H
    have A18 := Aside0.mk A180
    clear A180
    by_cases c19 : t656 = 0
    ·
     rw [if_pos c19] at H
     have c19b0 : (t656 == 0) = true := beq_iff_eq.mpr c19
     have c19b1 : (t656 != 0) = false := bne_eq_false_iff_eq.mpr c19
     clear c19
     replace H := Option.bind_eq_some_iff.mp H
     obtain ⟨⟨t659, t660, t661, t662, t663, t664⟩, A200, H⟩ := H
     replace H : (if x3_1.length < 3518437208883 then (some ((x3_1 ++ [(⟨t659, t660, t661, t662⟩ : S26)]), t663, t664)) else (none)) = some (r1, r2, r3) := H
     have A20 := Aside0.mk A200
     clear A200
     by_cases c21 : x3_1.length < 3518437208883
     ·
      rw [if_pos c21] at H
      have LMc21 := Aside0.mk c21
      clear c21
      obtain ⟨y665, hy665⟩ : ∃ y_ : List (S26), y_ = (x3_1 ++ [(⟨t659, t660, t661, t662⟩ : S26)]) := ⟨_, rfl⟩
      replace H : (some (y665, t663, t664)) = some (r1, r2, r3) := by first | (rw [hy665]; with_reducible exact H) | (have H2_ := (Option.bind_some _ _).symm.trans H; rw [hy665]; with_reducible exact H2_) | (have H2_ := (Option.bind_some _ _).symm.trans H; with_reducible exact H2_) | with_reducible exact H | (rw [hy665]; exact H) | exact H
      have Ny665 := Aside0.mk hy665
      clear hy665
      simp only [Option.some.injEq, Prod.mk.injEq] at H
      obtain ⟨rfl, rfl, rfl⟩ := H
      obtain ⟨Ao22, co22, eo22⟩ := Kd.R_slice HO_4.out
      subst eo22
      go_wp2_with (first | ((with_reducible refine gate_callee (f := 82) rfl ?_); refine ga_ (some 27) Tryd.func82 #[.pointer (some ⟨g, 0, none⟩), .int .i64 30] ?_; (with_reducible refine (spec_l1Cur_pick.calls g s0_0 x1001_1 x1002_1 30 t656 t657 t658 w0 _ ?side1 ?side2 A18.out).mono ?_); (case side1 => repeat (first | (with_reducible first | exact HI0.out | apply IsS93.alloc | apply IsS93.drewN | apply IsS93.drew | apply IsS93.set_1 | apply IsS93.set_2) | exact HI0.out)); (case side2 => repeat (first | (with_reducible first | exact HB.out | apply below_alloc | apply pw_below_drewN | apply below_drew1 | refine below_set ?_ (IsS93.ge HI0.out)) | exact HB.out)); rintro e w23 ⟨rfl, hi, hb, hk⟩; refine ⟨_, rfl, ?_⟩; have n0_ := Aside0.mk (Kd.R_mono (Kd.R_keep (IsS93.apart (show IsS93 w0 _ g s0_0 x1001_1 x1002_1 from by repeat (first | (with_reducible first | exact HI0.out | apply IsS93.alloc | apply IsS93.drewN | apply IsS93.drew | apply IsS93.set_1 | apply IsS93.set_2) | exact HI0.out)) (kr_ HO_3.out) (by decide)) hk (fun _ h => h.2)) (fun _ h => h.1)); have n1_ := Aside0.mk (Kd.R_mono (Kd.R_keep (IsS93.apart (show IsS93 w0 _ g s0_0 x1001_1 x1002_1 from by repeat (first | (with_reducible first | exact HI0.out | apply IsS93.alloc | apply IsS93.drewN | apply IsS93.drew | apply IsS93.set_1 | apply IsS93.set_2) | exact HI0.out)) (kr_ HO_4.out) (by decide)) hk (fun _ h => h.2)) (fun _ h => h.1)); have n2_ := Aside0.mk (KeepBut.trans (by repeat (first | (with_reducible first | exact HK.out | apply KeepBut.set_ | apply keep_drewN | apply keep_drew | apply keep_alloc) | exact HK.out)) hk (.inl rfl)); have n3_ := Aside0.mk (hb); have n4_ := Aside0.mk (hi); clear HO_3; clear HO_4; clear HK; clear HB; clear HI0; have HO_3 := n0_; have HO_4 := n1_; have HK := n2_; have HB := n3_; have HI0 := n4_; clear n0_ n1_ n2_ n3_ n4_; (try clear hb); (try clear hb2); (try clear hk); (try clear hi)) | ((with_reducible refine gate_callee (f := 99) rfl ?_); refine ga_ (some 32) Tryd.func99 #[.pointer (some ⟨g, 0, none⟩), .string (⟨#[98, 108, 117, 102, 102]⟩ : ByteArray)] ?_; (with_reducible refine (spec_l1Cur_caveRow.calls k1 g s0_0 t657 t658 (⟨#[98, 108, 117, 102, 102]⟩ : ByteArray) t659 t660 t661 t662 t663 t664 w0 _ ?side1 ?side2 A20.out).mono ?_); (case side1 => repeat (first | (with_reducible first | exact HI0.out | apply IsS93.alloc | apply IsS93.drewN | apply IsS93.drew | apply IsS93.set_1 | apply IsS93.set_2) | exact HI0.out)); (case side2 => repeat (first | (with_reducible first | exact HB.out | apply below_alloc | apply pw_below_drewN | apply below_drew1 | refine below_set ?_ (IsS93.ge HI0.out)) | exact HB.out)); rintro e w24 ⟨rfl, hi, hb, hk⟩; refine ⟨_, rfl, ?_⟩; have n0_ := Aside0.mk (Kd.R_mono (Kd.R_keep (IsS93.apart (show IsS93 w0 _ g s0_0 t657 t658 from by repeat (first | (with_reducible first | exact HI0.out | apply IsS93.alloc | apply IsS93.drewN | apply IsS93.drew | apply IsS93.set_1 | apply IsS93.set_2) | exact HI0.out)) (kr_ HO_3.out) (by decide)) hk (fun _ h => h.2)) (fun _ h => h.1)); have n1_ := Aside0.mk (Kd.R_mono (Kd.R_keep (IsS93.apart (show IsS93 w0 _ g s0_0 t657 t658 from by repeat (first | (with_reducible first | exact HI0.out | apply IsS93.alloc | apply IsS93.drewN | apply IsS93.drew | apply IsS93.set_1 | apply IsS93.set_2) | exact HI0.out)) (kr_ HO_4.out) (by decide)) hk (fun _ h => h.2)) (fun _ h => h.1)); have n2_ := Aside0.mk (KeepBut.trans (by repeat (first | (with_reducible first | exact HK.out | apply KeepBut.set_ | apply keep_drewN | apply keep_drew | apply keep_alloc) | exact HK.out)) hk (.inl rfl)); have n3_ := Aside0.mk (hb); have n4_ := Aside0.mk (hi); clear HO_3; clear HO_4; clear HK; clear HB; clear HI0; have HO_3 := n0_; have HO_4 := n1_; have HK := n2_; have HB := n3_; have HI0 := n4_; clear n0_ n1_ n2_ n3_ n4_; (try clear hb); (try clear hb2); (try clear hk); (try clear hi)) | ((with_reducible refine gate_builtin (b := .append) (xs := #[.tmp 30, .tmp 33]) rfl ?_); at_builtin; refine Kd.R_append k26 w.heap.size rfl (.tmp 30) (.tmp 33) 32 26 (.agg #[(.string ⟨#[]⟩), (.int .i64 0), (.int .i64 0), (.int .i64 0)]) 40 rfl Tryd.underlying32 info26 rfl (by decide) (by omega) u3 x3_1 (⟨t659, t660, t661, t662⟩ : S26) [.string t659, .int .i64 t660, .int .i64 t661, .int .i64 t662] (fun _ => True) (fun _ => False) rfl rfl ?aP (fun _ hk => hk.elim) ?aF ?aO (Below.refl _ _) ?aS ?aL ?_; (case aP => exact k26_mkM _ _ _ (⟨t659, t660, t661, t662⟩ : S26)); (case aF => exact (fun _ _ => trivial)); (case aO => exact (kr_ HO_3.out)); (case aS => exact (keep_size (w := w) (g := g) (row := none) (by repeat (first | (with_reducible first | exact HK.out | apply KeepBut.set_ | apply keep_drewN | apply keep_drew | apply keep_alloc) | exact HK.out)))); (case aL => have := LMc21.out; omega); intro v666 w25 ho hb hg hat; rw [← Ny665.out] at ho; have n0_ := Aside0.mk (Kd.R_over' (kr_ HO_4.out) (Kd.R_typed (kr_ HO_3.out)) (by decide) hg); have n1_ := Aside0.mk (IsS93.grown (by repeat (first | (with_reducible first | exact HI0.out | apply IsS93.alloc | apply IsS93.drewN | apply IsS93.drew | apply IsS93.set_1 | apply IsS93.set_2) | exact HI0.out)) hg (IsS93.own_ne HI0.out HO_3.out (by decide))); have n2_ := Aside0.mk (below_weaken (by repeat (first | (with_reducible first | exact HB.out | apply below_alloc | apply pw_below_drewN | apply below_drew1 | refine below_set ?_ (IsS93.ge HI0.out)) | exact HB.out)) HL.out hb); have n3_ := Aside0.mk (KeepBut.trans (by repeat (first | (with_reducible first | exact HK.out | apply KeepBut.set_ | apply keep_drewN | apply keep_drew | apply keep_alloc) | exact HK.out)) (KeepBut.of_grown hg g) (Kd.R_base2 HO_3.out)); have n4_ := Aside0.mk (ho); clear HO_4; clear HI0; clear HB; clear HK; clear HO_3; have HO_4 := n0_; have HI0 := n1_; have HB := n2_; have HK := n3_; have HO667 := n4_; clear n0_ n1_ n2_ n3_ n4_; clear ho hb hg hat))
      go_ret
      exact ⟨_, rr_, kr_ HO667.out, by repeat (first | (with_reducible first | exact HI0.out | apply IsS93.alloc | apply IsS93.drewN | apply IsS93.drew | apply IsS93.set_1 | apply IsS93.set_2) | exact HI0.out), by repeat (first | (with_reducible first | exact HB.out | apply below_alloc | apply pw_below_drewN | apply below_drew1 | refine below_set ?_ (IsS93.ge HI0.out)) | exact HB.out), by repeat (first | (with_reducible first | exact HK.out | apply KeepBut.set_ | apply keep_drewN | apply keep_drew | apply keep_alloc) | exact HK.out)⟩
     ·
      rw [if_neg c21] at H
      exact absurd H (by simp)
    ·
     rw [if_neg c19] at H
     have c19b0 : (t656 == 0) = false := beq_eq_false_iff_ne.mpr c19
     have c19b1 : (t656 != 0) = true := bne_iff_ne.mpr c19
     by_cases c26 : t656 = 1
     ·
      rw [if_pos c26] at H
      have c26b0 : (t656 == 1) = true := beq_iff_eq.mpr c26
      have c26b1 : (t656 != 1) = false := bne_eq_false_iff_eq.mpr c26
      clear c26
      obtain ⟨y668, hy668⟩ : ∃ y_ : List (S26), y_ = (([] : List (S26))) := ⟨_, rfl⟩
      replace H : (spec_l1Cur_caves26.l1 k1 y668 0 s0_0 t657 t658) = some (r1, r2, r3) := by first | (rw [hy668]; with_reducible exact H) | (have H2_ := (Option.bind_some _ _).symm.trans H; rw [hy668]; with_reducible exact H2_) | (have H2_ := (Option.bind_some _ _).symm.trans H; with_reducible exact H2_) | with_reducible exact H | (rw [hy668]; exact H) | exact H
      have Ny668 := Aside0.mk hy668
      clear hy668
      have H' := Aside0.mk H
      clear H
      obtain ⟨Ao27, co27, eo27⟩ := Kd.R_slice HO_4.out
      subst eo27
      go_wp2_with (first | ((with_reducible refine gate_callee (f := 82) rfl ?_); refine ga_ (some 27) Tryd.func82 #[.pointer (some ⟨g, 0, none⟩), .int .i64 30] ?_; (with_reducible refine (spec_l1Cur_pick.calls g s0_0 x1001_1 x1002_1 30 t656 t657 t658 w0 _ ?side1 ?side2 A18.out).mono ?_); (case side1 => repeat (first | (with_reducible first | exact HI0.out | apply IsS93.alloc | apply IsS93.drewN | apply IsS93.drew | apply IsS93.set_1 | apply IsS93.set_2) | exact HI0.out)); (case side2 => repeat (first | (with_reducible first | exact HB.out | apply below_alloc | apply pw_below_drewN | apply below_drew1 | refine below_set ?_ (IsS93.ge HI0.out)) | exact HB.out)); rintro e w28 ⟨rfl, hi, hb, hk⟩; refine ⟨_, rfl, ?_⟩; have n0_ := Aside0.mk (Kd.R_mono (Kd.R_keep (IsS93.apart (show IsS93 w0 _ g s0_0 x1001_1 x1002_1 from by repeat (first | (with_reducible first | exact HI0.out | apply IsS93.alloc | apply IsS93.drewN | apply IsS93.drew | apply IsS93.set_1 | apply IsS93.set_2) | exact HI0.out)) (kr_ HO_3.out) (by decide)) hk (fun _ h => h.2)) (fun _ h => h.1)); have n1_ := Aside0.mk (Kd.R_mono (Kd.R_keep (IsS93.apart (show IsS93 w0 _ g s0_0 x1001_1 x1002_1 from by repeat (first | (with_reducible first | exact HI0.out | apply IsS93.alloc | apply IsS93.drewN | apply IsS93.drew | apply IsS93.set_1 | apply IsS93.set_2) | exact HI0.out)) (kr_ HO_4.out) (by decide)) hk (fun _ h => h.2)) (fun _ h => h.1)); have n2_ := Aside0.mk (KeepBut.trans (by repeat (first | (with_reducible first | exact HK.out | apply KeepBut.set_ | apply keep_drewN | apply keep_drew | apply keep_alloc) | exact HK.out)) hk (.inl rfl)); have n3_ := Aside0.mk (hb); have n4_ := Aside0.mk (hi); clear HO_3; clear HO_4; clear HK; clear HB; clear HI0; have HO_3 := n0_; have HO_4 := n1_; have HK := n2_; have HB := n3_; have HI0 := n4_; clear n0_ n1_ n2_ n3_ n4_; (try clear hb); (try clear hb2); (try clear hk); (try clear hi)) | ((with_reducible refine gate_dst (N := 37) rfl ?_); refine Kd.R_lit k26 _ 26 ?hg (N := 37) ?hd (xs := ([] : List (S26))) (inner := []) (ok := fun _ => True) (okp := fun _ => True) ?hr ?hp (fun _ hk => hk) trivial (Below.refl _ _) (Nat.le_refl _) (by simp) ?_; (case hd => rfl); (case hg => rfl); (case hr => first | (go_simp; done) | (go_simp; rfl)); (case hp => exact (Reps.none _ _)); intro v669 w29 ho30 hb hg_ hnew_; clear hg_ hnew_; (first | rw [← Ny668.out] at ho30 | (simp only [Int.reduceToNat] at ho30; rw [← Ny668.out] at ho30)); have n0_ := Aside0.mk (Kd.R_elder' (kr_ HO_3.out) (Kd.R_base ho30) hb); have n1_ := Aside0.mk (Kd.R_below (kr_ HO_4.out) hb); have n2_ := Aside0.mk (Kd.R_lower (Kd.R_new' ho30 (Kd.R_lt (kr_ HO_3.out))) (keep_size (w := w) (g := g) (row := none) (by repeat (first | (with_reducible first | exact HK.out | apply KeepBut.set_ | apply keep_drewN | apply keep_drew | apply keep_alloc) | exact HK.out)))); have n3_ := Aside0.mk (IsS93.below (by repeat (first | (with_reducible first | exact HI0.out | apply IsS93.alloc | apply IsS93.drewN | apply IsS93.drew | apply IsS93.set_1 | apply IsS93.set_2) | exact HI0.out)) hb); have n4_ := Aside0.mk (KeepBut.trans (by repeat (first | (with_reducible first | exact HK.out | apply KeepBut.set_ | apply keep_drewN | apply keep_drew | apply keep_alloc) | exact HK.out)) (KeepBut.of_below hb g none) (.inl rfl)); have n5_ := Aside0.mk (below_step (by repeat (first | (with_reducible first | exact HB.out | apply below_alloc | apply pw_below_drewN | apply below_drew1 | refine below_set ?_ (IsS93.ge HI0.out)) | exact HB.out)) hb); clear HO_3; clear HO_4; clear HI0; clear HK; clear HB; have HO_3 := n0_; have HO_4 := n1_; have HO670 := n2_; have HI0 := n3_; have HK := n4_; have HB := n5_; clear n0_ n1_ n2_ n3_ n4_ n5_; clear hb ho30))
      go_loopg [3, 6] k1 (fun kq v3 v6 w' => ∃ (x3_2 : List (S26)) (x6_2 : Int) (x1001_2 : Int) (x1002_2 : Int), v6 = .int .i64 x6_2 ∧ Aside0 (spec_l1Cur_caves26.l1 kq x3_2 x6_2 s0_0 x1001_2 x1002_2 = some (r1, r2, r3)) ∧ Aside0 (kq ≤ k1) ∧ Aside0 (Kd.R k26 26 w' w.heap.size (fun _ => True) v3 x3_2) ∧ Aside0 (IsS93 w0 w' g s0_0 x1001_2 x1002_2) ∧ Aside0 (KeepBut w w' g none) ∧ Aside0 (Below w0.heap.size w0 w'))
      case atStart => exact ⟨(y668), (0), (t657), (t658), (by first | rfl | (simp; done) | (simp [*]; done)), H', ⟨Nat.le_refl _⟩, ⟨by (with_reducible repeat (first | apply Kd.R_alloc | apply Kd.R_drewN | apply Kd.R_drew)); exact Kd.R_mono HO670.out (fun _ hk => trivial)⟩, ⟨by repeat (first | (with_reducible first | exact HI0.out | apply IsS93.alloc | apply IsS93.drewN | apply IsS93.drew | apply IsS93.set_1 | apply IsS93.set_2) | exact HI0.out)⟩, ⟨by repeat (first | (with_reducible first | exact HK.out | apply KeepBut.set_ | apply keep_drewN | apply keep_drew | apply keep_alloc) | exact HK.out)⟩, ⟨by repeat (first | (with_reducible first | exact HB.out | apply below_alloc | apply pw_below_drewN | apply below_drew1 | refine below_set ?_ (IsS93.ge HI0.out)) | exact HB.out)⟩⟩
      case round =>
       clear H'
       try clear c1
       try clear c2
       try clear p2
       try clear c6
       try clear c6b0
       try clear p6
       try clear q6
       try clear hx6
       try clear c8
       try clear c9
       try clear c9b0
       try clear c11
       try clear c19
       try clear c19b0
       try clear c19b1
       try clear c21
       try clear c26
       try clear c26b0
       try clear c26b1
       try clear hx646_0
       try clear p2
       try clear p646
       try clear q646
       obtain ⟨x3_2, x6_2, x1001_2, x1002_2, rfl, HA, HK2, HO_3, HI0, HK, HB⟩ := hrel
       cases gk with
       | zero => exact absurd HA.out (by simp [spec_l1Cur_caves26.l1])
       | succ k2 =>
        have H := HA.out
        clear HA
        simp only [spec_l1Cur_caves26.l1] at H
        replace H := Option.bind_eq_some_iff.mp H
        obtain ⟨⟨t671, t672, t673⟩, A310, H⟩ := H
        replace H : (if x6_2 < (wrap64 (10 + t671)) then (if x3_2.length < 3518437208883 then (spec_l1Cur_caves26.l1 k2 (x3_2 ++ [(⟨strOfNums (([(wrap64 (97 + x6_2)) % 256] : List Int)), 0, 0, 0⟩ : S26)]) (wrap64 (x6_2 + 1)) s0_0 t672 t673) else (none)) else (some (x3_2, t672, t673))) = some (r1, r2, r3) := H
        have A31 := Aside0.mk A310
        clear A310
        by_cases c32 : x6_2 < (wrap64 (10 + t671))
        ·
         rw [if_pos c32] at H
         have c32b0 : decide (x6_2 < (wrap64 (10 + t671))) = true := decide_eq_true c32
         clear c32
         obtain ⟨y674, hy674⟩ : ∃ y_ : List Int, y_ = (([(wrap64 (97 + x6_2)) % 256] : List Int)) := ⟨_, rfl⟩
         replace H : (if x3_2.length < 3518437208883 then (spec_l1Cur_caves26.l1 k2 (x3_2 ++ [(⟨strOfNums y674, 0, 0, 0⟩ : S26)]) (wrap64 (x6_2 + 1)) s0_0 t672 t673) else (none)) = some (r1, r2, r3) := by first | (rw [hy674]; with_reducible exact H) | (have H2_ := (Option.bind_some _ _).symm.trans H; rw [hy674]; with_reducible exact H2_) | (have H2_ := (Option.bind_some _ _).symm.trans H; with_reducible exact H2_) | with_reducible exact H | (rw [hy674]; exact H) | exact H
         have Ny674 := Aside0.mk hy674
         clear hy674
         by_cases c33 : x3_2.length < 3518437208883
         ·
          rw [if_pos c33] at H
          have LMc33 := Aside0.mk c33
          clear c33
          obtain ⟨y677, hy677⟩ : ∃ y_ : List (S26), y_ = (x3_2 ++ [(⟨strOfNums y674, 0, 0, 0⟩ : S26)]) := ⟨_, rfl⟩
          replace H : (spec_l1Cur_caves26.l1 k2 y677 (wrap64 (x6_2 + 1)) s0_0 t672 t673) = some (r1, r2, r3) := by first | (rw [hy677]; with_reducible exact H) | (have H2_ := (Option.bind_some _ _).symm.trans H; rw [hy677]; with_reducible exact H2_) | (have H2_ := (Option.bind_some _ _).symm.trans H; with_reducible exact H2_) | with_reducible exact H | (rw [hy677]; exact H) | exact H
          have Ny677 := Aside0.mk hy677
          clear hy677
          have H' := Aside0.mk H
          clear H
          go_wp2_with (first | ((with_reducible refine gate_callee (f := 82) rfl ?_); refine ga_ (some 40) Tryd.func82 #[.pointer (some ⟨g, 0, none⟩), .int .i64 2] ?_; (with_reducible refine (spec_l1Cur_pick.calls g s0_0 x1001_2 x1002_2 2 t671 t672 t673 w0 _ ?side1 ?side2 A31.out).mono ?_); (case side1 => repeat (first | (with_reducible first | exact HI0.out | apply IsS93.alloc | apply IsS93.drewN | apply IsS93.drew | apply IsS93.set_1 | apply IsS93.set_2) | exact HI0.out)); (case side2 => repeat (first | (with_reducible first | exact HB.out | apply below_alloc | apply pw_below_drewN | apply below_drew1 | refine below_set ?_ (IsS93.ge HI0.out)) | exact HB.out)); rintro e w34 ⟨rfl, hi, hb, hk⟩; refine ⟨_, rfl, ?_⟩; have n0_ := Aside0.mk (Kd.R_mono (Kd.R_keep (IsS93.apart (show IsS93 w0 _ g s0_0 x1001_2 x1002_2 from by repeat (first | (with_reducible first | exact HI0.out | apply IsS93.alloc | apply IsS93.drewN | apply IsS93.drew | apply IsS93.set_1 | apply IsS93.set_2) | exact HI0.out)) (kr_ HO_3.out) (by decide)) hk (fun _ h => h.2)) (fun _ h => h.1)); have n1_ := Aside0.mk (KeepBut.trans (by repeat (first | (with_reducible first | exact HK.out | apply KeepBut.set_ | apply keep_drewN | apply keep_drew | apply keep_alloc) | exact HK.out)) hk (.inl rfl)); have n2_ := Aside0.mk (hb); have n3_ := Aside0.mk (hi); clear HO_3; clear HK; clear HB; clear HI0; have HO_3 := n0_; have HK := n1_; have HB := n2_; have HI0 := n3_; clear n0_ n1_ n2_ n3_; (try clear hb); (try clear hb2); (try clear hk); (try clear hi)) | ((with_reducible refine gate_dst (N := 49) rfl ?_); refine Kd.R_lit (Kd.int .u8) _ 5 ?hg (N := 49) ?hd (xs := ([(wrap64 (97 + x6_2)) % 256] : List Int)) (inner := [.int .u8 ((wrap64 (97 + x6_2)) % 256)]) (ok := fun _ => True) (okp := fun _ => True) ?hr ?hp (fun _ hk => hk) trivial (Below.refl _ _) (Nat.le_refl _) (by simp) ?_; (case hd => rfl); (case hg => rfl); (case hr => first | (go_simp; done) | (go_simp; rfl)); (case hp => exact (Reps.one (show Kd.M (Kd.int .u8) _ _ _ ((wrap64 (97 + x6_2)) % 256) [.int .u8 ((wrap64 (97 + x6_2)) % 256)] from rfl) (Reps.none _ _))); intro v675 w35 ho36 hb hg_ hnew_; clear hg_ hnew_; (first | rw [← Ny674.out] at ho36 | (simp only [Int.reduceToNat] at ho36; rw [← Ny674.out] at ho36)); have n0_ := Aside0.mk (Kd.R_below (kr_ HO_3.out) hb); have n1_ := Aside0.mk (Kd.R_lower ho36 (keep_size (w := w) (g := g) (row := none) (by repeat (first | (with_reducible first | exact HK.out | apply KeepBut.set_ | apply keep_drewN | apply keep_drew | apply keep_alloc) | exact HK.out)))); have n2_ := Aside0.mk (IsS93.below (by repeat (first | (with_reducible first | exact HI0.out | apply IsS93.alloc | apply IsS93.drewN | apply IsS93.drew | apply IsS93.set_1 | apply IsS93.set_2) | exact HI0.out)) hb); have n3_ := Aside0.mk (KeepBut.trans (by repeat (first | (with_reducible first | exact HK.out | apply KeepBut.set_ | apply keep_drewN | apply keep_drew | apply keep_alloc) | exact HK.out)) (KeepBut.of_below hb g none) (.inl rfl)); have n4_ := Aside0.mk (below_step (by repeat (first | (with_reducible first | exact HB.out | apply below_alloc | apply pw_below_drewN | apply below_drew1 | refine below_set ?_ (IsS93.ge HI0.out)) | exact HB.out)) hb); clear HO_3; clear HI0; clear HK; clear HB; have HO_3 := n0_; have HO676 := n1_; have HI0 := n2_; have HK := n3_; have HB := n4_; clear n0_ n1_ n2_ n3_ n4_; clear hb ho36; have hcv37 := own_string (P := Tryd.prog) Tryd.underlying54 Tryd.underlying5 Tryd.underlying9 (Kd.own_of_R HO676.out)) | ((with_reducible refine gate_builtin (b := .append) (xs := #[.tmp 45, .tmp 52]) rfl ?_); at_builtin; refine Kd.R_append k26 w.heap.size rfl (.tmp 45) (.tmp 52) 32 26 (.agg #[(.string ⟨#[]⟩), (.int .i64 0), (.int .i64 0), (.int .i64 0)]) 40 rfl Tryd.underlying32 info26 rfl (by decide) (by omega) u3 x3_2 (⟨strOfNums y674, 0, 0, 0⟩ : S26) [.string (strOfNums y674), .int .i64 0, .int .i64 0, .int .i64 0] (fun _ => True) (fun _ => False) rfl rfl ?aP (fun _ hk => hk.elim) ?aF ?aO (Below.refl _ _) ?aS ?aL ?_; (case aP => exact k26_mkM _ _ _ (⟨strOfNums y674, 0, 0, 0⟩ : S26)); (case aF => exact (fun _ _ => trivial)); (case aO => exact (kr_ HO_3.out)); (case aS => exact (keep_size (w := w) (g := g) (row := none) (by repeat (first | (with_reducible first | exact HK.out | apply KeepBut.set_ | apply keep_drewN | apply keep_drew | apply keep_alloc) | exact HK.out)))); (case aL => have := LMc33.out; omega); intro v678 w38 ho hb hg hat; rw [← Ny677.out] at ho; have n0_ := Aside0.mk (IsS93.grown (by repeat (first | (with_reducible first | exact HI0.out | apply IsS93.alloc | apply IsS93.drewN | apply IsS93.drew | apply IsS93.set_1 | apply IsS93.set_2) | exact HI0.out)) hg (IsS93.own_ne HI0.out HO_3.out (by decide))); have n1_ := Aside0.mk (Kd.R_over' (kr_ HO676.out) (Kd.R_typed (kr_ HO_3.out)) (by decide) hg); have n2_ := Aside0.mk (below_weaken (by repeat (first | (with_reducible first | exact HB.out | apply below_alloc | apply pw_below_drewN | apply below_drew1 | refine below_set ?_ (IsS93.ge HI0.out)) | exact HB.out)) HL.out hb); have n3_ := Aside0.mk (KeepBut.trans (by repeat (first | (with_reducible first | exact HK.out | apply KeepBut.set_ | apply keep_drewN | apply keep_drew | apply keep_alloc) | exact HK.out)) (KeepBut.of_grown hg g) (Kd.R_base2 HO_3.out)); have n4_ := Aside0.mk (ho); clear HI0; clear HO676; clear HB; clear HK; clear HO_3; have HI0 := n0_; have HO676 := n1_; have HB := n2_; have HK := n3_; have HO679 := n4_; clear n0_ n1_ n2_ n3_ n4_; clear ho hb hg hat))
          go_roundg k2
          case measure => have := HK1.out; have := HK2.out; omega
          case rel => exact ⟨(y677), (wrap64 (x6_2 + 1)), (t672), (t673), (by first | rfl | (simp; done) | (simp [*]; done)), H', ⟨by have := HK1.out; have := HK2.out; omega⟩, ⟨kr_ HO679.out⟩, ⟨by repeat (first | (with_reducible first | exact HI0.out | apply IsS93.alloc | apply IsS93.drewN | apply IsS93.drew | apply IsS93.set_1 | apply IsS93.set_2) | exact HI0.out)⟩, ⟨by repeat (first | (with_reducible first | exact HK.out | apply KeepBut.set_ | apply keep_drewN | apply keep_drew | apply keep_alloc) | exact HK.out)⟩, ⟨by repeat (first | (with_reducible first | exact HB.out | apply below_alloc | apply pw_below_drewN | apply below_drew1 | refine below_set ?_ (IsS93.ge HI0.out)) | exact HB.out)⟩⟩
         ·
          rw [if_neg c33] at H
          exact absurd H (by simp)
        ·
         rw [if_neg c32] at H
         have c32b0 : decide (x6_2 < (wrap64 (10 + t671))) = false := decide_eq_false c32
         clear c32
         simp only [Option.some.injEq, Prod.mk.injEq] at H
         obtain ⟨rfl, rfl, rfl⟩ := H
         go_wp2_with (first | ((with_reducible refine gate_callee (f := 82) rfl ?_); refine ga_ (some 40) Tryd.func82 #[.pointer (some ⟨g, 0, none⟩), .int .i64 2] ?_; (with_reducible refine (spec_l1Cur_pick.calls g s0_0 x1001_2 x1002_2 2 t671 t672 t673 w0 _ ?side1 ?side2 A31.out).mono ?_); (case side1 => repeat (first | (with_reducible first | exact HI0.out | apply IsS93.alloc | apply IsS93.drewN | apply IsS93.drew | apply IsS93.set_1 | apply IsS93.set_2) | exact HI0.out)); (case side2 => repeat (first | (with_reducible first | exact HB.out | apply below_alloc | apply pw_below_drewN | apply below_drew1 | refine below_set ?_ (IsS93.ge HI0.out)) | exact HB.out)); rintro e w39 ⟨rfl, hi, hb, hk⟩; refine ⟨_, rfl, ?_⟩; have n0_ := Aside0.mk (Kd.R_mono (Kd.R_keep (IsS93.apart (show IsS93 w0 _ g s0_0 x1001_2 x1002_2 from by repeat (first | (with_reducible first | exact HI0.out | apply IsS93.alloc | apply IsS93.drewN | apply IsS93.drew | apply IsS93.set_1 | apply IsS93.set_2) | exact HI0.out)) (kr_ HO_3.out) (by decide)) hk (fun _ h => h.2)) (fun _ h => h.1)); have n1_ := Aside0.mk (KeepBut.trans (by repeat (first | (with_reducible first | exact HK.out | apply KeepBut.set_ | apply keep_drewN | apply keep_drew | apply keep_alloc) | exact HK.out)) hk (.inl rfl)); have n2_ := Aside0.mk (hb); have n3_ := Aside0.mk (hi); clear HO_3; clear HK; clear HB; clear HI0; have HO_3 := n0_; have HK := n1_; have HB := n2_; have HI0 := n3_; clear n0_ n1_ n2_ n3_; (try clear hb); (try clear hb2); (try clear hk); (try clear hi)))
         go_ret
         exact ⟨_, rr_, kr_ HO_3.out, by repeat (first | (with_reducible first | exact HI0.out | apply IsS93.alloc | apply IsS93.drewN | apply IsS93.drew | apply IsS93.set_1 | apply IsS93.set_2) | exact HI0.out), by repeat (first | (with_reducible first | exact HB.out | apply below_alloc | apply pw_below_drewN | apply below_drew1 | refine below_set ?_ (IsS93.ge HI0.out)) | exact HB.out), by repeat (first | (with_reducible first | exact HK.out | apply KeepBut.set_ | apply keep_drewN | apply keep_drew | apply keep_alloc) | exact HK.out)⟩
     ·
      rw [if_neg c26] at H
      have c26b0 : (t656 == 1) = false := beq_eq_false_iff_ne.mpr c26
      have c26b1 : (t656 != 1) = true := bne_iff_ne.mpr c26
      simp only [Option.some.injEq, Prod.mk.injEq] at H
      obtain ⟨rfl, rfl, rfl⟩ := H
      obtain ⟨Ao40, co40, eo40⟩ := Kd.R_slice HO_4.out
      subst eo40
      go_wp2_with (first | ((with_reducible refine gate_callee (f := 82) rfl ?_); refine ga_ (some 27) Tryd.func82 #[.pointer (some ⟨g, 0, none⟩), .int .i64 30] ?_; (with_reducible refine (spec_l1Cur_pick.calls g s0_0 x1001_1 x1002_1 30 t656 t657 t658 w0 _ ?side1 ?side2 A18.out).mono ?_); (case side1 => repeat (first | (with_reducible first | exact HI0.out | apply IsS93.alloc | apply IsS93.drewN | apply IsS93.drew | apply IsS93.set_1 | apply IsS93.set_2) | exact HI0.out)); (case side2 => repeat (first | (with_reducible first | exact HB.out | apply below_alloc | apply pw_below_drewN | apply below_drew1 | refine below_set ?_ (IsS93.ge HI0.out)) | exact HB.out)); rintro e w41 ⟨rfl, hi, hb, hk⟩; refine ⟨_, rfl, ?_⟩; have n0_ := Aside0.mk (Kd.R_mono (Kd.R_keep (IsS93.apart (show IsS93 w0 _ g s0_0 x1001_1 x1002_1 from by repeat (first | (with_reducible first | exact HI0.out | apply IsS93.alloc | apply IsS93.drewN | apply IsS93.drew | apply IsS93.set_1 | apply IsS93.set_2) | exact HI0.out)) (kr_ HO_3.out) (by decide)) hk (fun _ h => h.2)) (fun _ h => h.1)); have n1_ := Aside0.mk (Kd.R_mono (Kd.R_keep (IsS93.apart (show IsS93 w0 _ g s0_0 x1001_1 x1002_1 from by repeat (first | (with_reducible first | exact HI0.out | apply IsS93.alloc | apply IsS93.drewN | apply IsS93.drew | apply IsS93.set_1 | apply IsS93.set_2) | exact HI0.out)) (kr_ HO_4.out) (by decide)) hk (fun _ h => h.2)) (fun _ h => h.1)); have n2_ := Aside0.mk (KeepBut.trans (by repeat (first | (with_reducible first | exact HK.out | apply KeepBut.set_ | apply keep_drewN | apply keep_drew | apply keep_alloc) | exact HK.out)) hk (.inl rfl)); have n3_ := Aside0.mk (hb); have n4_ := Aside0.mk (hi); clear HO_3; clear HO_4; clear HK; clear HB; clear HI0; have HO_3 := n0_; have HO_4 := n1_; have HK := n2_; have HB := n3_; have HI0 := n4_; clear n0_ n1_ n2_ n3_ n4_; (try clear hb); (try clear hb2); (try clear hk); (try clear hi)))
      go_ret
      exact ⟨_, rr_, kr_ HO_3.out, by repeat (first | (with_reducible first | exact HI0.out | apply IsS93.alloc | apply IsS93.drewN | apply IsS93.drew | apply IsS93.set_1 | apply IsS93.set_2) | exact HI0.out), by repeat (first | (with_reducible first | exact HB.out | apply below_alloc | apply pw_below_drewN | apply below_drew1 | refine below_set ?_ (IsS93.ge HI0.out)) | exact HB.out), by repeat (first | (with_reducible first | exact HK.out | apply KeepBut.set_ | apply keep_drewN | apply keep_drew | apply keep_alloc) | exact HK.out)⟩
end Go.Proofs.YteepnlofbfccgaaDoor.Pr

