/-
What is proved: parts of the law FnExactAppendRecord: what the functions that it reaches compute, and the plain law.
Conditions: those of each theorem.
-/
import Derived.Lib.Bytealg
import Derived.Lib.ItoaNum
import Derived.Test.YtdpinnhgkocjhaaDoorCFnExactAppendRecord4
namespace Go.Proofs.YtdpinnhgkocjhaaDoor.Pr
open Go.RowKit Go.Proofs.YtdpinnhgkocjhaaDoorW.PrintWords Go.Proofs.YtdpinnhgkocjhaaDoorW.PrintLast Go.Proofs.YtdpinnhgkocjhaaDoorW.PrintMore
attribute [local go_sem] max2_int min2_int max_two min_two max_three min_three max_four min_four sc_in sx_in   -- for this text's walks alone
set_option linter.unusedVariables false
set_option linter.unusedSimpArgs false

/-! ### impl_SyncLog: function 27 -/
def impl_SyncLog.f (k : Nat) (a0_0 : ByteArray) (a0_1 : ByteArray) (a0_2 : Int) : Option (ByteArray × ByteArray × Int × Bool) := (impl_IsValidLog.f k a0_0 a0_1 a0_2).bind fun t328 => (if t328 = true then (if a0_0.size + a0_1.size ≤ 9223372036854775807 then (some (sc a0_0 a0_1, (⟨#[]⟩ : ByteArray), a0_2, true)) else (none)) else (some ((⟨#[]⟩ : ByteArray), (⟨#[]⟩ : ByteArray), 0, false)))
theorem impl_SyncLog.mono : ∀ a0 a1 a2 k, LeO (impl_SyncLog.f k a0 a1 a2) (impl_SyncLog.f (k + 1) a0 a1 a2) := by
  intro a0 a1 a2 k
  unfold impl_SyncLog.f
  repeat' first
      | (with_reducible exact impl_IsValidLog.mono _ _ _ _)
      | (with_reducible exact LeO.refl _)
      | (with_reducible exact LeO.none _)
      | (with_reducible refine LeO.ite ?_ ?_)
      | (with_reducible refine LeO.bind ?_ (fun _ => ?_))
      | exact impl_IsValidLog.mono _ _ _ _
      | exact LeO.none _
      | refine LeO.ite ?_ ?_
      | refine LeO.bind ?_ (fun _ => ?_)
set_option maxHeartbeats 8000000 in
set_option maxRecDepth 100000 in
theorem impl_SyncLog.calls (k : Nat) (a0_0 : ByteArray) (a0_1 : ByteArray) (a0_2 : Int) (r1 : ByteArray) (r2 : ByteArray) (r3 : Int) (r4 : Bool) (w : World) (h : impl_SyncLog.f k a0_0 a0_1 a0_2 = some (r1, r2, r3, r4)) (hT : Tb w) :
    Calls Tryd.prog 27 #[.agg #[.string a0_0, .string a0_1, .int .i64 a0_2]] w fun e w' => e = .returned (.tuple #[.agg #[.string r1, .string r2, .int .i64 r3], .bool r4]) ∧ Below w.heap.size w w' := by
  have HT := Aside0.mk hT
  clear hT
  have hu31 := Tryd.underlying31
  have HB := Aside0.mk (Below.refl w.heap.size w)
  have H : ((impl_IsValidLog.f k a0_0 a0_1 a0_2).bind fun t328 => (if t328 = true then (if a0_0.size + a0_1.size ≤ 9223372036854775807 then (some (sc a0_0 a0_1, (⟨#[]⟩ : ByteArray), a0_2, true)) else (none)) else (some ((⟨#[]⟩ : ByteArray), (⟨#[]⟩ : ByteArray), 0, false)))) = some (r1, r2, r3, r4) := h
  clear h
  replace H := Option.bind_eq_some_iff.mp H
  obtain ⟨t328, A20, H⟩ := H
  replace H : (if t328 = true then (if a0_0.size + a0_1.size ≤ 9223372036854775807 then (some (sc a0_0 a0_1, (⟨#[]⟩ : ByteArray), a0_2, true)) else (none)) else (some ((⟨#[]⟩ : ByteArray), (⟨#[]⟩ : ByteArray), 0, false))) = some (r1, r2, r3, r4) := H
  have A2 := Aside0.mk A20
  clear A20
  by_cases c3 : t328 = true
  · subst c3
    have H1 : (if a0_0.size + a0_1.size ≤ 9223372036854775807 then (some (sc a0_0 a0_1, (⟨#[]⟩ : ByteArray), a0_2, true)) else (none)) = some (r1, r2, r3, r4) := by rw [if_pos rfl] at H; exact H
    clear H
    have H := H1
    clear H1
    by_cases c4 : a0_0.size + a0_1.size ≤ 9223372036854775807
    · rw [if_pos c4] at H
      have c4b0 := eq_true c4
      have c4b1 : decide (a0_0.size + a0_1.size ≤ 9223372036854775807) = true := decide_eq_true c4
      try have c4b2 : (9223372036854775807 < a0_0.size + a0_1.size) = False := eq_false (Nat.not_lt.2 c4)
      simp only [Option.some.injEq, Prod.mk.injEq] at H
      obtain ⟨rfl, rfl, rfl, rfl⟩ := H
      go_enter Tryd.func27, Tryd.ntmps27
      go_wp2_with (first | ((with_reducible refine gate_dst (N := 1) rfl ?_); refine box_event ?hg (N := 1) ?hd (cs := #[.string a0_0, .string a0_1, .int .i64 a0_2]) (t := 31) ?hr ?_; (case hd => rfl); (case hg => rfl); (case hr => first | (go_simp; done) | (go_simp; rfl)); intro gb326 hg w5 hbox hb; have n0_ := Aside0.mk (below_step (by repeat (first | (with_reducible first | exact HB.out | apply below_alloc | apply pw_below_drewN | apply below_drew1) | exact HB.out)) hb); have n1_ := Aside0.mk (hbox); have n2_ := Aside0.mk ((by rw [hg]; exact (below_size (by repeat (first | (with_reducible first | exact HB.out | apply below_alloc | apply pw_below_drewN | apply below_drew1) | exact HB.out))) : w.heap.size ≤ gb326)); have n3_ := Aside0.mk ((by rw [hg]; exact (below_size (by repeat (first | (with_reducible first | exact HB.out | apply below_alloc | apply pw_below_drewN | apply below_drew1) | exact HB.out))) : w.heap.size ≤ gb326)); clear HB; have HB := n0_; have BK326 := n1_; have GW326 := n2_; have GE326 := n3_; clear n0_ n1_ n2_ n3_; clear hb hbox hg) | ((with_reducible refine gate_dst (N := 2) rfl ?_); refine box_event ?hg (N := 2) ?hd (cs := #[.string (⟨#[]⟩ : ByteArray), .string (⟨#[]⟩ : ByteArray), .int .i64 0]) (t := 31) ?hr ?_; (case hd => rfl); (case hg => rfl); (case hr => first | (go_simp; done) | (go_simp; rfl)); intro gb327 hg w6 hbox hb; have n0_ := Aside0.mk (blk_below (g := gb326) (o := .cells #[.string a0_0, .string a0_1, .int .i64 a0_2] 31 (0, 0)) (by (with_reducible repeat (first | refine blk_drewN ?_ _ | refine blk_drew ?_ | refine blk_alloc ?_ _)); exact BK326.out) hb); have n1_ := Aside0.mk (below_step (by repeat (first | (with_reducible first | exact HB.out | apply below_alloc | apply pw_below_drewN | apply below_drew1 | refine below_set ?_ GE326.out) | exact HB.out)) hb); have n2_ := Aside0.mk (hbox); have n3_ := Aside0.mk ((by rw [hg]; exact (below_size (by repeat (first | (with_reducible first | exact HB.out | apply below_alloc | apply pw_below_drewN | apply below_drew1 | refine below_set ?_ GE326.out) | exact HB.out))) : w.heap.size ≤ gb327)); have n4_ := Aside0.mk ((by rw [hg]; exact (below_size (by repeat (first | (with_reducible first | exact HB.out | apply below_alloc | apply pw_below_drewN | apply below_drew1 | refine below_set ?_ GE326.out) | exact HB.out))) : w.heap.size ≤ gb327)); have n5_ := Aside0.mk ((by rw [hg]; exact Nat.ne_of_lt (blk_lt (g := gb326) (o := .cells #[.string a0_0, .string a0_1, .int .i64 a0_2] 31 (0, 0)) (by (with_reducible repeat (first | refine blk_drewN ?_ _ | refine blk_drew ?_ | refine blk_alloc ?_ _)); exact BK326.out)) : gb326 ≠ gb327)); have n6_ := Aside0.mk ((by rw [hg]; exact Nat.ne_of_gt (blk_lt (g := gb326) (o := .cells #[.string a0_0, .string a0_1, .int .i64 a0_2] 31 (0, 0)) (by (with_reducible repeat (first | refine blk_drewN ?_ _ | refine blk_drew ?_ | refine blk_alloc ?_ _)); exact BK326.out)) : gb327 ≠ gb326)); clear BK326; clear HB; have BK326 := n0_; have HB := n1_; have BK327 := n2_; have GW327 := n3_; have GE327 := n4_; have NB326_327 := n5_; have NB327_326 := n6_; clear n0_ n1_ n2_ n3_ n4_ n5_ n6_; clear hb hbox hg; have hnb7 := NB326_327.out; have hnc7 := NB327_326.out; have hcz8_0 : w6.cell? ⟨gb326, 0, none⟩ = some (.string a0_0) := (blk_cell BK326.out 0).trans rfl; have hcz8_1 : w6.cell? ⟨gb326, 1, none⟩ = some (.string a0_1) := (blk_cell BK326.out 1).trans rfl; have hcz8_2 : w6.cell? ⟨gb326, 2, none⟩ = some (.int .i64 a0_2) := (blk_cell BK326.out 2).trans rfl; have hfz8_0 := blk_frozen BK326.out 0; have hfz8_1 := blk_frozen BK326.out 1; have hfz8_2 := blk_frozen BK326.out 2) | ((with_reducible refine gate_callee (f := 23) rfl ?_); refine goesL_ (some 5) rfl rfl Tryd.func23 (by kernel_rfl) rfl #[.agg #[.string a0_0, .string a0_1, .int .i64 a0_2]] rfl (by (try simp only [List.map_toArray, List.map_cons, List.map_nil]); first | done | rfl | (simp only [List.length_drop, List.length_take]; rfl)) ?_; (with_reducible refine (impl_IsValidLog.calls k a0_0 a0_1 a0_2 true _ A2.out ?sideT).mono ?_); (case sideT => first | exact HT.out | exact Tb.step HT.out HB.out | exact Tb.step HT.out (by repeat (first | (with_reducible first | exact HB.out | apply below_alloc | apply pw_below_drewN | apply below_drew1 | refine below_set ?_ GE326.out | refine below_set ?_ GE327.out) | exact HB.out | exact Below.refl _ _))); rintro e w9 ⟨rfl, hb⟩; refine ⟨_, rfl, ?_⟩; have n0_ := Aside0.mk (blk_below (g := gb326) (o := .cells #[.string a0_0, .string a0_1, .int .i64 a0_2] 31 (0, 0)) (by (with_reducible repeat (first | refine blk_drewN ?_ _ | refine blk_drew ?_ | refine blk_alloc ?_ _)); exact BK326.out) hb); have n1_ := Aside0.mk (blk_below (g := gb327) (o := .cells #[.string (⟨#[]⟩ : ByteArray), .string (⟨#[]⟩ : ByteArray), .int .i64 0] 31 (0, 0)) (by (with_reducible repeat (first | refine blk_drewN ?_ _ | refine blk_drew ?_ | refine blk_alloc ?_ _)); exact BK327.out) hb); have n2_ := Aside0.mk (below_step (by repeat (first | (with_reducible first | exact HB.out | apply below_alloc | apply pw_below_drewN | apply below_drew1 | refine below_set ?_ GE326.out | refine below_set ?_ GE327.out) | exact HB.out)) hb); clear BK326; clear BK327; clear HB; have BK326 := n0_; have BK327 := n1_; have HB := n2_; clear n0_ n1_ n2_; (try clear hb); (try clear hb2); (try clear hk); (try clear hi); have hcz10_0 : w9.cell? ⟨gb326, 0, none⟩ = some (.string a0_0) := (blk_cell BK326.out 0).trans rfl; have hcz10_1 : w9.cell? ⟨gb326, 1, none⟩ = some (.string a0_1) := (blk_cell BK326.out 1).trans rfl; have hcz10_2 : w9.cell? ⟨gb326, 2, none⟩ = some (.int .i64 a0_2) := (blk_cell BK326.out 2).trans rfl; have hfz10_0 := blk_frozen BK326.out 0; have hfz10_1 := blk_frozen BK326.out 1; have hfz10_2 := blk_frozen BK326.out 2; have hcz11_0 : w9.cell? ⟨gb327, 0, none⟩ = some (.string (⟨#[]⟩ : ByteArray)) := (blk_cell BK327.out 0).trans rfl; have hcz11_1 : w9.cell? ⟨gb327, 1, none⟩ = some (.string (⟨#[]⟩ : ByteArray)) := (blk_cell BK327.out 1).trans rfl; have hcz11_2 : w9.cell? ⟨gb327, 2, none⟩ = some (.int .i64 0) := (blk_cell BK327.out 2).trans rfl; have hfz11_0 := blk_frozen BK327.out 0; have hfz11_1 := blk_frozen BK327.out 1; have hfz11_2 := blk_frozen BK327.out 2))
      refine bodyPost_ret (results_ct rfl _ _ gb327 31 #[.string (sc a0_0 a0_1), .string (⟨#[]⟩ : ByteArray), .int .i64 a0_2] (0, 0) _ rfl (by (with_reducible repeat (first | refine blk_drewN ?_ _ | refine blk_drew ?_ | refine blk_alloc ?_ _)); refine blk_put (cs := #[.string (sc a0_0 a0_1), .string (⟨#[]⟩ : ByteArray), .int .i64 0]) ?_ 2 _ rfl; (with_reducible repeat (first | refine blk_drewN ?_ _ | refine blk_drew ?_ | refine blk_alloc ?_ _)); refine blk_put (cs := #[.string (sc a0_0 a0_1), .string (⟨#[]⟩ : ByteArray), .int .i64 0]) ?_ 1 _ rfl; (with_reducible repeat (first | refine blk_drewN ?_ _ | refine blk_drew ?_ | refine blk_alloc ?_ _)); refine blk_put (cs := #[.string (⟨#[]⟩ : ByteArray), .string (⟨#[]⟩ : ByteArray), .int .i64 0]) ?_ 0 _ rfl; (with_reducible repeat (first | refine blk_drewN ?_ _ | refine blk_drew ?_ | refine blk_alloc ?_ _)); exact BK327.out) Tryd.underlying31 rfl (by kernel_rfl)) rfl ?_
      exact ⟨by first | rfl | (simp [errW_none, errW_some] <;> rfl) | (simp [*, errW_none, errW_some] <;> rfl), by repeat (first | (with_reducible first | exact HB.out | apply below_alloc | apply pw_below_drewN | apply below_drew1 | refine below_set ?_ GE326.out | refine below_set ?_ GE327.out) | exact HB.out)⟩
    · rw [if_neg c4] at H
      exact absurd H (by simp)
  · replace c3 := Bool.eq_false_iff.mpr c3
    subst c3
    have H1 : (some ((⟨#[]⟩ : ByteArray), (⟨#[]⟩ : ByteArray), 0, false)) = some (r1, r2, r3, r4) := by rw [if_neg (show ¬ (false = true) by decide)] at H; exact H
    clear H
    have H := H1
    clear H1
    simp only [Option.some.injEq, Prod.mk.injEq] at H
    obtain ⟨rfl, rfl, rfl, rfl⟩ := H
    go_enter Tryd.func27, Tryd.ntmps27
    go_wp2_with (first | ((with_reducible refine gate_dst (N := 1) rfl ?_); refine box_event ?hg (N := 1) ?hd (cs := #[.string a0_0, .string a0_1, .int .i64 a0_2]) (t := 31) ?hr ?_; (case hd => rfl); (case hg => rfl); (case hr => first | (go_simp; done) | (go_simp; rfl)); intro gb326 hg w12 hbox hb; have n0_ := Aside0.mk (below_step (by repeat (first | (with_reducible first | exact HB.out | apply below_alloc | apply pw_below_drewN | apply below_drew1) | exact HB.out)) hb); have n1_ := Aside0.mk (hbox); have n2_ := Aside0.mk ((by rw [hg]; exact (below_size (by repeat (first | (with_reducible first | exact HB.out | apply below_alloc | apply pw_below_drewN | apply below_drew1) | exact HB.out))) : w.heap.size ≤ gb326)); have n3_ := Aside0.mk ((by rw [hg]; exact (below_size (by repeat (first | (with_reducible first | exact HB.out | apply below_alloc | apply pw_below_drewN | apply below_drew1) | exact HB.out))) : w.heap.size ≤ gb326)); clear HB; have HB := n0_; have BK326 := n1_; have GW326 := n2_; have GE326 := n3_; clear n0_ n1_ n2_ n3_; clear hb hbox hg) | ((with_reducible refine gate_dst (N := 2) rfl ?_); refine box_event ?hg (N := 2) ?hd (cs := #[.string (⟨#[]⟩ : ByteArray), .string (⟨#[]⟩ : ByteArray), .int .i64 0]) (t := 31) ?hr ?_; (case hd => rfl); (case hg => rfl); (case hr => first | (go_simp; done) | (go_simp; rfl)); intro gb327 hg w13 hbox hb; have n0_ := Aside0.mk (blk_below (g := gb326) (o := .cells #[.string a0_0, .string a0_1, .int .i64 a0_2] 31 (0, 0)) (by (with_reducible repeat (first | refine blk_drewN ?_ _ | refine blk_drew ?_ | refine blk_alloc ?_ _)); exact BK326.out) hb); have n1_ := Aside0.mk (below_step (by repeat (first | (with_reducible first | exact HB.out | apply below_alloc | apply pw_below_drewN | apply below_drew1 | refine below_set ?_ GE326.out) | exact HB.out)) hb); have n2_ := Aside0.mk (hbox); have n3_ := Aside0.mk ((by rw [hg]; exact (below_size (by repeat (first | (with_reducible first | exact HB.out | apply below_alloc | apply pw_below_drewN | apply below_drew1 | refine below_set ?_ GE326.out) | exact HB.out))) : w.heap.size ≤ gb327)); have n4_ := Aside0.mk ((by rw [hg]; exact (below_size (by repeat (first | (with_reducible first | exact HB.out | apply below_alloc | apply pw_below_drewN | apply below_drew1 | refine below_set ?_ GE326.out) | exact HB.out))) : w.heap.size ≤ gb327)); have n5_ := Aside0.mk ((by rw [hg]; exact Nat.ne_of_lt (blk_lt (g := gb326) (o := .cells #[.string a0_0, .string a0_1, .int .i64 a0_2] 31 (0, 0)) (by (with_reducible repeat (first | refine blk_drewN ?_ _ | refine blk_drew ?_ | refine blk_alloc ?_ _)); exact BK326.out)) : gb326 ≠ gb327)); have n6_ := Aside0.mk ((by rw [hg]; exact Nat.ne_of_gt (blk_lt (g := gb326) (o := .cells #[.string a0_0, .string a0_1, .int .i64 a0_2] 31 (0, 0)) (by (with_reducible repeat (first | refine blk_drewN ?_ _ | refine blk_drew ?_ | refine blk_alloc ?_ _)); exact BK326.out)) : gb327 ≠ gb326)); clear BK326; clear HB; have BK326 := n0_; have HB := n1_; have BK327 := n2_; have GW327 := n3_; have GE327 := n4_; have NB326_327 := n5_; have NB327_326 := n6_; clear n0_ n1_ n2_ n3_ n4_ n5_ n6_; clear hb hbox hg; have hnb14 := NB326_327.out; have hnc14 := NB327_326.out; have hcz15_0 : w13.cell? ⟨gb326, 0, none⟩ = some (.string a0_0) := (blk_cell BK326.out 0).trans rfl; have hcz15_1 : w13.cell? ⟨gb326, 1, none⟩ = some (.string a0_1) := (blk_cell BK326.out 1).trans rfl; have hcz15_2 : w13.cell? ⟨gb326, 2, none⟩ = some (.int .i64 a0_2) := (blk_cell BK326.out 2).trans rfl; have hfz15_0 := blk_frozen BK326.out 0; have hfz15_1 := blk_frozen BK326.out 1; have hfz15_2 := blk_frozen BK326.out 2) | ((with_reducible refine gate_callee (f := 23) rfl ?_); refine goesL_ (some 5) rfl rfl Tryd.func23 (by kernel_rfl) rfl #[.agg #[.string a0_0, .string a0_1, .int .i64 a0_2]] rfl (by (try simp only [List.map_toArray, List.map_cons, List.map_nil]); first | done | rfl | (simp only [List.length_drop, List.length_take]; rfl)) ?_; (with_reducible refine (impl_IsValidLog.calls k a0_0 a0_1 a0_2 false _ A2.out ?sideT).mono ?_); (case sideT => first | exact HT.out | exact Tb.step HT.out HB.out | exact Tb.step HT.out (by repeat (first | (with_reducible first | exact HB.out | apply below_alloc | apply pw_below_drewN | apply below_drew1 | refine below_set ?_ GE326.out | refine below_set ?_ GE327.out) | exact HB.out | exact Below.refl _ _))); rintro e w16 ⟨rfl, hb⟩; refine ⟨_, rfl, ?_⟩; have n0_ := Aside0.mk (blk_below (g := gb326) (o := .cells #[.string a0_0, .string a0_1, .int .i64 a0_2] 31 (0, 0)) (by (with_reducible repeat (first | refine blk_drewN ?_ _ | refine blk_drew ?_ | refine blk_alloc ?_ _)); exact BK326.out) hb); have n1_ := Aside0.mk (blk_below (g := gb327) (o := .cells #[.string (⟨#[]⟩ : ByteArray), .string (⟨#[]⟩ : ByteArray), .int .i64 0] 31 (0, 0)) (by (with_reducible repeat (first | refine blk_drewN ?_ _ | refine blk_drew ?_ | refine blk_alloc ?_ _)); exact BK327.out) hb); have n2_ := Aside0.mk (below_step (by repeat (first | (with_reducible first | exact HB.out | apply below_alloc | apply pw_below_drewN | apply below_drew1 | refine below_set ?_ GE326.out | refine below_set ?_ GE327.out) | exact HB.out)) hb); clear BK326; clear BK327; clear HB; have BK326 := n0_; have BK327 := n1_; have HB := n2_; clear n0_ n1_ n2_; (try clear hb); (try clear hb2); (try clear hk); (try clear hi); have hcz17_0 : w16.cell? ⟨gb327, 0, none⟩ = some (.string (⟨#[]⟩ : ByteArray)) := (blk_cell BK327.out 0).trans rfl; have hcz17_1 : w16.cell? ⟨gb327, 1, none⟩ = some (.string (⟨#[]⟩ : ByteArray)) := (blk_cell BK327.out 1).trans rfl; have hcz17_2 : w16.cell? ⟨gb327, 2, none⟩ = some (.int .i64 0) := (blk_cell BK327.out 2).trans rfl; have hfz17_0 := blk_frozen BK327.out 0; have hfz17_1 := blk_frozen BK327.out 1; have hfz17_2 := blk_frozen BK327.out 2))
    refine bodyPost_ret (results_ct rfl _ _ gb327 31 #[.string (⟨#[]⟩ : ByteArray), .string (⟨#[]⟩ : ByteArray), .int .i64 0] (0, 0) _ rfl (by (with_reducible repeat (first | refine blk_drewN ?_ _ | refine blk_drew ?_ | refine blk_alloc ?_ _)); refine blk_put (cs := #[.string (⟨#[]⟩ : ByteArray), .string (⟨#[]⟩ : ByteArray), .int .i64 0]) ?_ 2 _ rfl; (with_reducible repeat (first | refine blk_drewN ?_ _ | refine blk_drew ?_ | refine blk_alloc ?_ _)); refine blk_put (cs := #[.string (⟨#[]⟩ : ByteArray), .string (⟨#[]⟩ : ByteArray), .int .i64 0]) ?_ 1 _ rfl; (with_reducible repeat (first | refine blk_drewN ?_ _ | refine blk_drew ?_ | refine blk_alloc ?_ _)); refine blk_put (cs := #[.string (⟨#[]⟩ : ByteArray), .string (⟨#[]⟩ : ByteArray), .int .i64 0]) ?_ 0 _ rfl; (with_reducible repeat (first | refine blk_drewN ?_ _ | refine blk_drew ?_ | refine blk_alloc ?_ _)); exact BK327.out) Tryd.underlying31 rfl (by kernel_rfl)) rfl ?_
    exact ⟨by first | rfl | (simp [errW_none, errW_some] <;> rfl) | (simp [*, errW_none, errW_some] <;> rfl), by repeat (first | (with_reducible first | exact HB.out | apply below_alloc | apply pw_below_drewN | apply below_drew1 | refine below_set ?_ GE326.out | refine below_set ?_ GE327.out) | exact HB.out)⟩

end Go.Proofs.YtdpinnhgkocjhaaDoor.Pr

namespace Go.Proofs.YtdpinnhgkocjhaaDoor.Pr
open Go.RowKit Go.Proofs.YtdpinnhgkocjhaaDoorW.PrintWords Go.Proofs.YtdpinnhgkocjhaaDoorW.PrintLast Go.Proofs.YtdpinnhgkocjhaaDoorW.PrintMore
attribute [local go_sem] max2_int min2_int max_two min_two max_three min_three max_four min_four sc_in sx_in   -- for this text's walks alone
set_option linter.unusedVariables false
set_option linter.unusedSimpArgs false

/-! ### spec_LogRecords: function 30 -/
def spec_LogRecords.f (k : Nat) (a0_0 : ByteArray) (a0_1 : ByteArray) (a0_2 : Int) : Option ((List (S27)) × Bool) := (spec_l27Log.f k a0_0 a0_1 a0_2).bind fun t386 => (if t386 = true then (if a0_0.size + a0_1.size ≤ 9223372036854775807 then ((spec_l27Open.f k (sc a0_0 a0_1)).bind fun bt387 => (some (bt387.1, true))) else (none)) else (some ((([] : List (S27))), false)))
theorem spec_LogRecords.mono : ∀ a0 a1 a2 k, LeO (spec_LogRecords.f k a0 a1 a2) (spec_LogRecords.f (k + 1) a0 a1 a2) := by
  intro a0 a1 a2 k
  unfold spec_LogRecords.f
  repeat' first
      | (with_reducible exact spec_l27Log.mono _ _ _ _)
      | (with_reducible exact spec_l27Open.mono _ _)
      | (with_reducible exact LeO.refl _)
      | (with_reducible exact LeO.none _)
      | (with_reducible refine LeO.ite ?_ ?_)
      | (with_reducible refine LeO.bind ?_ (fun _ => ?_))
      | exact spec_l27Log.mono _ _ _ _
      | exact spec_l27Open.mono _ _
      | exact LeO.none _
      | refine LeO.ite ?_ ?_
      | refine LeO.bind ?_ (fun _ => ?_)
set_option maxHeartbeats 8000000 in
set_option maxRecDepth 100000 in
theorem spec_LogRecords.calls (k : Nat) (a0_0 : ByteArray) (a0_1 : ByteArray) (a0_2 : Int) (r1 : List (S27)) (r2 : Bool) (w : World) (h : spec_LogRecords.f k a0_0 a0_1 a0_2 = some (r1, r2)) :
    Calls Tryd.prog 30 #[.agg #[.string a0_0, .string a0_1, .int .i64 a0_2]] w fun e w' => ∃ v0_ : Value, e = .returned (.tuple #[v0_, .bool r2]) ∧ Kd.R k27 27 w' w.heap.size (fun _ => True) v0_ r1 ∧ Below w.heap.size w w' := by
  have hu31 := Tryd.underlying31
  have HB := Aside0.mk (Below.refl w.heap.size w)
  have H : ((spec_l27Log.f k a0_0 a0_1 a0_2).bind fun t386 => (if t386 = true then (if a0_0.size + a0_1.size ≤ 9223372036854775807 then ((spec_l27Open.f k (sc a0_0 a0_1)).bind fun bt387 => (some (bt387.1, true))) else (none)) else (some ((([] : List (S27))), false)))) = some (r1, r2) := h
  clear h
  replace H := Option.bind_eq_some_iff.mp H
  obtain ⟨t386, A20, H⟩ := H
  replace H : (if t386 = true then (if a0_0.size + a0_1.size ≤ 9223372036854775807 then ((spec_l27Open.f k (sc a0_0 a0_1)).bind fun bt387 => (some (bt387.1, true))) else (none)) else (some ((([] : List (S27))), false))) = some (r1, r2) := H
  have A2 := Aside0.mk A20
  clear A20
  by_cases c3 : t386 = true
  · subst c3
    have H1 : (if a0_0.size + a0_1.size ≤ 9223372036854775807 then ((spec_l27Open.f k (sc a0_0 a0_1)).bind fun bt387 => (some (bt387.1, true))) else (none)) = some (r1, r2) := by rw [if_pos rfl] at H; exact H
    clear H
    have H := H1
    clear H1
    by_cases c4 : a0_0.size + a0_1.size ≤ 9223372036854775807
    · rw [if_pos c4] at H
      have c4b0 := eq_true c4
      have c4b1 : decide (a0_0.size + a0_1.size ≤ 9223372036854775807) = true := decide_eq_true c4
      try have c4b2 : (9223372036854775807 < a0_0.size + a0_1.size) = False := eq_false (Nat.not_lt.2 c4)
      replace H := Option.bind_eq_some_iff.mp H
      obtain ⟨⟨t387, t388⟩, A50, H⟩ := H
      replace H : (some (t387, true)) = some (r1, r2) := H
      have A5 := Aside0.mk A50
      clear A50
      simp only [Option.some.injEq, Prod.mk.injEq] at H
      obtain ⟨rfl, rfl⟩ := H
      go_enter Tryd.func30, Tryd.ntmps30
      go_wp2_with (first | ((with_reducible refine gate_dst (N := 1) rfl ?_); refine box_event ?hg (N := 1) ?hd (cs := #[.string a0_0, .string a0_1, .int .i64 a0_2]) (t := 31) ?hr ?_; (case hd => rfl); (case hg => rfl); (case hr => first | (go_simp; done) | (go_simp; rfl)); intro gb385 hg w6 hbox hb; have n0_ := Aside0.mk (below_step (by repeat (first | (with_reducible first | exact HB.out | apply below_alloc | apply pw_below_drewN | apply below_drew1) | exact HB.out)) hb); have n1_ := Aside0.mk (hbox); have n2_ := Aside0.mk ((by rw [hg]; exact (below_size (by repeat (first | (with_reducible first | exact HB.out | apply below_alloc | apply pw_below_drewN | apply below_drew1) | exact HB.out))) : w.heap.size ≤ gb385)); have n3_ := Aside0.mk ((by rw [hg]; exact (below_size (by repeat (first | (with_reducible first | exact HB.out | apply below_alloc | apply pw_below_drewN | apply below_drew1) | exact HB.out))) : w.heap.size ≤ gb385)); clear HB; have HB := n0_; have BK385 := n1_; have GW385 := n2_; have GE385 := n3_; clear n0_ n1_ n2_ n3_; clear hb hbox hg; have hcz7_0 : w6.cell? ⟨gb385, 0, none⟩ = some (.string a0_0) := (blk_cell BK385.out 0).trans rfl; have hcz7_1 : w6.cell? ⟨gb385, 1, none⟩ = some (.string a0_1) := (blk_cell BK385.out 1).trans rfl; have hcz7_2 : w6.cell? ⟨gb385, 2, none⟩ = some (.int .i64 a0_2) := (blk_cell BK385.out 2).trans rfl; have hfz7_0 := blk_frozen BK385.out 0; have hfz7_1 := blk_frozen BK385.out 1; have hfz7_2 := blk_frozen BK385.out 2) | ((with_reducible refine gate_callee (f := 49) rfl ?_); refine goesL_ (some 7) rfl rfl Tryd.func49 (by kernel_rfl) rfl #[.agg #[.string a0_0, .string a0_1, .int .i64 a0_2]] rfl (by (try simp only [List.map_toArray, List.map_cons, List.map_nil]); first | done | rfl | (simp only [List.length_drop, List.length_take]; rfl)) ?_; (with_reducible refine (spec_l27Log.calls k a0_0 a0_1 a0_2 true _ A2.out).mono ?_); rintro e w8 ⟨rfl, hb⟩; refine ⟨_, rfl, ?_⟩; have n0_ := Aside0.mk (blk_below (g := gb385) (o := .cells #[.string a0_0, .string a0_1, .int .i64 a0_2] 31 (0, 0)) (by (with_reducible repeat (first | refine blk_drewN ?_ _ | refine blk_drew ?_ | refine blk_alloc ?_ _)); exact BK385.out) hb); have n1_ := Aside0.mk (below_step (by repeat (first | (with_reducible first | exact HB.out | apply below_alloc | apply pw_below_drewN | apply below_drew1 | refine below_set ?_ GE385.out) | exact HB.out)) hb); clear BK385; clear HB; have BK385 := n0_; have HB := n1_; clear n0_ n1_; (try clear hb); (try clear hb2); (try clear hk); (try clear hi); have hcz9_0 : w8.cell? ⟨gb385, 0, none⟩ = some (.string a0_0) := (blk_cell BK385.out 0).trans rfl; have hcz9_1 : w8.cell? ⟨gb385, 1, none⟩ = some (.string a0_1) := (blk_cell BK385.out 1).trans rfl; have hcz9_2 : w8.cell? ⟨gb385, 2, none⟩ = some (.int .i64 a0_2) := (blk_cell BK385.out 2).trans rfl; have hfz9_0 := blk_frozen BK385.out 0; have hfz9_1 := blk_frozen BK385.out 1; have hfz9_2 := blk_frozen BK385.out 2) | ((with_reducible refine gate_callee (f := 47) rfl ?_); refine goesL_ (some 16) rfl rfl Tryd.func47 (by kernel_rfl) rfl #[.string (sc a0_0 a0_1)] rfl (by (try simp only [List.map_toArray, List.map_cons, List.map_nil]); first | done | rfl | (simp only [List.length_drop, List.length_take]; rfl)) ?_; (with_reducible refine (spec_l27Open.calls k (sc a0_0 a0_1) t387 t388 _ A5.out).mono ?_); rintro e w10 ⟨v389, rfl, ho0, hb⟩; refine ⟨_, rfl, ?_⟩; have n0_ := Aside0.mk (Kd.R_lower ho0 (below_size (by repeat (first | (with_reducible first | exact HB.out | apply below_alloc | apply pw_below_drewN | apply below_drew1 | refine below_set ?_ GE385.out) | exact HB.out)))); have n1_ := Aside0.mk (blk_below (g := gb385) (o := .cells #[.string a0_0, .string a0_1, .int .i64 a0_2] 31 (0, 0)) (by (with_reducible repeat (first | refine blk_drewN ?_ _ | refine blk_drew ?_ | refine blk_alloc ?_ _)); exact BK385.out) hb); have n2_ := Aside0.mk (below_step (by repeat (first | (with_reducible first | exact HB.out | apply below_alloc | apply pw_below_drewN | apply below_drew1 | refine below_set ?_ GE385.out) | exact HB.out)) hb); clear BK385; clear HB; have HO390 := n0_; have BK385 := n1_; have HB := n2_; clear n0_ n1_ n2_; (try clear hb); (try clear hb2); (try clear hk); (try clear hi); (try clear ho0)))
      go_ret2
      exact ⟨_, by first | rfl | (simp [errW_none, errW_some] <;> rfl) | (simp [*, errW_none, errW_some] <;> rfl), by (with_reducible repeat (first | apply Kd.R_alloc | apply Kd.R_drewN | apply Kd.R_drew)); exact HO390.out, by repeat (first | (with_reducible first | exact HB.out | apply below_alloc | apply pw_below_drewN | apply below_drew1 | refine below_set ?_ GE385.out) | exact HB.out)⟩
    · rw [if_neg c4] at H
      exact absurd H (by simp)
  · replace c3 := Bool.eq_false_iff.mpr c3
    subst c3
    have H1 : (some ((([] : List (S27))), false)) = some (r1, r2) := by rw [if_neg (show ¬ (false = true) by decide)] at H; exact H
    clear H
    have H := H1
    clear H1
    obtain ⟨y391, hy391⟩ : ∃ y_ : List (S27), y_ = (([] : List (S27))) := ⟨_, rfl⟩
    replace H : (some (y391, false)) = some (r1, r2) := by first | (rw [hy391]; with_reducible exact H) | (have H2_ := (Option.bind_some _ _).symm.trans H; rw [hy391]; with_reducible exact H2_) | (have H2_ := (Option.bind_some _ _).symm.trans H; with_reducible exact H2_) | with_reducible exact H | (rw [hy391]; exact H) | exact H
    have Ny391 := Aside0.mk hy391
    clear hy391
    simp only [Option.some.injEq, Prod.mk.injEq] at H
    obtain ⟨rfl, rfl⟩ := H
    go_enter Tryd.func30, Tryd.ntmps30
    go_wp2_with (first | ((with_reducible refine gate_dst (N := 1) rfl ?_); refine box_event ?hg (N := 1) ?hd (cs := #[.string a0_0, .string a0_1, .int .i64 a0_2]) (t := 31) ?hr ?_; (case hd => rfl); (case hg => rfl); (case hr => first | (go_simp; done) | (go_simp; rfl)); intro gb385 hg w11 hbox hb; have n0_ := Aside0.mk (below_step (by repeat (first | (with_reducible first | exact HB.out | apply below_alloc | apply pw_below_drewN | apply below_drew1) | exact HB.out)) hb); have n1_ := Aside0.mk (hbox); have n2_ := Aside0.mk ((by rw [hg]; exact (below_size (by repeat (first | (with_reducible first | exact HB.out | apply below_alloc | apply pw_below_drewN | apply below_drew1) | exact HB.out))) : w.heap.size ≤ gb385)); have n3_ := Aside0.mk ((by rw [hg]; exact (below_size (by repeat (first | (with_reducible first | exact HB.out | apply below_alloc | apply pw_below_drewN | apply below_drew1) | exact HB.out))) : w.heap.size ≤ gb385)); clear HB; have HB := n0_; have BK385 := n1_; have GW385 := n2_; have GE385 := n3_; clear n0_ n1_ n2_ n3_; clear hb hbox hg; have hcz12_0 : w11.cell? ⟨gb385, 0, none⟩ = some (.string a0_0) := (blk_cell BK385.out 0).trans rfl; have hcz12_1 : w11.cell? ⟨gb385, 1, none⟩ = some (.string a0_1) := (blk_cell BK385.out 1).trans rfl; have hcz12_2 : w11.cell? ⟨gb385, 2, none⟩ = some (.int .i64 a0_2) := (blk_cell BK385.out 2).trans rfl; have hfz12_0 := blk_frozen BK385.out 0; have hfz12_1 := blk_frozen BK385.out 1; have hfz12_2 := blk_frozen BK385.out 2) | ((with_reducible refine gate_callee (f := 49) rfl ?_); refine goesL_ (some 7) rfl rfl Tryd.func49 (by kernel_rfl) rfl #[.agg #[.string a0_0, .string a0_1, .int .i64 a0_2]] rfl (by (try simp only [List.map_toArray, List.map_cons, List.map_nil]); first | done | rfl | (simp only [List.length_drop, List.length_take]; rfl)) ?_; (with_reducible refine (spec_l27Log.calls k a0_0 a0_1 a0_2 false _ A2.out).mono ?_); rintro e w13 ⟨rfl, hb⟩; refine ⟨_, rfl, ?_⟩; have n0_ := Aside0.mk (blk_below (g := gb385) (o := .cells #[.string a0_0, .string a0_1, .int .i64 a0_2] 31 (0, 0)) (by (with_reducible repeat (first | refine blk_drewN ?_ _ | refine blk_drew ?_ | refine blk_alloc ?_ _)); exact BK385.out) hb); have n1_ := Aside0.mk (below_step (by repeat (first | (with_reducible first | exact HB.out | apply below_alloc | apply pw_below_drewN | apply below_drew1 | refine below_set ?_ GE385.out) | exact HB.out)) hb); clear BK385; clear HB; have BK385 := n0_; have HB := n1_; clear n0_ n1_; (try clear hb); (try clear hb2); (try clear hk); (try clear hi)) | ((with_reducible refine gate_dst (N := 9) rfl ?_); refine Kd.R_lit k27 _ 27 ?hg (N := 9) ?hd (xs := ([] : List (S27))) (inner := []) (ok := fun _ => True) (okp := fun _ => True) ?hr ?hp (fun _ hk => hk) trivial (Below.refl _ _) (Nat.le_refl _) (by simp) ?_; (case hd => rfl); (case hg => rfl); (case hr => first | (go_simp; done) | (go_simp; rfl)); (case hp => exact (Reps.none _ _)); intro v392 w14 ho15 hb hg_ hnew_; clear hg_ hnew_; (first | rw [← Ny391.out] at ho15 | (simp only [Int.reduceToNat] at ho15; rw [← Ny391.out] at ho15)); have n0_ := Aside0.mk (Kd.R_lower ho15 (below_size (by repeat (first | (with_reducible first | exact HB.out | apply below_alloc | apply pw_below_drewN | apply below_drew1 | refine below_set ?_ GE385.out) | exact HB.out)))); have n1_ := Aside0.mk (blk_below (g := gb385) (o := .cells #[.string a0_0, .string a0_1, .int .i64 a0_2] 31 (0, 0)) (by (with_reducible repeat (first | refine blk_drewN ?_ _ | refine blk_drew ?_ | refine blk_alloc ?_ _)); exact BK385.out) hb); have n2_ := Aside0.mk (below_step (by repeat (first | (with_reducible first | exact HB.out | apply below_alloc | apply pw_below_drewN | apply below_drew1 | refine below_set ?_ GE385.out) | exact HB.out)) hb); clear BK385; clear HB; have HO393 := n0_; have BK385 := n1_; have HB := n2_; clear n0_ n1_ n2_; clear hb ho15))
    go_ret2
    exact ⟨_, by first | rfl | (simp [errW_none, errW_some] <;> rfl) | (simp [*, errW_none, errW_some] <;> rfl), by (with_reducible repeat (first | apply Kd.R_alloc | apply Kd.R_drewN | apply Kd.R_drew)); exact HO393.out, by repeat (first | (with_reducible first | exact HB.out | apply below_alloc | apply pw_below_drewN | apply below_drew1 | refine below_set ?_ GE385.out) | exact HB.out)⟩

end Go.Proofs.YtdpinnhgkocjhaaDoor.Pr

namespace Go.Proofs.YtdpinnhgkocjhaaDoor.Pr
open Go.RowKit Go.Proofs.YtdpinnhgkocjhaaDoorW.PrintWords Go.Proofs.YtdpinnhgkocjhaaDoorW.PrintLast Go.Proofs.YtdpinnhgkocjhaaDoorW.PrintMore
attribute [local go_sem] max2_int min2_int max_two min_two max_three min_three max_four min_four   -- for this text's walks alone
set_option linter.unusedVariables false
set_option linter.unusedSimpArgs false

/-! ### impl_LogRecords: function 31 -/
def impl_LogRecords.f (k : Nat) (a0_0 : ByteArray) (a0_1 : ByteArray) (a0_2 : Int) : Option ((List (S27)) × Bool) := (impl_records.f k a0_0 a0_1 a0_2).bind fun bt395 => (some (bt395.1, bt395.2))
theorem impl_LogRecords.mono : ∀ a0 a1 a2 k, LeO (impl_LogRecords.f k a0 a1 a2) (impl_LogRecords.f (k + 1) a0 a1 a2) := by
  intro a0 a1 a2 k
  unfold impl_LogRecords.f
  repeat' first
      | (with_reducible exact impl_records.mono _ _ _ _)
      | (with_reducible exact LeO.refl _)
      | (with_reducible exact LeO.none _)
      | (with_reducible refine LeO.ite ?_ ?_)
      | (with_reducible refine LeO.bind ?_ (fun _ => ?_))
      | exact impl_records.mono _ _ _ _
      | exact LeO.none _
      | refine LeO.ite ?_ ?_
      | refine LeO.bind ?_ (fun _ => ?_)
set_option maxHeartbeats 8000000 in
set_option maxRecDepth 100000 in
theorem impl_LogRecords.calls (k : Nat) (a0_0 : ByteArray) (a0_1 : ByteArray) (a0_2 : Int) (r1 : List (S27)) (r2 : Bool) (w : World) (h : impl_LogRecords.f k a0_0 a0_1 a0_2 = some (r1, r2)) (hT : Tb w) :
    Calls Tryd.prog 31 #[.agg #[.string a0_0, .string a0_1, .int .i64 a0_2]] w fun e w' => ∃ v0_ : Value, e = .returned (.tuple #[v0_, .bool r2]) ∧ Kd.R k27 27 w' w.heap.size (fun _ => True) v0_ r1 ∧ Below w.heap.size w w' := by
  have HT := Aside0.mk hT
  clear hT
  have hu31 := Tryd.underlying31
  have HB := Aside0.mk (Below.refl w.heap.size w)
  have H : ((impl_records.f k a0_0 a0_1 a0_2).bind fun bt395 => (some (bt395.1, bt395.2))) = some (r1, r2) := h
  clear h
  replace H := Option.bind_eq_some_iff.mp H
  obtain ⟨⟨t395, t398⟩, A20, H⟩ := H
  replace H : (some (t395, t398)) = some (r1, r2) := H
  have A2 := Aside0.mk A20
  clear A20
  simp only [Option.some.injEq, Prod.mk.injEq] at H
  obtain ⟨rfl, rfl⟩ := H
  go_enter Tryd.func31, Tryd.ntmps31
  go_wp2_with (first | ((with_reducible refine gate_dst (N := 1) rfl ?_); refine box_event ?hg (N := 1) ?hd (cs := #[.string a0_0, .string a0_1, .int .i64 a0_2]) (t := 31) ?hr ?_; (case hd => rfl); (case hg => rfl); (case hr => first | (go_simp; done) | (go_simp; rfl)); intro gb394 hg w3 hbox hb; have n0_ := Aside0.mk (below_step (by repeat (first | (with_reducible first | exact HB.out | apply below_alloc | apply pw_below_drewN | apply below_drew1) | exact HB.out)) hb); have n1_ := Aside0.mk (hbox); have n2_ := Aside0.mk ((by rw [hg]; exact (below_size (by repeat (first | (with_reducible first | exact HB.out | apply below_alloc | apply pw_below_drewN | apply below_drew1) | exact HB.out))) : w.heap.size ≤ gb394)); have n3_ := Aside0.mk ((by rw [hg]; exact (below_size (by repeat (first | (with_reducible first | exact HB.out | apply below_alloc | apply pw_below_drewN | apply below_drew1) | exact HB.out))) : w.heap.size ≤ gb394)); clear HB; have HB := n0_; have BK394 := n1_; have GW394 := n2_; have GE394 := n3_; clear n0_ n1_ n2_ n3_; clear hb hbox hg; have hcz4_0 : w3.cell? ⟨gb394, 0, none⟩ = some (.string a0_0) := (blk_cell BK394.out 0).trans rfl; have hcz4_1 : w3.cell? ⟨gb394, 1, none⟩ = some (.string a0_1) := (blk_cell BK394.out 1).trans rfl; have hcz4_2 : w3.cell? ⟨gb394, 2, none⟩ = some (.int .i64 a0_2) := (blk_cell BK394.out 2).trans rfl; have hfz4_0 := blk_frozen BK394.out 0; have hfz4_1 := blk_frozen BK394.out 1; have hfz4_2 := blk_frozen BK394.out 2) | ((with_reducible refine gate_callee (f := 50) rfl ?_); refine goesL_ (some 5) rfl rfl Tryd.func50 (by kernel_rfl) rfl #[.agg #[.string a0_0, .string a0_1, .int .i64 a0_2]] rfl (by (try simp only [List.map_toArray, List.map_cons, List.map_nil]); first | done | rfl | (simp only [List.length_drop, List.length_take]; rfl)) ?_; (with_reducible refine (impl_records.calls k a0_0 a0_1 a0_2 t395 t398 _ A2.out ?sideT).mono ?_); (case sideT => first | exact HT.out | exact Tb.step HT.out HB.out | exact Tb.step HT.out (by repeat (first | (with_reducible first | exact HB.out | apply below_alloc | apply pw_below_drewN | apply below_drew1 | refine below_set ?_ GE394.out) | exact HB.out | exact Below.refl _ _))); rintro e w5 ⟨v396, rfl, ho0, hb⟩; refine ⟨_, rfl, ?_⟩; have n0_ := Aside0.mk (Kd.R_lower ho0 (below_size (by repeat (first | (with_reducible first | exact HB.out | apply below_alloc | apply pw_below_drewN | apply below_drew1 | refine below_set ?_ GE394.out) | exact HB.out)))); have n1_ := Aside0.mk (blk_below (g := gb394) (o := .cells #[.string a0_0, .string a0_1, .int .i64 a0_2] 31 (0, 0)) (by (with_reducible repeat (first | refine blk_drewN ?_ _ | refine blk_drew ?_ | refine blk_alloc ?_ _)); exact BK394.out) hb); have n2_ := Aside0.mk (below_step (by repeat (first | (with_reducible first | exact HB.out | apply below_alloc | apply pw_below_drewN | apply below_drew1 | refine below_set ?_ GE394.out) | exact HB.out)) hb); clear BK394; clear HB; have HO397 := n0_; have BK394 := n1_; have HB := n2_; clear n0_ n1_ n2_; (try clear hb); (try clear hb2); (try clear hk); (try clear hi); (try clear ho0)))
  go_ret2
  exact ⟨_, by first | rfl | (simp [errW_none, errW_some] <;> rfl) | (simp [*, errW_none, errW_some] <;> rfl), by (with_reducible repeat (first | apply Kd.R_alloc | apply Kd.R_drewN | apply Kd.R_drew)); exact HO397.out, by repeat (first | (with_reducible first | exact HB.out | apply below_alloc | apply pw_below_drewN | apply below_drew1 | refine below_set ?_ GE394.out) | exact HB.out)⟩

end Go.Proofs.YtdpinnhgkocjhaaDoor.Pr

/-
What is proved: the plain law of a log's text: records are encoded and read again, one after the other.
Conditions: those of each theorem.
-/
namespace Go.Proofs.YtdpinnhgkocjhaaDoor.Log
open Go.Lib
set_option linter.unusedVariables false
abbrev B := List UInt8
/-- What stands ahead of the first c (all, if there is none). -/
def upto (c : UInt8) : B → B
  | [] => []
  | x :: l => if x = c then [] else x :: upto c l
/-- What stands behind the first c (nothing, if there is none). -/
def after (c : UInt8) : B → B
  | [] => []
  | x :: l => if x = c then l else after c l
theorem upto_app {c : UInt8} : ∀ {l : B} (r : B), c ∉ l → upto c (l ++ c :: r) = l
  | [], r, _ => by simp [upto]
  | x :: l, r, h => by
    have h1 : x ≠ c := fun e => h (by simp [e])
    have h2 : c ∉ l := fun e => h (by simp [e])
    simp [upto, h1, upto_app r h2]
theorem after_app {c : UInt8} : ∀ {l : B} (r : B), c ∉ l → after c (l ++ c :: r) = r
  | [], r, _ => by simp [after]
  | x :: l, r, h => by
    have h1 : x ≠ c := fun e => h (by simp [e])
    have h2 : c ∉ l := fun e => h (by simp [e])
    simp [after, h1, after_app r h2]
theorem upto_none {c : UInt8} : ∀ {l : B}, c ∉ l → upto c l = l
  | [], _ => rfl
  | x :: l, h => by
    have h1 : x ≠ c := fun e => h (by simp [e])
    have h2 : c ∉ l := fun e => h (by simp [e])
    simp [upto, h1, upto_none h2]
theorem after_none {c : UInt8} : ∀ {l : B}, c ∉ l → after c l = []
  | [], _ => rfl
  | x :: l, h => by
    have h1 : x ≠ c := fun e => h (by simp [e])
    have h2 : c ∉ l := fun e => h (by simp [e])
    simp [after, h1, after_none h2]
theorem cut_at {c : UInt8} : ∀ {l : B}, c ∈ l → l = upto c l ++ c :: after c l
  | [], h => by simp at h
  | x :: l, h => by
    by_cases e : x = c
    · simp [upto, after, e]
    · have h2 : c ∈ l := by
        rcases List.mem_cons.1 h with h | h
        · exact absurd h.symm e
        · exact h
      have := cut_at h2
      simp only [upto, after, e, if_false, List.cons_append]
      rw [← this]
theorem not_mem_upto {c : UInt8} : ∀ (l : B), c ∉ upto c l
  | [] => by simp [upto]
  | x :: l => by
    by_cases e : x = c
    · simp [upto, e]
    · simp only [upto, e, if_false, List.mem_cons, not_or]
      exact ⟨fun h => e h.symm, not_mem_upto l⟩
theorem upto_len {c : UInt8} : ∀ (l : B), (upto c l).length ≤ l.length
  | [] => by simp [upto]
  | x :: l => by
    by_cases e : x = c
    · simp [upto, e]
    · simp only [upto, e, if_false, List.length_cons]
      have := upto_len (c := c) l
      omega
theorem upto_lt {c : UInt8} {l : B} (h : c ∈ l) : (upto c l).length < l.length := by
  have := congrArg List.length (cut_at h)
  simp at this
  omega
theorem upto_take (c : UInt8) : ∀ (l : B), upto c l = l.take (upto c l).length
  | [] => by simp [upto]
  | x :: l => by
    by_cases e : x = c
    · simp [upto, e]
    · simp only [upto, e, if_false, List.length_cons, List.take_succ_cons]
      rw [← upto_take c l]
theorem after_drop (c : UInt8) {l : B} (h : c ∈ l) : after c l = l.drop ((upto c l).length + 1) := by
  have e := cut_at h
  generalize upto c l = u at e ⊢
  generalize after c l = v at e ⊢
  subst e
  simp
theorem index_some {c : UInt8} : ∀ {l : B}, c ∈ l → indexByte l c = ((upto c l).length : Int)
  | [], h => by simp at h
  | x :: l, h => by
    by_cases e : x = c
    · simp [upto, e, indexByte]
    · have h2 : c ∈ l := by
        rcases List.mem_cons.1 h with h | h
        · exact absurd h.symm e
        · exact h
      have ih := index_some h2
      have hb : (x == c) = false := by simpa using e
      have hn : (indexByte l c == -1) = false := by
        rw [ih, beq_eq_false_iff_ne]
        omega
      simp only [indexByte, hb, hn, upto, e, if_false, List.length_cons, Bool.false_eq_true]
      rw [ih]
      omega
theorem index_none {c : UInt8} : ∀ {l : B}, c ∉ l → indexByte l c = -1
  | [], _ => rfl
  | x :: l, h => by
    have h1 : x ≠ c := fun e => h (by simp [e])
    have h2 : c ∉ l := fun e => h (by simp [e])
    have hb : (x == c) = false := by simpa using h1
    simp [indexByte, hb, index_none h2]
/-- The digits of a number. -/
theorem digit_mem (u : Nat) : ∀ b ∈ decDigits u, 48 ≤ b.toNat ∧ b.toNat ≤ 57 := by
  induction u using Nat.strongRecOn with
  | _ u ih =>
    intro b hb
    by_cases h : u < 10
    · rw [decDigits, dif_pos h] at hb
      obtain rfl := List.mem_singleton.1 hb
      simp
      omega
    · rw [decDigits, dif_neg h] at hb
      rcases List.mem_append.1 hb with hb | hb
      · exact ih _ (by omega) b hb
      · obtain rfl := List.mem_singleton.1 hb
        simp
        omega
theorem digits_len_aux (j : Nat) : ∀ u : Nat, u < 10 ^ (j + 1) → (decDigits u).length ≤ j + 1 := by
  induction j with
  | zero =>
    intro u h
    rw [decDigits, dif_pos (by omega)]
    simp
  | succ j ih =>
    intro u h
    by_cases h1 : u < 10
    · rw [decDigits, dif_pos h1]
      simp
    · rw [decDigits, dif_neg h1]
      have : u / 10 < 10 ^ (j + 1) := by
        rw [Nat.pow_succ] at h
        omega
      have := ih _ this
      simp
      omega
theorem digits_pos (u : Nat) : 1 ≤ (decDigits u).length := by
  by_cases h1 : u < 10
  · rw [decDigits, dif_pos h1]
    simp
  · rw [decDigits, dif_neg h1]
    simp
/-- A text's sum. -/
def sum (l : B) : Nat := l.foldl (fun n b => (41 * n + b.toNat + 1) % 999979) 7
theorem sum_fold_lt (l : B) : ∀ n, n < 999979 → l.foldl (fun n b => (41 * n + b.toNat + 1) % 999979) n < 999979 := by
  induction l with
  | nil => intro n h; exact h
  | cons x l ih => intro n h; exact ih _ (Nat.mod_lt _ (by omega))
theorem sum_lt (l : B) : sum l < 999979 := sum_fold_lt l 7 (by omega)
/-- Printable, and no number sign. -/
def Plain (l : B) : Prop := ∀ b ∈ l, 32 ≤ b.toNat ∧ b.toNat ≤ 126 ∧ b ≠ 35
instance (l : B) : Decidable (Plain l) := inferInstanceAs (Decidable (∀ b ∈ l, 32 ≤ b.toNat ∧ b.toNat ≤ 126 ∧ b ≠ 35))
/-- A valid record. -/
def Ok (c r : B) : Prop := 1 ≤ c.length ∧ c.length ≤ 160 ∧ Plain c ∧ (64 : UInt8) ∉ c ∧ r.length ≤ 200 ∧ Plain r
instance (c r : B) : Decidable (Ok c r) := inferInstanceAs (Decidable (_ ∧ _))
def body (k : Nat) (c r : B) : B := decDigits k ++ 32 :: (c ++ 64 :: r)
def line (k : Nat) (c r : B) : B := body k c r ++ 35 :: decDigits (sum (body k c r))
def enc (k : Nat) (c r : B) : B := line k c r ++ [10]
theorem ne_of_toNat {a b : UInt8} (h : a.toNat ≠ b.toNat) : a ≠ b := fun e => h (by rw [e])
theorem body_no {k : Nat} {c r : B} (h : Ok c r) (x : UInt8) (hx : x = 10 ∨ x = 35) : x ∉ body k c r := by
  intro hm
  rcases List.mem_append.1 hm with hm | hm
  · have := digit_mem k x hm
    rcases hx with rfl | rfl
    · exact absurd this.1 (by decide)
    · exact absurd this.1 (by decide)
  · rcases List.mem_cons.1 hm with hm | hm
    · rcases hx with rfl | rfl <;> exact absurd hm (by decide)
    · rcases List.mem_append.1 hm with hm | hm
      · have := h.2.2.1 x hm
        rcases hx with rfl | rfl
        · exact absurd this.1 (by decide)
        · exact this.2.2 rfl
      · rcases List.mem_cons.1 hm with hm | hm
        · rcases hx with rfl | rfl <;> exact absurd hm (by decide)
        · have := h.2.2.2.2.2 x hm
          rcases hx with rfl | rfl
          · exact absurd this.1 (by decide)
          · exact this.2.2 rfl
theorem line_no {k : Nat} {c r : B} (h : Ok c r) : (10 : UInt8) ∉ line k c r := by
  intro hm
  rcases List.mem_append.1 hm with hm | hm
  · exact body_no h 10 (.inl rfl) hm
  · rcases List.mem_cons.1 hm with hm | hm
    · exact absurd hm (by decide)
    · exact absurd (digit_mem _ _ hm).1 (by decide)
theorem dig_no (k : Nat) (x : UInt8) (h : x.toNat < 48) : x ∉ decDigits k := fun hm => by
  have := (digit_mem _ _ hm).1
  omega
theorem line_text {k : Nat} {c r : B} (h : Ok c r) : upto 35 (line k c r) = body k c r := upto_app _ (body_no h 35 (.inr rfl))
theorem body_rest {k : Nat} {c r : B} : after 32 (body k c r) = c ++ 64 :: r := after_app _ (dig_no k 32 (by decide))
theorem rest_cmd {c r : B} (h : Ok c r) : upto 64 (c ++ 64 :: r) = c := upto_app _ h.2.2.2.1
theorem rest_rep {c r : B} (h : Ok c r) : after 64 (c ++ 64 :: r) = r := after_app _ h.2.2.2.1
theorem body_len (k : Nat) (c r : B) : (body k c r).length = (decDigits k).length + 2 + c.length + r.length := by
  simp [body]
  omega
theorem enc_len {k : Nat} {c r : B} (hk : k < 60) (h : Ok c r) : (enc k c r).length ≤ 372 ∧ 1 ≤ (enc k c r).length := by
  have h1 := digits_len_aux 1 k (by omega)
  have h2 := digits_len_aux 5 (sum (body k c r)) (by have := sum_lt (body k c r); omega)
  have h3 := h.2.1
  have h4 := h.2.2.2.2.1
  have := body_len k c r
  simp only [enc, line, List.length_append, List.length_cons, List.length_nil]
  omega
/-- Reads the record with the number k at the begin of a text, and how many bytes it has. -/
def dec (k : Nat) (s : B) : Option (B × B × Nat) :=
  if (10 : UInt8) ∈ s ∧ k < 60 ∧ Ok (upto 64 (after 32 (upto 35 (upto 10 s)))) (after 64 (after 32 (upto 35 (upto 10 s)))) ∧
      enc k (upto 64 (after 32 (upto 35 (upto 10 s)))) (after 64 (after 32 (upto 35 (upto 10 s)))) = upto 10 s ++ [10]
  then some (upto 64 (after 32 (upto 35 (upto 10 s))), after 64 (after 32 (upto 35 (upto 10 s))), (upto 10 s).length + 1) else none
theorem dec_some {k : Nat} {s c r : B} {n : Nat} : dec k s = some (c, r, n) ↔ k < 60 ∧ Ok c r ∧ enc k c r <+: s ∧ n = (enc k c r).length := by
  unfold dec
  constructor
  · intro h
    split at h
    · rename_i hc
      obtain ⟨h1, h2, h3, h4⟩ := hc
      simp only [Option.some.injEq, Prod.mk.injEq] at h
      obtain ⟨rfl, rfl, rfl⟩ := h
      refine ⟨h2, h3, ?_, ?_⟩
      · rw [h4]
        refine ⟨after 10 s, ?_⟩
        rw [List.append_assoc, List.singleton_append, ← cut_at h1]
      · rw [h4]
        simp
    · cases h
  · rintro ⟨h1, h2, ⟨t, ht⟩, rfl⟩
    have e : s = line k c r ++ 10 :: t := by rw [← ht]; simp [enc]
    have hu : upto 10 s = line k c r := by rw [e]; exact upto_app _ (line_no h2)
    have hm : (10 : UInt8) ∈ s := by rw [e]; simp
    rw [hu, line_text h2, body_rest, rest_cmd h2, rest_rep h2, if_pos ⟨hm, h1, h2, rfl⟩]
    simp [enc]
theorem dec_le {k : Nat} {s c r : B} {n : Nat} (h : dec k s = some (c, r, n)) : n ≤ s.length ∧ 1 ≤ n ∧ n ≤ 372 := by
  obtain ⟨h1, h2, h3, rfl⟩ := dec_some.1 h
  have := enc_len h1 h2
  exact ⟨h3.length_le, this.2, this.1⟩
theorem dec_app {k : Nat} {s : B} {x : B × B × Nat} (t : B) (h : dec k s = some x) : dec k (s ++ t) = some x := by
  obtain ⟨c, r, n⟩ := x
  obtain ⟨h1, h2, h3, h4⟩ := dec_some.1 h
  exact dec_some.2 ⟨h1, h2, h3.trans (List.prefix_append _ _), h4⟩
theorem dec_prefix {k : Nat} {s t : B} {x : B × B × Nat} (hp : s <+: t) (h : dec k s = some x) : dec k t = some x := by
  obtain ⟨u, rfl⟩ := hp
  exact dec_app u h
theorem dec_cut {k : Nat} {s : B} {x : B × B × Nat} {m : Nat} (h : dec k s = some x) (hm : x.2.2 ≤ m) : dec k (s.take m) = some x := by
  obtain ⟨c, r, n⟩ := x
  obtain ⟨h1, h2, h3, rfl⟩ := dec_some.1 h
  exact dec_some.2 ⟨h1, h2, List.prefix_take_iff.2 ⟨h3, hm⟩, rfl⟩
theorem dec_nil (k : Nat) : dec k [] = none := by simp [dec]
/-- All records, from the number k on, m at most. -/
def all : Nat → Nat → B → List (B × B × Nat)
  | 0, _, _ => []
  | m + 1, k, s => match dec k s with
    | none => []
    | some x => x :: all m (k + 1) (s.drop x.2.2)
def tot (l : List (B × B × Nat)) : Nat := (l.map (·.2.2)).sum
theorem all_nil (m k : Nat) : all m k [] = [] := by
  cases m with
  | zero => rfl
  | succ m => simp [all, dec_nil]
theorem all_none {m k : Nat} {s : B} (h : dec k s = none) : all m k s = [] := by
  cases m with
  | zero => rfl
  | succ m => simp [all, h]
theorem all_some {m k : Nat} {s : B} {x : B × B × Nat} (h : dec k s = some x) : all (m + 1) k s = x :: all m (k + 1) (s.drop x.2.2) := by simp [all, h]
theorem tot_cons (x : B × B × Nat) (l : List (B × B × Nat)) : tot (x :: l) = x.2.2 + tot l := by simp [tot]
theorem tot_app (l r : List (B × B × Nat)) : tot (l ++ r) = tot l + tot r := by simp [tot]
theorem all_len (m : Nat) : ∀ (k : Nat) (s : B), (all m k s).length ≤ m := by
  induction m with
  | zero => intro k s; simp [all]
  | succ m ih =>
    intro k s
    cases h : dec k s with
    | none => rw [all_none h]; simp
    | some x => rw [all_some h]; simp; exact ih _ _
theorem all_tot (m : Nat) : ∀ (k : Nat) (s : B), tot (all m k s) ≤ s.length := by
  induction m with
  | zero => intro k s; simp [all, tot]
  | succ m ih =>
    intro k s
    cases h : dec k s with
    | none => rw [all_none h]; simp [tot]
    | some x =>
      obtain ⟨c, r, n⟩ := x
      have h1 := (dec_le h).1
      have := ih (k + 1) (s.drop n)
      rw [all_some h, tot_cons]
      rw [List.length_drop] at this
      simp only
      omega
theorem all_tot372 (m : Nat) : ∀ (k : Nat) (s : B), tot (all m k s) ≤ 372 * m := by
  induction m with
  | zero => intro k s; simp [all, tot]
  | succ m ih =>
    intro k s
    cases h : dec k s with
    | none => rw [all_none h]; simp [tot]
    | some x =>
      obtain ⟨c, r, n⟩ := x
      have h1 := (dec_le h).2.2
      have := ih (k + 1) (s.drop n)
      rw [all_some h, tot_cons]
      simp only
      omega
/-- What is read of a text that is records alone goes on behind it. -/
theorem all_app (m : Nat) : ∀ (k : Nat) (s t : B), tot (all m k s) = s.length → all m k (s ++ t) = all m k s ++ all (m - (all m k s).length) (k + (all m k s).length) t := by
  induction m with
  | zero => intro k s t h; simp [all]
  | succ m ih =>
    intro k s t h
    by_cases h0 : s = []
    · subst h0
      simp [all_nil]
    · cases hd : dec k s with
      | none =>
        rw [all_none hd] at h
        exact absurd (List.length_eq_zero_iff.1 h.symm) h0
      | some x =>
        obtain ⟨c, r, n⟩ := x
        have hn := dec_le hd
        rw [all_some hd, tot_cons] at h
        simp only at h
        have hl : tot (all m (k + 1) (s.drop n)) = (s.drop n).length := by
          rw [List.length_drop]
          omega
        have e := ih (k + 1) (s.drop n) t hl
        rw [all_some (dec_app t hd), all_some hd]
        simp only [List.length_cons, List.cons_append]
        rw [List.drop_append_of_le_length hn.1, e]
        congr 3
        · omega
        · omega
theorem all_one {m k : Nat} {c r : B} (hk : k < 60) (h : Ok c r) : all (m + 1) k (enc k c r) = [(c, r, (enc k c r).length)] := by
  have hd : dec k (enc k c r) = some (c, r, (enc k c r).length) := dec_some.2 ⟨hk, h, List.prefix_refl _, rfl⟩
  rw [all_some hd]
  simp [all_nil]
theorem all_over (m k : Nat) (s : B) (h : 60 ≤ k) : all m k s = [] := all_none (by
  cases hd : dec k s with
  | none => rfl
  | some x =>
    obtain ⟨c, r, n⟩ := x
    have := (dec_some.1 hd).1
    omega)
/-- A place between records: the records ahead of it are just those of the text ahead of it. -/
theorem ends_iff (m : Nat) : ∀ (k : Nat) (D P : B), (∃ j, j ≤ (all m k (D ++ P)).length ∧ tot ((all m k (D ++ P)).take j) = D.length) ↔ tot (all m k D) = D.length := by
  induction m with
  | zero => intro k D P; simp [all, tot]
  | succ m ih =>
    intro k D P
    by_cases h0 : D = []
    · subst h0
      simp only [List.length_nil, all_nil]
      exact ⟨fun _ => rfl, fun _ => ⟨0, Nat.zero_le _, rfl⟩⟩
    have hD : 0 < D.length := List.length_pos_iff.2 h0
    have none_D : dec k D = none → ¬ tot (all (m + 1) k D) = D.length := fun h e => by
      rw [all_none h] at e
      simp [tot] at e
      omega
    cases hs : dec k (D ++ P) with
    | none =>
      have hd : dec k D = none := by
        cases hd : dec k D with
        | none => rfl
        | some x => rw [dec_app P hd] at hs; cases hs
      rw [all_none hs]
      refine ⟨?_, fun e => absurd e (none_D hd)⟩
      rintro ⟨j, hj, e⟩
      simp [tot] at e
      omega
    | some x =>
      obtain ⟨c, r, n⟩ := x
      have hn := dec_le hs
      rw [all_some hs]
      by_cases hc : n ≤ D.length
      · have hd : dec k D = some (c, r, n) := by
          have := dec_cut (m := D.length) hs hc
          rwa [List.take_left] at this
        rw [all_some hd, tot_cons]
        simp only
        have e := ih (k + 1) (D.drop n) P
        rw [← List.drop_append_of_le_length hc] at e
        constructor
        · rintro ⟨j, hj, h⟩
          cases j with
          | zero => simp [tot] at h; omega
          | succ j =>
            rw [List.take_succ_cons, tot_cons] at h
            simp only at h
            have := e.1 ⟨j, by simpa using hj, by rw [List.length_drop]; omega⟩
            rw [List.length_drop] at this
            omega
        · intro h
          obtain ⟨j, hj, h'⟩ := e.2 (by rw [List.length_drop]; omega)
          rw [List.length_drop] at h'
          refine ⟨j + 1, by simpa using hj, ?_⟩
          rw [List.take_succ_cons, tot_cons]
          simp only
          omega
      · have hd : dec k D = none := by
          cases hd : dec k D with
          | none => rfl
          | some x =>
            obtain ⟨c', r', n'⟩ := x
            rw [dec_app P hd] at hs
            have := dec_le hd
            simp only [Option.some.injEq, Prod.mk.injEq] at hs
            omega
        refine ⟨?_, fun e => absurd e (none_D hd)⟩
        rintro ⟨j, hj, h⟩
        cases j with
        | zero => simp [tot] at h; omega
        | succ j =>
          rw [List.take_succ_cons, tot_cons] at h
          simp only at h
          omega
end Go.Proofs.YtdpinnhgkocjhaaDoor.Log

/-
What is proved: what the printed functions on log records compute, over lists of bytes.
Conditions: sizes far below the machine's, enough rounds.
-/
namespace Go.Proofs.YtdpinnhgkocjhaaDoor.Pr.Pure
open Go.RowKit Go.Proofs.YtdpinnhgkocjhaaDoorW.PrintWords Go.Proofs.YtdpinnhgkocjhaaDoorW.PrintLast Go.Proofs.YtdpinnhgkocjhaaDoorW.PrintMore Go.Proofs.YtdpinnhgkocjhaaDoor.Log Go.Lib
set_option linter.unusedVariables false
set_option linter.unusedSimpArgs false

theorem w64 {x : Int} (h1 : -9223372036854775808 ≤ x) (h2 : x ≤ 9223372036854775807) : wrap64 x = x := by
  unfold wrap64
  omega
theorem i64b {x : Int} (h : (Lit.int .i64 x).wf = true) : -9223372036854775808 ≤ x ∧ x ≤ 9223372036854775807 := by
  simp [Lit.wf, IntKind.min, IntKind.max, IntKind.signed, IntKind.bits] at h
  omega
theorem set_map_step {α β : Type} (f : α → β) (l : List α) (z : β) (i : Nat) (hi : i < l.length) (a : α) (ha : l[i]? = some a) :
    ((l.take i).map f ++ List.replicate (l.length - i) z).set i (f a) = (l.take (i + 1)).map f ++ List.replicate (l.length - (i + 1)) z := by
  have h1 : ((l.take i).map f).length = i := by simp; omega
  rw [List.set_append_right _ _ (by omega), h1, Nat.sub_self]
  obtain ⟨m, hm⟩ : ∃ m, l.length - i = m + 1 := ⟨l.length - i - 1, by omega⟩
  rw [hm, show l.length - (i + 1) = m by omega, List.replicate_succ, List.set_cons_zero, List.take_add_one, ha]
  simp
theorem getD_some {α : Type} (l : List α) (z : α) (i : Nat) (h : i < l.length) : l[i]? = some (l.getD i z) := by
  rw [List.getD_eq_getElem?_getD, List.getElem?_eq_getElem h]
  rfl

/-- As Option.bind_some, but no rewriting by definition (the kernel would unfold too much). -/
theorem obs {α β : Type} (a : α) (f : α → Option β) : (some a).bind f = f a := id (Option.bind_some a f)
/-- A list of bytes as a string. -/
def M (l : List UInt8) : ByteArray := ⟨l.toArray⟩
theorem ex_M (b : ByteArray) : ∃ l, b = M l := ⟨b.data.toList, by unfold M; rw [Array.toArray_toList]⟩
theorem M_size (l : List UInt8) : (M l).size = l.length := by simp [M, ByteArray.size]
theorem M_data (l : List UInt8) : (M l).data.toList = l := by simp [M]
theorem M_inj {a b : List UInt8} : M a = M b ↔ a = b := ⟨fun h => by
  have := congrArg (fun x : ByteArray => x.data.toList) h
  simpa [M] using this, fun h => by rw [h]⟩
theorem M_toList (l : List UInt8) : (M l).toList = l := by rw [ByteArray.toList_eq, M_data]
theorem sc_M (a b : List UInt8) : sc (M a) (M b) = M (a ++ b) := by
  apply ByteArray.ext
  unfold sc M
  rw [ByteArray.data_append]
  simp
theorem sx_M (a : List UInt8) (i j : Nat) : sx (M a) i j = M ((a.drop i).take (j - i)) := by
  apply ByteArray.ext
  unfold sx M
  rw [ByteArray.data_extract]
  simp [List.extract_eq_take_drop]
theorem bt_M (l : List UInt8) (i : Nat) : bt (M l) (i : Int) = ((l.getD i 0).toNat : Int) := by
  have hb := rd_bytesOf (M l) (i : Int)
  rw [← hb]
  unfold rd bytesOf
  rw [M_data, Int.toNat_natCast, List.getD_eq_getElem?_getD, List.getD_eq_getElem?_getD, List.getElem?_map]
  cases l[i]? <;> rfl
theorem lit_M (l : List UInt8) : (⟨l.toArray⟩ : ByteArray) = M l := rfl
theorem drop_at (l : List UInt8) (i : Nat) (h : i < l.length) : l.drop i = l.getD i 0 :: l.drop (i + 1) := by
  rw [List.drop_eq_getElem_cons h, List.getD_eq_getElem?_getD, List.getElem?_eq_getElem h]
  rfl
theorem byte_eq (x : UInt8) (c : Nat) (hc : c < 256) : ((x.toNat : Int) = (c : Int)) ↔ x = UInt8.ofNat c := by
  constructor
  · intro h
    apply UInt8.toNat_inj.1
    rw [UInt8.toNat_ofNat']
    omega
  · rintro rfl
    rw [UInt8.toNat_ofNat']
    omega
theorem byte_rng (x : UInt8) : 0 ≤ (x.toNat : Int) ∧ (x.toNat : Int) ≤ 255 := by
  have := x.toNat_lt
  omega
theorem l1In_eq (a b c : Int) : spec_l1In.f a b c = some (decide (b ≤ a ∧ a ≤ c)) := by
  unfold spec_l1In.f
  by_cases h : b ≤ a
  · rw [if_pos h]; simp [h]
  · rw [if_neg (by omega)]; simp [h]
theorem within_eq (a b c : Int) : impl_within.f a b c = some (decide (b ≤ a ∧ a ≤ c)) := by
  unfold impl_within.f
  by_cases h : b ≤ a
  · rw [if_pos h]; simp [h]
  · rw [if_neg (by omega)]; simp [h]
theorem plain_nil : Plain [] := fun b h => by simp at h
theorem plain_cons (x : UInt8) (l : List UInt8) : Plain (x :: l) ↔ (32 ≤ x.toNat ∧ x.toNat ≤ 126 ∧ x ≠ 35) ∧ Plain l := by simp [Plain]
theorem isPlain_l0 (l : List UInt8) (hl : l.length ≤ 4611686018427387904) (d : Nat) : ∀ (k i : Nat), i + d = l.length → d < k → impl_isPlain.l0 k (M l) l.length i = some (decide (Plain (l.drop i))) := by
  induction d with
  | zero =>
    intro k i hd hk
    obtain ⟨k, rfl⟩ : ∃ m, k = m + 1 := ⟨k - 1, by omega⟩
    simp only [impl_isPlain.l0]
    rw [if_neg (by omega), List.drop_of_length_le (by omega)]
    simp [plain_nil]
  | succ d ih =>
    intro k i hd hk
    obtain ⟨k, rfl⟩ : ∃ m, k = m + 1 := ⟨k - 1, by omega⟩
    simp only [impl_isPlain.l0]
    rw [if_pos (by omega), if_pos (by omega), if_pos (by rw [M_size]; omega), bt_M, drop_at l i (by omega)]
    generalize l.getD i 0 = x
    have hx := byte_rng x
    rw [w64 (by omega) (by omega), w64 (by omega) (by omega), within_eq]
    simp only [Option.bind_some, decide_eq_true_eq]
    have ih' := ih k (i + 1) (by omega) (by omega)
    rw [show ((i + 1 : Nat) : Int) = (i : Int) + 1 by omega] at ih'
    by_cases h1 : (32 : Int) ≤ x.toNat ∧ (x.toNat : Int) ≤ 126
    · rw [if_pos h1]
      by_cases h2 : (x.toNat : Int) = 35
      · rw [if_pos h2]
        have : x = 35 := (byte_eq x 35 (by omega)).1 h2
        subst this
        simp [plain_cons]
      · rw [if_neg h2, ih']
        have h3 : x ≠ 35 := fun e => h2 (by rw [e]; rfl)
        have : (Plain (x :: l.drop (i + 1)) ↔ Plain (l.drop (i + 1))) := by
          rw [plain_cons]
          exact ⟨fun h => h.2, fun h => ⟨⟨by omega, by omega, h3⟩, h⟩⟩
        simp [this]
    · rw [if_neg h1]
      have : ¬ Plain (x :: l.drop (i + 1)) := by
        rw [plain_cons]
        rintro ⟨⟨a, b, _⟩, _⟩
        exact h1 ⟨by omega, by omega⟩
      simp [this]
theorem isPlain_eq (l : List UInt8) (hl : l.length ≤ 4611686018427387904) {k : Nat} (hk : l.length < k) : impl_isPlain.f k (M l) = some (decide (Plain l)) := by
  unfold impl_isPlain.f
  rw [M_size]
  simpa using isPlain_l0 l hl l.length k 0 (by omega) hk
theorem plain_l0 (l : List UInt8) (m : Int) (hl : l.length ≤ 4611686018427387904) (d : Nat) : ∀ (k i : Nat), i + d = l.length → d < k → spec_l27Plain.l0 k (M l) m i = some (decide (Plain (l.drop i) ∧ (l.length : Int) ≤ m)) := by
  induction d with
  | zero =>
    intro k i hd hk
    obtain ⟨k, rfl⟩ : ∃ m, k = m + 1 := ⟨k - 1, by omega⟩
    simp only [spec_l27Plain.l0]
    rw [M_size, if_neg (by omega), List.drop_of_length_le (by omega)]
    simp [plain_nil]
  | succ d ih =>
    intro k i hd hk
    obtain ⟨k, rfl⟩ : ∃ m, k = m + 1 := ⟨k - 1, by omega⟩
    simp only [spec_l27Plain.l0]
    rw [M_size, if_pos (by omega), if_pos (by omega), bt_M, drop_at l i (by omega)]
    generalize l.getD i 0 = x
    have hx := byte_rng x
    rw [w64 (by omega) (by omega), w64 (by omega) (by omega), l1In_eq]
    simp only [Option.bind_some, decide_eq_true_eq]
    have ih' := ih k (i + 1) (by omega) (by omega)
    rw [show ((i + 1 : Nat) : Int) = (i : Int) + 1 by omega] at ih'
    by_cases h1 : (32 : Int) ≤ x.toNat ∧ (x.toNat : Int) ≤ 126
    · rw [if_pos h1]
      by_cases h2 : (x.toNat : Int) = 35
      · rw [if_pos h2]
        have : x = 35 := (byte_eq x 35 (by omega)).1 h2
        subst this
        simp [plain_cons]
      · rw [if_neg h2, ih']
        have h3 : x ≠ 35 := fun e => h2 (by rw [e]; rfl)
        have : (Plain (x :: l.drop (i + 1)) ↔ Plain (l.drop (i + 1))) := by
          rw [plain_cons]
          exact ⟨fun h => h.2, fun h => ⟨⟨by omega, by omega, h3⟩, h⟩⟩
        simp [this]
    · rw [if_neg h1]
      have : ¬ Plain (x :: l.drop (i + 1)) := by
        rw [plain_cons]
        rintro ⟨⟨a, b, _⟩, _⟩
        exact h1 ⟨by omega, by omega⟩
      simp [this]
theorem plain_eq (l : List UInt8) (m : Int) (hl : l.length ≤ 4611686018427387904) {k : Nat} (hk : l.length < k) : spec_l27Plain.f k (M l) m = some (decide (Plain l ∧ (l.length : Int) ≤ m)) := by
  unfold spec_l27Plain.f
  simpa using plain_l0 l m hl l.length k 0 (by omega) hk
theorem stands_l0 (l : List UInt8) (c : Nat) (hc : c < 256) (hl : l.length ≤ 4611686018427387904) (d : Nat) : ∀ (k i : Nat), i + d = l.length → d < k → spec_l1Stands.l0 k (M l) c i = some (decide (UInt8.ofNat c ∈ l.drop i)) := by
  induction d with
  | zero =>
    intro k i hd hk
    obtain ⟨k, rfl⟩ : ∃ m, k = m + 1 := ⟨k - 1, by omega⟩
    simp only [spec_l1Stands.l0]
    rw [M_size, if_neg (by omega), List.drop_of_length_le (by omega)]
    simp
  | succ d ih =>
    intro k i hd hk
    obtain ⟨k, rfl⟩ : ∃ m, k = m + 1 := ⟨k - 1, by omega⟩
    simp only [spec_l1Stands.l0]
    rw [M_size, if_pos (by omega), if_pos (by omega), bt_M, drop_at l i (by omega)]
    generalize l.getD i 0 = x
    rw [w64 (by omega) (by omega)]
    have ih' := ih k (i + 1) (by omega) (by omega)
    rw [show ((i + 1 : Nat) : Int) = (i : Int) + 1 by omega] at ih'
    by_cases h1 : (x.toNat : Int) = (c : Int)
    · rw [if_pos h1]
      have : UInt8.ofNat c = x := ((byte_eq x c hc).1 h1).symm
      simp [this]
    · rw [if_neg h1, ih']
      have : ¬ UInt8.ofNat c = x := fun e => h1 ((byte_eq x c hc).2 e.symm)
      simp [this]
theorem stands_eq (l : List UInt8) (c : Nat) (hc : c < 256) (hl : l.length ≤ 4611686018427387904) {k : Nat} (hk : l.length < k) : spec_l1Stands.f k (M l) c = some (decide (UInt8.ofNat c ∈ l)) := by
  unfold spec_l1Stands.f
  simpa using stands_l0 l c hc hl l.length k 0 (by omega) hk
theorem index_eq (l : List UInt8) (c : UInt8) : stringslite_Index.f (M l) (M [c]) = some (indexByte l c) := by
  unfold stringslite_Index.f
  rw [M_size, M_data, M_data]
  rfl
theorem contains_eq (l : List UInt8) (c : UInt8) : strings_Contains.f (M l) (M [c]) = some (decide (c ∈ l)) := by
  unfold strings_Contains.f strings_Index.f
  rw [index_eq]
  simp only [Option.bind_some]
  by_cases h : c ∈ l
  · rw [index_some h]
    simp [h]
  · rw [index_none h]
    simp [h]
theorem dec_of {p : Prop} [Decidable p] {b : Bool} (h : b = true ↔ p) : some b = some (decide p) := by
  congr 1
  rw [Bool.eq_iff_iff, h, decide_eq_true_eq]
theorem isRec_eq (c r : List UInt8) (hc : c.length ≤ 4611686018427387904) (hr : r.length ≤ 4611686018427387904) {k : Nat} (hk : c.length + r.length < k) : impl_IsValidRecord.f k (M c) (M r) = some (decide (Ok c r)) := by
  unfold impl_IsValidRecord.f impl_isCommand.f
  rw [within_eq, isPlain_eq c hc (by omega), isPlain_eq r hr (by omega), M_size, M_size, show (⟨#[64]⟩ : ByteArray) = M [64] from rfl, contains_eq]
  simp only [Option.bind_some, decide_eq_true_eq]
  by_cases h1 : (1 : Int) ≤ c.length ∧ (c.length : Int) ≤ 160
  · rw [if_pos h1]
    have a1 : 1 ≤ c.length := by omega
    have a2 : c.length ≤ 160 := by omega
    by_cases h2 : Plain c
    · rw [if_pos h2]
      simp only [Option.bind_some]
      by_cases h3 : (64 : UInt8) ∈ c
      · rw [if_neg (by simp [h3])]
        exact dec_of ⟨fun h => by simp at h, fun h => absurd h3 h.2.2.2.1⟩
      · rw [if_pos (by simp [h3])]
        by_cases h4 : (r.length : Int) ≤ 200
        · rw [if_pos h4]
          exact dec_of ⟨fun h => ⟨a1, a2, h2, h3, by omega, of_decide_eq_true h⟩, fun h => decide_eq_true h.2.2.2.2.2⟩
        · rw [if_neg h4]
          exact dec_of ⟨fun h => by simp at h, fun h => absurd h.2.2.2.2.1 (by omega)⟩
    · rw [if_neg h2]
      simp only [Option.bind_some]
      rw [if_neg (by simp)]
      exact dec_of ⟨fun h => by simp at h, fun h => absurd h.2.2.1 h2⟩
  · rw [if_neg h1]
    simp only [Option.bind_some]
    rw [if_neg (by simp)]
    exact dec_of ⟨fun h => by simp at h, fun h => absurd (And.intro h.1 h.2.1) (fun h => h1 ⟨by omega, by omega⟩)⟩
theorem good_eq (c r : List UInt8) (hc : c.length ≤ 4611686018427387904) (hr : r.length ≤ 4611686018427387904) {k : Nat} (hk : c.length + r.length < k) : spec_l27Good.f k (M c) (M r) = some (decide (Ok c r)) := by
  unfold spec_l27Good.f
  rw [M_toList, plain_eq c 160 hc (by omega), plain_eq r 200 hr (by omega), show (64 : Int) = ((64 : Nat) : Int) from rfl, stands_eq c 64 (by omega) hc (by omega)]
  simp only [Option.bind_some, decide_eq_true_eq]
  by_cases h1 : c = []
  · rw [if_pos h1]
    exact dec_of ⟨fun h => by simp at h, fun h => absurd h.1 (by simp [h1])⟩
  · rw [if_neg h1]
    have a1 : 1 ≤ c.length := by have := List.length_pos_iff.2 h1; omega
    by_cases h2 : Plain c ∧ (c.length : Int) ≤ 160
    · rw [if_pos h2]
      have a2 : c.length ≤ 160 := by omega
      by_cases h3 : UInt8.ofNat 64 ∈ c
      · rw [if_pos h3]
        exact dec_of ⟨fun h => by simp at h, fun h => absurd h3 h.2.2.2.1⟩
      · rw [if_neg h3]
        refine dec_of ⟨fun h => ?_, fun h => decide_eq_true ⟨h.2.2.2.2.2, by have := h.2.2.2.2.1; omega⟩⟩
        have h := of_decide_eq_true h
        exact ⟨a1, a2, h2.1, h3, by omega, h.1⟩
    · rw [if_neg h2]
      exact dec_of ⟨fun h => by simp at h, fun h => absurd (And.intro h.2.2.1 h.2.1) (fun h => h2 ⟨h.1, by omega⟩)⟩
end Go.Proofs.YtdpinnhgkocjhaaDoor.Pr.Pure

/-
What is proved: what the printed functions on log records compute, over lists of bytes.
Conditions: sizes far below the machine's, enough rounds.
-/
namespace Go.Proofs.YtdpinnhgkocjhaaDoor.Pr.Pure
open Go.RowKit Go.Proofs.YtdpinnhgkocjhaaDoorW.PrintWords Go.Proofs.YtdpinnhgkocjhaaDoorW.PrintLast Go.Proofs.YtdpinnhgkocjhaaDoorW.PrintMore Go.Proofs.YtdpinnhgkocjhaaDoor.Log Go.Lib
set_option linter.unusedVariables false
set_option linter.unusedSimpArgs false
theorem cut_eq (l : List UInt8) (c : UInt8) (hl : l.length ≤ 4611686018427387904) : strings_Cut.f (M l) (M [c]) = some (M (upto c l), M (after c l), decide (c ∈ l)) := by
  unfold strings_Cut.f stringslite_Cut.f
  rw [index_eq]
  simp only [Option.bind_some]
  by_cases h : c ∈ l
  · have hlt := upto_lt h
    rw [index_some h, M_size, M_size, w64 (by simp; omega) (by simp; omega), if_pos (by omega), if_pos (by omega), if_pos (by omega), if_pos (by first | omega | (simp; done) | (simp; omega)), if_pos (by first | omega | (simp; done) | (simp; omega))]
    simp only [Option.bind_some, sx_M, Option.some.injEq, Prod.mk.injEq, M_inj, h, decide_true, and_true]
    constructor
    · rw [Int.toNat_natCast, List.drop_zero, Nat.sub_zero, ← upto_take]
    · rw [after_drop c h, show (((upto c l).length : Int) + ([c].length : Nat)).toNat = (upto c l).length + 1 by (first | omega | (simp; done) | (simp; omega)), List.take_of_length_le (by first | omega | (simp; done) | (simp; omega))]
  · rw [index_none h, if_neg (by omega)]
    simp only [Option.bind_some, Option.some.injEq, Prod.mk.injEq, h, decide_false, and_true, upto_none h, after_none h, true_and]
    rfl
theorem step_rng (n : Nat) (x : UInt8) (h : n < 999979) : Int.tmod (wrap64 (wrap64 (wrap64 (41 * (n : Int)) + wrap64 (x.toNat : Int)) + 1)) 999979 = (((41 * n + x.toNat + 1) % 999979 : Nat) : Int) := by
  have hx := byte_rng x
  rw [w64 (x := 41 * (n : Int)) (by omega) (by omega), w64 (x := (x.toNat : Int)) (by omega) (by omega), w64 (x := 41 * (n : Int) + x.toNat) (by omega) (by omega), w64 (by omega) (by omega)]
  rw [Int.tmod_eq_emod_of_nonneg (by omega)]
  omega
theorem checksum_l0 (l : List UInt8) (hl : l.length ≤ 4611686018427387904) (d : Nat) : ∀ (k i n : Nat), n < 999979 → i + d = l.length → d < k →
    impl_checksum.l0 k (M l) n l.length i = some (((l.drop i).foldl (fun n b => (41 * n + b.toNat + 1) % 999979) n : Nat) : Int) ∧
    spec_l1Sum.l0 k (M l) n i = some (((l.drop i).foldl (fun n b => (41 * n + b.toNat + 1) % 999979) n : Nat) : Int) := by
  induction d with
  | zero =>
    intro k i n hn hd hk
    obtain ⟨k, rfl⟩ : ∃ m, k = m + 1 := ⟨k - 1, by omega⟩
    simp only [impl_checksum.l0, spec_l1Sum.l0]
    rw [M_size, if_neg (by omega), if_neg (by omega), List.drop_of_length_le (by omega)]
    simp
  | succ d ih =>
    intro k i n hn hd hk
    obtain ⟨k, rfl⟩ : ∃ m, k = m + 1 := ⟨k - 1, by omega⟩
    simp only [impl_checksum.l0, spec_l1Sum.l0]
    rw [M_size, if_pos (by omega), if_pos (by omega), if_pos (by omega), if_pos (by omega), if_pos (by omega), bt_M, drop_at l i (by omega)]
    generalize l.getD i 0 = x
    rw [step_rng n x hn, w64 (x := (i : Int) + 1) (by omega) (by omega)]
    have := ih k (i + 1) ((41 * n + x.toNat + 1) % 999979) (Nat.mod_lt _ (by omega)) (by omega) (by omega)
    rw [show ((i + 1 : Nat) : Int) = (i : Int) + 1 by omega] at this
    exact this
theorem checksum_eq (l : List UInt8) (hl : l.length ≤ 4611686018427387904) {k : Nat} (hk : l.length < k) : impl_checksum.f k (M l) = some ((sum l : Nat) : Int) ∧ spec_l1Sum.f k (M l) = some ((sum l : Nat) : Int) := by
  unfold impl_checksum.f spec_l1Sum.f sum
  rw [M_size]
  simpa using checksum_l0 l hl l.length k 0 7 (by omega) (by omega) hk
theorem itoa_nat (n : Nat) : itoa (n : Int) = decDigits n := by
  unfold itoa
  rw [if_neg (by omega), Int.toNat_natCast]
theorem decimal_eq {a : Int} (h0 : -9223372036854775808 ≤ a) (h1 : a ≤ 9223372036854775807) : impl_decimal.f a = some (M (itoa a)) := by
  unfold impl_decimal.f strconv_Itoa_76.f
  rw [if_pos h0, if_pos h1]
  rfl
theorem dig_at (n : Nat) (h : n < 10) : (([48, 49, 50, 51, 52, 53, 54, 55, 56, 57] : List UInt8).drop n).take 1 = [UInt8.ofNat (48 + n)] := by
  match n, h with
  | 0, _ => rfl
  | 1, _ => rfl
  | 2, _ => rfl
  | 3, _ => rfl
  | 4, _ => rfl
  | 5, _ => rfl
  | 6, _ => rfl
  | 7, _ => rfl
  | 8, _ => rfl
  | 9, _ => rfl
theorem num_small (k n : Nat) (h : n < 10) : spec_l1Num.f (k + 1) (n : Int) = some (M (decDigits n)) := by
  rw [spec_l1Num.f, if_neg (by omega), if_pos (by omega), if_pos (by omega), w64 (by omega) (by omega), if_pos (by omega), if_pos (by omega), show (⟨#[48, 49, 50, 51, 52, 53, 54, 55, 56, 57]⟩ : ByteArray) = M [48, 49, 50, 51, 52, 53, 54, 55, 56, 57] from rfl, sx_M, show ((n : Int) + 1).toNat - (n : Int).toNat = 1 by omega, Int.toNat_natCast, dig_at n h, decDigits, dif_pos h]
theorem num_div (n : Nat) (hn : n ≤ 1000000000000000000) : wrap64 (Int.tdiv (n : Int) 10) = ((n / 10 : Nat) : Int) := by
    rw [Int.tdiv_eq_ediv_of_nonneg (by omega)]
    unfold wrap64
    omega
theorem num_mod (n : Nat) : Int.tmod (n : Int) 10 = ((n % 10 : Nat) : Int) := by
    rw [Int.tmod_eq_emod_of_nonneg (by omega)]
    omega
theorem num_app (n : Nat) (h10 : ¬ n < 10) : decDigits n = decDigits (n / 10) ++ [UInt8.ofNat (48 + n % 10)] := by
    conv => lhs; rw [decDigits, dif_neg h10]
theorem num_dig (q : Nat) (hm : q < 10) : sx (⟨#[48, 49, 50, 51, 52, 53, 54, 55, 56, 57]⟩ : ByteArray) ((q : Int).toNat) ((wrap64 ((q : Int) + 1) : Int).toNat) = M [UInt8.ofNat (48 + q)] := by
  rw [w64 (by omega) (by omega), show (⟨#[48, 49, 50, 51, 52, 53, 54, 55, 56, 57]⟩ : ByteArray) = M [48, 49, 50, 51, 52, 53, 54, 55, 56, 57] from rfl, sx_M, show ((q : Int) + 1).toNat - (q : Int).toNat = 1 by omega, Int.toNat_natCast, dig_at q hm]
theorem num_unf (k : Nat) (a0 : Int) (D d : ByteArray) (q : Int) (h : ¬ a0 < 0) (h2 : ¬ a0 < 10) (hq : Int.tmod a0 10 = q) (hb : spec_l1Num.f k (wrap64 (Int.tdiv a0 10)) = some D) (c1 : 0 ≤ q) (c2 : q ≤ wrap64 (q + 1)) (c3 : wrap64 (q + 1) ≤ 10)
    (hd : sx (⟨#[48, 49, 50, 51, 52, 53, 54, 55, 56, 57]⟩ : ByteArray) ((q : Int).toNat) ((wrap64 (q + 1) : Int).toNat) = d) (c4 : D.size + d.size ≤ 9223372036854775807) : spec_l1Num.f (k + 1) a0 = some (sc D d) := by
  subst hd
  subst hq
  rw [spec_l1Num.f, if_neg h, if_neg h2, hb, Option.bind_some, if_pos c1, if_pos c2, if_pos c3, if_pos c4]
theorem num_step (k n : Nat) (h10 : ¬ n < 10) (hn : n ≤ 1000000000000000000) (ih : spec_l1Num.f k ((n / 10 : Nat) : Int) = some (M (decDigits (n / 10)))) (hl : (decDigits (n / 10)).length ≤ 40) : spec_l1Num.f (k + 1) (n : Int) = some (M (decDigits n)) := by
  have hq : n % 10 < 10 := Nat.mod_lt _ (by omega)
  have hw : wrap64 (((n % 10 : Nat) : Int) + 1) = ((n % 10 : Nat) : Int) + 1 := w64 (by omega) (by omega)
  have := num_unf k n (M (decDigits (n / 10))) (M [UInt8.ofNat (48 + n % 10)]) ((n % 10 : Nat) : Int) (by omega) (by omega) (num_mod n) (by rw [num_div n hn]; exact ih) (by omega) (by rw [hw]; omega) (by rw [hw]; omega) (num_dig _ hq) (by rw [M_size, M_size]; simp only [List.length_cons, List.length_nil]; omega)
  rw [this, sc_M, ← num_app n h10]
theorem num_of {n k : Nat} (h : n ≤ 1000000000000000000) (hk : 20 ≤ k) : spec_l1Num.f k (n : Int) = some (M (decDigits n)) := by
  have all : ∀ (j k n : Nat), n ≤ 1000000000000000000 → n < 10 ^ (j + 1) → j ≤ 19 → j < k → spec_l1Num.f k (n : Int) = some (M (decDigits n)) := by
    intro j
    induction j with
    | zero =>
      intro k n h hj h19 hk
      obtain ⟨k, rfl⟩ : ∃ m, k = m + 1 := ⟨k - 1, by omega⟩
      exact num_small k n (by omega)
    | succ j ih =>
      intro k n h hj h19 hk
      obtain ⟨k, rfl⟩ : ∃ m, k = m + 1 := ⟨k - 1, by omega⟩
      by_cases h10 : n < 10
      · exact num_small k n h10
      · have hd : n / 10 < 10 ^ (j + 1) := by
          rw [Nat.pow_succ] at hj
          omega
        exact num_step k n h10 h (ih k (n / 10) (by omega) hd (by omega) (by omega)) (Nat.le_trans (digits_len_aux j (n / 10) hd) (by omega))
  exact all 19 k n h (Nat.lt_of_le_of_lt h (by decide)) (by omega) (by omega)
/-- Lengths for which nothing wraps. -/
theorem encode_eq {a k : Nat} (ha : a ≤ 1000000000000000000) (c r : List UInt8) (hc : c.length ≤ 1152921504606846976) (hr : r.length ≤ 1152921504606846976) (hk : c.length + r.length + 60 < k) : impl_encode.f k a (M c) (M r) = some (M (enc a c r)) := by
  have hd := digits_len_aux 19 a (by omega)
  have hb := body_len a c r
  have hs := sum_lt (body a c r)
  have hd2 := digits_len_aux 5 (sum (body a c r)) (by omega)
  unfold impl_encode.f
  rw [decimal_eq (by omega) (by omega), itoa_nat]
  simp only [Option.bind_some, show (⟨#[32]⟩ : ByteArray) = M [32] from rfl, show (⟨#[64]⟩ : ByteArray) = M [64] from rfl, show (⟨#[35]⟩ : ByteArray) = M [35] from rfl, show (⟨#[10]⟩ : ByteArray) = M [10] from rfl, sc_M, M_size]
  have e : decDigits a ++ [32] ++ c ++ [64] ++ r = body a c r := by simp [body]
  rw [e]
  have hks : (body a c r).length < k := by omega
  rw [(checksum_eq (body a c r) (by omega) hks).1]
  simp only [Option.bind_some]
  rw [decimal_eq (by omega) (by omega), itoa_nat]
  simp only [Option.bind_some, sc_M, M_size]
  rw [if_pos (by omega), if_pos (by simp; omega), if_pos (by simp; omega), if_pos (by simp; omega), if_pos (by omega), if_pos (by simp; omega), if_pos (by simp; omega)]
  simp [enc, line]
theorem line_eq {a k : Nat} (ha : a ≤ 1000000000000000000) (c r : List UInt8) (hc : c.length ≤ 1152921504606846976) (hr : r.length ≤ 1152921504606846976) (hk : c.length + r.length + 60 < k) : spec_l27Line.f k a (M c) (M r) = some (M (enc a c r)) := by
  have hd := digits_len_aux 19 a (by omega)
  have hb := body_len a c r
  have hs := sum_lt (body a c r)
  have hd2 := digits_len_aux 5 (sum (body a c r)) (by omega)
  unfold spec_l27Line.f
  rw [num_of ha (by omega)]
  simp only [Option.bind_some, show (⟨#[32]⟩ : ByteArray) = M [32] from rfl, show (⟨#[64]⟩ : ByteArray) = M [64] from rfl, show (⟨#[10]⟩ : ByteArray) = M [10] from rfl, sc_M, M_size]
  have e : decDigits a ++ [32] ++ c ++ [64] ++ r = body a c r := by simp [body]
  rw [e]
  have hks : (body a c r).length < k := by omega
  have hseal : spec_l1Seal.f k (M (body a c r)) = some (M (line a c r)) := by
    unfold spec_l1Seal.f
    rw [(checksum_eq (body a c r) (by omega) hks).2]
    simp only [Option.bind_some]
    rw [num_of (by omega) (by omega)]
    simp only [Option.bind_some, show (⟨#[35]⟩ : ByteArray) = M [35] from rfl, sc_M, M_size]
    rw [if_pos (by omega), if_pos (by simp; omega)]
    simp [line]
  rw [hseal]
  simp only [Option.bind_some, sc_M, M_size]
  have hll : (line a c r).length = (body a c r).length + 1 + (decDigits (sum (body a c r))).length := by simp [line]; omega
  rw [if_pos (by omega), if_pos (by simp; omega), if_pos (by simp; omega), if_pos (by simp; omega), if_pos (by omega)]
  rfl
end Go.Proofs.YtdpinnhgkocjhaaDoor.Pr.Pure

/-
What is proved: how the printed functions read a log's records, over lists of bytes.
Conditions: sizes far below the machine's, enough rounds.
-/
namespace Go.Proofs.YtdpinnhgkocjhaaDoor.Pr.Pure
open Go.RowKit Go.Proofs.YtdpinnhgkocjhaaDoorW.PrintWords Go.Proofs.YtdpinnhgkocjhaaDoorW.PrintLast Go.Proofs.YtdpinnhgkocjhaaDoorW.PrintMore Go.Proofs.YtdpinnhgkocjhaaDoor.Log Go.Lib
set_option linter.unusedVariables false
set_option linter.unusedSimpArgs false
/-- The pieces between the bytes c. -/
def pieces (c : UInt8) : List UInt8 → List (List UInt8)
  | [] => [[]]
  | x :: l => if x = c then [] :: pieces c l else match pieces c l with
    | [] => [[x]]
    | p :: ps => (x :: p) :: ps
theorem pieces_ne (c : UInt8) : ∀ l, ∃ p ps, pieces c l = p :: ps
  | [] => ⟨[], [], rfl⟩
  | x :: l => by
    obtain ⟨p, ps, h⟩ := pieces_ne c l
    by_cases e : x = c
    · exact ⟨_, _, by simp [pieces, e]; exact ⟨rfl, rfl⟩⟩
    · exact ⟨_, _, by simp [pieces, e, h]; exact ⟨rfl, rfl⟩⟩
theorem pieces_len (c : UInt8) : ∀ l, (pieces c l).length ≤ l.length + 1
  | [] => by simp [pieces]
  | x :: l => by
    have := pieces_len c l
    by_cases e : x = c
    · simp [pieces, e]; omega
    · obtain ⟨p, ps, h⟩ := pieces_ne c l
      rw [h] at this
      simp [pieces, e, h] at this ⊢
      omega
theorem pieces_head (c : UInt8) : ∀ l, ∃ ps, pieces c l = upto c l :: ps ∧ (ps ≠ [] ↔ c ∈ l)
  | [] => ⟨[], rfl, by simp⟩
  | x :: l => by
    by_cases e : x = c
    · obtain ⟨p, ps, h⟩ := pieces_ne c l
      refine ⟨pieces c l, by simp [pieces, upto, e], ?_⟩
      rw [h]
      simp [e]
    · obtain ⟨ps, h, h2⟩ := pieces_head c l
      refine ⟨ps, by simp [pieces, upto, e, h], ?_⟩
      rw [h2]
      have : ¬ c = x := fun h => e h.symm
      simp [this]
/-- A piece that has begun. -/
def glue (p : List UInt8) : List (List UInt8) → List (List UInt8)
  | [] => [p]
  | q :: qs => (p ++ q) :: qs
theorem split_l0 (l : List UInt8) (c : Nat) (hc : c < 256) (hl : l.length ≤ 1099511627776) (d : Nat) : ∀ (k i j : Nat) (acc : List ByteArray), i + d = l.length → j ≤ i → d < k → acc.length + d ≤ 2199023255552 →
    spec_l1Split.l0 k (M l) c acc j i = some (acc ++ (glue ((l.drop j).take (i - j)) (pieces (UInt8.ofNat c) (l.drop i))).map M) := by
  induction d with
  | zero =>
    intro k i j acc hd hj hk ha
    obtain ⟨k, rfl⟩ : ∃ m, k = m + 1 := ⟨k - 1, by omega⟩
    simp only [spec_l1Split.l0]
    rw [M_size, if_neg (by omega), if_pos (by omega), if_pos (by omega), if_pos (by omega), List.drop_of_length_le (i := i) (by omega), sx_M, Int.toNat_natCast]
    simp only [pieces, glue, List.append_nil, List.map_cons, List.map_nil]
    rw [List.take_of_length_le (by simp), List.take_of_length_le (by first | omega | (simp; done) | (simp; omega))]
  | succ d ih =>
    intro k i j acc hd hj hk ha
    obtain ⟨k, rfl⟩ : ∃ m, k = m + 1 := ⟨k - 1, by omega⟩
    simp only [spec_l1Split.l0]
    rw [M_size, if_pos (by omega), if_pos (by omega), bt_M, drop_at l i (by omega)]
    have hx : (l.drop j).take (i + 1 - j) = (l.drop j).take (i - j) ++ [l.getD i 0] := by
      rw [show i + 1 - j = (i - j) + 1 by omega, List.take_add_one, List.getElem?_drop, show j + (i - j) = i by omega, List.getElem?_eq_getElem (by omega), List.getD_eq_getElem?_getD, List.getElem?_eq_getElem (by omega)]
      rfl
    generalize hxx : l.getD i 0 = x at hx ⊢
    rw [w64 (x := (i : Int) + 1) (by omega) (by omega)]
    by_cases h1 : (x.toNat : Int) = (c : Int)
    · have he : x = UInt8.ofNat c := (byte_eq x c hc).1 h1
      rw [if_pos h1, if_pos (by omega), if_pos (by omega), if_pos (by omega), if_pos (by omega), sx_M, Int.toNat_natCast, Int.toNat_natCast]
      have := ih k (i + 1) (i + 1) (acc ++ [M ((l.drop j).take (i - j))]) (by omega) (by omega) (by omega) (by first | omega | (simp; done) | (simp; omega))
      rw [show ((i + 1 : Nat) : Int) = (i : Int) + 1 by omega] at this
      rw [this]
      obtain ⟨p, ps, hp⟩ := pieces_ne (UInt8.ofNat c) (l.drop (i + 1))
      simp [pieces, he, glue, hp]
    · have he : ¬ x = UInt8.ofNat c := fun e => h1 ((byte_eq x c hc).2 e)
      rw [if_neg h1]
      have := ih k (i + 1) j acc (by omega) (by omega) (by omega) (by omega)
      rw [show ((i + 1 : Nat) : Int) = (i : Int) + 1 by omega] at this
      rw [this, hx]
      obtain ⟨p, ps, hp⟩ := pieces_ne (UInt8.ofNat c) (l.drop (i + 1))
      simp [pieces, he, glue, hp]
theorem split_eq (l : List UInt8) (c : Nat) (hc : c < 256) (hl : l.length ≤ 1099511627776) {k : Nat} (hk : l.length < k) : spec_l1Split.f k (M l) c = some ((pieces (UInt8.ofNat c) l).map M) := by
  unfold spec_l1Split.f
  have := split_l0 l c hc hl l.length k 0 0 [] (by omega) (by omega) hk (by first | omega | (simp; done) | (simp; omega))
  obtain ⟨p, ps, hp⟩ := pieces_ne (UInt8.ofNat c) l
  simpa [glue, hp] using this
theorem split_head (l : List UInt8) (c : Nat) (hc : c < 256) (hl : l.length ≤ 1099511627776) {k : Nat} (hk : l.length < k) :
    ∃ ps : List ByteArray, spec_l1Split.f k (M l) c = some (M (upto (UInt8.ofNat c) l) :: ps) ∧ (ps ≠ [] ↔ UInt8.ofNat c ∈ l) ∧ ps.length ≤ l.length := by
  obtain ⟨ps, h1, h2⟩ := pieces_head (UInt8.ofNat c) l
  refine ⟨ps.map M, by rw [split_eq l c hc hl hk, h1]; rfl, by rw [← h2]; simp, ?_⟩
  have := pieces_len (UInt8.ofNat c) l
  rw [h1] at this
  simpa using this
theorem rd_head (a : ByteArray) (ps : List ByteArray) : rdOf ByteArray.empty (a :: ps) 0 = a := rfl
/-- The program's reading of one record. -/
theorem readRecord_eq {k K : Nat} (s : List UInt8) (hs : s.length ≤ 1099511627776) (hk : k ≤ 1000000) (hK : 2 * s.length + 100 < K) :
    impl_readRecord.f K k (M s) = some (match dec k s with | some (c, r, n) => (M c, M r, (n : Int), true) | none => (M [], M [], 0, false)) := by
  have l1 := upto_len (c := 10) s
  have l2 := upto_len (c := 35) (upto 10 s)
  have l3 : ∀ (c : UInt8) (l : List UInt8), (after c l).length ≤ l.length := fun c l => by
    by_cases h : c ∈ l
    · rw [after_drop c h, List.length_drop]; omega
    · rw [after_none h]; simp
  have l4 := l3 32 (upto 35 (upto 10 s))
  have l5 := upto_len (c := 64) (after 32 (upto 35 (upto 10 s)))
  have l6 := l3 64 (after 32 (upto 35 (upto 10 s)))
  unfold impl_readRecord.f
  rw [show (⟨#[10]⟩ : ByteArray) = M [10] from rfl, show (⟨#[35]⟩ : ByteArray) = M [35] from rfl, show (⟨#[32]⟩ : ByteArray) = M [32] from rfl, show (⟨#[64]⟩ : ByteArray) = M [64] from rfl, cut_eq s 10 (by omega)]
  simp only [Option.bind_some]
  rw [cut_eq _ 35 (by omega)]
  simp only [Option.bind_some]
  rw [cut_eq _ 32 (by omega)]
  simp only [Option.bind_some]
  rw [cut_eq _ 64 (by omega)]
  simp only [Option.bind_some]
  unfold dec
  generalize after 32 (upto 35 (upto 10 s)) = rest at l4 l5 l6 ⊢
  by_cases h1 : (10 : UInt8) ∈ s
  · rw [if_pos (by simpa using h1)]
    by_cases h2 : 60 ≤ k
    · rw [if_pos (by omega), if_neg (by omega)]
      rfl
    · rw [if_neg (by omega), isRec_eq _ _ (by omega) (by omega) (by omega)]
      simp only [Option.bind_some, decide_eq_true_eq]
      by_cases h3 : Ok (upto 64 rest) (after 64 rest)
      · rw [if_pos h3, encode_eq (by omega) _ _ (by omega) (by omega) (by omega)]
        simp only [Option.bind_some]
        rw [M_size, if_pos (by omega), sc_M, M_toList, M_toList]
        by_cases h4 : enc k (upto 64 rest) (after 64 rest) = upto 10 s ++ [10]
        · rw [if_pos h4, if_pos ⟨h1, by omega, h3, h4⟩, w64 (by omega) (by omega)]
          simp
        · rw [if_neg h4, if_neg (fun h => h4 h.2.2.2)]
          rfl
      · rw [if_neg h3, if_neg (fun h => h3 h.2.2.1)]
        rfl
  · rw [if_neg (by simpa using h1), if_neg (fun h => h1 h.1)]
    rfl
/-- The reference's reading of one line. -/
theorem read_eq {k K : Nat} (s : List UInt8) (hs : s.length ≤ 1099511627776) (hk : k ≤ 1000000) (hK : 4 * s.length + 200 < K) :
    ∃ (c r : List UInt8) (b : Bool), spec_l27Read.f K (M s) k = some (M c, M r, b) ∧ (b = true → Ok c r ∧ enc k c r = s ++ [10]) ∧ (∀ c' r', Ok c' r' → enc k c' r' = s ++ [10] → b = true ∧ c = c' ∧ r = r') := by
  have hd := digits_len_aux 7 k (by omega)
  obtain ⟨ps, hp, _, _⟩ := split_head s 35 (by omega) hs (k := K) (by omega)
  have l1 := upto_len (c := 35) s
  have hline : ∀ c' r', Ok c' r' → enc k c' r' = s ++ [10] → upto 35 s = decDigits k ++ 32 :: (c' ++ 64 :: r') := fun c' r' ho he => by
    have : s = line k c' r' := by
      have := congrArg List.dropLast he
      simpa [enc] using this.symm
    rw [this, line_text ho]
    rfl
  unfold spec_l27Read.f
  rw [num_of (by omega) (by omega)]
  simp only [Option.bind_some]
  rw [M_size, if_pos (by omega), show (35 : Int) = ((35 : Nat) : Int) from rfl, hp]
  simp only [Option.bind_some]
  rw [if_pos (by first | omega | (simp; done) | (simp; omega)), rd_head, show (⟨#[32]⟩ : ByteArray) = M [32] from rfl, sc_M, M_size, M_size, show UInt8.ofNat 35 = 35 from rfl]
  generalize htx : upto 35 s = text at l1 hline ⊢
  have hlen : (decDigits k ++ [32]).length = (decDigits k).length + 1 := by simp
  obtain ⟨K1, rfl⟩ : ∃ m, K = m + 1 := ⟨K - 1, by omega⟩
  have fail : spec_l27Read.j0 (K1 + 1) (M s) k (M (decDigits k ++ [32])) (M text) true = some (M [], M [], false) := by
    simp only [spec_l27Read.j0]
    rfl
  by_cases h1 : text.length < (decDigits k ++ [32]).length
  · rw [if_pos (by omega), fail]
    refine ⟨[], [], false, rfl, by simp, fun c' r' ho he => ?_⟩
    have := hline c' r' ho he
    rw [this] at h1
    simp only [List.length_append, List.length_cons, List.length_nil] at h1
    omega
  · rw [if_neg (by omega), if_pos (by omega), if_pos (by omega), sx_M, M_toList, M_toList, List.drop_zero, Nat.sub_zero]
    by_cases h2 : text.take (decDigits k ++ [32]).length = decDigits k ++ [32]
    · have hb : (List.take (decDigits k ++ [32]).length text != decDigits k ++ [32]) = false := by simpa using h2
      rw [hb]
      simp only [spec_l27Read.j0]
      rw [if_neg (by simp), M_size, M_size, if_pos (by omega), if_pos (by omega), sx_M, List.take_of_length_le (by simp)]
      generalize hrest : text.drop (decDigits k ++ [32]).length = rest
      have hrl : rest.length = text.length - (decDigits k ++ [32]).length := by rw [← hrest, List.length_drop]
      obtain ⟨qs, hq, _, _⟩ := split_head rest 64 (by omega) (by omega) (k := K1) (by omega)
      rw [show (64 : Int) = ((64 : Nat) : Int) from rfl, hq]
      simp only [Option.bind_some]
      rw [if_pos (by first | omega | (simp; done) | (simp; omega)), rd_head, M_size, M_size, show UInt8.ofNat 64 = 64 from rfl]
      have hcr : ∀ c' r', Ok c' r' → enc k c' r' = s ++ [10] → rest = c' ++ 64 :: r' := fun c' r' ho he => by
        rw [← hrest, hline c' r' ho he, show decDigits k ++ 32 :: (c' ++ 64 :: r') = (decDigits k ++ [32]) ++ (c' ++ 64 :: r') by simp]
        exact List.drop_left
      by_cases h3 : (64 : UInt8) ∈ rest
      · have hlt := upto_lt h3
        rw [if_neg (by omega), w64 (by omega) (by omega), if_pos (by omega), if_pos (by omega), sx_M, show (((upto 64 rest).length : Int) + 1).toNat = (upto 64 rest).length + 1 by omega, List.take_of_length_le (by simp), ← after_drop 64 h3]
        have l6 : (after 64 rest).length ≤ rest.length := by rw [after_drop 64 h3, List.length_drop]; omega
        rw [good_eq _ _ (by omega) (by omega) (by omega)]
        simp only [Option.bind_some, decide_eq_true_eq]
        have hun : ∀ c' r', Ok c' r' → enc k c' r' = s ++ [10] → upto 64 rest = c' ∧ after 64 rest = r' := fun c' r' ho he => by
          rw [hcr c' r' ho he, rest_cmd ho, rest_rep ho]
          exact ⟨rfl, rfl⟩
        by_cases h4 : Ok (upto 64 rest) (after 64 rest)
        · rw [if_pos h4, line_eq (by omega) _ _ (by omega) (by omega) (by omega)]
          simp only [Option.bind_some]
          rw [M_size, if_pos (by omega), show (⟨#[10]⟩ : ByteArray) = M [10] from rfl, sc_M, M_toList, M_toList]
          refine ⟨_, _, _, rfl, fun h => ⟨h4, by simpa using h⟩, fun c' r' ho he => ?_⟩
          obtain ⟨e1, e2⟩ := hun c' r' ho he
          refine ⟨?_, e1, e2⟩
          rw [e1, e2, he]
          simp
        · rw [if_neg h4]
          refine ⟨_, _, false, rfl, by simp, fun c' r' ho he => ?_⟩
          obtain ⟨e1, e2⟩ := hun c' r' ho he
          rw [e1, e2] at h4
          exact absurd ho h4
      · rw [upto_none h3, if_pos rfl]
        refine ⟨[], [], false, rfl, by simp, fun c' r' ho he => ?_⟩
        rw [hcr c' r' ho he] at h3
        exact absurd h3 (by simp)
    · have hb : (List.take (decDigits k ++ [32]).length text != decDigits k ++ [32]) = true := by simpa using h2
      rw [hb, fail]
      refine ⟨[], [], false, rfl, by simp, fun c' r' ho he => ?_⟩
      have h5 := hline c' r' ho he
      rw [show decDigits k ++ 32 :: (c' ++ 64 :: r') = (decDigits k ++ [32]) ++ (c' ++ 64 :: r') by simp] at h5
      rw [h5, List.take_left] at h2
      exact absurd rfl h2
end Go.Proofs.YtdpinnhgkocjhaaDoor.Pr.Pure

/-
What is proved: what the printed functions on logs compute, over lists of bytes.
Conditions: sizes far below the machine's, enough rounds.
-/
namespace Go.Proofs.YtdpinnhgkocjhaaDoor.Pr.Pure
open Go.RowKit Go.Proofs.YtdpinnhgkocjhaaDoorW.PrintWords Go.Proofs.YtdpinnhgkocjhaaDoorW.PrintLast Go.Proofs.YtdpinnhgkocjhaaDoorW.PrintMore Go.Proofs.YtdpinnhgkocjhaaDoor.Log Go.Lib
set_option linter.unusedVariables false
set_option linter.unusedSimpArgs false
theorem dec_iff {k : Nat} {s c r : B} {n : Nat} : dec k s = some (c, r, n) ↔ k < 60 ∧ (10 : UInt8) ∈ s ∧ Ok c r ∧ enc k c r = upto 10 s ++ [10] ∧ n = (upto 10 s).length + 1 := by
  constructor
  · intro h
    unfold dec at h
    split at h
    · rename_i hc
      simp only [Option.some.injEq, Prod.mk.injEq] at h
      obtain ⟨rfl, rfl, rfl⟩ := h
      exact ⟨hc.2.1, hc.1, hc.2.2.1, hc.2.2.2, rfl⟩
    · cases h
  · rintro ⟨h1, h2, h3, h4, rfl⟩
    refine dec_some.2 ⟨h1, h3, ?_, by rw [h4]; simp⟩
    rw [h4]
    refine ⟨after 10 s, ?_⟩
    rw [List.append_assoc, List.singleton_append, ← cut_at h2]
/-- A record as the program holds it. -/
def R27 (x : B × B × Nat) : S27 := ⟨M x.1, M x.2.1⟩
theorem open_l0 (s : List UInt8) (hs : s.length ≤ 1099511627776) (m : Nat) : ∀ (K at_ : Nat) (acc : List S27), acc.length + m = 60 → at_ ≤ s.length → 2 * m + 4 * s.length + 300 < K →
    spec_l27Open.l0 K (M s) acc at_ = some (acc ++ (all m acc.length (s.drop at_)).map R27, ((at_ + tot (all m acc.length (s.drop at_)) : Nat) : Int)) := by
  induction m with
  | zero =>
    intro K at_ acc ha hat hK
    obtain ⟨K, rfl⟩ : ∃ m, K = m + 1 + 1 := ⟨K - 2, by omega⟩
    simp only [spec_l27Open.l0]
    have : decide ((acc.length : Int) < 60) = false := by simp; omega
    rw [this, ite_self]
    simp [spec_l27Open.j1, all, tot]
  | succ m ih =>
    intro K at_ acc ha hat hK
    obtain ⟨K, rfl⟩ : ∃ m, K = m + 1 + 1 := ⟨K - 2, by omega⟩
    simp only [spec_l27Open.l0]
    have hd : decide ((acc.length : Int) < 60) = true := by simp; omega
    rw [M_size, hd]
    by_cases hlt : at_ < s.length
    · rw [if_pos (by omega)]
      have hrl : (s.drop at_).length = s.length - at_ := List.length_drop
      have hsx : sx (M s) (((at_ : Int) : Int).toNat) s.length = M (s.drop at_) := by
        rw [sx_M, Int.toNat_natCast, List.take_of_length_le (by simp)]
      generalize hrest : s.drop at_ = rest at hrl hsx ⊢
      have lu := upto_len (c := 10) rest
      obtain ⟨ps, hp, hpn, _⟩ := split_head rest 10 (by omega) (by omega) (k := K) (by omega)
      obtain ⟨c, r, b, hr, hb, hu⟩ := read_eq (k := acc.length) (K := K) (upto 10 rest) (by omega) (by omega) (by omega)
      simp only [spec_l27Open.j1]
      rw [if_pos trivial, if_pos (by omega), M_size, if_pos (by omega), hsx, show (10 : Int) = ((10 : Nat) : Int) from rfl, hp]
      simp only [Option.bind_some]
      rw [if_pos (by first | omega | (simp; done) | (simp; omega)), rd_head, show UInt8.ofNat 10 = 10 from rfl, hr]
      simp only [Option.bind_some]
      by_cases h2 : ps = []
      · have h10 : (10 : UInt8) ∉ rest := fun h => absurd h2 (hpn.2 h)
        have hn : dec acc.length rest = none := by
          cases h : dec acc.length rest with
          | none => rfl
          | some x => obtain ⟨c', r', n'⟩ := x; exact absurd (dec_iff.1 h).2.1 h10
        rw [if_pos (by rw [h2]; simp), all_none hn]
        simp [tot]
      · have h10 : (10 : UInt8) ∈ rest := hpn.1 h2
        have hpl : 0 < ps.length := List.length_pos_iff.2 h2
        rw [if_neg (by first | omega | (simp; omega))]
        cases hbb : b with
        | true =>
          subst hbb
          obtain ⟨ho, he⟩ := hb rfl
          have hdec : dec acc.length rest = some (c, r, (upto 10 rest).length + 1) := dec_iff.2 ⟨by omega, h10, ho, he, rfl⟩
          have hlt' := upto_lt h10
          rw [if_pos rfl, if_pos (by omega), M_size, w64 (x := (at_ : Int) + ((upto 10 rest).length : Nat)) (by omega) (by omega), w64 (by omega) (by omega)]
          have := ih K (at_ + ((upto 10 rest).length + 1)) (acc ++ [⟨M c, M r⟩]) (by simp; omega) (by omega) (by omega)
          rw [show ((at_ : Int) + ((upto 10 rest).length : Nat) + 1) = ((at_ + ((upto 10 rest).length + 1) : Nat) : Int) by omega, this, all_some hdec, tot_cons, ← List.drop_drop, hrest]
          simp [R27]
          omega
        | false =>
          subst hbb
          have hn : dec acc.length rest = none := by
            cases h : dec acc.length rest with
            | none => rfl
            | some x =>
              obtain ⟨c', r', n'⟩ := x
              obtain ⟨_, _, ho, he, _⟩ := dec_iff.1 h
              exact absurd (hu c' r' ho he).1 (by simp)
          rw [if_neg (by simp), all_none hn]
          simp [tot]
    · rw [if_neg (by omega), List.drop_of_length_le (by omega), all_nil]
      simp [spec_l27Open.j1, tot]
theorem open_eq (s : List UInt8) (hs : s.length ≤ 1099511627776) {K : Nat} (hK : 4 * s.length + 500 < K) : spec_l27Open.f K (M s) = some ((all 60 0 s).map R27, ((tot (all 60 0 s) : Nat) : Int)) := by
  unfold spec_l27Open.f
  have := open_l0 s hs 60 K 0 [] rfl (Nat.zero_le _) (by omega)
  simpa using this
/-- The places of the records' ends, from a place on. -/
def sums (a : Nat) : List (B × B × Nat) → List Int
  | [] => []
  | x :: xs => ((a + x.2.2 : Nat) : Int) :: sums (a + x.2.2) xs
theorem rd_last (E : List Int) (a : Int) : rd (E ++ [a]) (((E ++ [a]).length : Int) - 1) = a := by
  unfold rd
  rw [List.length_append, show (((E.length + [a].length : Nat) : Int) - 1).toNat = E.length by simp, List.getD_eq_getElem?_getD, List.getElem?_append_right (Nat.le_refl _), Nat.sub_self]
  rfl
theorem reads_l0 (s : List UInt8) (hs : s.length ≤ 1099511627776) (m : Nat) : ∀ (K at_ : Nat) (acc : List S27) (E : List Int), acc.length + m = 60 → E.length ≤ acc.length → at_ ≤ s.length → m + 2 * s.length + 200 < K →
    impl_readRecords.l0 K (M s) acc (E ++ [(at_ : Int)]) = some (acc ++ (all m acc.length (s.drop at_)).map R27, E ++ [(at_ : Int)] ++ sums at_ (all m acc.length (s.drop at_))) := by
  induction m with
  | zero =>
    intro K at_ acc E ha hE hat hK
    obtain ⟨K, rfl⟩ : ∃ m, K = m + 1 := ⟨K - 1, by omega⟩
    have hl : (E ++ [(at_ : Int)]).length = E.length + 1 := by simp
    simp only [impl_readRecords.l0]
    rw [w64 (by omega) (by omega), if_pos (by omega), if_pos (by omega), rd_last, M_size, if_pos (by omega), if_pos (by omega), sx_M, Int.toNat_natCast, List.take_of_length_le (by simp), readRecord_eq _ (by simp; omega) (by omega) (by simp; omega)]
    have hn : dec acc.length (s.drop at_) = none := by
      cases h : dec acc.length (s.drop at_) with
      | none => rfl
      | some x => obtain ⟨c', r', n'⟩ := x; have := (dec_iff.1 h).1; omega
    rw [hn]
    simp [all, sums]
  | succ m ih =>
    intro K at_ acc E ha hE hat hK
    obtain ⟨K, rfl⟩ : ∃ m, K = m + 1 := ⟨K - 1, by omega⟩
    have hl : (E ++ [(at_ : Int)]).length = E.length + 1 := by simp
    have hdl : (s.drop at_).length = s.length - at_ := List.length_drop
    simp only [impl_readRecords.l0]
    rw [w64 (by omega) (by omega), if_pos (by omega), if_pos (by omega), rd_last, M_size, if_pos (by omega), if_pos (by omega), sx_M, Int.toNat_natCast, List.take_of_length_le (by simp), readRecord_eq _ (by omega) (by omega) (by omega)]
    cases h : dec acc.length (s.drop at_) with
    | none =>
      rw [all_none h]
      simp [sums]
    | some x =>
      obtain ⟨c, r, n⟩ := x
      have hn := dec_le h
      simp only [Option.bind_some]
      rw [if_pos trivial, if_pos (by omega), if_pos (by omega), w64 (by omega) (by omega)]
      have := ih K (at_ + n) (acc ++ [⟨M c, M r⟩]) (E ++ [(at_ : Int)]) (by simp; omega) (by simp; omega) (by omega) (by omega)
      rw [show ((at_ : Int) + (n : Int)) = ((at_ + n : Nat) : Int) by omega, this, all_some h, ← List.drop_drop]
      simp [sums, R27]
theorem reads_eq (s : List UInt8) (hs : s.length ≤ 1099511627776) {K : Nat} (hK : 2 * s.length + 300 < K) : impl_readRecords.f K (M s) = some ((all 60 0 s).map R27, 0 :: sums 0 (all 60 0 s)) := by
  unfold impl_readRecords.f
  have := reads_l0 s hs 60 K 0 [] [] rfl (Nat.le_refl _) (Nat.zero_le _) (by omega)
  simpa using this
theorem sums_len (l : List (B × B × Nat)) : ∀ a, (sums a l).length = l.length := by
  induction l with
  | nil => intro a; rfl
  | cons x l ih => intro a; simp [sums, ih]
theorem sums_last (l : List (B × B × Nat)) : ∀ a : Nat, ∃ E, (a : Int) :: sums a l = E ++ [((a + tot l : Nat) : Int)] := by
  induction l with
  | nil => intro a; exact ⟨[], by simp [sums, tot]⟩
  | cons x l ih =>
    intro a
    obtain ⟨E, h⟩ := ih (a + x.2.2)
    refine ⟨(a : Int) :: E, ?_⟩
    rw [sums, h, tot_cons]
    simp
    omega
theorem rd_sums (l : List (B × B × Nat)) : rd (0 :: sums 0 l) ((((0 : Int) :: sums 0 l).length : Int) - 1) = ((tot l : Nat) : Int) := by
  obtain ⟨E, h⟩ := sums_last l 0
  have h' : (0 : Int) :: sums 0 l = E ++ [((tot l : Nat) : Int)] := by simpa using h
  rw [h', rd_last]
theorem sums_mem (l : List (B × B × Nat)) : ∀ (a n : Nat), (n : Int) ∈ ((a : Int) :: sums a l) ↔ ∃ j, j ≤ l.length ∧ a + tot (l.take j) = n := by
  induction l with
  | nil =>
    intro a n
    constructor
    · intro h
      simp [sums] at h
      exact ⟨0, Nat.le_refl _, by simp [tot]; omega⟩
    · rintro ⟨j, _, h⟩
      simp [tot] at h
      simp [sums]
      omega
  | cons x l ih =>
    intro a n
    rw [sums, List.mem_cons, ih (a + x.2.2) n]
    constructor
    · rintro (h | ⟨j, hj, h⟩)
      · exact ⟨0, Nat.zero_le _, by simp [tot]; omega⟩
      · exact ⟨j + 1, by simpa using hj, by rw [List.take_succ_cons, tot_cons]; omega⟩
    · rintro ⟨j, hj, h⟩
      cases j with
      | zero => simp [tot] at h; exact .inl (by omega)
      | succ j => rw [List.take_succ_cons, tot_cons] at h; exact .inr ⟨j, by simpa using hj, by omega⟩
theorem has_l0 (l : List Int) (x : Int) (hl : l.length ≤ 4611686018427387904) (d : Nat) : ∀ (k i : Nat), i + d = l.length → d < k → ∃ r : Int, slices_Index_int_int.l0 k l x l.length i = some r ∧ (0 ≤ r ↔ x ∈ l.drop i) := by
  induction d with
  | zero =>
    intro k i hd hk
    obtain ⟨k, rfl⟩ : ∃ m, k = m + 1 := ⟨k - 1, by omega⟩
    refine ⟨-1, ?_, ?_⟩
    · simp only [slices_Index_int_int.l0]
      rw [if_neg (by omega)]
    · rw [List.drop_of_length_le (by omega)]
      simp
  | succ d ih =>
    intro k i hd hk
    obtain ⟨k, rfl⟩ : ∃ m, k = m + 1 := ⟨k - 1, by omega⟩
    have hx : l.drop i = rd l i :: l.drop (i + 1) := by
      unfold rd
      rw [Int.toNat_natCast, List.drop_eq_getElem_cons (by omega), List.getD_eq_getElem?_getD, List.getElem?_eq_getElem (by omega)]
      rfl
    simp only [slices_Index_int_int.l0]
    rw [if_pos (by omega), if_pos (by omega), if_pos (by omega), hx, w64 (by omega) (by omega)]
    by_cases h : x = rd l i
    · rw [if_pos h]
      exact ⟨i, rfl, by simp [h]⟩
    · rw [if_neg h]
      obtain ⟨r, h1, h2⟩ := ih k (i + 1) (by omega) (by omega)
      rw [show ((i + 1 : Nat) : Int) = (i : Int) + 1 by omega] at h1
      exact ⟨r, h1, by rw [h2]; simp [h]⟩
theorem has_eq (l : List Int) (x : Int) (hl : l.length ≤ 4611686018427387904) {k : Nat} (hk : l.length < k) : impl_has.f k l x = some (decide (x ∈ l)) := by
  unfold impl_has.f slices_Contains_int_int.f slices_Index_int_int.f
  obtain ⟨r, h1, h2⟩ := has_l0 l x hl l.length k 0 (by omega) hk
  rw [show ((0 : Nat) : Int) = 0 from rfl] at h1
  rw [h1]
  simp only [Option.bind_some]
  exact dec_of (by rw [decide_eq_true_eq]; simpa using h2)
/-- A valid log: durable and pending bytes, and how many records there are. -/
def Good (D P : List UInt8) (C : Int) : Prop := tot (all 60 0 (D ++ P)) = (D ++ P).length ∧ tot (all 60 0 D) = D.length ∧ C = ((all 60 0 (D ++ P)).length : Int)
instance (D P : List UInt8) (C : Int) : Decidable (Good D P C) := inferInstanceAs (Decidable (_ ∧ _))
theorem Good.le {D P : List UInt8} {C : Int} (h : Good D P C) : (D ++ P).length ≤ 22320 := by
  have := all_tot372 60 0 (D ++ P)
  have := h.1
  omega
theorem records_eq (D P : List UInt8) (C : Int) (hs : (D ++ P).length ≤ 1099511627776) {K : Nat} (hK : 4 * (D ++ P).length + 600 < K) :
    impl_records.f K (M D) (M P) C = some (if Good D P C then ((all 60 0 (D ++ P)).map R27, true) else ([], false)) := by
  have hl : (D ++ P).length = D.length + P.length := List.length_append
  have h60 := all_len 60 0 (D ++ P)
  have hsl := sums_len (all 60 0 (D ++ P)) 0
  have hsl' : ((0 : Int) :: sums 0 (all 60 0 (D ++ P))).length = (all 60 0 (D ++ P)).length + 1 := by rw [List.length_cons, hsl]
  unfold impl_records.f
  rw [M_size, M_size, if_pos (by omega), sc_M, reads_eq _ hs (by omega)]
  simp only [Option.bind_some]
  rw [w64 (by omega) (by omega), if_pos (by omega), if_pos (by omega), rd_sums, M_size]
  by_cases h1 : tot (all 60 0 (D ++ P)) = (D ++ P).length
  · rw [if_pos (by omega), has_eq _ _ (by omega) (by omega)]
    simp only [Option.bind_some, decide_eq_true_eq]
    have hm : ((D.length : Int) ∈ ((0 : Int) :: sums 0 (all 60 0 (D ++ P)))) ↔ tot (all 60 0 D) = D.length := by
      have := sums_mem (all 60 0 (D ++ P)) 0 D.length
      rw [show (((0 : Nat)) : Int) = 0 from rfl] at this
      rw [this]
      simpa using ends_iff 60 0 D P
    by_cases h2 : tot (all 60 0 D) = D.length
    · rw [if_pos (hm.2 h2)]
      by_cases h3 : C = ((all 60 0 (D ++ P)).length : Int)
      · have hg : Good D P C := ⟨h1, h2, h3⟩
        rw [if_pos (by rw [List.length_map]; exact h3), if_pos hg]
      · rw [if_neg (by rw [List.length_map]; exact h3), if_neg (show ¬ Good D P C from fun h => h3 h.2.2)]
    · rw [if_neg (fun h => h2 (hm.1 h)), if_neg (show ¬ Good D P C from fun h => h2 h.2.1)]
  · rw [if_neg (by omega), if_neg (show ¬ Good D P C from fun h => h1 h.1)]
theorem log_eq (D P : List UInt8) (C : Int) (hD : D.length ≤ 549755813888) (hP : P.length ≤ 549755813888) {K : Nat} (hK : 4 * (D ++ P).length + 600 < K) : spec_l27Log.f K (M D) (M P) C = some (decide (Good D P C)) := by
  have hl : (D ++ P).length = D.length + P.length := List.length_append
  unfold spec_l27Log.f
  rw [M_size, M_size, w64 (by omega) (by omega), sc_M, open_eq _ (by omega) (by omega), open_eq _ (by omega) (by omega)]
  simp only [Option.bind_some]
  by_cases h0 : (30000 : Int) < (D.length : Int) + (P.length : Int)
  · rw [if_pos h0]
    exact dec_of ⟨fun h => by simp at h, fun h => by have := Good.le h; omega⟩
  · rw [if_neg h0, if_pos (by omega)]
    by_cases h1 : tot (all 60 0 (D ++ P)) = (D ++ P).length
    · rw [if_pos (by omega)]
      by_cases h2 : tot (all 60 0 D) = D.length
      · rw [if_pos (by omega)]
        refine dec_of ?_
        rw [beq_iff_eq, List.length_map]
        exact ⟨fun h => ⟨h1, h2, h.symm⟩, fun h => h.2.2.symm⟩
      · rw [if_neg (by omega)]
        exact dec_of ⟨fun h => by simp at h, fun h => absurd h.2.1 h2⟩
    · rw [if_neg (by omega)]
      exact dec_of ⟨fun h => by simp at h, fun h => absurd h.1 h1⟩
theorem valid_eq (D P : List UInt8) (C : Int) (hs : (D ++ P).length ≤ 1099511627776) {K : Nat} (hK : 4 * (D ++ P).length + 600 < K) : impl_IsValidLog.f K (M D) (M P) C = some (decide (Good D P C)) := by
  unfold impl_IsValidLog.f
  rw [records_eq D P C hs hK]
  simp only [Option.bind_some]
  by_cases h : Good D P C <;> simp [h]
end Go.Proofs.YtdpinnhgkocjhaaDoor.Pr.Pure

/-
What is proved: the program's functions on logs and the reference's answer the same.
Conditions: sizes far below the machine's, enough rounds.
-/
namespace Go.Proofs.YtdpinnhgkocjhaaDoor.Pr.Pure
open Go.RowKit Go.Proofs.YtdpinnhgkocjhaaDoorW.PrintWords Go.Proofs.YtdpinnhgkocjhaaDoorW.PrintLast Go.Proofs.YtdpinnhgkocjhaaDoorW.PrintMore Go.Proofs.YtdpinnhgkocjhaaDoor.Log Go.Lib
set_option linter.unusedVariables false
set_option linter.unusedSimpArgs false
theorem szRecord (c r : List UInt8) (n : Int) (h0 : 0 ≤ n) (h1 : n ≤ 1048576) (hc : c.length ≤ 140737488351232) (hr : r.length ≤ 140737488351232) :
    ∃ t, laws_szLogRecord.f (M c) (M r) n = some t ∧ (¬ t < 0 → c.length + r.length ≤ 1048576 ∧ t ≤ 1048576) := by
  unfold laws_szLogRecord.f
  rw [M_size, M_size, w64 (x := n - (c.length : Int)) (by omega) (by omega), w64 (x := n - (c.length : Int) - (r.length : Int)) (by omega) (by omega)]
  by_cases a : n - (c.length : Int) < 0
  · rw [if_pos a]; exact ⟨_, rfl, fun h => absurd (by omega) h⟩
  · rw [if_neg a]
    by_cases b : n - (c.length : Int) - (r.length : Int) < 0
    · rw [if_pos b]; exact ⟨_, rfl, fun h => absurd (by omega) h⟩
    · rw [if_neg b]; exact ⟨_, rfl, fun _ => by omega⟩
theorem szLog_eq (D P : List UInt8) (C : Int) (hc : D.length ≤ 140737488351232) (hr : P.length ≤ 140737488351232) :
    ∃ t, laws_szLog.f (M D) (M P) C 1048576 = some t ∧ (¬ t < 0 → D.length + P.length ≤ 1048576 ∧ t ≤ 1048576) := by
  unfold laws_szLog.f
  rw [M_size, M_size, w64 (x := 1048576 - (D.length : Int)) (by omega) (by omega), w64 (x := 1048576 - (D.length : Int) - (P.length : Int)) (by omega) (by omega)]
  by_cases a : 1048576 - (D.length : Int) < 0
  · rw [if_pos a]; exact ⟨_, rfl, fun h => absurd (by omega) h⟩
  · rw [if_neg a]
    by_cases b : 1048576 - (D.length : Int) - (P.length : Int) < 0
    · rw [if_pos b]; exact ⟨_, rfl, fun h => absurd (by omega) h⟩
    · rw [if_neg b]; exact ⟨_, rfl, fun _ => by omega⟩
/-- Both write a record the same way. -/
theorem encode_val (a : Nat) (ha : a ≤ 59) (c r : List UInt8) (hc : c.length ≤ 1048576) (hr : r.length ≤ 1048576) {k : Nat} (hk : c.length + r.length + 60 < k) :
    spec_EncodeRecord.f k (a : Int) (M c) (M r) = some (if Ok c r then (M (enc a c r), true) else (M [], false)) ∧ impl_EncodeRecord.f k (a : Int) (M c) (M r) = some (if Ok c r then (M (enc a c r), true) else (M [], false)) := by
  unfold spec_EncodeRecord.f impl_EncodeRecord.f
  have h : decide ((0 : Int) ≤ (a : Int) ∧ (a : Int) ≤ 59) = true := decide_eq_true ⟨by omega, by omega⟩
  rw [l1In_eq, within_eq, good_eq c r (by omega) (by omega) (by omega), isRec_eq c r (by omega) (by omega) (by omega)]
  simp only [Option.bind_some]
  rw [h, if_pos rfl, if_pos rfl]
  by_cases g : Ok c r
  · rw [if_pos g, decide_eq_true g, if_pos rfl, if_pos rfl, line_eq (by omega) c r (by omega) (by omega) (by omega), encode_eq (by omega) c r (by omega) (by omega) (by omega)]
    exact ⟨rfl, rfl⟩
  · rw [if_neg g, decide_eq_false g, if_neg Bool.false_ne_true]
    try rw [if_neg Bool.false_ne_true]
    exact ⟨rfl, rfl⟩
theorem encode_both (a : Int) (ha : -9223372036854775808 ≤ a ∧ a ≤ 9223372036854775807) (c r : List UInt8) (hc : c.length ≤ 1048576) (hr : r.length ≤ 1048576) {k : Nat} (hk : c.length + r.length + 60 < k) :
    ∃ e b, spec_EncodeRecord.f k a (M c) (M r) = some (e, b) ∧ impl_EncodeRecord.f k a (M c) (M r) = some (e, b) := by
  by_cases h : 0 ≤ a ∧ a ≤ 59
  · obtain ⟨n, rfl⟩ : ∃ n : Nat, a = n := ⟨a.toNat, by omega⟩
    obtain ⟨h1, h2⟩ := encode_val n (by omega) c r hc hr hk
    exact ⟨_, _, h1, h2⟩
  · unfold spec_EncodeRecord.f impl_EncodeRecord.f
    rw [l1In_eq, within_eq, decide_eq_false h]
    exact ⟨_, _, rfl, rfl⟩
/-- What is recovered from a text. -/
def recov (s : List UInt8) : List UInt8 := s.take (tot (all 60 0 s))
theorem recover_both (s : List UInt8) (hs : s.length ≤ 1048576) {k : Nat} (hk : 4 * s.length + 600 < k) :
    spec_RecoverLog.f k (M s) = some (if s.length ≤ 30000 then (M (recov s), M [], ((all 60 0 s).length : Int), ((tot (all 60 0 s) : Nat) : Int), true) else (M [], M [], 0, 0, false)) ∧
    impl_RecoverLog.f k (M s) = some (if s.length ≤ 30000 then (M (recov s), M [], ((all 60 0 s).length : Int), ((tot (all 60 0 s) : Nat) : Int), true) else (M [], M [], 0, 0, false)) := by
  have h60 := all_len 60 0 s
  have htl := all_tot 60 0 s
  have hsl' : ((0 : Int) :: sums 0 (all 60 0 s)).length = (all 60 0 s).length + 1 := by rw [List.length_cons, sums_len]
  unfold spec_RecoverLog.f impl_RecoverLog.f recov
  rw [M_size]
  by_cases h : s.length ≤ 30000
  · rw [if_pos h, if_neg (by omega), if_neg (by omega), open_eq s (by omega) (by omega), reads_eq s (by omega) (by omega)]
    simp only [Option.bind_some]
    rw [w64 (by omega) (by omega), rd_sums]
    repeat rw [if_pos (by omega)]
    rw [sx_M, Int.toNat_natCast, List.drop_zero, Nat.sub_zero, List.length_map]
    exact ⟨rfl, rfl⟩
  · rw [if_neg h, if_pos (by omega), if_pos (by omega)]
    exact ⟨rfl, rfl⟩
theorem isLog_both (D P : List UInt8) (C : Int) (hs : D.length + P.length ≤ 1048576) {k : Nat} (hk : 4 * (D.length + P.length) + 600 < k) :
    spec_IsValidLog.f k (M D) (M P) C = some (decide (Good D P C)) ∧ impl_IsValidLog.f k (M D) (M P) C = some (decide (Good D P C)) := by
  have hl : (D ++ P).length = D.length + P.length := List.length_append
  unfold spec_IsValidLog.f
  rw [log_eq D P C (by omega) (by omega) (by omega), valid_eq D P C (by omega) (by omega)]
  exact ⟨rfl, rfl⟩
theorem sync_both (D P : List UInt8) (C : Int) (hs : D.length + P.length ≤ 1048576) {k : Nat} (hk : 4 * (D.length + P.length) + 600 < k) :
    spec_SyncLog.f k (M D) (M P) C = some (if Good D P C then (M (D ++ P), M [], C, true) else (M [], M [], 0, false)) ∧ impl_SyncLog.f k (M D) (M P) C = some (if Good D P C then (M (D ++ P), M [], C, true) else (M [], M [], 0, false)) := by
  have hl : (D ++ P).length = D.length + P.length := List.length_append
  unfold spec_SyncLog.f impl_SyncLog.f
  rw [log_eq D P C (by omega) (by omega) (by omega), valid_eq D P C (by omega) (by omega)]
  simp only [Option.bind_some]
  by_cases g : Good D P C
  · rw [if_pos g, decide_eq_true g, if_pos rfl]
    try rw [if_pos rfl]
    rw [M_size, M_size]
    repeat rw [if_pos (by omega)]
    rw [sc_M]
    exact ⟨rfl, rfl⟩
  · rw [if_neg g, decide_eq_false g, if_neg Bool.false_ne_true]
    try rw [if_neg Bool.false_ne_true]
    exact ⟨rfl, rfl⟩
theorem Good.count {D P : List UInt8} {C : Int} (h : Good D P C) : 0 ≤ C ∧ C ≤ 60 := by
  have := all_len 60 0 (D ++ P)
  have := h.2.2
  omega
/-- A log with a record more. -/
def appended (D P : List UInt8) (C : Int) (c r : List UInt8) : ByteArray × ByteArray × Int × Int :=
  if Good D P C ∧ Ok c r then (if C = 60 then (M D, M P, C, 2) else (M D, M (P ++ enc C.toNat c r), C + 1, 0)) else (M D, M P, C, 1)
theorem append_both (D P : List UInt8) (C : Int) (c r : List UInt8) (hs : D.length + P.length ≤ 1048576) (hc : c.length ≤ 1048576) (hr : r.length ≤ 1048576) {k : Nat} (hk : 4 * (D.length + P.length) + c.length + r.length + 700 < k) :
    spec_AppendRecord.f k (M D) (M P) C (M c) (M r) = some (appended D P C c r) ∧ impl_AppendRecord.f k (M D) (M P) C (M c) (M r) = some (appended D P C c r) := by
  have hl : (D ++ P).length = D.length + P.length := List.length_append
  unfold spec_AppendRecord.f impl_AppendRecord.f appended
  obtain ⟨k, rfl⟩ : ∃ m, k = m + 1 := ⟨k - 1, by omega⟩
  rw [log_eq D P C (by omega) (by omega) (by omega), valid_eq D P C (by omega) (by omega), good_eq c r (by omega) (by omega) (by omega), isRec_eq c r (by omega) (by omega) (by omega)]
  simp only [Option.bind_some, spec_AppendRecord.j0, impl_AppendRecord.j0]
  by_cases g : Good D P C
  · have hct := g.count
    rw [decide_eq_true g, if_pos rfl, if_pos rfl]
    by_cases o : Ok c r
    · have hgo : Good D P C ∧ Ok c r := ⟨g, o⟩
      have hn : ¬ ((!true) = true) := by decide
      rw [if_pos hgo, decide_eq_true o, if_neg hn, if_neg hn]
      by_cases h60 : C = 60
      · rw [if_pos h60, if_pos h60, if_pos h60]
        exact ⟨rfl, rfl⟩
      · obtain ⟨n, rfl⟩ : ∃ n : Nat, C = n := ⟨C.toNat, by omega⟩
        have hel := (enc_len (k := n) (by omega) o).1
        rw [if_neg h60, if_neg h60, if_neg h60, line_eq (by omega) c r (by omega) (by omega) (by omega), encode_eq (by omega) c r (by omega) (by omega) (by omega)]
        simp only [Option.bind_some]
        rw [M_size, M_size, if_pos (by omega)]
        try rw [if_pos (by omega)]
        rw [sc_M, w64 (by omega) (by omega), Int.toNat_natCast]
        exact ⟨rfl, rfl⟩
    · rw [if_neg (show ¬ (Good D P C ∧ Ok c r) from fun h => o h.2), decide_eq_false o, if_pos (show (!false) = true from rfl), if_pos (show (!false) = true from rfl)]
      exact ⟨rfl, rfl⟩
  · rw [if_neg (show ¬ (Good D P C ∧ Ok c r) from fun h => g h.1), decide_eq_false g, if_neg Bool.false_ne_true]
    try rw [if_neg Bool.false_ne_true]
    repeat rw [if_pos rfl]
    exact ⟨rfl, rfl⟩
theorem records_both (D P : List UInt8) (C : Int) (hs : D.length + P.length ≤ 1048576) {k : Nat} (hk : 4 * (D.length + P.length) + 600 < k) :
    spec_LogRecords.f k (M D) (M P) C = some (if Good D P C then ((all 60 0 (D ++ P)).map R27, true) else ([], false)) ∧ impl_LogRecords.f k (M D) (M P) C = some (if Good D P C then ((all 60 0 (D ++ P)).map R27, true) else ([], false)) := by
  have hl : (D ++ P).length = D.length + P.length := List.length_append
  unfold spec_LogRecords.f impl_LogRecords.f
  rw [log_eq D P C (by omega) (by omega) (by omega), records_eq D P C (by omega) (by omega)]
  simp only [Option.bind_some]
  by_cases g : Good D P C
  · rw [if_pos g, decide_eq_true g, if_pos rfl, M_size, M_size, if_pos (by omega), sc_M, open_eq _ (by omega) (by omega)]
    simp
  · rw [if_neg g, decide_eq_false g, if_neg Bool.false_ne_true]
    simp
theorem fuel_log {a k : Nat} (hk : k = 4 * a + 700) : 4 * a + 600 < k := by omega
theorem fuel_app {a b c k : Nat} (hk : k = 4 * a + b + c + 800) : 4 * a + b + c + 700 < k := by omega
theorem fuel_le {a b n : Nat} (h : a + b ≤ n) : a ≤ n ∧ b ≤ n := by omega
theorem eqLog_self (a b : ByteArray) (c : Int) : laws_eqLog.f a b c a b c = some true := by
  unfold laws_eqLog.f
  rw [if_pos rfl, if_pos rfl, if_pos rfl]
/-- A log and a record that came in. -/
theorem ex_log (a b : ByteArray) : ∃ D P, a = M D ∧ b = M P := by
  obtain ⟨D, h1⟩ := ex_M a
  obtain ⟨P, h2⟩ := ex_M b
  exact ⟨D, P, h1, h2⟩
end Go.Proofs.YtdpinnhgkocjhaaDoor.Pr.Pure

/-
What is proved: FnExactAppendRecord.Pure: the program's function and the reference's answer the same.
Conditions: sizes as the types allow.
-/
namespace Go.Proofs.YtdpinnhgkocjhaaDoor.Pr.Pure
open Go.RowKit Go.Proofs.YtdpinnhgkocjhaaDoorW.PrintWords Go.Proofs.YtdpinnhgkocjhaaDoorW.PrintLast Go.Proofs.YtdpinnhgkocjhaaDoorW.PrintMore Go.Proofs.YtdpinnhgkocjhaaDoorW.Opens Go.Proofs.YtdpinnhgkocjhaaDoor.Log
set_option linter.unusedVariables false
theorem FnExactAppendRecord : FnExactAppendRecord.Pure := by
  intro x0 x1 h0 h1
  obtain ⟨D, P, hD, hP⟩ := ex_log x0.f0 x0.f1
  obtain ⟨hs0, hs1, hs2⟩ := h0
  obtain ⟨c, r, hc, hr⟩ := ex_log x1.f0 x1.f1
  obtain ⟨hs3, hs4⟩ := h1
  rw [hD, M_size] at hs0
  rw [hP, M_size] at hs1
  rw [hc, M_size] at hs3
  rw [hr, M_size] at hs4
  obtain ⟨t, ht, hb⟩ := szLog_eq D P x0.f2 hs0 hs1
  obtain ⟨k, hk⟩ : ∃ k, k = 4 * (D.length + P.length) + c.length + r.length + 800 := ⟨_, rfl⟩
  refine ⟨k, ?_⟩
  unfold laws_FnExactAppendRecord.f laws_toLog.f laws_toLogRecord.f
  rw [hD, hP, hc, hr, ht]
  simp only [obs]
  by_cases hn : t < 0
  · rw [if_pos hn]
  · rw [if_neg hn]
    have hle := hb hn
    obtain ⟨t', ht', hb'⟩ := szRecord c r t (by omega) (by omega) hs3 hs4
    rw [ht']
    simp only [obs]
    by_cases hn' : t' < 0
    · rw [if_pos hn']
    · rw [if_neg hn']
      have hle' := hb' hn'
      obtain ⟨r_, e1, e2⟩ : ∃ r_, spec_AppendRecord.f k (M D) (M P) x0.f2 (M c) (M r) = some r_ ∧ impl_AppendRecord.f k (M D) (M P) x0.f2 (M c) (M r) = some r_ := ⟨_, append_both D P x0.f2 c r hle.1 (fuel_le hle'.1).1 (fuel_le hle'.1).2 (k := k) (fuel_app hk)⟩
      simp only [e1, e2, obs, eqLog_self, if_true, bne_self_eq_false, Bool.false_eq_true, if_false]
end Go.Proofs.YtdpinnhgkocjhaaDoor.Pr.Pure

