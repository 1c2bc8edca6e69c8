/-
What is proved: parts of the law FnExactLogRecords: what the functions that it reaches compute, and the plain law.
Conditions: those of each theorem.
-/
import Derived.Lib.Bytealg
import Derived.Lib.ItoaNum
import Derived.Test.YtdpinnhgkocjhaaDoorCFnExactLogRecords3
namespace Go.Proofs.YtdpinnhgkocjhaaDoor.Pr
open Go.RowKit Go.Proofs.YtdpinnhgkocjhaaDoorW.PrintWords Go.Proofs.YtdpinnhgkocjhaaDoorW.PrintLast Go.Proofs.YtdpinnhgkocjhaaDoorW.PrintMore
attribute [local go_sem] max2_int min2_int max_two min_two max_three min_three max_four min_four   -- for this text's walks alone
set_option linter.unusedVariables false
set_option linter.unusedSimpArgs false

/-! ### spec_IsValidLog: function 21 -/
def spec_IsValidLog.f (k : Nat) (a0_0 : ByteArray) (a0_1 : ByteArray) (a0_2 : Int) : Option (Bool) := (spec_l27Log.f k a0_0 a0_1 a0_2).bind fun t281 => (some t281)
theorem spec_IsValidLog.mono : ∀ a0 a1 a2 k, LeO (spec_IsValidLog.f k a0 a1 a2) (spec_IsValidLog.f (k + 1) a0 a1 a2) := by
  intro a0 a1 a2 k
  unfold spec_IsValidLog.f
  repeat' first
      | (with_reducible exact spec_l27Log.mono _ _ _ _)
      | (with_reducible exact LeO.refl _)
      | (with_reducible exact LeO.none _)
      | (with_reducible refine LeO.ite ?_ ?_)
      | (with_reducible refine LeO.bind ?_ (fun _ => ?_))
      | exact spec_l27Log.mono _ _ _ _
      | exact LeO.none _
      | refine LeO.ite ?_ ?_
      | refine LeO.bind ?_ (fun _ => ?_)
set_option maxHeartbeats 8000000 in
set_option maxRecDepth 100000 in
theorem spec_IsValidLog.calls (k : Nat) (a0_0 : ByteArray) (a0_1 : ByteArray) (a0_2 : Int) (r : Bool) (w : World) (h : spec_IsValidLog.f k a0_0 a0_1 a0_2 = some r) :
    Calls Tryd.prog 21 #[.agg #[.string a0_0, .string a0_1, .int .i64 a0_2]] w fun e w' => e = .returned (.bool r) ∧ Below w.heap.size w w' := by
  have hu31 := Tryd.underlying31
  have HB := Aside0.mk (Below.refl w.heap.size w)
  have H : ((spec_l27Log.f k a0_0 a0_1 a0_2).bind fun t281 => (some t281)) = some r := h
  clear h
  replace H := Option.bind_eq_some_iff.mp H
  obtain ⟨t281, A20, H⟩ := H
  replace H : (some t281) = some r := H
  have A2 := Aside0.mk A20
  clear A20
  obtain rfl := Option.some.inj H
  go_enter Tryd.func21, Tryd.ntmps21
  go_wp2_with (first | ((with_reducible refine gate_dst (N := 1) rfl ?_); refine box_event ?hg (N := 1) ?hd (cs := #[.string a0_0, .string a0_1, .int .i64 a0_2]) (t := 31) ?hr ?_; (case hd => rfl); (case hg => rfl); (case hr => first | (go_simp; done) | (go_simp; rfl)); intro gb280 hg w3 hbox hb; have n0_ := Aside0.mk (below_step (by repeat (first | (with_reducible first | exact HB.out | apply below_alloc | apply pw_below_drewN | apply below_drew1) | exact HB.out)) hb); have n1_ := Aside0.mk (hbox); have n2_ := Aside0.mk ((by rw [hg]; exact (below_size (by repeat (first | (with_reducible first | exact HB.out | apply below_alloc | apply pw_below_drewN | apply below_drew1) | exact HB.out))) : w.heap.size ≤ gb280)); have n3_ := Aside0.mk ((by rw [hg]; exact (below_size (by repeat (first | (with_reducible first | exact HB.out | apply below_alloc | apply pw_below_drewN | apply below_drew1) | exact HB.out))) : w.heap.size ≤ gb280)); clear HB; have HB := n0_; have BK280 := n1_; have GW280 := n2_; have GE280 := n3_; clear n0_ n1_ n2_ n3_; clear hb hbox hg; have hcz4_0 : w3.cell? ⟨gb280, 0, none⟩ = some (.string a0_0) := (blk_cell BK280.out 0).trans rfl; have hcz4_1 : w3.cell? ⟨gb280, 1, none⟩ = some (.string a0_1) := (blk_cell BK280.out 1).trans rfl; have hcz4_2 : w3.cell? ⟨gb280, 2, none⟩ = some (.int .i64 a0_2) := (blk_cell BK280.out 2).trans rfl; have hfz4_0 := blk_frozen BK280.out 0; have hfz4_1 := blk_frozen BK280.out 1; have hfz4_2 := blk_frozen BK280.out 2) | ((with_reducible refine gate_callee (f := 49) rfl ?_); refine goesL_ (some 4) rfl rfl Tryd.func49 (by kernel_rfl) rfl #[.agg #[.string a0_0, .string a0_1, .int .i64 a0_2]] rfl (by (try simp only [List.map_toArray, List.map_cons, List.map_nil]); first | done | rfl | (simp only [List.length_drop, List.length_take]; rfl)) ?_; (with_reducible refine (spec_l27Log.calls k a0_0 a0_1 a0_2 t281 _ A2.out).mono ?_); rintro e w5 ⟨rfl, hb⟩; refine ⟨_, rfl, ?_⟩; have n0_ := Aside0.mk (blk_below (g := gb280) (o := .cells #[.string a0_0, .string a0_1, .int .i64 a0_2] 31 (0, 0)) (by (with_reducible repeat (first | refine blk_drewN ?_ _ | refine blk_drew ?_ | refine blk_alloc ?_ _)); exact BK280.out) hb); have n1_ := Aside0.mk (below_step (by repeat (first | (with_reducible first | exact HB.out | apply below_alloc | apply pw_below_drewN | apply below_drew1 | refine below_set ?_ GE280.out) | exact HB.out)) hb); clear BK280; clear HB; have BK280 := n0_; have HB := n1_; clear n0_ n1_; (try clear hb); (try clear hb2); (try clear hk); (try clear hi)))
  go_ret
  exact ⟨by first | rfl | (simp [errW_none, errW_some] <;> rfl) | (simp [*, errW_none, errW_some] <;> rfl), by repeat (first | (with_reducible first | exact HB.out | apply below_alloc | apply pw_below_drewN | apply below_drew1 | refine below_set ?_ GE280.out) | exact HB.out)⟩

end Go.Proofs.YtdpinnhgkocjhaaDoor.Pr

namespace Go.Proofs.YtdpinnhgkocjhaaDoor.Pr
open Go.RowKit Go.Proofs.YtdpinnhgkocjhaaDoorW.PrintWords Go.Proofs.YtdpinnhgkocjhaaDoorW.PrintLast Go.Proofs.YtdpinnhgkocjhaaDoorW.PrintMore
attribute [local go_sem] max2_int min2_int max_two min_two max_three min_three max_four min_four   -- for this text's walks alone
set_option linter.unusedVariables false
set_option linter.unusedSimpArgs false

/-! ### impl_IsValidLog: function 23 -/
def impl_IsValidLog.f (k : Nat) (a0_0 : ByteArray) (a0_1 : ByteArray) (a0_2 : Int) : Option (Bool) := (impl_records.f k a0_0 a0_1 a0_2).bind fun bt298 => (some bt298.2)
theorem impl_IsValidLog.mono : ∀ a0 a1 a2 k, LeO (impl_IsValidLog.f k a0 a1 a2) (impl_IsValidLog.f (k + 1) a0 a1 a2) := by
  intro a0 a1 a2 k
  unfold impl_IsValidLog.f
  repeat' first
      | (with_reducible exact impl_records.mono _ _ _ _)
      | (with_reducible exact LeO.refl _)
      | (with_reducible exact LeO.none _)
      | (with_reducible refine LeO.ite ?_ ?_)
      | (with_reducible refine LeO.bind ?_ (fun _ => ?_))
      | exact impl_records.mono _ _ _ _
      | exact LeO.none _
      | refine LeO.ite ?_ ?_
      | refine LeO.bind ?_ (fun _ => ?_)
set_option maxHeartbeats 8000000 in
set_option maxRecDepth 100000 in
theorem impl_IsValidLog.calls (k : Nat) (a0_0 : ByteArray) (a0_1 : ByteArray) (a0_2 : Int) (r : Bool) (w : World) (h : impl_IsValidLog.f k a0_0 a0_1 a0_2 = some r) (hT : Tb w) :
    Calls Tryd.prog 23 #[.agg #[.string a0_0, .string a0_1, .int .i64 a0_2]] w fun e w' => e = .returned (.bool r) ∧ Below w.heap.size w w' := by
  have HT := Aside0.mk hT
  clear hT
  have hu31 := Tryd.underlying31
  have HB := Aside0.mk (Below.refl w.heap.size w)
  have H : ((impl_records.f k a0_0 a0_1 a0_2).bind fun bt298 => (some bt298.2)) = some r := h
  clear h
  replace H := Option.bind_eq_some_iff.mp H
  obtain ⟨⟨t298, t301⟩, A20, H⟩ := H
  replace H : (some t301) = some r := H
  have A2 := Aside0.mk A20
  clear A20
  obtain rfl := Option.some.inj H
  go_enter Tryd.func23, Tryd.ntmps23
  go_wp2_with (first | ((with_reducible refine gate_dst (N := 1) rfl ?_); refine box_event ?hg (N := 1) ?hd (cs := #[.string a0_0, .string a0_1, .int .i64 a0_2]) (t := 31) ?hr ?_; (case hd => rfl); (case hg => rfl); (case hr => first | (go_simp; done) | (go_simp; rfl)); intro gb297 hg w3 hbox hb; have n0_ := Aside0.mk (below_step (by repeat (first | (with_reducible first | exact HB.out | apply below_alloc | apply pw_below_drewN | apply below_drew1) | exact HB.out)) hb); have n1_ := Aside0.mk (hbox); have n2_ := Aside0.mk ((by rw [hg]; exact (below_size (by repeat (first | (with_reducible first | exact HB.out | apply below_alloc | apply pw_below_drewN | apply below_drew1) | exact HB.out))) : w.heap.size ≤ gb297)); have n3_ := Aside0.mk ((by rw [hg]; exact (below_size (by repeat (first | (with_reducible first | exact HB.out | apply below_alloc | apply pw_below_drewN | apply below_drew1) | exact HB.out))) : w.heap.size ≤ gb297)); clear HB; have HB := n0_; have BK297 := n1_; have GW297 := n2_; have GE297 := n3_; clear n0_ n1_ n2_ n3_; clear hb hbox hg; have hcz4_0 : w3.cell? ⟨gb297, 0, none⟩ = some (.string a0_0) := (blk_cell BK297.out 0).trans rfl; have hcz4_1 : w3.cell? ⟨gb297, 1, none⟩ = some (.string a0_1) := (blk_cell BK297.out 1).trans rfl; have hcz4_2 : w3.cell? ⟨gb297, 2, none⟩ = some (.int .i64 a0_2) := (blk_cell BK297.out 2).trans rfl; have hfz4_0 := blk_frozen BK297.out 0; have hfz4_1 := blk_frozen BK297.out 1; have hfz4_2 := blk_frozen BK297.out 2) | ((with_reducible refine gate_callee (f := 50) rfl ?_); refine goesL_ (some 7) rfl rfl Tryd.func50 (by kernel_rfl) rfl #[.agg #[.string a0_0, .string a0_1, .int .i64 a0_2]] rfl (by (try simp only [List.map_toArray, List.map_cons, List.map_nil]); first | done | rfl | (simp only [List.length_drop, List.length_take]; rfl)) ?_; (with_reducible refine (impl_records.calls k a0_0 a0_1 a0_2 t298 t301 _ A2.out ?sideT).mono ?_); (case sideT => first | exact HT.out | exact Tb.step HT.out HB.out | exact Tb.step HT.out (by repeat (first | (with_reducible first | exact HB.out | apply below_alloc | apply pw_below_drewN | apply below_drew1 | refine below_set ?_ GE297.out) | exact HB.out | exact Below.refl _ _))); rintro e w5 ⟨v299, rfl, ho0, hb⟩; refine ⟨_, rfl, ?_⟩; have n0_ := Aside0.mk (Kd.R_lower ho0 (below_size (by repeat (first | (with_reducible first | exact HB.out | apply below_alloc | apply pw_below_drewN | apply below_drew1 | refine below_set ?_ GE297.out) | exact HB.out)))); have n1_ := Aside0.mk (blk_below (g := gb297) (o := .cells #[.string a0_0, .string a0_1, .int .i64 a0_2] 31 (0, 0)) (by (with_reducible repeat (first | refine blk_drewN ?_ _ | refine blk_drew ?_ | refine blk_alloc ?_ _)); exact BK297.out) hb); have n2_ := Aside0.mk (below_step (by repeat (first | (with_reducible first | exact HB.out | apply below_alloc | apply pw_below_drewN | apply below_drew1 | refine below_set ?_ GE297.out) | exact HB.out)) hb); clear BK297; clear HB; have HO300 := n0_; have BK297 := n1_; have HB := n2_; clear n0_ n1_ n2_; (try clear hb); (try clear hb2); (try clear hk); (try clear hi); (try clear ho0)))
  go_ret
  exact ⟨by first | rfl | (simp [errW_none, errW_some] <;> rfl) | (simp [*, errW_none, errW_some] <;> rfl), by repeat (first | (with_reducible first | exact HB.out | apply below_alloc | apply pw_below_drewN | apply below_drew1 | refine below_set ?_ GE297.out) | exact HB.out)⟩

end Go.Proofs.YtdpinnhgkocjhaaDoor.Pr

namespace Go.Proofs.YtdpinnhgkocjhaaDoor.Pr
open Go.RowKit Go.Proofs.YtdpinnhgkocjhaaDoorW.PrintWords Go.Proofs.YtdpinnhgkocjhaaDoorW.PrintLast Go.Proofs.YtdpinnhgkocjhaaDoorW.PrintMore
attribute [local go_sem] max2_int min2_int max_two min_two max_three min_three max_four min_four sc_in sx_in   -- for this text's walks alone
set_option linter.unusedVariables false
set_option linter.unusedSimpArgs false

/-! ### spec_SyncLog: function 26 -/
def spec_SyncLog.f (k : Nat) (a0_0 : ByteArray) (a0_1 : ByteArray) (a0_2 : Int) : Option (ByteArray × ByteArray × Int × Bool) := (spec_l27Log.f k a0_0 a0_1 a0_2).bind fun t325 => (if t325 = true then (if a0_0.size + a0_1.size ≤ 9223372036854775807 then (some (sc a0_0 a0_1, (⟨#[]⟩ : ByteArray), a0_2, true)) else (none)) else (some ((⟨#[]⟩ : ByteArray), (⟨#[]⟩ : ByteArray), 0, false)))
theorem spec_SyncLog.mono : ∀ a0 a1 a2 k, LeO (spec_SyncLog.f k a0 a1 a2) (spec_SyncLog.f (k + 1) a0 a1 a2) := by
  intro a0 a1 a2 k
  unfold spec_SyncLog.f
  repeat' first
      | (with_reducible exact spec_l27Log.mono _ _ _ _)
      | (with_reducible exact LeO.refl _)
      | (with_reducible exact LeO.none _)
      | (with_reducible refine LeO.ite ?_ ?_)
      | (with_reducible refine LeO.bind ?_ (fun _ => ?_))
      | exact spec_l27Log.mono _ _ _ _
      | exact LeO.none _
      | refine LeO.ite ?_ ?_
      | refine LeO.bind ?_ (fun _ => ?_)
set_option maxHeartbeats 8000000 in
set_option maxRecDepth 100000 in
theorem spec_SyncLog.calls (k : Nat) (a0_0 : ByteArray) (a0_1 : ByteArray) (a0_2 : Int) (r1 : ByteArray) (r2 : ByteArray) (r3 : Int) (r4 : Bool) (w : World) (h : spec_SyncLog.f k a0_0 a0_1 a0_2 = some (r1, r2, r3, r4)) :
    Calls Tryd.prog 26 #[.agg #[.string a0_0, .string a0_1, .int .i64 a0_2]] w fun e w' => e = .returned (.tuple #[.agg #[.string r1, .string r2, .int .i64 r3], .bool r4]) ∧ Below w.heap.size w w' := by
  have hu31 := Tryd.underlying31
  have HB := Aside0.mk (Below.refl w.heap.size w)
  have H : ((spec_l27Log.f k a0_0 a0_1 a0_2).bind fun t325 => (if t325 = true then (if a0_0.size + a0_1.size ≤ 9223372036854775807 then (some (sc a0_0 a0_1, (⟨#[]⟩ : ByteArray), a0_2, true)) else (none)) else (some ((⟨#[]⟩ : ByteArray), (⟨#[]⟩ : ByteArray), 0, false)))) = some (r1, r2, r3, r4) := h
  clear h
  replace H := Option.bind_eq_some_iff.mp H
  obtain ⟨t325, A20, H⟩ := H
  replace H : (if t325 = true then (if a0_0.size + a0_1.size ≤ 9223372036854775807 then (some (sc a0_0 a0_1, (⟨#[]⟩ : ByteArray), a0_2, true)) else (none)) else (some ((⟨#[]⟩ : ByteArray), (⟨#[]⟩ : ByteArray), 0, false))) = some (r1, r2, r3, r4) := H
  have A2 := Aside0.mk A20
  clear A20
  by_cases c3 : t325 = true
  · subst c3
    have H1 : (if a0_0.size + a0_1.size ≤ 9223372036854775807 then (some (sc a0_0 a0_1, (⟨#[]⟩ : ByteArray), a0_2, true)) else (none)) = some (r1, r2, r3, r4) := by rw [if_pos rfl] at H; exact H
    clear H
    have H := H1
    clear H1
    by_cases c4 : a0_0.size + a0_1.size ≤ 9223372036854775807
    · rw [if_pos c4] at H
      have c4b0 := eq_true c4
      have c4b1 : decide (a0_0.size + a0_1.size ≤ 9223372036854775807) = true := decide_eq_true c4
      try have c4b2 : (9223372036854775807 < a0_0.size + a0_1.size) = False := eq_false (Nat.not_lt.2 c4)
      simp only [Option.some.injEq, Prod.mk.injEq] at H
      obtain ⟨rfl, rfl, rfl, rfl⟩ := H
      go_enter Tryd.func26, Tryd.ntmps26
      go_wp2_with (first | ((with_reducible refine gate_dst (N := 1) rfl ?_); refine box_event ?hg (N := 1) ?hd (cs := #[.string a0_0, .string a0_1, .int .i64 a0_2]) (t := 31) ?hr ?_; (case hd => rfl); (case hg => rfl); (case hr => first | (go_simp; done) | (go_simp; rfl)); intro gb323 hg w5 hbox hb; have n0_ := Aside0.mk (below_step (by repeat (first | (with_reducible first | exact HB.out | apply below_alloc | apply pw_below_drewN | apply below_drew1) | exact HB.out)) hb); have n1_ := Aside0.mk (hbox); have n2_ := Aside0.mk ((by rw [hg]; exact (below_size (by repeat (first | (with_reducible first | exact HB.out | apply below_alloc | apply pw_below_drewN | apply below_drew1) | exact HB.out))) : w.heap.size ≤ gb323)); have n3_ := Aside0.mk ((by rw [hg]; exact (below_size (by repeat (first | (with_reducible first | exact HB.out | apply below_alloc | apply pw_below_drewN | apply below_drew1) | exact HB.out))) : w.heap.size ≤ gb323)); clear HB; have HB := n0_; have BK323 := n1_; have GW323 := n2_; have GE323 := n3_; clear n0_ n1_ n2_ n3_; clear hb hbox hg) | ((with_reducible refine gate_dst (N := 2) rfl ?_); refine box_event ?hg (N := 2) ?hd (cs := #[.string (⟨#[]⟩ : ByteArray), .string (⟨#[]⟩ : ByteArray), .int .i64 0]) (t := 31) ?hr ?_; (case hd => rfl); (case hg => rfl); (case hr => first | (go_simp; done) | (go_simp; rfl)); intro gb324 hg w6 hbox hb; have n0_ := Aside0.mk (blk_below (g := gb323) (o := .cells #[.string a0_0, .string a0_1, .int .i64 a0_2] 31 (0, 0)) (by (with_reducible repeat (first | refine blk_drewN ?_ _ | refine blk_drew ?_ | refine blk_alloc ?_ _)); exact BK323.out) hb); have n1_ := Aside0.mk (below_step (by repeat (first | (with_reducible first | exact HB.out | apply below_alloc | apply pw_below_drewN | apply below_drew1 | refine below_set ?_ GE323.out) | exact HB.out)) hb); have n2_ := Aside0.mk (hbox); have n3_ := Aside0.mk ((by rw [hg]; exact (below_size (by repeat (first | (with_reducible first | exact HB.out | apply below_alloc | apply pw_below_drewN | apply below_drew1 | refine below_set ?_ GE323.out) | exact HB.out))) : w.heap.size ≤ gb324)); have n4_ := Aside0.mk ((by rw [hg]; exact (below_size (by repeat (first | (with_reducible first | exact HB.out | apply below_alloc | apply pw_below_drewN | apply below_drew1 | refine below_set ?_ GE323.out) | exact HB.out))) : w.heap.size ≤ gb324)); have n5_ := Aside0.mk ((by rw [hg]; exact Nat.ne_of_lt (blk_lt (g := gb323) (o := .cells #[.string a0_0, .string a0_1, .int .i64 a0_2] 31 (0, 0)) (by (with_reducible repeat (first | refine blk_drewN ?_ _ | refine blk_drew ?_ | refine blk_alloc ?_ _)); exact BK323.out)) : gb323 ≠ gb324)); have n6_ := Aside0.mk ((by rw [hg]; exact Nat.ne_of_gt (blk_lt (g := gb323) (o := .cells #[.string a0_0, .string a0_1, .int .i64 a0_2] 31 (0, 0)) (by (with_reducible repeat (first | refine blk_drewN ?_ _ | refine blk_drew ?_ | refine blk_alloc ?_ _)); exact BK323.out)) : gb324 ≠ gb323)); clear BK323; clear HB; have BK323 := n0_; have HB := n1_; have BK324 := n2_; have GW324 := n3_; have GE324 := n4_; have NB323_324 := n5_; have NB324_323 := n6_; clear n0_ n1_ n2_ n3_ n4_ n5_ n6_; clear hb hbox hg; have hnb7 := NB323_324.out; have hnc7 := NB324_323.out; have hcz8_0 : w6.cell? ⟨gb323, 0, none⟩ = some (.string a0_0) := (blk_cell BK323.out 0).trans rfl; have hcz8_1 : w6.cell? ⟨gb323, 1, none⟩ = some (.string a0_1) := (blk_cell BK323.out 1).trans rfl; have hcz8_2 : w6.cell? ⟨gb323, 2, none⟩ = some (.int .i64 a0_2) := (blk_cell BK323.out 2).trans rfl; have hfz8_0 := blk_frozen BK323.out 0; have hfz8_1 := blk_frozen BK323.out 1; have hfz8_2 := blk_frozen BK323.out 2) | ((with_reducible refine gate_callee (f := 49) rfl ?_); refine goesL_ (some 5) rfl rfl Tryd.func49 (by kernel_rfl) rfl #[.agg #[.string a0_0, .string a0_1, .int .i64 a0_2]] rfl (by (try simp only [List.map_toArray, List.map_cons, List.map_nil]); first | done | rfl | (simp only [List.length_drop, List.length_take]; rfl)) ?_; (with_reducible refine (spec_l27Log.calls k a0_0 a0_1 a0_2 true _ A2.out).mono ?_); rintro e w9 ⟨rfl, hb⟩; refine ⟨_, rfl, ?_⟩; have n0_ := Aside0.mk (blk_below (g := gb323) (o := .cells #[.string a0_0, .string a0_1, .int .i64 a0_2] 31 (0, 0)) (by (with_reducible repeat (first | refine blk_drewN ?_ _ | refine blk_drew ?_ | refine blk_alloc ?_ _)); exact BK323.out) hb); have n1_ := Aside0.mk (blk_below (g := gb324) (o := .cells #[.string (⟨#[]⟩ : ByteArray), .string (⟨#[]⟩ : ByteArray), .int .i64 0] 31 (0, 0)) (by (with_reducible repeat (first | refine blk_drewN ?_ _ | refine blk_drew ?_ | refine blk_alloc ?_ _)); exact BK324.out) hb); have n2_ := Aside0.mk (below_step (by repeat (first | (with_reducible first | exact HB.out | apply below_alloc | apply pw_below_drewN | apply below_drew1 | refine below_set ?_ GE323.out | refine below_set ?_ GE324.out) | exact HB.out)) hb); clear BK323; clear BK324; clear HB; have BK323 := n0_; have BK324 := n1_; have HB := n2_; clear n0_ n1_ n2_; (try clear hb); (try clear hb2); (try clear hk); (try clear hi); have hcz10_0 : w9.cell? ⟨gb323, 0, none⟩ = some (.string a0_0) := (blk_cell BK323.out 0).trans rfl; have hcz10_1 : w9.cell? ⟨gb323, 1, none⟩ = some (.string a0_1) := (blk_cell BK323.out 1).trans rfl; have hcz10_2 : w9.cell? ⟨gb323, 2, none⟩ = some (.int .i64 a0_2) := (blk_cell BK323.out 2).trans rfl; have hfz10_0 := blk_frozen BK323.out 0; have hfz10_1 := blk_frozen BK323.out 1; have hfz10_2 := blk_frozen BK323.out 2; have hcz11_0 : w9.cell? ⟨gb324, 0, none⟩ = some (.string (⟨#[]⟩ : ByteArray)) := (blk_cell BK324.out 0).trans rfl; have hcz11_1 : w9.cell? ⟨gb324, 1, none⟩ = some (.string (⟨#[]⟩ : ByteArray)) := (blk_cell BK324.out 1).trans rfl; have hcz11_2 : w9.cell? ⟨gb324, 2, none⟩ = some (.int .i64 0) := (blk_cell BK324.out 2).trans rfl; have hfz11_0 := blk_frozen BK324.out 0; have hfz11_1 := blk_frozen BK324.out 1; have hfz11_2 := blk_frozen BK324.out 2))
      refine bodyPost_ret (results_ct rfl _ _ gb324 31 #[.string (sc a0_0 a0_1), .string (⟨#[]⟩ : ByteArray), .int .i64 a0_2] (0, 0) _ rfl (by (with_reducible repeat (first | refine blk_drewN ?_ _ | refine blk_drew ?_ | refine blk_alloc ?_ _)); refine blk_put (cs := #[.string (sc a0_0 a0_1), .string (⟨#[]⟩ : ByteArray), .int .i64 0]) ?_ 2 _ rfl; (with_reducible repeat (first | refine blk_drewN ?_ _ | refine blk_drew ?_ | refine blk_alloc ?_ _)); refine blk_put (cs := #[.string (sc a0_0 a0_1), .string (⟨#[]⟩ : ByteArray), .int .i64 0]) ?_ 1 _ rfl; (with_reducible repeat (first | refine blk_drewN ?_ _ | refine blk_drew ?_ | refine blk_alloc ?_ _)); refine blk_put (cs := #[.string (⟨#[]⟩ : ByteArray), .string (⟨#[]⟩ : ByteArray), .int .i64 0]) ?_ 0 _ rfl; (with_reducible repeat (first | refine blk_drewN ?_ _ | refine blk_drew ?_ | refine blk_alloc ?_ _)); exact BK324.out) Tryd.underlying31 rfl (by kernel_rfl)) rfl ?_
      exact ⟨by first | rfl | (simp [errW_none, errW_some] <;> rfl) | (simp [*, errW_none, errW_some] <;> rfl), by repeat (first | (with_reducible first | exact HB.out | apply below_alloc | apply pw_below_drewN | apply below_drew1 | refine below_set ?_ GE323.out | refine below_set ?_ GE324.out) | exact HB.out)⟩
    · rw [if_neg c4] at H
      exact absurd H (by simp)
  · replace c3 := Bool.eq_false_iff.mpr c3
    subst c3
    have H1 : (some ((⟨#[]⟩ : ByteArray), (⟨#[]⟩ : ByteArray), 0, false)) = some (r1, r2, r3, r4) := by rw [if_neg (show ¬ (false = true) by decide)] at H; exact H
    clear H
    have H := H1
    clear H1
    simp only [Option.some.injEq, Prod.mk.injEq] at H
    obtain ⟨rfl, rfl, rfl, rfl⟩ := H
    go_enter Tryd.func26, Tryd.ntmps26
    go_wp2_with (first | ((with_reducible refine gate_dst (N := 1) rfl ?_); refine box_event ?hg (N := 1) ?hd (cs := #[.string a0_0, .string a0_1, .int .i64 a0_2]) (t := 31) ?hr ?_; (case hd => rfl); (case hg => rfl); (case hr => first | (go_simp; done) | (go_simp; rfl)); intro gb323 hg w12 hbox hb; have n0_ := Aside0.mk (below_step (by repeat (first | (with_reducible first | exact HB.out | apply below_alloc | apply pw_below_drewN | apply below_drew1) | exact HB.out)) hb); have n1_ := Aside0.mk (hbox); have n2_ := Aside0.mk ((by rw [hg]; exact (below_size (by repeat (first | (with_reducible first | exact HB.out | apply below_alloc | apply pw_below_drewN | apply below_drew1) | exact HB.out))) : w.heap.size ≤ gb323)); have n3_ := Aside0.mk ((by rw [hg]; exact (below_size (by repeat (first | (with_reducible first | exact HB.out | apply below_alloc | apply pw_below_drewN | apply below_drew1) | exact HB.out))) : w.heap.size ≤ gb323)); clear HB; have HB := n0_; have BK323 := n1_; have GW323 := n2_; have GE323 := n3_; clear n0_ n1_ n2_ n3_; clear hb hbox hg) | ((with_reducible refine gate_dst (N := 2) rfl ?_); refine box_event ?hg (N := 2) ?hd (cs := #[.string (⟨#[]⟩ : ByteArray), .string (⟨#[]⟩ : ByteArray), .int .i64 0]) (t := 31) ?hr ?_; (case hd => rfl); (case hg => rfl); (case hr => first | (go_simp; done) | (go_simp; rfl)); intro gb324 hg w13 hbox hb; have n0_ := Aside0.mk (blk_below (g := gb323) (o := .cells #[.string a0_0, .string a0_1, .int .i64 a0_2] 31 (0, 0)) (by (with_reducible repeat (first | refine blk_drewN ?_ _ | refine blk_drew ?_ | refine blk_alloc ?_ _)); exact BK323.out) hb); have n1_ := Aside0.mk (below_step (by repeat (first | (with_reducible first | exact HB.out | apply below_alloc | apply pw_below_drewN | apply below_drew1 | refine below_set ?_ GE323.out) | exact HB.out)) hb); have n2_ := Aside0.mk (hbox); have n3_ := Aside0.mk ((by rw [hg]; exact (below_size (by repeat (first | (with_reducible first | exact HB.out | apply below_alloc | apply pw_below_drewN | apply below_drew1 | refine below_set ?_ GE323.out) | exact HB.out))) : w.heap.size ≤ gb324)); have n4_ := Aside0.mk ((by rw [hg]; exact (below_size (by repeat (first | (with_reducible first | exact HB.out | apply below_alloc | apply pw_below_drewN | apply below_drew1 | refine below_set ?_ GE323.out) | exact HB.out))) : w.heap.size ≤ gb324)); have n5_ := Aside0.mk ((by rw [hg]; exact Nat.ne_of_lt (blk_lt (g := gb323) (o := .cells #[.string a0_0, .string a0_1, .int .i64 a0_2] 31 (0, 0)) (by (with_reducible repeat (first | refine blk_drewN ?_ _ | refine blk_drew ?_ | refine blk_alloc ?_ _)); exact BK323.out)) : gb323 ≠ gb324)); have n6_ := Aside0.mk ((by rw [hg]; exact Nat.ne_of_gt (blk_lt (g := gb323) (o := .cells #[.string a0_0, .string a0_1, .int .i64 a0_2] 31 (0, 0)) (by (with_reducible repeat (first | refine blk_drewN ?_ _ | refine blk_drew ?_ | refine blk_alloc ?_ _)); exact BK323.out)) : gb324 ≠ gb323)); clear BK323; clear HB; have BK323 := n0_; have HB := n1_; have BK324 := n2_; have GW324 := n3_; have GE324 := n4_; have NB323_324 := n5_; have NB324_323 := n6_; clear n0_ n1_ n2_ n3_ n4_ n5_ n6_; clear hb hbox hg; have hnb14 := NB323_324.out; have hnc14 := NB324_323.out; have hcz15_0 : w13.cell? ⟨gb323, 0, none⟩ = some (.string a0_0) := (blk_cell BK323.out 0).trans rfl; have hcz15_1 : w13.cell? ⟨gb323, 1, none⟩ = some (.string a0_1) := (blk_cell BK323.out 1).trans rfl; have hcz15_2 : w13.cell? ⟨gb323, 2, none⟩ = some (.int .i64 a0_2) := (blk_cell BK323.out 2).trans rfl; have hfz15_0 := blk_frozen BK323.out 0; have hfz15_1 := blk_frozen BK323.out 1; have hfz15_2 := blk_frozen BK323.out 2) | ((with_reducible refine gate_callee (f := 49) rfl ?_); refine goesL_ (some 5) rfl rfl Tryd.func49 (by kernel_rfl) rfl #[.agg #[.string a0_0, .string a0_1, .int .i64 a0_2]] rfl (by (try simp only [List.map_toArray, List.map_cons, List.map_nil]); first | done | rfl | (simp only [List.length_drop, List.length_take]; rfl)) ?_; (with_reducible refine (spec_l27Log.calls k a0_0 a0_1 a0_2 false _ A2.out).mono ?_); rintro e w16 ⟨rfl, hb⟩; refine ⟨_, rfl, ?_⟩; have n0_ := Aside0.mk (blk_below (g := gb323) (o := .cells #[.string a0_0, .string a0_1, .int .i64 a0_2] 31 (0, 0)) (by (with_reducible repeat (first | refine blk_drewN ?_ _ | refine blk_drew ?_ | refine blk_alloc ?_ _)); exact BK323.out) hb); have n1_ := Aside0.mk (blk_below (g := gb324) (o := .cells #[.string (⟨#[]⟩ : ByteArray), .string (⟨#[]⟩ : ByteArray), .int .i64 0] 31 (0, 0)) (by (with_reducible repeat (first | refine blk_drewN ?_ _ | refine blk_drew ?_ | refine blk_alloc ?_ _)); exact BK324.out) hb); have n2_ := Aside0.mk (below_step (by repeat (first | (with_reducible first | exact HB.out | apply below_alloc | apply pw_below_drewN | apply below_drew1 | refine below_set ?_ GE323.out | refine below_set ?_ GE324.out) | exact HB.out)) hb); clear BK323; clear BK324; clear HB; have BK323 := n0_; have BK324 := n1_; have HB := n2_; clear n0_ n1_ n2_; (try clear hb); (try clear hb2); (try clear hk); (try clear hi); have hcz17_0 : w16.cell? ⟨gb324, 0, none⟩ = some (.string (⟨#[]⟩ : ByteArray)) := (blk_cell BK324.out 0).trans rfl; have hcz17_1 : w16.cell? ⟨gb324, 1, none⟩ = some (.string (⟨#[]⟩ : ByteArray)) := (blk_cell BK324.out 1).trans rfl; have hcz17_2 : w16.cell? ⟨gb324, 2, none⟩ = some (.int .i64 0) := (blk_cell BK324.out 2).trans rfl; have hfz17_0 := blk_frozen BK324.out 0; have hfz17_1 := blk_frozen BK324.out 1; have hfz17_2 := blk_frozen BK324.out 2))
    refine bodyPost_ret (results_ct rfl _ _ gb324 31 #[.string (⟨#[]⟩ : ByteArray), .string (⟨#[]⟩ : ByteArray), .int .i64 0] (0, 0) _ rfl (by (with_reducible repeat (first | refine blk_drewN ?_ _ | refine blk_drew ?_ | refine blk_alloc ?_ _)); refine blk_put (cs := #[.string (⟨#[]⟩ : ByteArray), .string (⟨#[]⟩ : ByteArray), .int .i64 0]) ?_ 2 _ rfl; (with_reducible repeat (first | refine blk_drewN ?_ _ | refine blk_drew ?_ | refine blk_alloc ?_ _)); refine blk_put (cs := #[.string (⟨#[]⟩ : ByteArray), .string (⟨#[]⟩ : ByteArray), .int .i64 0]) ?_ 1 _ rfl; (with_reducible repeat (first | refine blk_drewN ?_ _ | refine blk_drew ?_ | refine blk_alloc ?_ _)); refine blk_put (cs := #[.string (⟨#[]⟩ : ByteArray), .string (⟨#[]⟩ : ByteArray), .int .i64 0]) ?_ 0 _ rfl; (with_reducible repeat (first | refine blk_drewN ?_ _ | refine blk_drew ?_ | refine blk_alloc ?_ _)); exact BK324.out) Tryd.underlying31 rfl (by kernel_rfl)) rfl ?_
    exact ⟨by first | rfl | (simp [errW_none, errW_some] <;> rfl) | (simp [*, errW_none, errW_some] <;> rfl), by repeat (first | (with_reducible first | exact HB.out | apply below_alloc | apply pw_below_drewN | apply below_drew1 | refine below_set ?_ GE323.out | refine below_set ?_ GE324.out) | exact HB.out)⟩

end Go.Proofs.YtdpinnhgkocjhaaDoor.Pr

namespace Go.Proofs.YtdpinnhgkocjhaaDoor.Pr
open Go.RowKit Go.Proofs.YtdpinnhgkocjhaaDoorW.PrintWords Go.Proofs.YtdpinnhgkocjhaaDoorW.PrintLast Go.Proofs.YtdpinnhgkocjhaaDoorW.PrintMore
attribute [local go_sem] max2_int min2_int max_two min_two max_three min_three max_four min_four sc_in sx_in   -- for this text's walks alone
set_option linter.unusedVariables false
set_option linter.unusedSimpArgs false

/-! ### impl_SyncLog: function 27 -/
def impl_SyncLog.f (k : Nat) (a0_0 : ByteArray) (a0_1 : ByteArray) (a0_2 : Int) : Option (ByteArray × ByteArray × Int × Bool) := (impl_IsValidLog.f k a0_0 a0_1 a0_2).bind fun t328 => (if t328 = true then (if a0_0.size + a0_1.size ≤ 9223372036854775807 then (some (sc a0_0 a0_1, (⟨#[]⟩ : ByteArray), a0_2, true)) else (none)) else (some ((⟨#[]⟩ : ByteArray), (⟨#[]⟩ : ByteArray), 0, false)))
theorem impl_SyncLog.mono : ∀ a0 a1 a2 k, LeO (impl_SyncLog.f k a0 a1 a2) (impl_SyncLog.f (k + 1) a0 a1 a2) := by
  intro a0 a1 a2 k
  unfold impl_SyncLog.f
  repeat' first
      | (with_reducible exact impl_IsValidLog.mono _ _ _ _)
      | (with_reducible exact LeO.refl _)
      | (with_reducible exact LeO.none _)
      | (with_reducible refine LeO.ite ?_ ?_)
      | (with_reducible refine LeO.bind ?_ (fun _ => ?_))
      | exact impl_IsValidLog.mono _ _ _ _
      | exact LeO.none _
      | refine LeO.ite ?_ ?_
      | refine LeO.bind ?_ (fun _ => ?_)
set_option maxHeartbeats 8000000 in
set_option maxRecDepth 100000 in
theorem impl_SyncLog.calls (k : Nat) (a0_0 : ByteArray) (a0_1 : ByteArray) (a0_2 : Int) (r1 : ByteArray) (r2 : ByteArray) (r3 : Int) (r4 : Bool) (w : World) (h : impl_SyncLog.f k a0_0 a0_1 a0_2 = some (r1, r2, r3, r4)) (hT : Tb w) :
    Calls Tryd.prog 27 #[.agg #[.string a0_0, .string a0_1, .int .i64 a0_2]] w fun e w' => e = .returned (.tuple #[.agg #[.string r1, .string r2, .int .i64 r3], .bool r4]) ∧ Below w.heap.size w w' := by
  have HT := Aside0.mk hT
  clear hT
  have hu31 := Tryd.underlying31
  have HB := Aside0.mk (Below.refl w.heap.size w)
  have H : ((impl_IsValidLog.f k a0_0 a0_1 a0_2).bind fun t328 => (if t328 = true then (if a0_0.size + a0_1.size ≤ 9223372036854775807 then (some (sc a0_0 a0_1, (⟨#[]⟩ : ByteArray), a0_2, true)) else (none)) else (some ((⟨#[]⟩ : ByteArray), (⟨#[]⟩ : ByteArray), 0, false)))) = some (r1, r2, r3, r4) := h
  clear h
  replace H := Option.bind_eq_some_iff.mp H
  obtain ⟨t328, A20, H⟩ := H
  replace H : (if t328 = true then (if a0_0.size + a0_1.size ≤ 9223372036854775807 then (some (sc a0_0 a0_1, (⟨#[]⟩ : ByteArray), a0_2, true)) else (none)) else (some ((⟨#[]⟩ : ByteArray), (⟨#[]⟩ : ByteArray), 0, false))) = some (r1, r2, r3, r4) := H
  have A2 := Aside0.mk A20
  clear A20
  by_cases c3 : t328 = true
  · subst c3
    have H1 : (if a0_0.size + a0_1.size ≤ 9223372036854775807 then (some (sc a0_0 a0_1, (⟨#[]⟩ : ByteArray), a0_2, true)) else (none)) = some (r1, r2, r3, r4) := by rw [if_pos rfl] at H; exact H
    clear H
    have H := H1
    clear H1
    by_cases c4 : a0_0.size + a0_1.size ≤ 9223372036854775807
    · rw [if_pos c4] at H
      have c4b0 := eq_true c4
      have c4b1 : decide (a0_0.size + a0_1.size ≤ 9223372036854775807) = true := decide_eq_true c4
      try have c4b2 : (9223372036854775807 < a0_0.size + a0_1.size) = False := eq_false (Nat.not_lt.2 c4)
      simp only [Option.some.injEq, Prod.mk.injEq] at H
      obtain ⟨rfl, rfl, rfl, rfl⟩ := H
      go_enter Tryd.func27, Tryd.ntmps27
      go_wp2_with (first | ((with_reducible refine gate_dst (N := 1) rfl ?_); refine box_event ?hg (N := 1) ?hd (cs := #[.string a0_0, .string a0_1, .int .i64 a0_2]) (t := 31) ?hr ?_; (case hd => rfl); (case hg => rfl); (case hr => first | (go_simp; done) | (go_simp; rfl)); intro gb326 hg w5 hbox hb; have n0_ := Aside0.mk (below_step (by repeat (first | (with_reducible first | exact HB.out | apply below_alloc | apply pw_below_drewN | apply below_drew1) | exact HB.out)) hb); have n1_ := Aside0.mk (hbox); have n2_ := Aside0.mk ((by rw [hg]; exact (below_size (by repeat (first | (with_reducible first | exact HB.out | apply below_alloc | apply pw_below_drewN | apply below_drew1) | exact HB.out))) : w.heap.size ≤ gb326)); have n3_ := Aside0.mk ((by rw [hg]; exact (below_size (by repeat (first | (with_reducible first | exact HB.out | apply below_alloc | apply pw_below_drewN | apply below_drew1) | exact HB.out))) : w.heap.size ≤ gb326)); clear HB; have HB := n0_; have BK326 := n1_; have GW326 := n2_; have GE326 := n3_; clear n0_ n1_ n2_ n3_; clear hb hbox hg) | ((with_reducible refine gate_dst (N := 2) rfl ?_); refine box_event ?hg (N := 2) ?hd (cs := #[.string (⟨#[]⟩ : ByteArray), .string (⟨#[]⟩ : ByteArray), .int .i64 0]) (t := 31) ?hr ?_; (case hd => rfl); (case hg => rfl); (case hr => first | (go_simp; done) | (go_simp; rfl)); intro gb327 hg w6 hbox hb; have n0_ := Aside0.mk (blk_below (g := gb326) (o := .cells #[.string a0_0, .string a0_1, .int .i64 a0_2] 31 (0, 0)) (by (with_reducible repeat (first | refine blk_drewN ?_ _ | refine blk_drew ?_ | refine blk_alloc ?_ _)); exact BK326.out) hb); have n1_ := Aside0.mk (below_step (by repeat (first | (with_reducible first | exact HB.out | apply below_alloc | apply pw_below_drewN | apply below_drew1 | refine below_set ?_ GE326.out) | exact HB.out)) hb); have n2_ := Aside0.mk (hbox); have n3_ := Aside0.mk ((by rw [hg]; exact (below_size (by repeat (first | (with_reducible first | exact HB.out | apply below_alloc | apply pw_below_drewN | apply below_drew1 | refine below_set ?_ GE326.out) | exact HB.out))) : w.heap.size ≤ gb327)); have n4_ := Aside0.mk ((by rw [hg]; exact (below_size (by repeat (first | (with_reducible first | exact HB.out | apply below_alloc | apply pw_below_drewN | apply below_drew1 | refine below_set ?_ GE326.out) | exact HB.out))) : w.heap.size ≤ gb327)); have n5_ := Aside0.mk ((by rw [hg]; exact Nat.ne_of_lt (blk_lt (g := gb326) (o := .cells #[.string a0_0, .string a0_1, .int .i64 a0_2] 31 (0, 0)) (by (with_reducible repeat (first | refine blk_drewN ?_ _ | refine blk_drew ?_ | refine blk_alloc ?_ _)); exact BK326.out)) : gb326 ≠ gb327)); have n6_ := Aside0.mk ((by rw [hg]; exact Nat.ne_of_gt (blk_lt (g := gb326) (o := .cells #[.string a0_0, .string a0_1, .int .i64 a0_2] 31 (0, 0)) (by (with_reducible repeat (first | refine blk_drewN ?_ _ | refine blk_drew ?_ | refine blk_alloc ?_ _)); exact BK326.out)) : gb327 ≠ gb326)); clear BK326; clear HB; have BK326 := n0_; have HB := n1_; have BK327 := n2_; have GW327 := n3_; have GE327 := n4_; have NB326_327 := n5_; have NB327_326 := n6_; clear n0_ n1_ n2_ n3_ n4_ n5_ n6_; clear hb hbox hg; have hnb7 := NB326_327.out; have hnc7 := NB327_326.out; have hcz8_0 : w6.cell? ⟨gb326, 0, none⟩ = some (.string a0_0) := (blk_cell BK326.out 0).trans rfl; have hcz8_1 : w6.cell? ⟨gb326, 1, none⟩ = some (.string a0_1) := (blk_cell BK326.out 1).trans rfl; have hcz8_2 : w6.cell? ⟨gb326, 2, none⟩ = some (.int .i64 a0_2) := (blk_cell BK326.out 2).trans rfl; have hfz8_0 := blk_frozen BK326.out 0; have hfz8_1 := blk_frozen BK326.out 1; have hfz8_2 := blk_frozen BK326.out 2) | ((with_reducible refine gate_callee (f := 23) rfl ?_); refine goesL_ (some 5) rfl rfl Tryd.func23 (by kernel_rfl) rfl #[.agg #[.string a0_0, .string a0_1, .int .i64 a0_2]] rfl (by (try simp only [List.map_toArray, List.map_cons, List.map_nil]); first | done | rfl | (simp only [List.length_drop, List.length_take]; rfl)) ?_; (with_reducible refine (impl_IsValidLog.calls k a0_0 a0_1 a0_2 true _ A2.out ?sideT).mono ?_); (case sideT => first | exact HT.out | exact Tb.step HT.out HB.out | exact Tb.step HT.out (by repeat (first | (with_reducible first | exact HB.out | apply below_alloc | apply pw_below_drewN | apply below_drew1 | refine below_set ?_ GE326.out | refine below_set ?_ GE327.out) | exact HB.out | exact Below.refl _ _))); rintro e w9 ⟨rfl, hb⟩; refine ⟨_, rfl, ?_⟩; have n0_ := Aside0.mk (blk_below (g := gb326) (o := .cells #[.string a0_0, .string a0_1, .int .i64 a0_2] 31 (0, 0)) (by (with_reducible repeat (first | refine blk_drewN ?_ _ | refine blk_drew ?_ | refine blk_alloc ?_ _)); exact BK326.out) hb); have n1_ := Aside0.mk (blk_below (g := gb327) (o := .cells #[.string (⟨#[]⟩ : ByteArray), .string (⟨#[]⟩ : ByteArray), .int .i64 0] 31 (0, 0)) (by (with_reducible repeat (first | refine blk_drewN ?_ _ | refine blk_drew ?_ | refine blk_alloc ?_ _)); exact BK327.out) hb); have n2_ := Aside0.mk (below_step (by repeat (first | (with_reducible first | exact HB.out | apply below_alloc | apply pw_below_drewN | apply below_drew1 | refine below_set ?_ GE326.out | refine below_set ?_ GE327.out) | exact HB.out)) hb); clear BK326; clear BK327; clear HB; have BK326 := n0_; have BK327 := n1_; have HB := n2_; clear n0_ n1_ n2_; (try clear hb); (try clear hb2); (try clear hk); (try clear hi); have hcz10_0 : w9.cell? ⟨gb326, 0, none⟩ = some (.string a0_0) := (blk_cell BK326.out 0).trans rfl; have hcz10_1 : w9.cell? ⟨gb326, 1, none⟩ = some (.string a0_1) := (blk_cell BK326.out 1).trans rfl; have hcz10_2 : w9.cell? ⟨gb326, 2, none⟩ = some (.int .i64 a0_2) := (blk_cell BK326.out 2).trans rfl; have hfz10_0 := blk_frozen BK326.out 0; have hfz10_1 := blk_frozen BK326.out 1; have hfz10_2 := blk_frozen BK326.out 2; have hcz11_0 : w9.cell? ⟨gb327, 0, none⟩ = some (.string (⟨#[]⟩ : ByteArray)) := (blk_cell BK327.out 0).trans rfl; have hcz11_1 : w9.cell? ⟨gb327, 1, none⟩ = some (.string (⟨#[]⟩ : ByteArray)) := (blk_cell BK327.out 1).trans rfl; have hcz11_2 : w9.cell? ⟨gb327, 2, none⟩ = some (.int .i64 0) := (blk_cell BK327.out 2).trans rfl; have hfz11_0 := blk_frozen BK327.out 0; have hfz11_1 := blk_frozen BK327.out 1; have hfz11_2 := blk_frozen BK327.out 2))
      refine bodyPost_ret (results_ct rfl _ _ gb327 31 #[.string (sc a0_0 a0_1), .string (⟨#[]⟩ : ByteArray), .int .i64 a0_2] (0, 0) _ rfl (by (with_reducible repeat (first | refine blk_drewN ?_ _ | refine blk_drew ?_ | refine blk_alloc ?_ _)); refine blk_put (cs := #[.string (sc a0_0 a0_1), .string (⟨#[]⟩ : ByteArray), .int .i64 0]) ?_ 2 _ rfl; (with_reducible repeat (first | refine blk_drewN ?_ _ | refine blk_drew ?_ | refine blk_alloc ?_ _)); refine blk_put (cs := #[.string (sc a0_0 a0_1), .string (⟨#[]⟩ : ByteArray), .int .i64 0]) ?_ 1 _ rfl; (with_reducible repeat (first | refine blk_drewN ?_ _ | refine blk_drew ?_ | refine blk_alloc ?_ _)); refine blk_put (cs := #[.string (⟨#[]⟩ : ByteArray), .string (⟨#[]⟩ : ByteArray), .int .i64 0]) ?_ 0 _ rfl; (with_reducible repeat (first | refine blk_drewN ?_ _ | refine blk_drew ?_ | refine blk_alloc ?_ _)); exact BK327.out) Tryd.underlying31 rfl (by kernel_rfl)) rfl ?_
      exact ⟨by first | rfl | (simp [errW_none, errW_some] <;> rfl) | (simp [*, errW_none, errW_some] <;> rfl), by repeat (first | (with_reducible first | exact HB.out | apply below_alloc | apply pw_below_drewN | apply below_drew1 | refine below_set ?_ GE326.out | refine below_set ?_ GE327.out) | exact HB.out)⟩
    · rw [if_neg c4] at H
      exact absurd H (by simp)
  · replace c3 := Bool.eq_false_iff.mpr c3
    subst c3
    have H1 : (some ((⟨#[]⟩ : ByteArray), (⟨#[]⟩ : ByteArray), 0, false)) = some (r1, r2, r3, r4) := by rw [if_neg (show ¬ (false = true) by decide)] at H; exact H
    clear H
    have H := H1
    clear H1
    simp only [Option.some.injEq, Prod.mk.injEq] at H
    obtain ⟨rfl, rfl, rfl, rfl⟩ := H
    go_enter Tryd.func27, Tryd.ntmps27
    go_wp2_with (first | ((with_reducible refine gate_dst (N := 1) rfl ?_); refine box_event ?hg (N := 1) ?hd (cs := #[.string a0_0, .string a0_1, .int .i64 a0_2]) (t := 31) ?hr ?_; (case hd => rfl); (case hg => rfl); (case hr => first | (go_simp; done) | (go_simp; rfl)); intro gb326 hg w12 hbox hb; have n0_ := Aside0.mk (below_step (by repeat (first | (with_reducible first | exact HB.out | apply below_alloc | apply pw_below_drewN | apply below_drew1) | exact HB.out)) hb); have n1_ := Aside0.mk (hbox); have n2_ := Aside0.mk ((by rw [hg]; exact (below_size (by repeat (first | (with_reducible first | exact HB.out | apply below_alloc | apply pw_below_drewN | apply below_drew1) | exact HB.out))) : w.heap.size ≤ gb326)); have n3_ := Aside0.mk ((by rw [hg]; exact (below_size (by repeat (first | (with_reducible first | exact HB.out | apply below_alloc | apply pw_below_drewN | apply below_drew1) | exact HB.out))) : w.heap.size ≤ gb326)); clear HB; have HB := n0_; have BK326 := n1_; have GW326 := n2_; have GE326 := n3_; clear n0_ n1_ n2_ n3_; clear hb hbox hg) | ((with_reducible refine gate_dst (N := 2) rfl ?_); refine box_event ?hg (N := 2) ?hd (cs := #[.string (⟨#[]⟩ : ByteArray), .string (⟨#[]⟩ : ByteArray), .int .i64 0]) (t := 31) ?hr ?_; (case hd => rfl); (case hg => rfl); (case hr => first | (go_simp; done) | (go_simp; rfl)); intro gb327 hg w13 hbox hb; have n0_ := Aside0.mk (blk_below (g := gb326) (o := .cells #[.string a0_0, .string a0_1, .int .i64 a0_2] 31 (0, 0)) (by (with_reducible repeat (first | refine blk_drewN ?_ _ | refine blk_drew ?_ | refine blk_alloc ?_ _)); exact BK326.out) hb); have n1_ := Aside0.mk (below_step (by repeat (first | (with_reducible first | exact HB.out | apply below_alloc | apply pw_below_drewN | apply below_drew1 | refine below_set ?_ GE326.out) | exact HB.out)) hb); have n2_ := Aside0.mk (hbox); have n3_ := Aside0.mk ((by rw [hg]; exact (below_size (by repeat (first | (with_reducible first | exact HB.out | apply below_alloc | apply pw_below_drewN | apply below_drew1 | refine below_set ?_ GE326.out) | exact HB.out))) : w.heap.size ≤ gb327)); have n4_ := Aside0.mk ((by rw [hg]; exact (below_size (by repeat (first | (with_reducible first | exact HB.out | apply below_alloc | apply pw_below_drewN | apply below_drew1 | refine below_set ?_ GE326.out) | exact HB.out))) : w.heap.size ≤ gb327)); have n5_ := Aside0.mk ((by rw [hg]; exact Nat.ne_of_lt (blk_lt (g := gb326) (o := .cells #[.string a0_0, .string a0_1, .int .i64 a0_2] 31 (0, 0)) (by (with_reducible repeat (first | refine blk_drewN ?_ _ | refine blk_drew ?_ | refine blk_alloc ?_ _)); exact BK326.out)) : gb326 ≠ gb327)); have n6_ := Aside0.mk ((by rw [hg]; exact Nat.ne_of_gt (blk_lt (g := gb326) (o := .cells #[.string a0_0, .string a0_1, .int .i64 a0_2] 31 (0, 0)) (by (with_reducible repeat (first | refine blk_drewN ?_ _ | refine blk_drew ?_ | refine blk_alloc ?_ _)); exact BK326.out)) : gb327 ≠ gb326)); clear BK326; clear HB; have BK326 := n0_; have HB := n1_; have BK327 := n2_; have GW327 := n3_; have GE327 := n4_; have NB326_327 := n5_; have NB327_326 := n6_; clear n0_ n1_ n2_ n3_ n4_ n5_ n6_; clear hb hbox hg; have hnb14 := NB326_327.out; have hnc14 := NB327_326.out; have hcz15_0 : w13.cell? ⟨gb326, 0, none⟩ = some (.string a0_0) := (blk_cell BK326.out 0).trans rfl; have hcz15_1 : w13.cell? ⟨gb326, 1, none⟩ = some (.string a0_1) := (blk_cell BK326.out 1).trans rfl; have hcz15_2 : w13.cell? ⟨gb326, 2, none⟩ = some (.int .i64 a0_2) := (blk_cell BK326.out 2).trans rfl; have hfz15_0 := blk_frozen BK326.out 0; have hfz15_1 := blk_frozen BK326.out 1; have hfz15_2 := blk_frozen BK326.out 2) | ((with_reducible refine gate_callee (f := 23) rfl ?_); refine goesL_ (some 5) rfl rfl Tryd.func23 (by kernel_rfl) rfl #[.agg #[.string a0_0, .string a0_1, .int .i64 a0_2]] rfl (by (try simp only [List.map_toArray, List.map_cons, List.map_nil]); first | done | rfl | (simp only [List.length_drop, List.length_take]; rfl)) ?_; (with_reducible refine (impl_IsValidLog.calls k a0_0 a0_1 a0_2 false _ A2.out ?sideT).mono ?_); (case sideT => first | exact HT.out | exact Tb.step HT.out HB.out | exact Tb.step HT.out (by repeat (first | (with_reducible first | exact HB.out | apply below_alloc | apply pw_below_drewN | apply below_drew1 | refine below_set ?_ GE326.out | refine below_set ?_ GE327.out) | exact HB.out | exact Below.refl _ _))); rintro e w16 ⟨rfl, hb⟩; refine ⟨_, rfl, ?_⟩; have n0_ := Aside0.mk (blk_below (g := gb326) (o := .cells #[.string a0_0, .string a0_1, .int .i64 a0_2] 31 (0, 0)) (by (with_reducible repeat (first | refine blk_drewN ?_ _ | refine blk_drew ?_ | refine blk_alloc ?_ _)); exact BK326.out) hb); have n1_ := Aside0.mk (blk_below (g := gb327) (o := .cells #[.string (⟨#[]⟩ : ByteArray), .string (⟨#[]⟩ : ByteArray), .int .i64 0] 31 (0, 0)) (by (with_reducible repeat (first | refine blk_drewN ?_ _ | refine blk_drew ?_ | refine blk_alloc ?_ _)); exact BK327.out) hb); have n2_ := Aside0.mk (below_step (by repeat (first | (with_reducible first | exact HB.out | apply below_alloc | apply pw_below_drewN | apply below_drew1 | refine below_set ?_ GE326.out | refine below_set ?_ GE327.out) | exact HB.out)) hb); clear BK326; clear BK327; clear HB; have BK326 := n0_; have BK327 := n1_; have HB := n2_; clear n0_ n1_ n2_; (try clear hb); (try clear hb2); (try clear hk); (try clear hi); have hcz17_0 : w16.cell? ⟨gb327, 0, none⟩ = some (.string (⟨#[]⟩ : ByteArray)) := (blk_cell BK327.out 0).trans rfl; have hcz17_1 : w16.cell? ⟨gb327, 1, none⟩ = some (.string (⟨#[]⟩ : ByteArray)) := (blk_cell BK327.out 1).trans rfl; have hcz17_2 : w16.cell? ⟨gb327, 2, none⟩ = some (.int .i64 0) := (blk_cell BK327.out 2).trans rfl; have hfz17_0 := blk_frozen BK327.out 0; have hfz17_1 := blk_frozen BK327.out 1; have hfz17_2 := blk_frozen BK327.out 2))
    refine bodyPost_ret (results_ct rfl _ _ gb327 31 #[.string (⟨#[]⟩ : ByteArray), .string (⟨#[]⟩ : ByteArray), .int .i64 0] (0, 0) _ rfl (by (with_reducible repeat (first | refine blk_drewN ?_ _ | refine blk_drew ?_ | refine blk_alloc ?_ _)); refine blk_put (cs := #[.string (⟨#[]⟩ : ByteArray), .string (⟨#[]⟩ : ByteArray), .int .i64 0]) ?_ 2 _ rfl; (with_reducible repeat (first | refine blk_drewN ?_ _ | refine blk_drew ?_ | refine blk_alloc ?_ _)); refine blk_put (cs := #[.string (⟨#[]⟩ : ByteArray), .string (⟨#[]⟩ : ByteArray), .int .i64 0]) ?_ 1 _ rfl; (with_reducible repeat (first | refine blk_drewN ?_ _ | refine blk_drew ?_ | refine blk_alloc ?_ _)); refine blk_put (cs := #[.string (⟨#[]⟩ : ByteArray), .string (⟨#[]⟩ : ByteArray), .int .i64 0]) ?_ 0 _ rfl; (with_reducible repeat (first | refine blk_drewN ?_ _ | refine blk_drew ?_ | refine blk_alloc ?_ _)); exact BK327.out) Tryd.underlying31 rfl (by kernel_rfl)) rfl ?_
    exact ⟨by first | rfl | (simp [errW_none, errW_some] <;> rfl) | (simp [*, errW_none, errW_some] <;> rfl), by repeat (first | (with_reducible first | exact HB.out | apply below_alloc | apply pw_below_drewN | apply below_drew1 | refine below_set ?_ GE326.out | refine below_set ?_ GE327.out) | exact HB.out)⟩

end Go.Proofs.YtdpinnhgkocjhaaDoor.Pr

namespace Go.Proofs.YtdpinnhgkocjhaaDoor.Pr
open Go.RowKit Go.Proofs.YtdpinnhgkocjhaaDoorW.PrintWords Go.Proofs.YtdpinnhgkocjhaaDoorW.PrintLast Go.Proofs.YtdpinnhgkocjhaaDoorW.PrintMore
attribute [local go_sem] max2_int min2_int max_two min_two max_three min_three max_four min_four sc_in sx_in   -- for this text's walks alone
set_option linter.unusedVariables false
set_option linter.unusedSimpArgs false

/-! ### spec_AppendRecord: function 28 -/
def spec_AppendRecord.j0 : Nat → Bool → ByteArray → ByteArray → Int → ByteArray → ByteArray → Option (ByteArray × ByteArray × Int × Int)
  | 0, _, _, _, _, _, _ => none
  | k + 1, x13, x349000, x349001, x349002, x350000, x350001 => if x13 = true then (some (x349000, x349001, x349002, 1)) else (if x349002 = 60 then (some (x349000, x349001, x349002, 2)) else ((spec_l27Line.f k x349002 x350000 x350001).bind fun t353 => (if x349001.size + t353.size ≤ 9223372036854775807 then (some (x349000, sc x349001 t353, wrap64 (x349002 + 1), 0)) else (none))))
def spec_AppendRecord.f (k : Nat) (a0_0 : ByteArray) (a0_1 : ByteArray) (a0_2 : Int) (a1_0 : ByteArray) (a1_1 : ByteArray) : Option (ByteArray × ByteArray × Int × Int) := (spec_l27Log.f k a0_0 a0_1 a0_2).bind fun t351 => (if t351 = true then ((spec_l27Good.f k a1_0 a1_1).bind fun t352 => (spec_AppendRecord.j0 k (!t352) a0_0 a0_1 a0_2 a1_0 a1_1)) else (spec_AppendRecord.j0 k true a0_0 a0_1 a0_2 a1_0 a1_1))
theorem spec_AppendRecord.mono_l : ∀ k, (∀ y0 y1 y2 y3 y4 y5, LeO (spec_AppendRecord.j0 k y0 y1 y2 y3 y4 y5) (spec_AppendRecord.j0 (k + 1) y0 y1 y2 y3 y4 y5))
  | 0 => fun _ _ _ _ _ _ r h => by simp [spec_AppendRecord.j0] at h
  | k + 1 => by
    have ih0 := spec_AppendRecord.mono_l k
    · intro y0 y1 y2 y3 y4 y5
      unfold spec_AppendRecord.j0
      repeat' first
      | (with_reducible exact ih0 _ _ _ _ _ _)
      | (with_reducible exact spec_l27Good.mono _ _ _)
      | (with_reducible exact spec_l27Line.mono _ _ _ _)
      | (with_reducible exact spec_l27Log.mono _ _ _ _)
      | (with_reducible exact LeO.refl _)
      | (with_reducible exact LeO.none _)
      | (with_reducible refine LeO.ite ?_ ?_)
      | (with_reducible refine LeO.bind ?_ (fun _ => ?_))
      | exact ih0 _ _ _ _ _ _
      | exact spec_l27Good.mono _ _ _
      | exact spec_l27Line.mono _ _ _ _
      | exact spec_l27Log.mono _ _ _ _
      | exact LeO.none _
      | refine LeO.ite ?_ ?_
      | refine LeO.bind ?_ (fun _ => ?_)
theorem spec_AppendRecord.mono : ∀ a0 a1 a2 a3 a4 k, LeO (spec_AppendRecord.f k a0 a1 a2 a3 a4) (spec_AppendRecord.f (k + 1) a0 a1 a2 a3 a4) := by
  intro a0 a1 a2 a3 a4 k
  have ih0 := spec_AppendRecord.mono_l k
  unfold spec_AppendRecord.f
  repeat' first
      | (with_reducible exact ih0 _ _ _ _ _ _)
      | (with_reducible exact spec_l27Good.mono _ _ _)
      | (with_reducible exact spec_l27Line.mono _ _ _ _)
      | (with_reducible exact spec_l27Log.mono _ _ _ _)
      | (with_reducible exact LeO.refl _)
      | (with_reducible exact LeO.none _)
      | (with_reducible refine LeO.ite ?_ ?_)
      | (with_reducible refine LeO.bind ?_ (fun _ => ?_))
      | exact ih0 _ _ _ _ _ _
      | exact spec_l27Good.mono _ _ _
      | exact spec_l27Line.mono _ _ _ _
      | exact spec_l27Log.mono _ _ _ _
      | exact LeO.none _
      | refine LeO.ite ?_ ?_
      | refine LeO.bind ?_ (fun _ => ?_)
def spec_AppendRecord.T5 : Bool × List (List Nat × List Nat) := (true, [([], []), ([0], [0]), ([], []), ([2], [2]), ([], []), ([3, 4], [3, 4]), ([1, 5], [1, 5]), ([0, 1, 2, 3, 4, 5, 6], []), ([7, 6, 5, 0, 1, 2, 3, 4, 5, 6], [6, 7])])
def spec_AppendRecord.B5 : List Nat := [0, 1, 0, 4, 0, 28, 63, 127, 255]
theorem spec_AppendRecord.tab5 : rtab .any (opsOf Tryd.f28 5) = spec_AppendRecord.T5 := by kernel_rfl
theorem spec_AppendRecord.bits5 : waitsOk spec_AppendRecord.T5.2 spec_AppendRecord.B5 = true := by kernel_rfl
set_option maxHeartbeats 8000000 in
set_option maxRecDepth 100000 in
theorem spec_AppendRecord.calls (k : Nat) (a0_0 : ByteArray) (a0_1 : ByteArray) (a0_2 : Int) (a1_0 : ByteArray) (a1_1 : ByteArray) (r1 : ByteArray) (r2 : ByteArray) (r3 : Int) (r4 : Int) (w : World) (h : spec_AppendRecord.f k a0_0 a0_1 a0_2 a1_0 a1_1 = some (r1, r2, r3, r4)) :
    Calls Tryd.prog 28 #[.agg #[.string a0_0, .string a0_1, .int .i64 a0_2], .agg #[.string a1_0, .string a1_1]] w fun e w' => e = .returned (.tuple #[.agg #[.string r1, .string r2, .int .i64 r3], .int .i64 r4]) ∧ Below w.heap.size w w' := by
  have hu31 := Tryd.underlying31
  have hu27 := Tryd.underlying27
  have HB := Aside0.mk (Below.refl w.heap.size w)
  have H : ((spec_l27Log.f k a0_0 a0_1 a0_2).bind fun t351 => (if t351 = true then ((spec_l27Good.f k a1_0 a1_1).bind fun t352 => (spec_AppendRecord.j0 k (!t352) a0_0 a0_1 a0_2 a1_0 a1_1)) else (spec_AppendRecord.j0 k true a0_0 a0_1 a0_2 a1_0 a1_1))) = some (r1, r2, r3, r4) := h
  clear h
  have HC3 := Aside0.mk H
  clear H
  go_enter Tryd.func28, Tryd.ntmps28
  go_upto_region 1 with (first | ((with_reducible refine gate_dst (N := 2) rfl ?_); refine box_event ?hg (N := 2) ?hd (cs := #[.string a0_0, .string a0_1, .int .i64 a0_2]) (t := 31) ?hr ?_; (case hd => rfl); (case hg => rfl); (case hr => first | (go_simp; done) | (go_simp; rfl)); intro gb348 hg w4 hbox hb; have n0_ := Aside0.mk (below_step (by repeat (first | (with_reducible first | exact HB.out | apply below_alloc | apply pw_below_drewN | apply below_drew1) | exact HB.out)) hb); have n1_ := Aside0.mk (hbox); have n2_ := Aside0.mk ((by rw [hg]; exact (below_size (by repeat (first | (with_reducible first | exact HB.out | apply below_alloc | apply pw_below_drewN | apply below_drew1) | exact HB.out))) : w.heap.size ≤ gb348)); have n3_ := Aside0.mk ((by rw [hg]; exact (below_size (by repeat (first | (with_reducible first | exact HB.out | apply below_alloc | apply pw_below_drewN | apply below_drew1) | exact HB.out))) : w.heap.size ≤ gb348)); clear HB; have HB := n0_; have BK348 := n1_; have GW348 := n2_; have GE348 := n3_; clear n0_ n1_ n2_ n3_; clear hb hbox hg) | ((with_reducible refine gate_dst (N := 3) rfl ?_); refine box_event ?hg (N := 3) ?hd (cs := #[.string a1_0, .string a1_1]) (t := 27) ?hr ?_; (case hd => rfl); (case hg => rfl); (case hr => first | (go_simp; done) | (go_simp; rfl)); intro gb349 hg w5 hbox hb; have n0_ := Aside0.mk (blk_below (g := gb348) (o := .cells #[.string a0_0, .string a0_1, .int .i64 a0_2] 31 (0, 0)) (by (with_reducible repeat (first | refine blk_drewN ?_ _ | refine blk_drew ?_ | refine blk_alloc ?_ _)); exact BK348.out) hb); have n1_ := Aside0.mk (below_step (by repeat (first | (with_reducible first | exact HB.out | apply below_alloc | apply pw_below_drewN | apply below_drew1 | refine below_set ?_ GE348.out) | exact HB.out)) hb); have n2_ := Aside0.mk (hbox); have n3_ := Aside0.mk ((by rw [hg]; exact (below_size (by repeat (first | (with_reducible first | exact HB.out | apply below_alloc | apply pw_below_drewN | apply below_drew1 | refine below_set ?_ GE348.out) | exact HB.out))) : w.heap.size ≤ gb349)); have n4_ := Aside0.mk ((by rw [hg]; exact (below_size (by repeat (first | (with_reducible first | exact HB.out | apply below_alloc | apply pw_below_drewN | apply below_drew1 | refine below_set ?_ GE348.out) | exact HB.out))) : w.heap.size ≤ gb349)); have n5_ := Aside0.mk ((by rw [hg]; exact Nat.ne_of_lt (blk_lt (g := gb348) (o := .cells #[.string a0_0, .string a0_1, .int .i64 a0_2] 31 (0, 0)) (by (with_reducible repeat (first | refine blk_drewN ?_ _ | refine blk_drew ?_ | refine blk_alloc ?_ _)); exact BK348.out)) : gb348 ≠ gb349)); have n6_ := Aside0.mk ((by rw [hg]; exact Nat.ne_of_gt (blk_lt (g := gb348) (o := .cells #[.string a0_0, .string a0_1, .int .i64 a0_2] 31 (0, 0)) (by (with_reducible repeat (first | refine blk_drewN ?_ _ | refine blk_drew ?_ | refine blk_alloc ?_ _)); exact BK348.out)) : gb349 ≠ gb348)); clear BK348; clear HB; have BK348 := n0_; have HB := n1_; have BK349 := n2_; have GW349 := n3_; have GE349 := n4_; have NB348_349 := n5_; have NB349_348 := n6_; clear n0_ n1_ n2_ n3_ n4_ n5_ n6_; clear hb hbox hg) | ((with_reducible refine gate_dst (N := 4) rfl ?_); refine box_event ?hg (N := 4) ?hd (cs := #[.string (⟨#[]⟩ : ByteArray), .string (⟨#[]⟩ : ByteArray), .int .i64 0]) (t := 31) ?hr ?_; (case hd => rfl); (case hg => rfl); (case hr => first | (go_simp; done) | (go_simp; rfl)); intro gb350 hg w6 hbox hb; have n0_ := Aside0.mk (blk_below (g := gb348) (o := .cells #[.string a0_0, .string a0_1, .int .i64 a0_2] 31 (0, 0)) (by (with_reducible repeat (first | refine blk_drewN ?_ _ | refine blk_drew ?_ | refine blk_alloc ?_ _)); exact BK348.out) hb); have n1_ := Aside0.mk (blk_below (g := gb349) (o := .cells #[.string a1_0, .string a1_1] 27 (0, 0)) (by (with_reducible repeat (first | refine blk_drewN ?_ _ | refine blk_drew ?_ | refine blk_alloc ?_ _)); exact BK349.out) hb); have n2_ := Aside0.mk (below_step (by repeat (first | (with_reducible first | exact HB.out | apply below_alloc | apply pw_below_drewN | apply below_drew1 | refine below_set ?_ GE348.out | refine below_set ?_ GE349.out) | exact HB.out)) hb); have n3_ := Aside0.mk (hbox); have n4_ := Aside0.mk ((by rw [hg]; exact (below_size (by repeat (first | (with_reducible first | exact HB.out | apply below_alloc | apply pw_below_drewN | apply below_drew1 | refine below_set ?_ GE348.out | refine below_set ?_ GE349.out) | exact HB.out))) : w.heap.size ≤ gb350)); have n5_ := Aside0.mk ((by rw [hg]; exact (below_size (by repeat (first | (with_reducible first | exact HB.out | apply below_alloc | apply pw_below_drewN | apply below_drew1 | refine below_set ?_ GE348.out | refine below_set ?_ GE349.out) | exact HB.out))) : w.heap.size ≤ gb350)); have n6_ := Aside0.mk ((by rw [hg]; exact Nat.ne_of_lt (blk_lt (g := gb348) (o := .cells #[.string a0_0, .string a0_1, .int .i64 a0_2] 31 (0, 0)) (by (with_reducible repeat (first | refine blk_drewN ?_ _ | refine blk_drew ?_ | refine blk_alloc ?_ _)); exact BK348.out)) : gb348 ≠ gb350)); have n7_ := Aside0.mk ((by rw [hg]; exact Nat.ne_of_gt (blk_lt (g := gb348) (o := .cells #[.string a0_0, .string a0_1, .int .i64 a0_2] 31 (0, 0)) (by (with_reducible repeat (first | refine blk_drewN ?_ _ | refine blk_drew ?_ | refine blk_alloc ?_ _)); exact BK348.out)) : gb350 ≠ gb348)); have n8_ := Aside0.mk ((by rw [hg]; exact Nat.ne_of_lt (blk_lt (g := gb349) (o := .cells #[.string a1_0, .string a1_1] 27 (0, 0)) (by (with_reducible repeat (first | refine blk_drewN ?_ _ | refine blk_drew ?_ | refine blk_alloc ?_ _)); exact BK349.out)) : gb349 ≠ gb350)); have n9_ := Aside0.mk ((by rw [hg]; exact Nat.ne_of_gt (blk_lt (g := gb349) (o := .cells #[.string a1_0, .string a1_1] 27 (0, 0)) (by (with_reducible repeat (first | refine blk_drewN ?_ _ | refine blk_drew ?_ | refine blk_alloc ?_ _)); exact BK349.out)) : gb350 ≠ gb349)); clear BK348; clear BK349; clear HB; have BK348 := n0_; have BK349 := n1_; have HB := n2_; have BK350 := n3_; have GW350 := n4_; have GE350 := n5_; have NB348_350 := n6_; have NB350_348 := n7_; have NB349_350 := n8_; have NB350_349 := n9_; clear n0_ n1_ n2_ n3_ n4_ n5_ n6_ n7_ n8_ n9_; clear hb hbox hg))
  (try simp only [Act.put, List.setIfInBounds_toArray, List.set_cons_zero, List.set_cons_succ])
  go_cut [13] (fun v13 wc => ∃ (kq : Nat) (x13_2 : Bool), v13 = .bool x13_2 ∧ Aside0 (spec_AppendRecord.j0 kq x13_2 a0_0 a0_1 a0_2 a1_0 a1_1 = some (r1, r2, r3, r4)) ∧ Aside0 (kq ≤ k) ∧ Aside0 (wc.heap[gb348]? = some (.cells #[.string a0_0, .string a0_1, .int .i64 a0_2] 31 (0, 0))) ∧ Aside0 (wc.heap[gb349]? = some (.cells #[.string a1_0, .string a1_1] 27 (0, 0))) ∧ Aside0 (wc.heap[gb350]? = some (.cells #[.string (⟨#[]⟩ : ByteArray), .string (⟨#[]⟩ : ByteArray), .int .i64 0] 31 (0, 0))) ∧ Aside0 (Below w.heap.size w wc))
  case first =>
    have H := HC3.out
    clear HC3
    replace H := Option.bind_eq_some_iff.mp H
    obtain ⟨t351, A70, H⟩ := H
    replace H : (if t351 = true then ((spec_l27Good.f k a1_0 a1_1).bind fun t352 => (spec_AppendRecord.j0 k (!t352) a0_0 a0_1 a0_2 a1_0 a1_1)) else (spec_AppendRecord.j0 k true a0_0 a0_1 a0_2 a1_0 a1_1)) = some (r1, r2, r3, r4) := H
    have A7 := Aside0.mk A70
    clear A70
    by_cases c8 : t351 = true
    · subst c8
      have H1 : ((spec_l27Good.f k a1_0 a1_1).bind fun t352 => (spec_AppendRecord.j0 k (!t352) a0_0 a0_1 a0_2 a1_0 a1_1)) = some (r1, r2, r3, r4) := by rw [if_pos rfl] at H; exact H
      clear H
      have H := H1
      clear H1
      replace H := Option.bind_eq_some_iff.mp H
      obtain ⟨t352, A90, H⟩ := H
      replace H : (spec_AppendRecord.j0 k (!t352) a0_0 a0_1 a0_2 a1_0 a1_1) = some (r1, r2, r3, r4) := H
      have A9 := Aside0.mk A90
      clear A90
      have H' := Aside0.mk H
      clear H
      have hnb10 := NB348_349.out
      have hnc10 := NB349_348.out
      have hnb11 := NB348_350.out
      have hnc11 := NB350_348.out
      have hcz12_0 : w6.cell? ⟨gb348, 0, none⟩ = some (.string a0_0) := (blk_cell BK348.out 0).trans rfl
      have hcz12_1 : w6.cell? ⟨gb348, 1, none⟩ = some (.string a0_1) := (blk_cell BK348.out 1).trans rfl
      have hcz12_2 : w6.cell? ⟨gb348, 2, none⟩ = some (.int .i64 a0_2) := (blk_cell BK348.out 2).trans rfl
      have hfz12_0 := blk_frozen BK348.out 0
      have hfz12_1 := blk_frozen BK348.out 1
      have hfz12_2 := blk_frozen BK348.out 2
      go_wp2_with (first | ((with_reducible refine gate_callee (f := 49) rfl ?_); refine goesL_ (some 7) rfl rfl Tryd.func49 (by kernel_rfl) rfl #[.agg #[.string a0_0, .string a0_1, .int .i64 a0_2]] rfl (by (try simp only [List.map_toArray, List.map_cons, List.map_nil]); first | done | rfl | (simp only [List.length_drop, List.length_take]; rfl)) ?_; (with_reducible refine (spec_l27Log.calls k a0_0 a0_1 a0_2 true _ A7.out).mono ?_); rintro e w13 ⟨rfl, hb⟩; refine ⟨_, rfl, ?_⟩; have n0_ := Aside0.mk (blk_below (g := gb348) (o := .cells #[.string a0_0, .string a0_1, .int .i64 a0_2] 31 (0, 0)) (by (with_reducible repeat (first | refine blk_drewN ?_ _ | refine blk_drew ?_ | refine blk_alloc ?_ _)); exact BK348.out) hb); have n1_ := Aside0.mk (blk_below (g := gb349) (o := .cells #[.string a1_0, .string a1_1] 27 (0, 0)) (by (with_reducible repeat (first | refine blk_drewN ?_ _ | refine blk_drew ?_ | refine blk_alloc ?_ _)); exact BK349.out) hb); have n2_ := Aside0.mk (blk_below (g := gb350) (o := .cells #[.string (⟨#[]⟩ : ByteArray), .string (⟨#[]⟩ : ByteArray), .int .i64 0] 31 (0, 0)) (by (with_reducible repeat (first | refine blk_drewN ?_ _ | refine blk_drew ?_ | refine blk_alloc ?_ _)); exact BK350.out) hb); have n3_ := Aside0.mk (below_step (by repeat (first | (with_reducible first | exact HB.out | apply below_alloc | apply pw_below_drewN | apply below_drew1 | refine below_set ?_ GE348.out | refine below_set ?_ GE349.out | refine below_set ?_ GE350.out) | exact HB.out)) hb); clear BK348; clear BK349; clear BK350; clear HB; have BK348 := n0_; have BK349 := n1_; have BK350 := n2_; have HB := n3_; clear n0_ n1_ n2_ n3_; (try clear hb); (try clear hb2); (try clear hk); (try clear hi); have hnb14 := NB349_350.out; have hnc14 := NB350_349.out; have hcz15_0 : w13.cell? ⟨gb349, 0, none⟩ = some (.string a1_0) := (blk_cell BK349.out 0).trans rfl; have hcz15_1 : w13.cell? ⟨gb349, 1, none⟩ = some (.string a1_1) := (blk_cell BK349.out 1).trans rfl; have hfz15_0 := blk_frozen BK349.out 0; have hfz15_1 := blk_frozen BK349.out 1) | (go_at_call 43; (with_reducible refine (spec_l27Good.calls k a1_0 a1_1 t352 _ A9.out).mono ?_); rintro e w16 ⟨rfl, hb⟩; have n0_ := Aside0.mk (blk_below (g := gb348) (o := .cells #[.string a0_0, .string a0_1, .int .i64 a0_2] 31 (0, 0)) (by (with_reducible repeat (first | refine blk_drewN ?_ _ | refine blk_drew ?_ | refine blk_alloc ?_ _)); exact BK348.out) hb); have n1_ := Aside0.mk (blk_below (g := gb349) (o := .cells #[.string a1_0, .string a1_1] 27 (0, 0)) (by (with_reducible repeat (first | refine blk_drewN ?_ _ | refine blk_drew ?_ | refine blk_alloc ?_ _)); exact BK349.out) hb); have n2_ := Aside0.mk (blk_below (g := gb350) (o := .cells #[.string (⟨#[]⟩ : ByteArray), .string (⟨#[]⟩ : ByteArray), .int .i64 0] 31 (0, 0)) (by (with_reducible repeat (first | refine blk_drewN ?_ _ | refine blk_drew ?_ | refine blk_alloc ?_ _)); exact BK350.out) hb); have n3_ := Aside0.mk (below_step (by repeat (first | (with_reducible first | exact HB.out | apply below_alloc | apply pw_below_drewN | apply below_drew1 | refine below_set ?_ GE348.out | refine below_set ?_ GE349.out | refine below_set ?_ GE350.out) | exact HB.out)) hb); clear BK348; clear BK349; clear BK350; clear HB; have BK348 := n0_; have BK349 := n1_; have BK350 := n2_; have HB := n3_; clear n0_ n1_ n2_ n3_; (try clear hb); (try clear hb2); (try clear hk); (try clear hi)))
      go_meet
      case rel => exact ⟨_, (!t352), (by first | rfl | (simp; done) | (simp [*]; done)), H', ⟨by first | omega | exact Nat.le_refl _⟩, ⟨by (with_reducible repeat (first | refine blk_drewN ?_ _ | refine blk_drew ?_ | refine blk_alloc ?_ _)); exact BK348.out⟩, ⟨by (with_reducible repeat (first | refine blk_drewN ?_ _ | refine blk_drew ?_ | refine blk_alloc ?_ _)); exact BK349.out⟩, ⟨by (with_reducible repeat (first | refine blk_drewN ?_ _ | refine blk_drew ?_ | refine blk_alloc ?_ _)); exact BK350.out⟩, ⟨by repeat (first | (with_reducible first | exact HB.out | apply below_alloc | apply pw_below_drewN | apply below_drew1 | refine below_set ?_ GE348.out | refine below_set ?_ GE349.out | refine below_set ?_ GE350.out) | exact HB.out)⟩⟩
    · replace c8 := Bool.eq_false_iff.mpr c8
      subst c8
      have H1 : (spec_AppendRecord.j0 k true a0_0 a0_1 a0_2 a1_0 a1_1) = some (r1, r2, r3, r4) := by rw [if_neg (show ¬ (false = true) by decide)] at H; exact H
      clear H
      have H := H1
      clear H1
      have H' := Aside0.mk H
      clear H
      have hnb17 := NB348_349.out
      have hnc17 := NB349_348.out
      have hnb18 := NB348_350.out
      have hnc18 := NB350_348.out
      have hcz19_0 : w6.cell? ⟨gb348, 0, none⟩ = some (.string a0_0) := (blk_cell BK348.out 0).trans rfl
      have hcz19_1 : w6.cell? ⟨gb348, 1, none⟩ = some (.string a0_1) := (blk_cell BK348.out 1).trans rfl
      have hcz19_2 : w6.cell? ⟨gb348, 2, none⟩ = some (.int .i64 a0_2) := (blk_cell BK348.out 2).trans rfl
      have hfz19_0 := blk_frozen BK348.out 0
      have hfz19_1 := blk_frozen BK348.out 1
      have hfz19_2 := blk_frozen BK348.out 2
      go_wp2_with (first | ((with_reducible refine gate_callee (f := 49) rfl ?_); refine goesL_ (some 7) rfl rfl Tryd.func49 (by kernel_rfl) rfl #[.agg #[.string a0_0, .string a0_1, .int .i64 a0_2]] rfl (by (try simp only [List.map_toArray, List.map_cons, List.map_nil]); first | done | rfl | (simp only [List.length_drop, List.length_take]; rfl)) ?_; (with_reducible refine (spec_l27Log.calls k a0_0 a0_1 a0_2 false _ A7.out).mono ?_); rintro e w20 ⟨rfl, hb⟩; refine ⟨_, rfl, ?_⟩; have n0_ := Aside0.mk (blk_below (g := gb348) (o := .cells #[.string a0_0, .string a0_1, .int .i64 a0_2] 31 (0, 0)) (by (with_reducible repeat (first | refine blk_drewN ?_ _ | refine blk_drew ?_ | refine blk_alloc ?_ _)); exact BK348.out) hb); have n1_ := Aside0.mk (blk_below (g := gb349) (o := .cells #[.string a1_0, .string a1_1] 27 (0, 0)) (by (with_reducible repeat (first | refine blk_drewN ?_ _ | refine blk_drew ?_ | refine blk_alloc ?_ _)); exact BK349.out) hb); have n2_ := Aside0.mk (blk_below (g := gb350) (o := .cells #[.string (⟨#[]⟩ : ByteArray), .string (⟨#[]⟩ : ByteArray), .int .i64 0] 31 (0, 0)) (by (with_reducible repeat (first | refine blk_drewN ?_ _ | refine blk_drew ?_ | refine blk_alloc ?_ _)); exact BK350.out) hb); have n3_ := Aside0.mk (below_step (by repeat (first | (with_reducible first | exact HB.out | apply below_alloc | apply pw_below_drewN | apply below_drew1 | refine below_set ?_ GE348.out | refine below_set ?_ GE349.out | refine below_set ?_ GE350.out) | exact HB.out)) hb); clear BK348; clear BK349; clear BK350; clear HB; have BK348 := n0_; have BK349 := n1_; have BK350 := n2_; have HB := n3_; clear n0_ n1_ n2_ n3_; (try clear hb); (try clear hb2); (try clear hk); (try clear hi)))
      go_meet
      case rel => exact ⟨_, (true), (by first | rfl | (simp; done) | (simp [*]; done)), H', ⟨by first | omega | exact Nat.le_refl _⟩, ⟨by (with_reducible repeat (first | refine blk_drewN ?_ _ | refine blk_drew ?_ | refine blk_alloc ?_ _)); exact BK348.out⟩, ⟨by (with_reducible repeat (first | refine blk_drewN ?_ _ | refine blk_drew ?_ | refine blk_alloc ?_ _)); exact BK349.out⟩, ⟨by (with_reducible repeat (first | refine blk_drewN ?_ _ | refine blk_drew ?_ | refine blk_alloc ?_ _)); exact BK350.out⟩, ⟨by repeat (first | (with_reducible first | exact HB.out | apply below_alloc | apply pw_below_drewN | apply below_drew1 | refine below_set ?_ GE348.out | refine below_set ?_ GE349.out | refine below_set ?_ GE350.out) | exact HB.out)⟩⟩
  case rest =>
    clear HC3
    try clear c1
    try clear c2
    try clear p2
    try clear c4
    try clear c8
    try clear c10
    try clear c11
    try clear c14
    try clear c17
    try clear c18
    try clear hcz12_0
    try clear hcz12_1
    try clear hcz12_2
    try clear hcz15_0
    try clear hcz15_1
    try clear hcz19_0
    try clear hcz19_1
    try clear hcz19_2
    try clear hfz12_0
    try clear hfz12_1
    try clear hfz12_2
    try clear hfz15_0
    try clear hfz15_1
    try clear hfz19_0
    try clear hfz19_1
    try clear hfz19_2
    obtain ⟨kq, x13_2, rfl, HA, HJ2, BK348, BK349, BK350, HB⟩ := hcut
    cases kq with
    | zero => exact absurd HA.out (by simp [spec_AppendRecord.j0])
    | succ kj2 =>
      have H := HA.out
      clear HA
      simp only [spec_AppendRecord.j0] at H
      by_cases c21 : x13_2 = true
      · subst c21
        have H1 : (some (a0_0, a0_1, a0_2, 1)) = some (r1, r2, r3, r4) := by rw [if_pos rfl] at H; exact H
        clear H
        have H := H1
        clear H1
        simp only [Option.some.injEq, Prod.mk.injEq] at H
        obtain ⟨rfl, rfl, rfl, rfl⟩ := H
        have hnb22 := NB348_349.out
        have hnc22 := NB349_348.out
        have hnb23 := NB348_350.out
        have hnc23 := NB350_348.out
        have hcz24_0 : wc.cell? ⟨gb348, 0, none⟩ = some (.string a0_0) := (blk_cell BK348.out 0).trans rfl
        have hcz24_1 : wc.cell? ⟨gb348, 1, none⟩ = some (.string a0_1) := (blk_cell BK348.out 1).trans rfl
        have hcz24_2 : wc.cell? ⟨gb348, 2, none⟩ = some (.int .i64 a0_2) := (blk_cell BK348.out 2).trans rfl
        have hfz24_0 := blk_frozen BK348.out 0
        have hfz24_1 := blk_frozen BK348.out 1
        have hfz24_2 := blk_frozen BK348.out 2
        have hnb25 := NB350_349.out
        have hnc25 := NB349_350.out
        have hcz26_0 : wc.cell? ⟨gb350, 0, none⟩ = some (.string (⟨#[]⟩ : ByteArray)) := (blk_cell BK350.out 0).trans rfl
        have hcz26_1 : wc.cell? ⟨gb350, 1, none⟩ = some (.string (⟨#[]⟩ : ByteArray)) := (blk_cell BK350.out 1).trans rfl
        have hcz26_2 : wc.cell? ⟨gb350, 2, none⟩ = some (.int .i64 0) := (blk_cell BK350.out 2).trans rfl
        have hfz26_0 := blk_frozen BK350.out 0
        have hfz26_1 := blk_frozen BK350.out 1
        have hfz26_2 := blk_frozen BK350.out 2
        go_wp2
        refine bodyPost_ret (results_ct rfl _ _ gb350 31 #[.string a0_0, .string a0_1, .int .i64 a0_2] (0, 0) _ rfl (by (with_reducible repeat (first | refine blk_drewN ?_ _ | refine blk_drew ?_ | refine blk_alloc ?_ _)); refine blk_put (cs := #[.string a0_0, .string a0_1, .int .i64 0]) ?_ 2 _ rfl; (with_reducible repeat (first | refine blk_drewN ?_ _ | refine blk_drew ?_ | refine blk_alloc ?_ _)); refine blk_put (cs := #[.string a0_0, .string (⟨#[]⟩ : ByteArray), .int .i64 0]) ?_ 1 _ rfl; (with_reducible repeat (first | refine blk_drewN ?_ _ | refine blk_drew ?_ | refine blk_alloc ?_ _)); refine blk_put (cs := #[.string (⟨#[]⟩ : ByteArray), .string (⟨#[]⟩ : ByteArray), .int .i64 0]) ?_ 0 _ rfl; (with_reducible repeat (first | refine blk_drewN ?_ _ | refine blk_drew ?_ | refine blk_alloc ?_ _)); exact BK350.out) Tryd.underlying31 rfl (by kernel_rfl)) rfl ?_
        exact ⟨by first | rfl | (simp [errW_none, errW_some] <;> rfl) | (simp [*, errW_none, errW_some] <;> rfl), by repeat (first | (with_reducible first | exact HB.out | apply below_alloc | apply pw_below_drewN | apply below_drew1 | refine below_set ?_ GE348.out | refine below_set ?_ GE349.out | refine below_set ?_ GE350.out) | exact HB.out)⟩
      · replace c21 := Bool.eq_false_iff.mpr c21
        subst c21
        have H1 : (if a0_2 = 60 then (some (a0_0, a0_1, a0_2, 2)) else ((spec_l27Line.f kj2 a0_2 a1_0 a1_1).bind fun t353 => (if a0_1.size + t353.size ≤ 9223372036854775807 then (some (a0_0, sc a0_1 t353, wrap64 (a0_2 + 1), 0)) else (none)))) = some (r1, r2, r3, r4) := by rw [if_neg (show ¬ (false = true) by decide)] at H; exact H
        clear H
        have H := H1
        clear H1
        by_cases c27 : a0_2 = 60
        · rw [if_pos c27] at H
          have c27b0 : (a0_2 == 60) = true := beq_iff_eq.mpr c27
          have c27b1 : (a0_2 != 60) = false := bne_eq_false_iff_eq.mpr c27
          clear c27
          simp only [Option.some.injEq, Prod.mk.injEq] at H
          obtain ⟨rfl, rfl, rfl, rfl⟩ := H
          have hnb28 := NB348_349.out
          have hnc28 := NB349_348.out
          have hnb29 := NB348_350.out
          have hnc29 := NB350_348.out
          have hcz30_0 : wc.cell? ⟨gb348, 0, none⟩ = some (.string a0_0) := (blk_cell BK348.out 0).trans rfl
          have hcz30_1 : wc.cell? ⟨gb348, 1, none⟩ = some (.string a0_1) := (blk_cell BK348.out 1).trans rfl
          have hcz30_2 : wc.cell? ⟨gb348, 2, none⟩ = some (.int .i64 a0_2) := (blk_cell BK348.out 2).trans rfl
          have hfz30_0 := blk_frozen BK348.out 0
          have hfz30_1 := blk_frozen BK348.out 1
          have hfz30_2 := blk_frozen BK348.out 2
          have hnb31 := NB350_349.out
          have hnc31 := NB349_350.out
          have hcz32_0 : wc.cell? ⟨gb350, 0, none⟩ = some (.string (⟨#[]⟩ : ByteArray)) := (blk_cell BK350.out 0).trans rfl
          have hcz32_1 : wc.cell? ⟨gb350, 1, none⟩ = some (.string (⟨#[]⟩ : ByteArray)) := (blk_cell BK350.out 1).trans rfl
          have hcz32_2 : wc.cell? ⟨gb350, 2, none⟩ = some (.int .i64 0) := (blk_cell BK350.out 2).trans rfl
          have hfz32_0 := blk_frozen BK350.out 0
          have hfz32_1 := blk_frozen BK350.out 1
          have hfz32_2 := blk_frozen BK350.out 2
          go_wp2
          refine bodyPost_ret (results_ct rfl _ _ gb350 31 #[.string a0_0, .string a0_1, .int .i64 a0_2] (0, 0) _ rfl (by (with_reducible repeat (first | refine blk_drewN ?_ _ | refine blk_drew ?_ | refine blk_alloc ?_ _)); refine blk_put (cs := #[.string a0_0, .string a0_1, .int .i64 0]) ?_ 2 _ rfl; (with_reducible repeat (first | refine blk_drewN ?_ _ | refine blk_drew ?_ | refine blk_alloc ?_ _)); refine blk_put (cs := #[.string a0_0, .string (⟨#[]⟩ : ByteArray), .int .i64 0]) ?_ 1 _ rfl; (with_reducible repeat (first | refine blk_drewN ?_ _ | refine blk_drew ?_ | refine blk_alloc ?_ _)); refine blk_put (cs := #[.string (⟨#[]⟩ : ByteArray), .string (⟨#[]⟩ : ByteArray), .int .i64 0]) ?_ 0 _ rfl; (with_reducible repeat (first | refine blk_drewN ?_ _ | refine blk_drew ?_ | refine blk_alloc ?_ _)); exact BK350.out) Tryd.underlying31 rfl (by kernel_rfl)) rfl ?_
          exact ⟨by first | rfl | (simp [errW_none, errW_some] <;> rfl) | (simp [*, errW_none, errW_some] <;> rfl), by repeat (first | (with_reducible first | exact HB.out | apply below_alloc | apply pw_below_drewN | apply below_drew1 | refine below_set ?_ GE348.out | refine below_set ?_ GE349.out | refine below_set ?_ GE350.out) | exact HB.out)⟩
        · rw [if_neg c27] at H
          have c27b0 : (a0_2 == 60) = false := beq_eq_false_iff_ne.mpr c27
          have c27b1 : (a0_2 != 60) = true := bne_iff_ne.mpr c27
          replace H := Option.bind_eq_some_iff.mp H
          obtain ⟨t353, A330, H⟩ := H
          replace H : (if a0_1.size + t353.size ≤ 9223372036854775807 then (some (a0_0, sc a0_1 t353, wrap64 (a0_2 + 1), 0)) else (none)) = some (r1, r2, r3, r4) := H
          have A33 := Aside0.mk A330
          clear A330
          by_cases c34 : a0_1.size + t353.size ≤ 9223372036854775807
          · rw [if_pos c34] at H
            have c34b0 := eq_true c34
            have c34b1 : decide (a0_1.size + t353.size ≤ 9223372036854775807) = true := decide_eq_true c34
            try have c34b2 : (9223372036854775807 < a0_1.size + t353.size) = False := eq_false (Nat.not_lt.2 c34)
            simp only [Option.some.injEq, Prod.mk.injEq] at H
            obtain ⟨rfl, rfl, rfl, rfl⟩ := H
            have hnb35 := NB348_349.out
            have hnc35 := NB349_348.out
            have hnb36 := NB348_350.out
            have hnc36 := NB350_348.out
            have hcz37_0 : wc.cell? ⟨gb348, 0, none⟩ = some (.string a0_0) := (blk_cell BK348.out 0).trans rfl
            have hcz37_1 : wc.cell? ⟨gb348, 1, none⟩ = some (.string a0_1) := (blk_cell BK348.out 1).trans rfl
            have hcz37_2 : wc.cell? ⟨gb348, 2, none⟩ = some (.int .i64 a0_2) := (blk_cell BK348.out 2).trans rfl
            have hfz37_0 := blk_frozen BK348.out 0
            have hfz37_1 := blk_frozen BK348.out 1
            have hfz37_2 := blk_frozen BK348.out 2
            try go_wp2
            have n0_ := Aside0.mk (blk_drew BK348.out)
            have n1_ := Aside0.mk (blk_drew BK349.out)
            have n2_ := Aside0.mk (blk_drew BK350.out)
            have n3_ := Aside0.mk (below_drew1 HB.out)
            clear BK348
            clear BK349
            clear BK350
            clear HB
            have BK348 := n0_
            have BK349 := n1_
            have BK350 := n2_
            have HB := n3_
            clear n0_ n1_ n2_ n3_
            refine start_ (n := 9) (S := fun w' => w'.cell? ⟨gb348, 0, none⟩ = some (.string a0_0) ∧ w'.cell? ⟨gb348, 1, none⟩ = some (.string a0_1) ∧ w'.cell? ⟨gb348, 2, none⟩ = some (.int .i64 a0_2) ∧ w'.cell? ⟨gb349, 0, none⟩ = some (.string a1_0) ∧ w'.cell? ⟨gb349, 1, none⟩ = some (.string a1_1)) (ds := [8]) #[false, false, false, false, false, false, false, false, false] (by kernel_rfl) rfl rfl ⟨(blk_cell BK348.out 0).trans rfl, (blk_cell BK348.out 1).trans rfl, (blk_cell BK348.out 2).trans rfl, (blk_cell BK349.out 0).trans rfl, (blk_cell BK349.out 1).trans rfl⟩ (fun hHeld => ?_); refine with_tabW spec_AppendRecord.tab5 spec_AppendRecord.bits5 (fun HT_ HW_ => ?_)
            generalize wc.drew = w38 at BK348 BK349 BK350 HB hHeld ⊢
            refine pure_ (i := 0) (N := some 19) (v := ?_) (a' := ?_) #[true, false, false, false, false, false, false, false, false] rfl rfl (any_of HT_.out (by kernel_rfl)) (fun _ _ _ h => h) (Or.inl ⟨by rfl, ?_⟩) ?_ ?_
            rotate_left
            · intro w'
              go_simp
              first | with_reducible rfl | (rw [if_neg (by simp only [ByteArray.size_append, ByteArray.size_extract, show ∀ (a : UInt8) (l : List UInt8), (⟨⟨a :: l⟩⟩ : ByteArray).size = l.length + 1 from fun _ _ => rfl, List.length_cons, List.length_nil] at *; omega)]; done) | (rw [if_neg (by simp only [ByteArray.size_append, ByteArray.size_extract, show ∀ (a : UInt8) (l : List UInt8), (⟨⟨a :: l⟩⟩ : ByteArray).size = l.length + 1 from fun _ _ => rfl, List.length_cons, List.length_nil] at *; omega)]; with_reducible rfl)
            rotate_left
            · simp only [Act.put, List.setIfInBounds_toArray, List.set_cons_zero, List.set_cons_succ, i64_w, i32_w]
              rfl
            refine pure_ (i := 2) (N := some 21) (v := ?_) (a' := ?_) #[true, false, true, false, false, false, false, false, false] rfl rfl (any_of HT_.out (by kernel_rfl)) (fun _ _ _ h => h) (Or.inl ⟨by rfl, ?_⟩) ?_ ?_
            rotate_left
            · intro w'
              go_simp
              first | with_reducible rfl | (rw [if_neg (by simp only [ByteArray.size_append, ByteArray.size_extract, show ∀ (a : UInt8) (l : List UInt8), (⟨⟨a :: l⟩⟩ : ByteArray).size = l.length + 1 from fun _ _ => rfl, List.length_cons, List.length_nil] at *; omega)]; done) | (rw [if_neg (by simp only [ByteArray.size_append, ByteArray.size_extract, show ∀ (a : UInt8) (l : List UInt8), (⟨⟨a :: l⟩⟩ : ByteArray).size = l.length + 1 from fun _ _ => rfl, List.length_cons, List.length_nil] at *; omega)]; with_reducible rfl)
            rotate_left
            · simp only [Act.put, List.setIfInBounds_toArray, List.set_cons_zero, List.set_cons_succ, i64_w, i32_w]
              rfl
            refine take_ (i := 1) (N := some 20) (v := ?_) (a' := ?_) #[true, true, true, false, false, false, false, false, false] rfl rfl (take_ofW HT_.out HW_.out (by kernel_rfl)) (fun _ _ _ h => h) (Or.inl ⟨by rfl, ?_⟩) hHeld ?_ ?_
            rotate_left
            · rintro w' ⟨s0, s1, s2, s3, s4⟩
              go_simp
              first | with_reducible rfl | (rw [if_neg (by simp only [ByteArray.size_append, ByteArray.size_extract, show ∀ (a : UInt8) (l : List UInt8), (⟨⟨a :: l⟩⟩ : ByteArray).size = l.length + 1 from fun _ _ => rfl, List.length_cons, List.length_nil] at *; omega)]; done) | (rw [if_neg (by simp only [ByteArray.size_append, ByteArray.size_extract, show ∀ (a : UInt8) (l : List UInt8), (⟨⟨a :: l⟩⟩ : ByteArray).size = l.length + 1 from fun _ _ => rfl, List.length_cons, List.length_nil] at *; omega)]; with_reducible rfl)
            rotate_left
            · simp only [Act.put, List.setIfInBounds_toArray, List.set_cons_zero, List.set_cons_succ, i64_w, i32_w]
              rfl
            refine take_ (i := 3) (N := some 22) (v := ?_) (a' := ?_) #[true, true, true, true, false, false, false, false, false] rfl rfl (take_ofW HT_.out HW_.out (by kernel_rfl)) (fun _ _ _ h => h) (Or.inl ⟨by rfl, ?_⟩) hHeld ?_ ?_
            rotate_left
            · rintro w' ⟨s0, s1, s2, s3, s4⟩
              go_simp
              first | with_reducible rfl | (rw [if_neg (by simp only [ByteArray.size_append, ByteArray.size_extract, show ∀ (a : UInt8) (l : List UInt8), (⟨⟨a :: l⟩⟩ : ByteArray).size = l.length + 1 from fun _ _ => rfl, List.length_cons, List.length_nil] at *; omega)]; done) | (rw [if_neg (by simp only [ByteArray.size_append, ByteArray.size_extract, show ∀ (a : UInt8) (l : List UInt8), (⟨⟨a :: l⟩⟩ : ByteArray).size = l.length + 1 from fun _ _ => rfl, List.length_cons, List.length_nil] at *; omega)]; with_reducible rfl)
            rotate_left
            · simp only [Act.put, List.setIfInBounds_toArray, List.set_cons_zero, List.set_cons_succ, i64_w, i32_w]
              rfl
            refine take_ (i := 4) (N := some 23) (v := ?_) (a' := ?_) #[true, true, true, true, true, false, false, false, false] rfl rfl (take_ofW HT_.out HW_.out (by kernel_rfl)) (fun _ _ _ h => h) (Or.inl ⟨by rfl, ?_⟩) hHeld ?_ ?_
            rotate_left
            · rintro w' ⟨s0, s1, s2, s3, s4⟩
              go_simp
              first | with_reducible rfl | (rw [if_neg (by simp only [ByteArray.size_append, ByteArray.size_extract, show ∀ (a : UInt8) (l : List UInt8), (⟨⟨a :: l⟩⟩ : ByteArray).size = l.length + 1 from fun _ _ => rfl, List.length_cons, List.length_nil] at *; omega)]; done) | (rw [if_neg (by simp only [ByteArray.size_append, ByteArray.size_extract, show ∀ (a : UInt8) (l : List UInt8), (⟨⟨a :: l⟩⟩ : ByteArray).size = l.length + 1 from fun _ _ => rfl, List.length_cons, List.length_nil] at *; omega)]; with_reducible rfl)
            rotate_left
            · simp only [Act.put, List.setIfInBounds_toArray, List.set_cons_zero, List.set_cons_succ, i64_w, i32_w]
              rfl
            refine one_ (i := 5) (N := some 24) #[true, true, true, true, true, true, false, false, false] rfl rfl (one_of HT_.out (by kernel_rfl)) (by decide) (fun K hK => ?_)
            refine goes_ Tryd.func44 (by kernel_rfl) rfl #[.int .i64 a0_2, .agg #[.string a1_0, .string a1_1]] (by rfl) rfl rfl (by (try simp only [List.map_toArray, List.map_cons, List.map_nil]); first | done | rfl | (simp only [List.length_drop, List.length_take]; rfl)) ?_
            with_reducible refine (spec_l27Line.calls kj2 a0_2 a1_0 a1_1 t353 _ A33.out).mono ?_
            rintro e w39 ⟨rfl, hb⟩
            refine ⟨_, rfl, ?_⟩
            have n0_ := Aside0.mk (blk_below (g := gb348) (o := .cells #[.string a0_0, .string a0_1, .int .i64 a0_2] 31 (0, 0)) (by (with_reducible repeat (first | refine blk_drewN ?_ _ | refine blk_drew ?_ | refine blk_alloc ?_ _)); exact BK348.out) hb)
            have n1_ := Aside0.mk (blk_below (g := gb349) (o := .cells #[.string a1_0, .string a1_1] 27 (0, 0)) (by (with_reducible repeat (first | refine blk_drewN ?_ _ | refine blk_drew ?_ | refine blk_alloc ?_ _)); exact BK349.out) hb)
            have n2_ := Aside0.mk (blk_below (g := gb350) (o := .cells #[.string (⟨#[]⟩ : ByteArray), .string (⟨#[]⟩ : ByteArray), .int .i64 0] 31 (0, 0)) (by (with_reducible repeat (first | refine blk_drewN ?_ _ | refine blk_drew ?_ | refine blk_alloc ?_ _)); exact BK350.out) hb)
            have n3_ := Aside0.mk (below_step (by repeat (first | (with_reducible first | exact HB.out | apply below_alloc | apply pw_below_drewN | apply below_drew1 | refine below_set ?_ GE348.out | refine below_set ?_ GE349.out | refine below_set ?_ GE350.out) | exact HB.out)) hb)
            clear BK348
            clear BK349
            clear BK350
            clear HB
            have BK348 := n0_
            have BK349 := n1_
            have BK350 := n2_
            have HB := n3_
            clear n0_ n1_ n2_ n3_
            (try clear hb)
            (try clear hb2)
            (try clear hk)
            (try clear hi)
            refine hK.out _ _ ⟨(blk_cell BK348.out 0).trans rfl, (blk_cell BK348.out 1).trans rfl, (blk_cell BK348.out 2).trans rfl, (blk_cell BK349.out 0).trans rfl, (blk_cell BK349.out 1).trans rfl⟩ (fun hHeld => ?_)
            clear hK K
            refine norm_ (a' := ?_) ?_ ?_
            rotate_left
            · show Act.put _ (some 24) _ = _
              simp only [Act.put, List.setIfInBounds_toArray, List.set_cons_zero, List.set_cons_succ, i64_w, i32_w]
              rfl
            refine pure_ (i := 6) (N := some 25) (v := ?_) (a' := ?_) #[true, true, true, true, true, true, true, false, false] rfl rfl (any_of HT_.out (by kernel_rfl)) (fun _ _ _ h => h) (Or.inl ⟨by rfl, ?_⟩) ?_ ?_
            rotate_left
            · intro w'
              go_simp
              first | with_reducible rfl | (rw [if_neg (by simp only [ByteArray.size_append, ByteArray.size_extract, show ∀ (a : UInt8) (l : List UInt8), (⟨⟨a :: l⟩⟩ : ByteArray).size = l.length + 1 from fun _ _ => rfl, List.length_cons, List.length_nil] at *; omega)]; done) | (rw [if_neg (by simp only [ByteArray.size_append, ByteArray.size_extract, show ∀ (a : UInt8) (l : List UInt8), (⟨⟨a :: l⟩⟩ : ByteArray).size = l.length + 1 from fun _ _ => rfl, List.length_cons, List.length_nil] at *; omega)]; with_reducible rfl)
            rotate_left
            · simp only [Act.put, List.setIfInBounds_toArray, List.set_cons_zero, List.set_cons_succ, i64_w, i32_w]
              rfl
            refine pure_ (i := 7) (N := some 26) (v := ?_) (a' := ?_) #[true, true, true, true, true, true, true, true, false] rfl rfl (any_of HT_.out (by kernel_rfl)) (fun _ _ _ h => h) (Or.inl ⟨by rfl, ?_⟩) ?_ ?_
            rotate_left
            · intro w'
              go_simp
              first | with_reducible rfl | (rw [if_neg (by simp only [ByteArray.size_append, ByteArray.size_extract, show ∀ (a : UInt8) (l : List UInt8), (⟨⟨a :: l⟩⟩ : ByteArray).size = l.length + 1 from fun _ _ => rfl, List.length_cons, List.length_nil] at *; omega)]; done) | (rw [if_neg (by simp only [ByteArray.size_append, ByteArray.size_extract, show ∀ (a : UInt8) (l : List UInt8), (⟨⟨a :: l⟩⟩ : ByteArray).size = l.length + 1 from fun _ _ => rfl, List.length_cons, List.length_nil] at *; omega)]; with_reducible rfl)
            rotate_left
            · simp only [Act.put, List.setIfInBounds_toArray, List.set_cons_zero, List.set_cons_succ, i64_w, i32_w]
              rfl
            refine last_ (i := 8) (N := none) #[true, true, true, true, true, true, true, true, true] rfl rfl (one_of HT_.out (by kernel_rfl)) (by decide) (fun K hK => ?_)
            have hs40 : w39.cell? ⟨gb348, 1, none⟩ = some (.string a0_1) := (blk_cell BK348.out 1).trans rfl
            have hfs40 := blk_frozen BK348.out 1
            have hns40_1 := NB349_348.out
            have hns40_2 := NB350_348.out
            have hms40_1 := NB348_349.out
            have hms40_2 := NB348_350.out
            refine skip_ (w1 := ?_) (by rfl) rfl ?_ ?_
            rotate_left
            · go_simp
              rfl
            refine hK.out _ _ ?_
            clear hK K
            refine done_ (done_of HT_.out (by kernel_rfl)) ?_
            have hcz41_0 : w39.cell? ⟨gb348, 0, none⟩ = some (.string a0_0) := (blk_cell BK348.out 0).trans rfl
            have hcz41_1 : w39.cell? ⟨gb348, 1, none⟩ = some (.string a0_1) := (blk_cell BK348.out 1).trans rfl
            have hcz41_2 : w39.cell? ⟨gb348, 2, none⟩ = some (.int .i64 a0_2) := (blk_cell BK348.out 2).trans rfl
            have hfz41_0 := blk_frozen BK348.out 0
            have hfz41_1 := blk_frozen BK348.out 1
            have hfz41_2 := blk_frozen BK348.out 2
            have hnb42 := NB350_349.out
            have hnc42 := NB349_350.out
            have hcz43_0 : w39.cell? ⟨gb350, 0, none⟩ = some (.string (⟨#[]⟩ : ByteArray)) := (blk_cell BK350.out 0).trans rfl
            have hcz43_1 : w39.cell? ⟨gb350, 1, none⟩ = some (.string (⟨#[]⟩ : ByteArray)) := (blk_cell BK350.out 1).trans rfl
            have hcz43_2 : w39.cell? ⟨gb350, 2, none⟩ = some (.int .i64 0) := (blk_cell BK350.out 2).trans rfl
            have hfz43_0 := blk_frozen BK350.out 0
            have hfz43_1 := blk_frozen BK350.out 1
            have hfz43_2 := blk_frozen BK350.out 2
            try go_wp2
            refine bodyPost_ret (results_ct rfl _ _ gb350 31 #[.string a0_0, .string (sc a0_1 t353), .int .i64 (wrap64 (a0_2 + 1))] (0, 0) _ rfl (by (with_reducible repeat (first | refine blk_drewN ?_ _ | refine blk_drew ?_ | refine blk_alloc ?_ _)); refine blk_put (cs := #[.string a0_0, .string (sc a0_1 t353), .int .i64 0]) ?_ 2 _ rfl; (with_reducible repeat (first | refine blk_drewN ?_ _ | refine blk_drew ?_ | refine blk_alloc ?_ _)); refine blk_put (cs := #[.string a0_0, .string (⟨#[]⟩ : ByteArray), .int .i64 0]) ?_ 1 _ rfl; (with_reducible repeat (first | refine blk_drewN ?_ _ | refine blk_drew ?_ | refine blk_alloc ?_ _)); refine blk_put (cs := #[.string (⟨#[]⟩ : ByteArray), .string (⟨#[]⟩ : ByteArray), .int .i64 0]) ?_ 0 _ rfl; (with_reducible repeat (first | refine blk_drewN ?_ _ | refine blk_drew ?_ | refine blk_alloc ?_ _)); refine blk_far ?_ NB350_348.out _; (with_reducible repeat (first | refine blk_drewN ?_ _ | refine blk_drew ?_ | refine blk_alloc ?_ _)); refine blk_far ?_ NB350_348.out _; (with_reducible repeat (first | refine blk_drewN ?_ _ | refine blk_drew ?_ | refine blk_alloc ?_ _)); exact BK350.out) Tryd.underlying31 rfl (by kernel_rfl)) rfl ?_
            exact ⟨by first | rfl | (simp [errW_none, errW_some] <;> rfl) | (simp [*, errW_none, errW_some] <;> rfl), by repeat (first | (with_reducible first | exact HB.out | apply below_alloc | apply pw_below_drewN | apply below_drew1 | refine below_set ?_ GE348.out | refine below_set ?_ GE349.out | refine below_set ?_ GE350.out) | exact HB.out)⟩
          · rw [if_neg c34] at H
            exact absurd H (by simp)

end Go.Proofs.YtdpinnhgkocjhaaDoor.Pr

namespace Go.Proofs.YtdpinnhgkocjhaaDoor.Pr
open Go.RowKit Go.Proofs.YtdpinnhgkocjhaaDoorW.PrintWords Go.Proofs.YtdpinnhgkocjhaaDoorW.PrintLast Go.Proofs.YtdpinnhgkocjhaaDoorW.PrintMore
attribute [local go_sem] max2_int min2_int max_two min_two max_three min_three max_four min_four sc_in sx_in   -- for this text's walks alone
set_option linter.unusedVariables false
set_option linter.unusedSimpArgs false

/-! ### impl_AppendRecord: function 29 -/
def impl_AppendRecord.j0 : Nat → Bool → ByteArray → ByteArray → Int → ByteArray → ByteArray → Option (ByteArray × ByteArray × Int × Int)
  | 0, _, _, _, _, _, _ => none
  | k + 1, x6, x355000, x355001, x355002, x356000, x356001 => if x6 = true then (some (x355000, x355001, x355002, 1)) else (if x355002 = 60 then (some (x355000, x355001, x355002, 2)) else ((impl_encode.f k x355002 x356000 x356001).bind fun t359 => (if x355001.size + t359.size ≤ 9223372036854775807 then (some (x355000, sc x355001 t359, wrap64 (x355002 + 1), 0)) else (none))))
def impl_AppendRecord.f (k : Nat) (a0_0 : ByteArray) (a0_1 : ByteArray) (a0_2 : Int) (a1_0 : ByteArray) (a1_1 : ByteArray) : Option (ByteArray × ByteArray × Int × Int) := (impl_IsValidLog.f k a0_0 a0_1 a0_2).bind fun t357 => (if t357 = true then ((impl_IsValidRecord.f k a1_0 a1_1).bind fun t358 => (impl_AppendRecord.j0 k (!t358) a0_0 a0_1 a0_2 a1_0 a1_1)) else (impl_AppendRecord.j0 k true a0_0 a0_1 a0_2 a1_0 a1_1))
theorem impl_AppendRecord.mono_l : ∀ k, (∀ y0 y1 y2 y3 y4 y5, LeO (impl_AppendRecord.j0 k y0 y1 y2 y3 y4 y5) (impl_AppendRecord.j0 (k + 1) y0 y1 y2 y3 y4 y5))
  | 0 => fun _ _ _ _ _ _ r h => by simp [impl_AppendRecord.j0] at h
  | k + 1 => by
    have ih0 := impl_AppendRecord.mono_l k
    · intro y0 y1 y2 y3 y4 y5
      unfold impl_AppendRecord.j0
      repeat' first
      | (with_reducible exact ih0 _ _ _ _ _ _)
      | (with_reducible exact impl_IsValidLog.mono _ _ _ _)
      | (with_reducible exact impl_IsValidRecord.mono _ _ _)
      | (with_reducible exact impl_encode.mono _ _ _ _)
      | (with_reducible exact LeO.refl _)
      | (with_reducible exact LeO.none _)
      | (with_reducible refine LeO.ite ?_ ?_)
      | (with_reducible refine LeO.bind ?_ (fun _ => ?_))
      | exact ih0 _ _ _ _ _ _
      | exact impl_IsValidLog.mono _ _ _ _
      | exact impl_IsValidRecord.mono _ _ _
      | exact impl_encode.mono _ _ _ _
      | exact LeO.none _
      | refine LeO.ite ?_ ?_
      | refine LeO.bind ?_ (fun _ => ?_)
theorem impl_AppendRecord.mono : ∀ a0 a1 a2 a3 a4 k, LeO (impl_AppendRecord.f k a0 a1 a2 a3 a4) (impl_AppendRecord.f (k + 1) a0 a1 a2 a3 a4) := by
  intro a0 a1 a2 a3 a4 k
  have ih0 := impl_AppendRecord.mono_l k
  unfold impl_AppendRecord.f
  repeat' first
      | (with_reducible exact ih0 _ _ _ _ _ _)
      | (with_reducible exact impl_IsValidLog.mono _ _ _ _)
      | (with_reducible exact impl_IsValidRecord.mono _ _ _)
      | (with_reducible exact impl_encode.mono _ _ _ _)
      | (with_reducible exact LeO.refl _)
      | (with_reducible exact LeO.none _)
      | (with_reducible refine LeO.ite ?_ ?_)
      | (with_reducible refine LeO.bind ?_ (fun _ => ?_))
      | exact ih0 _ _ _ _ _ _
      | exact impl_IsValidLog.mono _ _ _ _
      | exact impl_IsValidRecord.mono _ _ _
      | exact impl_encode.mono _ _ _ _
      | exact LeO.none _
      | refine LeO.ite ?_ ?_
      | refine LeO.bind ?_ (fun _ => ?_)
def impl_AppendRecord.T5 : Bool × List (List Nat × List Nat) := (true, [([], []), ([0], [0]), ([], []), ([2], [2]), ([], []), ([4], [4]), ([], []), ([5, 6], [5, 6]), ([3, 7], [3, 7]), ([], []), ([9], [9]), ([10], [10]), ([1, 8, 11], [1, 8, 11]), ([12, 7, 0, 1, 2, 3, 4, 5, 6, 7, 8, 9, 10, 11, 12], [12]), ([13, 0, 1, 2, 3, 4, 5, 6, 7, 8, 9, 10, 11, 12, 13], [])])
def impl_AppendRecord.B5 : List Nat := [0, 1, 0, 4, 0, 16, 0, 112, 252, 0, 512, 1536, 4095, 8191, 16383]
theorem impl_AppendRecord.tab5 : rtab .any (opsOf Tryd.f29 5) = impl_AppendRecord.T5 := by kernel_rfl
theorem impl_AppendRecord.bits5 : waitsOk impl_AppendRecord.T5.2 impl_AppendRecord.B5 = true := by kernel_rfl
set_option maxHeartbeats 8000000 in
set_option maxRecDepth 100000 in
theorem impl_AppendRecord.calls (k : Nat) (a0_0 : ByteArray) (a0_1 : ByteArray) (a0_2 : Int) (a1_0 : ByteArray) (a1_1 : ByteArray) (r1 : ByteArray) (r2 : ByteArray) (r3 : Int) (r4 : Int) (w : World) (h : impl_AppendRecord.f k a0_0 a0_1 a0_2 a1_0 a1_1 = some (r1, r2, r3, r4)) (hT : Tb w) :
    Calls Tryd.prog 29 #[.agg #[.string a0_0, .string a0_1, .int .i64 a0_2], .agg #[.string a1_0, .string a1_1]] w fun e w' => e = .returned (.tuple #[.agg #[.string r1, .string r2, .int .i64 r3], .int .i64 r4]) ∧ Below w.heap.size w w' := by
  have HT := Aside0.mk hT
  clear hT
  have hu31 := Tryd.underlying31
  have hu27 := Tryd.underlying27
  have HB := Aside0.mk (Below.refl w.heap.size w)
  have H : ((impl_IsValidLog.f k a0_0 a0_1 a0_2).bind fun t357 => (if t357 = true then ((impl_IsValidRecord.f k a1_0 a1_1).bind fun t358 => (impl_AppendRecord.j0 k (!t358) a0_0 a0_1 a0_2 a1_0 a1_1)) else (impl_AppendRecord.j0 k true a0_0 a0_1 a0_2 a1_0 a1_1))) = some (r1, r2, r3, r4) := h
  clear h
  have HC3 := Aside0.mk H
  clear H
  go_enter Tryd.func29, Tryd.ntmps29
  go_upto_region 1 with (first | ((with_reducible refine gate_dst (N := 2) rfl ?_); refine box_event ?hg (N := 2) ?hd (cs := #[.string a0_0, .string a0_1, .int .i64 a0_2]) (t := 31) ?hr ?_; (case hd => rfl); (case hg => rfl); (case hr => first | (go_simp; done) | (go_simp; rfl)); intro gb354 hg w4 hbox hb; have n0_ := Aside0.mk (below_step (by repeat (first | (with_reducible first | exact HB.out | apply below_alloc | apply pw_below_drewN | apply below_drew1) | exact HB.out)) hb); have n1_ := Aside0.mk (hbox); have n2_ := Aside0.mk ((by rw [hg]; exact (below_size (by repeat (first | (with_reducible first | exact HB.out | apply below_alloc | apply pw_below_drewN | apply below_drew1) | exact HB.out))) : w.heap.size ≤ gb354)); have n3_ := Aside0.mk ((by rw [hg]; exact (below_size (by repeat (first | (with_reducible first | exact HB.out | apply below_alloc | apply pw_below_drewN | apply below_drew1) | exact HB.out))) : w.heap.size ≤ gb354)); clear HB; have HB := n0_; have BK354 := n1_; have GW354 := n2_; have GE354 := n3_; clear n0_ n1_ n2_ n3_; clear hb hbox hg) | ((with_reducible refine gate_dst (N := 3) rfl ?_); refine box_event ?hg (N := 3) ?hd (cs := #[.string a1_0, .string a1_1]) (t := 27) ?hr ?_; (case hd => rfl); (case hg => rfl); (case hr => first | (go_simp; done) | (go_simp; rfl)); intro gb355 hg w5 hbox hb; have n0_ := Aside0.mk (blk_below (g := gb354) (o := .cells #[.string a0_0, .string a0_1, .int .i64 a0_2] 31 (0, 0)) (by (with_reducible repeat (first | refine blk_drewN ?_ _ | refine blk_drew ?_ | refine blk_alloc ?_ _)); exact BK354.out) hb); have n1_ := Aside0.mk (below_step (by repeat (first | (with_reducible first | exact HB.out | apply below_alloc | apply pw_below_drewN | apply below_drew1 | refine below_set ?_ GE354.out) | exact HB.out)) hb); have n2_ := Aside0.mk (hbox); have n3_ := Aside0.mk ((by rw [hg]; exact (below_size (by repeat (first | (with_reducible first | exact HB.out | apply below_alloc | apply pw_below_drewN | apply below_drew1 | refine below_set ?_ GE354.out) | exact HB.out))) : w.heap.size ≤ gb355)); have n4_ := Aside0.mk ((by rw [hg]; exact (below_size (by repeat (first | (with_reducible first | exact HB.out | apply below_alloc | apply pw_below_drewN | apply below_drew1 | refine below_set ?_ GE354.out) | exact HB.out))) : w.heap.size ≤ gb355)); have n5_ := Aside0.mk ((by rw [hg]; exact Nat.ne_of_lt (blk_lt (g := gb354) (o := .cells #[.string a0_0, .string a0_1, .int .i64 a0_2] 31 (0, 0)) (by (with_reducible repeat (first | refine blk_drewN ?_ _ | refine blk_drew ?_ | refine blk_alloc ?_ _)); exact BK354.out)) : gb354 ≠ gb355)); have n6_ := Aside0.mk ((by rw [hg]; exact Nat.ne_of_gt (blk_lt (g := gb354) (o := .cells #[.string a0_0, .string a0_1, .int .i64 a0_2] 31 (0, 0)) (by (with_reducible repeat (first | refine blk_drewN ?_ _ | refine blk_drew ?_ | refine blk_alloc ?_ _)); exact BK354.out)) : gb355 ≠ gb354)); clear BK354; clear HB; have BK354 := n0_; have HB := n1_; have BK355 := n2_; have GW355 := n3_; have GE355 := n4_; have NB354_355 := n5_; have NB355_354 := n6_; clear n0_ n1_ n2_ n3_ n4_ n5_ n6_; clear hb hbox hg) | ((with_reducible refine gate_dst (N := 4) rfl ?_); refine box_event ?hg (N := 4) ?hd (cs := #[.string (⟨#[]⟩ : ByteArray), .string (⟨#[]⟩ : ByteArray), .int .i64 0]) (t := 31) ?hr ?_; (case hd => rfl); (case hg => rfl); (case hr => first | (go_simp; done) | (go_simp; rfl)); intro gb356 hg w6 hbox hb; have n0_ := Aside0.mk (blk_below (g := gb354) (o := .cells #[.string a0_0, .string a0_1, .int .i64 a0_2] 31 (0, 0)) (by (with_reducible repeat (first | refine blk_drewN ?_ _ | refine blk_drew ?_ | refine blk_alloc ?_ _)); exact BK354.out) hb); have n1_ := Aside0.mk (blk_below (g := gb355) (o := .cells #[.string a1_0, .string a1_1] 27 (0, 0)) (by (with_reducible repeat (first | refine blk_drewN ?_ _ | refine blk_drew ?_ | refine blk_alloc ?_ _)); exact BK355.out) hb); have n2_ := Aside0.mk (below_step (by repeat (first | (with_reducible first | exact HB.out | apply below_alloc | apply pw_below_drewN | apply below_drew1 | refine below_set ?_ GE354.out | refine below_set ?_ GE355.out) | exact HB.out)) hb); have n3_ := Aside0.mk (hbox); have n4_ := Aside0.mk ((by rw [hg]; exact (below_size (by repeat (first | (with_reducible first | exact HB.out | apply below_alloc | apply pw_below_drewN | apply below_drew1 | refine below_set ?_ GE354.out | refine below_set ?_ GE355.out) | exact HB.out))) : w.heap.size ≤ gb356)); have n5_ := Aside0.mk ((by rw [hg]; exact (below_size (by repeat (first | (with_reducible first | exact HB.out | apply below_alloc | apply pw_below_drewN | apply below_drew1 | refine below_set ?_ GE354.out | refine below_set ?_ GE355.out) | exact HB.out))) : w.heap.size ≤ gb356)); have n6_ := Aside0.mk ((by rw [hg]; exact Nat.ne_of_lt (blk_lt (g := gb354) (o := .cells #[.string a0_0, .string a0_1, .int .i64 a0_2] 31 (0, 0)) (by (with_reducible repeat (first | refine blk_drewN ?_ _ | refine blk_drew ?_ | refine blk_alloc ?_ _)); exact BK354.out)) : gb354 ≠ gb356)); have n7_ := Aside0.mk ((by rw [hg]; exact Nat.ne_of_gt (blk_lt (g := gb354) (o := .cells #[.string a0_0, .string a0_1, .int .i64 a0_2] 31 (0, 0)) (by (with_reducible repeat (first | refine blk_drewN ?_ _ | refine blk_drew ?_ | refine blk_alloc ?_ _)); exact BK354.out)) : gb356 ≠ gb354)); have n8_ := Aside0.mk ((by rw [hg]; exact Nat.ne_of_lt (blk_lt (g := gb355) (o := .cells #[.string a1_0, .string a1_1] 27 (0, 0)) (by (with_reducible repeat (first | refine blk_drewN ?_ _ | refine blk_drew ?_ | refine blk_alloc ?_ _)); exact BK355.out)) : gb355 ≠ gb356)); have n9_ := Aside0.mk ((by rw [hg]; exact Nat.ne_of_gt (blk_lt (g := gb355) (o := .cells #[.string a1_0, .string a1_1] 27 (0, 0)) (by (with_reducible repeat (first | refine blk_drewN ?_ _ | refine blk_drew ?_ | refine blk_alloc ?_ _)); exact BK355.out)) : gb356 ≠ gb355)); clear BK354; clear BK355; clear HB; have BK354 := n0_; have BK355 := n1_; have HB := n2_; have BK356 := n3_; have GW356 := n4_; have GE356 := n5_; have NB354_356 := n6_; have NB356_354 := n7_; have NB355_356 := n8_; have NB356_355 := n9_; clear n0_ n1_ n2_ n3_ n4_ n5_ n6_ n7_ n8_ n9_; clear hb hbox hg))
  (try simp only [Act.put, List.setIfInBounds_toArray, List.set_cons_zero, List.set_cons_succ])
  go_cut [6] (fun v6 wc => ∃ (kq : Nat) (x6_2 : Bool), v6 = .bool x6_2 ∧ Aside0 (impl_AppendRecord.j0 kq x6_2 a0_0 a0_1 a0_2 a1_0 a1_1 = some (r1, r2, r3, r4)) ∧ Aside0 (kq ≤ k) ∧ Aside0 (wc.heap[gb354]? = some (.cells #[.string a0_0, .string a0_1, .int .i64 a0_2] 31 (0, 0))) ∧ Aside0 (wc.heap[gb355]? = some (.cells #[.string a1_0, .string a1_1] 27 (0, 0))) ∧ Aside0 (wc.heap[gb356]? = some (.cells #[.string (⟨#[]⟩ : ByteArray), .string (⟨#[]⟩ : ByteArray), .int .i64 0] 31 (0, 0))) ∧ Aside0 (Below w.heap.size w wc))
  case first =>
    have H := HC3.out
    clear HC3
    replace H := Option.bind_eq_some_iff.mp H
    obtain ⟨t357, A70, H⟩ := H
    replace H : (if t357 = true then ((impl_IsValidRecord.f k a1_0 a1_1).bind fun t358 => (impl_AppendRecord.j0 k (!t358) a0_0 a0_1 a0_2 a1_0 a1_1)) else (impl_AppendRecord.j0 k true a0_0 a0_1 a0_2 a1_0 a1_1)) = some (r1, r2, r3, r4) := H
    have A7 := Aside0.mk A70
    clear A70
    by_cases c8 : t357 = true
    · subst c8
      have H1 : ((impl_IsValidRecord.f k a1_0 a1_1).bind fun t358 => (impl_AppendRecord.j0 k (!t358) a0_0 a0_1 a0_2 a1_0 a1_1)) = some (r1, r2, r3, r4) := by rw [if_pos rfl] at H; exact H
      clear H
      have H := H1
      clear H1
      replace H := Option.bind_eq_some_iff.mp H
      obtain ⟨t358, A90, H⟩ := H
      replace H : (impl_AppendRecord.j0 k (!t358) a0_0 a0_1 a0_2 a1_0 a1_1) = some (r1, r2, r3, r4) := H
      have A9 := Aside0.mk A90
      clear A90
      have H' := Aside0.mk H
      clear H
      have hnb10 := NB354_355.out
      have hnc10 := NB355_354.out
      have hnb11 := NB354_356.out
      have hnc11 := NB356_354.out
      have hcz12_0 : w6.cell? ⟨gb354, 0, none⟩ = some (.string a0_0) := (blk_cell BK354.out 0).trans rfl
      have hcz12_1 : w6.cell? ⟨gb354, 1, none⟩ = some (.string a0_1) := (blk_cell BK354.out 1).trans rfl
      have hcz12_2 : w6.cell? ⟨gb354, 2, none⟩ = some (.int .i64 a0_2) := (blk_cell BK354.out 2).trans rfl
      have hfz12_0 := blk_frozen BK354.out 0
      have hfz12_1 := blk_frozen BK354.out 1
      have hfz12_2 := blk_frozen BK354.out 2
      go_wp2_with (first | ((with_reducible refine gate_callee (f := 23) rfl ?_); refine goesL_ (some 8) rfl rfl Tryd.func23 (by kernel_rfl) rfl #[.agg #[.string a0_0, .string a0_1, .int .i64 a0_2]] rfl (by (try simp only [List.map_toArray, List.map_cons, List.map_nil]); first | done | rfl | (simp only [List.length_drop, List.length_take]; rfl)) ?_; (with_reducible refine (impl_IsValidLog.calls k a0_0 a0_1 a0_2 true _ A7.out ?sideT).mono ?_); (case sideT => first | exact HT.out | exact Tb.step HT.out HB.out | exact Tb.step HT.out (by repeat (first | (with_reducible first | exact HB.out | apply below_alloc | apply pw_below_drewN | apply below_drew1 | refine below_set ?_ GE354.out | refine below_set ?_ GE355.out | refine below_set ?_ GE356.out) | exact HB.out | exact Below.refl _ _))); rintro e w13 ⟨rfl, hb⟩; refine ⟨_, rfl, ?_⟩; have n0_ := Aside0.mk (blk_below (g := gb354) (o := .cells #[.string a0_0, .string a0_1, .int .i64 a0_2] 31 (0, 0)) (by (with_reducible repeat (first | refine blk_drewN ?_ _ | refine blk_drew ?_ | refine blk_alloc ?_ _)); exact BK354.out) hb); have n1_ := Aside0.mk (blk_below (g := gb355) (o := .cells #[.string a1_0, .string a1_1] 27 (0, 0)) (by (with_reducible repeat (first | refine blk_drewN ?_ _ | refine blk_drew ?_ | refine blk_alloc ?_ _)); exact BK355.out) hb); have n2_ := Aside0.mk (blk_below (g := gb356) (o := .cells #[.string (⟨#[]⟩ : ByteArray), .string (⟨#[]⟩ : ByteArray), .int .i64 0] 31 (0, 0)) (by (with_reducible repeat (first | refine blk_drewN ?_ _ | refine blk_drew ?_ | refine blk_alloc ?_ _)); exact BK356.out) hb); have n3_ := Aside0.mk (below_step (by repeat (first | (with_reducible first | exact HB.out | apply below_alloc | apply pw_below_drewN | apply below_drew1 | refine below_set ?_ GE354.out | refine below_set ?_ GE355.out | refine below_set ?_ GE356.out) | exact HB.out)) hb); clear BK354; clear BK355; clear BK356; clear HB; have BK354 := n0_; have BK355 := n1_; have BK356 := n2_; have HB := n3_; clear n0_ n1_ n2_ n3_; (try clear hb); (try clear hb2); (try clear hk); (try clear hi); have hnb14 := NB355_356.out; have hnc14 := NB356_355.out; have hcz15_0 : w13.cell? ⟨gb355, 0, none⟩ = some (.string a1_0) := (blk_cell BK355.out 0).trans rfl; have hcz15_1 : w13.cell? ⟨gb355, 1, none⟩ = some (.string a1_1) := (blk_cell BK355.out 1).trans rfl; have hfz15_0 := blk_frozen BK355.out 0; have hfz15_1 := blk_frozen BK355.out 1) | (go_at_call 37; (with_reducible refine (impl_IsValidRecord.calls k a1_0 a1_1 t358 _ A9.out).mono ?_); rintro e w16 ⟨rfl, hb⟩; have n0_ := Aside0.mk (blk_below (g := gb354) (o := .cells #[.string a0_0, .string a0_1, .int .i64 a0_2] 31 (0, 0)) (by (with_reducible repeat (first | refine blk_drewN ?_ _ | refine blk_drew ?_ | refine blk_alloc ?_ _)); exact BK354.out) hb); have n1_ := Aside0.mk (blk_below (g := gb355) (o := .cells #[.string a1_0, .string a1_1] 27 (0, 0)) (by (with_reducible repeat (first | refine blk_drewN ?_ _ | refine blk_drew ?_ | refine blk_alloc ?_ _)); exact BK355.out) hb); have n2_ := Aside0.mk (blk_below (g := gb356) (o := .cells #[.string (⟨#[]⟩ : ByteArray), .string (⟨#[]⟩ : ByteArray), .int .i64 0] 31 (0, 0)) (by (with_reducible repeat (first | refine blk_drewN ?_ _ | refine blk_drew ?_ | refine blk_alloc ?_ _)); exact BK356.out) hb); have n3_ := Aside0.mk (below_step (by repeat (first | (with_reducible first | exact HB.out | apply below_alloc | apply pw_below_drewN | apply below_drew1 | refine below_set ?_ GE354.out | refine below_set ?_ GE355.out | refine below_set ?_ GE356.out) | exact HB.out)) hb); clear BK354; clear BK355; clear BK356; clear HB; have BK354 := n0_; have BK355 := n1_; have BK356 := n2_; have HB := n3_; clear n0_ n1_ n2_ n3_; (try clear hb); (try clear hb2); (try clear hk); (try clear hi)))
      go_meet
      case rel => exact ⟨_, (!t358), (by first | rfl | (simp; done) | (simp [*]; done)), H', ⟨by first | omega | exact Nat.le_refl _⟩, ⟨by (with_reducible repeat (first | refine blk_drewN ?_ _ | refine blk_drew ?_ | refine blk_alloc ?_ _)); exact BK354.out⟩, ⟨by (with_reducible repeat (first | refine blk_drewN ?_ _ | refine blk_drew ?_ | refine blk_alloc ?_ _)); exact BK355.out⟩, ⟨by (with_reducible repeat (first | refine blk_drewN ?_ _ | refine blk_drew ?_ | refine blk_alloc ?_ _)); exact BK356.out⟩, ⟨by repeat (first | (with_reducible first | exact HB.out | apply below_alloc | apply pw_below_drewN | apply below_drew1 | refine below_set ?_ GE354.out | refine below_set ?_ GE355.out | refine below_set ?_ GE356.out) | exact HB.out)⟩⟩
    · replace c8 := Bool.eq_false_iff.mpr c8
      subst c8
      have H1 : (impl_AppendRecord.j0 k true a0_0 a0_1 a0_2 a1_0 a1_1) = some (r1, r2, r3, r4) := by rw [if_neg (show ¬ (false = true) by decide)] at H; exact H
      clear H
      have H := H1
      clear H1
      have H' := Aside0.mk H
      clear H
      have hnb17 := NB354_355.out
      have hnc17 := NB355_354.out
      have hnb18 := NB354_356.out
      have hnc18 := NB356_354.out
      have hcz19_0 : w6.cell? ⟨gb354, 0, none⟩ = some (.string a0_0) := (blk_cell BK354.out 0).trans rfl
      have hcz19_1 : w6.cell? ⟨gb354, 1, none⟩ = some (.string a0_1) := (blk_cell BK354.out 1).trans rfl
      have hcz19_2 : w6.cell? ⟨gb354, 2, none⟩ = some (.int .i64 a0_2) := (blk_cell BK354.out 2).trans rfl
      have hfz19_0 := blk_frozen BK354.out 0
      have hfz19_1 := blk_frozen BK354.out 1
      have hfz19_2 := blk_frozen BK354.out 2
      go_wp2_with (first | ((with_reducible refine gate_callee (f := 23) rfl ?_); refine goesL_ (some 8) rfl rfl Tryd.func23 (by kernel_rfl) rfl #[.agg #[.string a0_0, .string a0_1, .int .i64 a0_2]] rfl (by (try simp only [List.map_toArray, List.map_cons, List.map_nil]); first | done | rfl | (simp only [List.length_drop, List.length_take]; rfl)) ?_; (with_reducible refine (impl_IsValidLog.calls k a0_0 a0_1 a0_2 false _ A7.out ?sideT).mono ?_); (case sideT => first | exact HT.out | exact Tb.step HT.out HB.out | exact Tb.step HT.out (by repeat (first | (with_reducible first | exact HB.out | apply below_alloc | apply pw_below_drewN | apply below_drew1 | refine below_set ?_ GE354.out | refine below_set ?_ GE355.out | refine below_set ?_ GE356.out) | exact HB.out | exact Below.refl _ _))); rintro e w20 ⟨rfl, hb⟩; refine ⟨_, rfl, ?_⟩; have n0_ := Aside0.mk (blk_below (g := gb354) (o := .cells #[.string a0_0, .string a0_1, .int .i64 a0_2] 31 (0, 0)) (by (with_reducible repeat (first | refine blk_drewN ?_ _ | refine blk_drew ?_ | refine blk_alloc ?_ _)); exact BK354.out) hb); have n1_ := Aside0.mk (blk_below (g := gb355) (o := .cells #[.string a1_0, .string a1_1] 27 (0, 0)) (by (with_reducible repeat (first | refine blk_drewN ?_ _ | refine blk_drew ?_ | refine blk_alloc ?_ _)); exact BK355.out) hb); have n2_ := Aside0.mk (blk_below (g := gb356) (o := .cells #[.string (⟨#[]⟩ : ByteArray), .string (⟨#[]⟩ : ByteArray), .int .i64 0] 31 (0, 0)) (by (with_reducible repeat (first | refine blk_drewN ?_ _ | refine blk_drew ?_ | refine blk_alloc ?_ _)); exact BK356.out) hb); have n3_ := Aside0.mk (below_step (by repeat (first | (with_reducible first | exact HB.out | apply below_alloc | apply pw_below_drewN | apply below_drew1 | refine below_set ?_ GE354.out | refine below_set ?_ GE355.out | refine below_set ?_ GE356.out) | exact HB.out)) hb); clear BK354; clear BK355; clear BK356; clear HB; have BK354 := n0_; have BK355 := n1_; have BK356 := n2_; have HB := n3_; clear n0_ n1_ n2_ n3_; (try clear hb); (try clear hb2); (try clear hk); (try clear hi)))
      go_meet
      case rel => exact ⟨_, (true), (by first | rfl | (simp; done) | (simp [*]; done)), H', ⟨by first | omega | exact Nat.le_refl _⟩, ⟨by (with_reducible repeat (first | refine blk_drewN ?_ _ | refine blk_drew ?_ | refine blk_alloc ?_ _)); exact BK354.out⟩, ⟨by (with_reducible repeat (first | refine blk_drewN ?_ _ | refine blk_drew ?_ | refine blk_alloc ?_ _)); exact BK355.out⟩, ⟨by (with_reducible repeat (first | refine blk_drewN ?_ _ | refine blk_drew ?_ | refine blk_alloc ?_ _)); exact BK356.out⟩, ⟨by repeat (first | (with_reducible first | exact HB.out | apply below_alloc | apply pw_below_drewN | apply below_drew1 | refine below_set ?_ GE354.out | refine below_set ?_ GE355.out | refine below_set ?_ GE356.out) | exact HB.out)⟩⟩
  case rest =>
    clear HC3
    try clear c1
    try clear c2
    try clear p2
    try clear c8
    try clear c10
    try clear c11
    try clear c14
    try clear c17
    try clear c18
    try clear hcz12_0
    try clear hcz12_1
    try clear hcz12_2
    try clear hcz15_0
    try clear hcz15_1
    try clear hcz19_0
    try clear hcz19_1
    try clear hcz19_2
    try clear hfz12_0
    try clear hfz12_1
    try clear hfz12_2
    try clear hfz15_0
    try clear hfz15_1
    try clear hfz19_0
    try clear hfz19_1
    try clear hfz19_2
    obtain ⟨kq, x6_2, rfl, HA, HJ2, BK354, BK355, BK356, HB⟩ := hcut
    cases kq with
    | zero => exact absurd HA.out (by simp [impl_AppendRecord.j0])
    | succ kj2 =>
      have H := HA.out
      clear HA
      simp only [impl_AppendRecord.j0] at H
      by_cases c21 : x6_2 = true
      · subst c21
        have H1 : (some (a0_0, a0_1, a0_2, 1)) = some (r1, r2, r3, r4) := by rw [if_pos rfl] at H; exact H
        clear H
        have H := H1
        clear H1
        simp only [Option.some.injEq, Prod.mk.injEq] at H
        obtain ⟨rfl, rfl, rfl, rfl⟩ := H
        have hnb22 := NB354_355.out
        have hnc22 := NB355_354.out
        have hnb23 := NB354_356.out
        have hnc23 := NB356_354.out
        have hcz24_0 : wc.cell? ⟨gb354, 0, none⟩ = some (.string a0_0) := (blk_cell BK354.out 0).trans rfl
        have hcz24_1 : wc.cell? ⟨gb354, 1, none⟩ = some (.string a0_1) := (blk_cell BK354.out 1).trans rfl
        have hcz24_2 : wc.cell? ⟨gb354, 2, none⟩ = some (.int .i64 a0_2) := (blk_cell BK354.out 2).trans rfl
        have hfz24_0 := blk_frozen BK354.out 0
        have hfz24_1 := blk_frozen BK354.out 1
        have hfz24_2 := blk_frozen BK354.out 2
        have hnb25 := NB356_355.out
        have hnc25 := NB355_356.out
        have hcz26_0 : wc.cell? ⟨gb356, 0, none⟩ = some (.string (⟨#[]⟩ : ByteArray)) := (blk_cell BK356.out 0).trans rfl
        have hcz26_1 : wc.cell? ⟨gb356, 1, none⟩ = some (.string (⟨#[]⟩ : ByteArray)) := (blk_cell BK356.out 1).trans rfl
        have hcz26_2 : wc.cell? ⟨gb356, 2, none⟩ = some (.int .i64 0) := (blk_cell BK356.out 2).trans rfl
        have hfz26_0 := blk_frozen BK356.out 0
        have hfz26_1 := blk_frozen BK356.out 1
        have hfz26_2 := blk_frozen BK356.out 2
        go_wp2
        refine bodyPost_ret (results_ct rfl _ _ gb356 31 #[.string a0_0, .string a0_1, .int .i64 a0_2] (0, 0) _ rfl (by (with_reducible repeat (first | refine blk_drewN ?_ _ | refine blk_drew ?_ | refine blk_alloc ?_ _)); refine blk_put (cs := #[.string a0_0, .string a0_1, .int .i64 0]) ?_ 2 _ rfl; (with_reducible repeat (first | refine blk_drewN ?_ _ | refine blk_drew ?_ | refine blk_alloc ?_ _)); refine blk_put (cs := #[.string a0_0, .string (⟨#[]⟩ : ByteArray), .int .i64 0]) ?_ 1 _ rfl; (with_reducible repeat (first | refine blk_drewN ?_ _ | refine blk_drew ?_ | refine blk_alloc ?_ _)); refine blk_put (cs := #[.string (⟨#[]⟩ : ByteArray), .string (⟨#[]⟩ : ByteArray), .int .i64 0]) ?_ 0 _ rfl; (with_reducible repeat (first | refine blk_drewN ?_ _ | refine blk_drew ?_ | refine blk_alloc ?_ _)); exact BK356.out) Tryd.underlying31 rfl (by kernel_rfl)) rfl ?_
        exact ⟨by first | rfl | (simp [errW_none, errW_some] <;> rfl) | (simp [*, errW_none, errW_some] <;> rfl), by repeat (first | (with_reducible first | exact HB.out | apply below_alloc | apply pw_below_drewN | apply below_drew1 | refine below_set ?_ GE354.out | refine below_set ?_ GE355.out | refine below_set ?_ GE356.out) | exact HB.out)⟩
      · replace c21 := Bool.eq_false_iff.mpr c21
        subst c21
        have H1 : (if a0_2 = 60 then (some (a0_0, a0_1, a0_2, 2)) else ((impl_encode.f kj2 a0_2 a1_0 a1_1).bind fun t359 => (if a0_1.size + t359.size ≤ 9223372036854775807 then (some (a0_0, sc a0_1 t359, wrap64 (a0_2 + 1), 0)) else (none)))) = some (r1, r2, r3, r4) := by rw [if_neg (show ¬ (false = true) by decide)] at H; exact H
        clear H
        have H := H1
        clear H1
        by_cases c27 : a0_2 = 60
        · rw [if_pos c27] at H
          have c27b0 : (a0_2 == 60) = true := beq_iff_eq.mpr c27
          have c27b1 : (a0_2 != 60) = false := bne_eq_false_iff_eq.mpr c27
          clear c27
          simp only [Option.some.injEq, Prod.mk.injEq] at H
          obtain ⟨rfl, rfl, rfl, rfl⟩ := H
          have hnb28 := NB354_355.out
          have hnc28 := NB355_354.out
          have hnb29 := NB354_356.out
          have hnc29 := NB356_354.out
          have hcz30_0 : wc.cell? ⟨gb354, 0, none⟩ = some (.string a0_0) := (blk_cell BK354.out 0).trans rfl
          have hcz30_1 : wc.cell? ⟨gb354, 1, none⟩ = some (.string a0_1) := (blk_cell BK354.out 1).trans rfl
          have hcz30_2 : wc.cell? ⟨gb354, 2, none⟩ = some (.int .i64 a0_2) := (blk_cell BK354.out 2).trans rfl
          have hfz30_0 := blk_frozen BK354.out 0
          have hfz30_1 := blk_frozen BK354.out 1
          have hfz30_2 := blk_frozen BK354.out 2
          have hnb31 := NB356_355.out
          have hnc31 := NB355_356.out
          have hcz32_0 : wc.cell? ⟨gb356, 0, none⟩ = some (.string (⟨#[]⟩ : ByteArray)) := (blk_cell BK356.out 0).trans rfl
          have hcz32_1 : wc.cell? ⟨gb356, 1, none⟩ = some (.string (⟨#[]⟩ : ByteArray)) := (blk_cell BK356.out 1).trans rfl
          have hcz32_2 : wc.cell? ⟨gb356, 2, none⟩ = some (.int .i64 0) := (blk_cell BK356.out 2).trans rfl
          have hfz32_0 := blk_frozen BK356.out 0
          have hfz32_1 := blk_frozen BK356.out 1
          have hfz32_2 := blk_frozen BK356.out 2
          go_wp2
          refine bodyPost_ret (results_ct rfl _ _ gb356 31 #[.string a0_0, .string a0_1, .int .i64 a0_2] (0, 0) _ rfl (by (with_reducible repeat (first | refine blk_drewN ?_ _ | refine blk_drew ?_ | refine blk_alloc ?_ _)); refine blk_put (cs := #[.string a0_0, .string a0_1, .int .i64 0]) ?_ 2 _ rfl; (with_reducible repeat (first | refine blk_drewN ?_ _ | refine blk_drew ?_ | refine blk_alloc ?_ _)); refine blk_put (cs := #[.string a0_0, .string (⟨#[]⟩ : ByteArray), .int .i64 0]) ?_ 1 _ rfl; (with_reducible repeat (first | refine blk_drewN ?_ _ | refine blk_drew ?_ | refine blk_alloc ?_ _)); refine blk_put (cs := #[.string (⟨#[]⟩ : ByteArray), .string (⟨#[]⟩ : ByteArray), .int .i64 0]) ?_ 0 _ rfl; (with_reducible repeat (first | refine blk_drewN ?_ _ | refine blk_drew ?_ | refine blk_alloc ?_ _)); exact BK356.out) Tryd.underlying31 rfl (by kernel_rfl)) rfl ?_
          exact ⟨by first | rfl | (simp [errW_none, errW_some] <;> rfl) | (simp [*, errW_none, errW_some] <;> rfl), by repeat (first | (with_reducible first | exact HB.out | apply below_alloc | apply pw_below_drewN | apply below_drew1 | refine below_set ?_ GE354.out | refine below_set ?_ GE355.out | refine below_set ?_ GE356.out) | exact HB.out)⟩
        · rw [if_neg c27] at H
          have c27b0 : (a0_2 == 60) = false := beq_eq_false_iff_ne.mpr c27
          have c27b1 : (a0_2 != 60) = true := bne_iff_ne.mpr c27
          replace H := Option.bind_eq_some_iff.mp H
          obtain ⟨t359, A330, H⟩ := H
          replace H : (if a0_1.size + t359.size ≤ 9223372036854775807 then (some (a0_0, sc a0_1 t359, wrap64 (a0_2 + 1), 0)) else (none)) = some (r1, r2, r3, r4) := H
          have A33 := Aside0.mk A330
          clear A330
          by_cases c34 : a0_1.size + t359.size ≤ 9223372036854775807
          · rw [if_pos c34] at H
            have c34b0 := eq_true c34
            have c34b1 : decide (a0_1.size + t359.size ≤ 9223372036854775807) = true := decide_eq_true c34
            try have c34b2 : (9223372036854775807 < a0_1.size + t359.size) = False := eq_false (Nat.not_lt.2 c34)
            simp only [Option.some.injEq, Prod.mk.injEq] at H
            obtain ⟨rfl, rfl, rfl, rfl⟩ := H
            have hnb35 := NB354_355.out
            have hnc35 := NB355_354.out
            have hnb36 := NB354_356.out
            have hnc36 := NB356_354.out
            have hcz37_0 : wc.cell? ⟨gb354, 0, none⟩ = some (.string a0_0) := (blk_cell BK354.out 0).trans rfl
            have hcz37_1 : wc.cell? ⟨gb354, 1, none⟩ = some (.string a0_1) := (blk_cell BK354.out 1).trans rfl
            have hcz37_2 : wc.cell? ⟨gb354, 2, none⟩ = some (.int .i64 a0_2) := (blk_cell BK354.out 2).trans rfl
            have hfz37_0 := blk_frozen BK354.out 0
            have hfz37_1 := blk_frozen BK354.out 1
            have hfz37_2 := blk_frozen BK354.out 2
            try go_wp2
            have n0_ := Aside0.mk (blk_drew BK354.out)
            have n1_ := Aside0.mk (blk_drew BK355.out)
            have n2_ := Aside0.mk (blk_drew BK356.out)
            have n3_ := Aside0.mk (below_drew1 HB.out)
            clear BK354
            clear BK355
            clear BK356
            clear HB
            have BK354 := n0_
            have BK355 := n1_
            have BK356 := n2_
            have HB := n3_
            clear n0_ n1_ n2_ n3_
            refine start_ (n := 15) (S := fun w' => w'.cell? ⟨gb354, 0, none⟩ = some (.string a0_0) ∧ w'.cell? ⟨gb354, 1, none⟩ = some (.string a0_1) ∧ w'.cell? ⟨gb354, 2, none⟩ = some (.int .i64 a0_2) ∧ w'.cell? ⟨gb355, 0, none⟩ = some (.string a1_0) ∧ w'.cell? ⟨gb355, 1, none⟩ = some (.string a1_1)) (ds := []) #[false, false, false, false, false, false, false, false, false, false, false, false, false, false, false] (by kernel_rfl) rfl rfl ⟨(blk_cell BK354.out 0).trans rfl, (blk_cell BK354.out 1).trans rfl, (blk_cell BK354.out 2).trans rfl, (blk_cell BK355.out 0).trans rfl, (blk_cell BK355.out 1).trans rfl⟩ (fun hHeld => ?_); refine with_tabW impl_AppendRecord.tab5 impl_AppendRecord.bits5 (fun HT_ HW_ => ?_)
            generalize wc.drew = w38 at BK354 BK355 BK356 HB hHeld ⊢
            refine pure_ (i := 0) (N := some 21) (v := ?_) (a' := ?_) #[true, false, false, false, false, false, false, false, false, false, false, false, false, false, false] rfl rfl (any_of HT_.out (by kernel_rfl)) (fun _ _ _ h => h) (Or.inl ⟨by rfl, ?_⟩) ?_ ?_
            rotate_left
            · intro w'
              go_simp
              first | with_reducible rfl | (rw [if_neg (by simp only [ByteArray.size_append, ByteArray.size_extract, show ∀ (a : UInt8) (l : List UInt8), (⟨⟨a :: l⟩⟩ : ByteArray).size = l.length + 1 from fun _ _ => rfl, List.length_cons, List.length_nil] at *; omega)]; done) | (rw [if_neg (by simp only [ByteArray.size_append, ByteArray.size_extract, show ∀ (a : UInt8) (l : List UInt8), (⟨⟨a :: l⟩⟩ : ByteArray).size = l.length + 1 from fun _ _ => rfl, List.length_cons, List.length_nil] at *; omega)]; with_reducible rfl)
            rotate_left
            · simp only [Act.put, List.setIfInBounds_toArray, List.set_cons_zero, List.set_cons_succ, i64_w, i32_w]
              rfl
            refine pure_ (i := 2) (N := some 23) (v := ?_) (a' := ?_) #[true, false, true, false, false, false, false, false, false, false, false, false, false, false, false] rfl rfl (any_of HT_.out (by kernel_rfl)) (fun _ _ _ h => h) (Or.inl ⟨by rfl, ?_⟩) ?_ ?_
            rotate_left
            · intro w'
              go_simp
              first | with_reducible rfl | (rw [if_neg (by simp only [ByteArray.size_append, ByteArray.size_extract, show ∀ (a : UInt8) (l : List UInt8), (⟨⟨a :: l⟩⟩ : ByteArray).size = l.length + 1 from fun _ _ => rfl, List.length_cons, List.length_nil] at *; omega)]; done) | (rw [if_neg (by simp only [ByteArray.size_append, ByteArray.size_extract, show ∀ (a : UInt8) (l : List UInt8), (⟨⟨a :: l⟩⟩ : ByteArray).size = l.length + 1 from fun _ _ => rfl, List.length_cons, List.length_nil] at *; omega)]; with_reducible rfl)
            rotate_left
            · simp only [Act.put, List.setIfInBounds_toArray, List.set_cons_zero, List.set_cons_succ, i64_w, i32_w]
              rfl
            refine pure_ (i := 4) (N := some 25) (v := ?_) (a' := ?_) #[true, false, true, false, true, false, false, false, false, false, false, false, false, false, false] rfl rfl (any_of HT_.out (by kernel_rfl)) (fun _ _ _ h => h) (Or.inl ⟨by rfl, ?_⟩) ?_ ?_
            rotate_left
            · intro w'
              go_simp
              first | with_reducible rfl | (rw [if_neg (by simp only [ByteArray.size_append, ByteArray.size_extract, show ∀ (a : UInt8) (l : List UInt8), (⟨⟨a :: l⟩⟩ : ByteArray).size = l.length + 1 from fun _ _ => rfl, List.length_cons, List.length_nil] at *; omega)]; done) | (rw [if_neg (by simp only [ByteArray.size_append, ByteArray.size_extract, show ∀ (a : UInt8) (l : List UInt8), (⟨⟨a :: l⟩⟩ : ByteArray).size = l.length + 1 from fun _ _ => rfl, List.length_cons, List.length_nil] at *; omega)]; with_reducible rfl)
            rotate_left
            · simp only [Act.put, List.setIfInBounds_toArray, List.set_cons_zero, List.set_cons_succ, i64_w, i32_w]
              rfl
            refine pure_ (i := 9) (N := some 30) (v := ?_) (a' := ?_) #[true, false, true, false, true, false, false, false, false, true, false, false, false, false, false] rfl rfl (any_of HT_.out (by kernel_rfl)) (fun _ _ _ h => h) (Or.inl ⟨by rfl, ?_⟩) ?_ ?_
            rotate_left
            · intro w'
              go_simp
              first | with_reducible rfl | (rw [if_neg (by simp only [ByteArray.size_append, ByteArray.size_extract, show ∀ (a : UInt8) (l : List UInt8), (⟨⟨a :: l⟩⟩ : ByteArray).size = l.length + 1 from fun _ _ => rfl, List.length_cons, List.length_nil] at *; omega)]; done) | (rw [if_neg (by simp only [ByteArray.size_append, ByteArray.size_extract, show ∀ (a : UInt8) (l : List UInt8), (⟨⟨a :: l⟩⟩ : ByteArray).size = l.length + 1 from fun _ _ => rfl, List.length_cons, List.length_nil] at *; omega)]; with_reducible rfl)
            rotate_left
            · simp only [Act.put, List.setIfInBounds_toArray, List.set_cons_zero, List.set_cons_succ, i64_w, i32_w]
              rfl
            refine take_ (i := 1) (N := some 22) (v := ?_) (a' := ?_) #[true, true, true, false, true, false, false, false, false, true, false, false, false, false, false] rfl rfl (take_ofW HT_.out HW_.out (by kernel_rfl)) (fun _ _ _ h => h) (Or.inl ⟨by rfl, ?_⟩) hHeld ?_ ?_
            rotate_left
            · rintro w' ⟨s0, s1, s2, s3, s4⟩
              go_simp
              first | with_reducible rfl | (rw [if_neg (by simp only [ByteArray.size_append, ByteArray.size_extract, show ∀ (a : UInt8) (l : List UInt8), (⟨⟨a :: l⟩⟩ : ByteArray).size = l.length + 1 from fun _ _ => rfl, List.length_cons, List.length_nil] at *; omega)]; done) | (rw [if_neg (by simp only [ByteArray.size_append, ByteArray.size_extract, show ∀ (a : UInt8) (l : List UInt8), (⟨⟨a :: l⟩⟩ : ByteArray).size = l.length + 1 from fun _ _ => rfl, List.length_cons, List.length_nil] at *; omega)]; with_reducible rfl)
            rotate_left
            · simp only [Act.put, List.setIfInBounds_toArray, List.set_cons_zero, List.set_cons_succ, i64_w, i32_w]
              rfl
            refine take_ (i := 3) (N := some 24) (v := ?_) (a' := ?_) #[true, true, true, true, true, false, false, false, false, true, false, false, false, false, false] rfl rfl (take_ofW HT_.out HW_.out (by kernel_rfl)) (fun _ _ _ h => h) (Or.inl ⟨by rfl, ?_⟩) hHeld ?_ ?_
            rotate_left
            · rintro w' ⟨s0, s1, s2, s3, s4⟩
              go_simp
              first | with_reducible rfl | (rw [if_neg (by simp only [ByteArray.size_append, ByteArray.size_extract, show ∀ (a : UInt8) (l : List UInt8), (⟨⟨a :: l⟩⟩ : ByteArray).size = l.length + 1 from fun _ _ => rfl, List.length_cons, List.length_nil] at *; omega)]; done) | (rw [if_neg (by simp only [ByteArray.size_append, ByteArray.size_extract, show ∀ (a : UInt8) (l : List UInt8), (⟨⟨a :: l⟩⟩ : ByteArray).size = l.length + 1 from fun _ _ => rfl, List.length_cons, List.length_nil] at *; omega)]; with_reducible rfl)
            rotate_left
            · simp only [Act.put, List.setIfInBounds_toArray, List.set_cons_zero, List.set_cons_succ, i64_w, i32_w]
              rfl
            refine take_ (i := 5) (N := some 26) (v := ?_) (a' := ?_) #[true, true, true, true, true, true, false, false, false, true, false, false, false, false, false] rfl rfl (take_ofW HT_.out HW_.out (by kernel_rfl)) (fun _ _ _ h => h) (Or.inl ⟨by rfl, ?_⟩) hHeld ?_ ?_
            rotate_left
            · rintro w' ⟨s0, s1, s2, s3, s4⟩
              go_simp
              first | with_reducible rfl | (rw [if_neg (by simp only [ByteArray.size_append, ByteArray.size_extract, show ∀ (a : UInt8) (l : List UInt8), (⟨⟨a :: l⟩⟩ : ByteArray).size = l.length + 1 from fun _ _ => rfl, List.length_cons, List.length_nil] at *; omega)]; done) | (rw [if_neg (by simp only [ByteArray.size_append, ByteArray.size_extract, show ∀ (a : UInt8) (l : List UInt8), (⟨⟨a :: l⟩⟩ : ByteArray).size = l.length + 1 from fun _ _ => rfl, List.length_cons, List.length_nil] at *; omega)]; with_reducible rfl)
            rotate_left
            · simp only [Act.put, List.setIfInBounds_toArray, List.set_cons_zero, List.set_cons_succ, i64_w, i32_w]
              rfl
            refine take_ (i := 6) (N := some 27) (v := ?_) (a' := ?_) #[true, true, true, true, true, true, true, false, false, true, false, false, false, false, false] rfl rfl (take_ofW HT_.out HW_.out (by kernel_rfl)) (fun _ _ _ h => h) (Or.inl ⟨by rfl, ?_⟩) hHeld ?_ ?_
            rotate_left
            · rintro w' ⟨s0, s1, s2, s3, s4⟩
              go_simp
              first | with_reducible rfl | (rw [if_neg (by simp only [ByteArray.size_append, ByteArray.size_extract, show ∀ (a : UInt8) (l : List UInt8), (⟨⟨a :: l⟩⟩ : ByteArray).size = l.length + 1 from fun _ _ => rfl, List.length_cons, List.length_nil] at *; omega)]; done) | (rw [if_neg (by simp only [ByteArray.size_append, ByteArray.size_extract, show ∀ (a : UInt8) (l : List UInt8), (⟨⟨a :: l⟩⟩ : ByteArray).size = l.length + 1 from fun _ _ => rfl, List.length_cons, List.length_nil] at *; omega)]; with_reducible rfl)
            rotate_left
            · simp only [Act.put, List.setIfInBounds_toArray, List.set_cons_zero, List.set_cons_succ, i64_w, i32_w]
              rfl
            refine take_ (i := 10) (N := some 31) (v := ?_) (a' := ?_) #[true, true, true, true, true, true, true, false, false, true, true, false, false, false, false] rfl rfl (take_ofW HT_.out HW_.out (by kernel_rfl)) (fun _ _ _ h => h) (Or.inl ⟨by rfl, ?_⟩) hHeld ?_ ?_
            rotate_left
            · rintro w' ⟨s0, s1, s2, s3, s4⟩
              go_simp
              first | with_reducible rfl | (rw [if_neg (by simp only [ByteArray.size_append, ByteArray.size_extract, show ∀ (a : UInt8) (l : List UInt8), (⟨⟨a :: l⟩⟩ : ByteArray).size = l.length + 1 from fun _ _ => rfl, List.length_cons, List.length_nil] at *; omega)]; done) | (rw [if_neg (by simp only [ByteArray.size_append, ByteArray.size_extract, show ∀ (a : UInt8) (l : List UInt8), (⟨⟨a :: l⟩⟩ : ByteArray).size = l.length + 1 from fun _ _ => rfl, List.length_cons, List.length_nil] at *; omega)]; with_reducible rfl)
            rotate_left
            · simp only [Act.put, List.setIfInBounds_toArray, List.set_cons_zero, List.set_cons_succ, i64_w, i32_w]
              rfl
            refine pure_ (i := 11) (N := some 32) (v := ?_) (a' := ?_) #[true, true, true, true, true, true, true, false, false, true, true, true, false, false, false] rfl rfl (any_of HT_.out (by kernel_rfl)) (fun _ _ _ h => h) (Or.inl ⟨by rfl, ?_⟩) ?_ ?_
            rotate_left
            · intro w'
              go_simp
              first | with_reducible rfl | (rw [if_neg (by simp only [ByteArray.size_append, ByteArray.size_extract, show ∀ (a : UInt8) (l : List UInt8), (⟨⟨a :: l⟩⟩ : ByteArray).size = l.length + 1 from fun _ _ => rfl, List.length_cons, List.length_nil] at *; omega)]; done) | (rw [if_neg (by simp only [ByteArray.size_append, ByteArray.size_extract, show ∀ (a : UInt8) (l : List UInt8), (⟨⟨a :: l⟩⟩ : ByteArray).size = l.length + 1 from fun _ _ => rfl, List.length_cons, List.length_nil] at *; omega)]; with_reducible rfl)
            rotate_left
            · simp only [Act.put, List.setIfInBounds_toArray, List.set_cons_zero, List.set_cons_succ, i64_w, i32_w]
              rfl
            refine one_ (i := 7) (N := some 28) #[true, true, true, true, true, true, true, true, false, true, true, true, false, false, false] rfl rfl (one_of HT_.out (by kernel_rfl)) (by decide) (fun K hK => ?_)
            refine goes_ Tryd.func46 (by kernel_rfl) rfl #[.int .i64 a0_2, .agg #[.string a1_0, .string a1_1]] (by rfl) rfl rfl (by (try simp only [List.map_toArray, List.map_cons, List.map_nil]); first | done | rfl | (simp only [List.length_drop, List.length_take]; rfl)) ?_
            with_reducible refine (impl_encode.calls kj2 a0_2 a1_0 a1_1 t359 _ A33.out ?sideT).mono ?_
            case sideT => first | exact HT.out | exact Tb.step HT.out HB.out | exact Tb.step HT.out (by repeat (first | (with_reducible first | exact HB.out | apply below_alloc | apply pw_below_drewN | apply below_drew1 | refine below_set ?_ GE354.out | refine below_set ?_ GE355.out | refine below_set ?_ GE356.out) | exact HB.out | exact Below.refl _ _))
            rintro e w39 ⟨rfl, hb⟩
            refine ⟨_, rfl, ?_⟩
            have n0_ := Aside0.mk (blk_below (g := gb354) (o := .cells #[.string a0_0, .string a0_1, .int .i64 a0_2] 31 (0, 0)) (by (with_reducible repeat (first | refine blk_drewN ?_ _ | refine blk_drew ?_ | refine blk_alloc ?_ _)); exact BK354.out) hb)
            have n1_ := Aside0.mk (blk_below (g := gb355) (o := .cells #[.string a1_0, .string a1_1] 27 (0, 0)) (by (with_reducible repeat (first | refine blk_drewN ?_ _ | refine blk_drew ?_ | refine blk_alloc ?_ _)); exact BK355.out) hb)
            have n2_ := Aside0.mk (blk_below (g := gb356) (o := .cells #[.string (⟨#[]⟩ : ByteArray), .string (⟨#[]⟩ : ByteArray), .int .i64 0] 31 (0, 0)) (by (with_reducible repeat (first | refine blk_drewN ?_ _ | refine blk_drew ?_ | refine blk_alloc ?_ _)); exact BK356.out) hb)
            have n3_ := Aside0.mk (below_step (by repeat (first | (with_reducible first | exact HB.out | apply below_alloc | apply pw_below_drewN | apply below_drew1 | refine below_set ?_ GE354.out | refine below_set ?_ GE355.out | refine below_set ?_ GE356.out) | exact HB.out)) hb)
            clear BK354
            clear BK355
            clear BK356
            clear HB
            have BK354 := n0_
            have BK355 := n1_
            have BK356 := n2_
            have HB := n3_
            clear n0_ n1_ n2_ n3_
            (try clear hb)
            (try clear hb2)
            (try clear hk)
            (try clear hi)
            refine hK.out _ _ ⟨(blk_cell BK354.out 0).trans rfl, (blk_cell BK354.out 1).trans rfl, (blk_cell BK354.out 2).trans rfl, (blk_cell BK355.out 0).trans rfl, (blk_cell BK355.out 1).trans rfl⟩ (fun hHeld => ?_)
            clear hK K
            refine norm_ (a' := ?_) ?_ ?_
            rotate_left
            · show Act.put _ (some 28) _ = _
              simp only [Act.put, List.setIfInBounds_toArray, List.set_cons_zero, List.set_cons_succ, i64_w, i32_w]
              rfl
            refine pure_ (i := 8) (N := some 29) (v := ?_) (a' := ?_) #[true, true, true, true, true, true, true, true, true, true, true, true, false, false, false] rfl rfl (any_of HT_.out (by kernel_rfl)) (fun _ _ _ h => h) (Or.inl ⟨by rfl, ?_⟩) ?_ ?_
            rotate_left
            · intro w'
              go_simp
              first | with_reducible rfl | (rw [if_neg (by simp only [ByteArray.size_append, ByteArray.size_extract, show ∀ (a : UInt8) (l : List UInt8), (⟨⟨a :: l⟩⟩ : ByteArray).size = l.length + 1 from fun _ _ => rfl, List.length_cons, List.length_nil] at *; omega)]; done) | (rw [if_neg (by simp only [ByteArray.size_append, ByteArray.size_extract, show ∀ (a : UInt8) (l : List UInt8), (⟨⟨a :: l⟩⟩ : ByteArray).size = l.length + 1 from fun _ _ => rfl, List.length_cons, List.length_nil] at *; omega)]; with_reducible rfl)
            rotate_left
            · simp only [Act.put, List.setIfInBounds_toArray, List.set_cons_zero, List.set_cons_succ, i64_w, i32_w]
              rfl
            refine pure_ (i := 12) (N := some 33) (v := ?_) (a' := ?_) #[true, true, true, true, true, true, true, true, true, true, true, true, true, false, false] rfl rfl (any_of HT_.out (by kernel_rfl)) (fun _ _ _ h => h) (Or.inl ⟨by rfl, ?_⟩) ?_ ?_
            rotate_left
            · intro w'
              go_simp
              first | with_reducible rfl | (rw [if_neg (by simp only [ByteArray.size_append, ByteArray.size_extract, show ∀ (a : UInt8) (l : List UInt8), (⟨⟨a :: l⟩⟩ : ByteArray).size = l.length + 1 from fun _ _ => rfl, List.length_cons, List.length_nil] at *; omega)]; done) | (rw [if_neg (by simp only [ByteArray.size_append, ByteArray.size_extract, show ∀ (a : UInt8) (l : List UInt8), (⟨⟨a :: l⟩⟩ : ByteArray).size = l.length + 1 from fun _ _ => rfl, List.length_cons, List.length_nil] at *; omega)]; with_reducible rfl)
            rotate_left
            · simp only [Act.put, List.setIfInBounds_toArray, List.set_cons_zero, List.set_cons_succ, i64_w, i32_w]
              rfl
            refine one_ (i := 13) (N := none) #[true, true, true, true, true, true, true, true, true, true, true, true, true, true, false] rfl rfl (one_of HT_.out (by kernel_rfl)) (by decide) (fun K hK => ?_)
            have hs40 : w39.cell? ⟨gb356, 0, none⟩ = some (.string (⟨#[]⟩ : ByteArray)) := (blk_cell BK356.out 0).trans rfl
            have hfs40 := blk_frozen BK356.out 0
            have hns40_0 := NB354_356.out
            have hns40_1 := NB355_356.out
            have hms40_0 := NB356_354.out
            have hms40_1 := NB356_355.out
            have hs41 : w39.cell? ⟨gb356, 1, none⟩ = some (.string (⟨#[]⟩ : ByteArray)) := (blk_cell BK356.out 1).trans rfl
            have hfs41 := blk_frozen BK356.out 1
            have hns41_0 := NB354_356.out
            have hns41_1 := NB355_356.out
            have hms41_0 := NB356_354.out
            have hms41_1 := NB356_355.out
            have hs42 : w39.cell? ⟨gb356, 2, none⟩ = some (.int .i64 0) := (blk_cell BK356.out 2).trans rfl
            have hfs42 := blk_frozen BK356.out 2
            have hns42_0 := NB354_356.out
            have hns42_1 := NB355_356.out
            have hms42_0 := NB356_354.out
            have hms42_1 := NB356_355.out
            refine skip_ (w1 := ?_) (by rfl) rfl ?_ ?_
            rotate_left
            · go_simp
              rfl
            refine hK.out _ _ ⟨((cell_far (p := ⟨gb356, _, none⟩) NB354_356.out _).trans (((cell_far (p := ⟨gb356, _, none⟩) NB354_356.out _).trans (((cell_far (p := ⟨gb356, _, none⟩) NB354_356.out _).trans (hHeld.1)))))), ((cell_far (p := ⟨gb356, _, none⟩) NB354_356.out _).trans (((cell_far (p := ⟨gb356, _, none⟩) NB354_356.out _).trans (((cell_far (p := ⟨gb356, _, none⟩) NB354_356.out _).trans (hHeld.2.1)))))), ((cell_far (p := ⟨gb356, _, none⟩) NB354_356.out _).trans (((cell_far (p := ⟨gb356, _, none⟩) NB354_356.out _).trans (((cell_far (p := ⟨gb356, _, none⟩) NB354_356.out _).trans (hHeld.2.2.1)))))), ((cell_far (p := ⟨gb356, _, none⟩) NB355_356.out _).trans (((cell_far (p := ⟨gb356, _, none⟩) NB355_356.out _).trans (((cell_far (p := ⟨gb356, _, none⟩) NB355_356.out _).trans (hHeld.2.2.2.1)))))), ((cell_far (p := ⟨gb356, _, none⟩) NB355_356.out _).trans (((cell_far (p := ⟨gb356, _, none⟩) NB355_356.out _).trans (((cell_far (p := ⟨gb356, _, none⟩) NB355_356.out _).trans (hHeld.2.2.2.2))))))⟩ (fun hHeld => ?_)
            clear hK K
            refine pure_ (i := 14) (N := some 5) (v := ?_) (a' := ?_) #[true, true, true, true, true, true, true, true, true, true, true, true, true, true, true] rfl rfl (any_of HT_.out (by kernel_rfl)) (fun _ _ _ h => h) (Or.inl ⟨by rfl, ?_⟩) ?_ ?_
            rotate_left
            · intro w'
              go_simp
              first | with_reducible rfl | (rw [if_neg (by simp only [ByteArray.size_append, ByteArray.size_extract, show ∀ (a : UInt8) (l : List UInt8), (⟨⟨a :: l⟩⟩ : ByteArray).size = l.length + 1 from fun _ _ => rfl, List.length_cons, List.length_nil] at *; omega)]; done) | (rw [if_neg (by simp only [ByteArray.size_append, ByteArray.size_extract, show ∀ (a : UInt8) (l : List UInt8), (⟨⟨a :: l⟩⟩ : ByteArray).size = l.length + 1 from fun _ _ => rfl, List.length_cons, List.length_nil] at *; omega)]; with_reducible rfl)
            rotate_left
            · simp only [Act.put, List.setIfInBounds_toArray, List.set_cons_zero, List.set_cons_succ, i64_w, i32_w]
              rfl
            refine done_ (done_of HT_.out (by kernel_rfl)) ?_
            try go_wp2
            refine bodyPost_ret (results_ct rfl _ _ gb356 31 #[.string a0_0, .string (sc a0_1 t359), .int .i64 (wrap64 (a0_2 + 1))] (0, 0) _ rfl (by (with_reducible repeat (first | refine blk_drewN ?_ _ | refine blk_drew ?_ | refine blk_alloc ?_ _)); refine blk_put (cs := #[.string a0_0, .string (sc a0_1 t359), .int .i64 0]) ?_ 2 _ rfl; (with_reducible repeat (first | refine blk_drewN ?_ _ | refine blk_drew ?_ | refine blk_alloc ?_ _)); refine blk_put (cs := #[.string a0_0, .string (⟨#[]⟩ : ByteArray), .int .i64 0]) ?_ 1 _ rfl; (with_reducible repeat (first | refine blk_drewN ?_ _ | refine blk_drew ?_ | refine blk_alloc ?_ _)); refine blk_put (cs := #[.string (⟨#[]⟩ : ByteArray), .string (⟨#[]⟩ : ByteArray), .int .i64 0]) ?_ 0 _ rfl; (with_reducible repeat (first | refine blk_drewN ?_ _ | refine blk_drew ?_ | refine blk_alloc ?_ _)); exact BK356.out) Tryd.underlying31 rfl (by kernel_rfl)) rfl ?_
            exact ⟨by first | rfl | (simp [errW_none, errW_some] <;> rfl) | (simp [*, errW_none, errW_some] <;> rfl), by repeat (first | (with_reducible first | exact HB.out | apply below_alloc | apply pw_below_drewN | apply below_drew1 | refine below_set ?_ GE354.out | refine below_set ?_ GE355.out | refine below_set ?_ GE356.out) | exact HB.out)⟩
          · rw [if_neg c34] at H
            exact absurd H (by simp)

end Go.Proofs.YtdpinnhgkocjhaaDoor.Pr

/-
What is proved: the plain law of a log's text: records are encoded and read again, one after the other.
Conditions: those of each theorem.
-/
namespace Go.Proofs.YtdpinnhgkocjhaaDoor.Log
open Go.Lib
set_option linter.unusedVariables false
abbrev B := List UInt8
/-- What stands ahead of the first c (all, if there is none). -/
def upto (c : UInt8) : B → B
  | [] => []
  | x :: l => if x = c then [] else x :: upto c l
/-- What stands behind the first c (nothing, if there is none). -/
def after (c : UInt8) : B → B
  | [] => []
  | x :: l => if x = c then l else after c l
theorem upto_app {c : UInt8} : ∀ {l : B} (r : B), c ∉ l → upto c (l ++ c :: r) = l
  | [], r, _ => by simp [upto]
  | x :: l, r, h => by
    have h1 : x ≠ c := fun e => h (by simp [e])
    have h2 : c ∉ l := fun e => h (by simp [e])
    simp [upto, h1, upto_app r h2]
theorem after_app {c : UInt8} : ∀ {l : B} (r : B), c ∉ l → after c (l ++ c :: r) = r
  | [], r, _ => by simp [after]
  | x :: l, r, h => by
    have h1 : x ≠ c := fun e => h (by simp [e])
    have h2 : c ∉ l := fun e => h (by simp [e])
    simp [after, h1, after_app r h2]
theorem upto_none {c : UInt8} : ∀ {l : B}, c ∉ l → upto c l = l
  | [], _ => rfl
  | x :: l, h => by
    have h1 : x ≠ c := fun e => h (by simp [e])
    have h2 : c ∉ l := fun e => h (by simp [e])
    simp [upto, h1, upto_none h2]
theorem after_none {c : UInt8} : ∀ {l : B}, c ∉ l → after c l = []
  | [], _ => rfl
  | x :: l, h => by
    have h1 : x ≠ c := fun e => h (by simp [e])
    have h2 : c ∉ l := fun e => h (by simp [e])
    simp [after, h1, after_none h2]
theorem cut_at {c : UInt8} : ∀ {l : B}, c ∈ l → l = upto c l ++ c :: after c l
  | [], h => by simp at h
  | x :: l, h => by
    by_cases e : x = c
    · simp [upto, after, e]
    · have h2 : c ∈ l := by
        rcases List.mem_cons.1 h with h | h
        · exact absurd h.symm e
        · exact h
      have := cut_at h2
      simp only [upto, after, e, if_false, List.cons_append]
      rw [← this]
theorem not_mem_upto {c : UInt8} : ∀ (l : B), c ∉ upto c l
  | [] => by simp [upto]
  | x :: l => by
    by_cases e : x = c
    · simp [upto, e]
    · simp only [upto, e, if_false, List.mem_cons, not_or]
      exact ⟨fun h => e h.symm, not_mem_upto l⟩
theorem upto_len {c : UInt8} : ∀ (l : B), (upto c l).length ≤ l.length
  | [] => by simp [upto]
  | x :: l => by
    by_cases e : x = c
    · simp [upto, e]
    · simp only [upto, e, if_false, List.length_cons]
      have := upto_len (c := c) l
      omega
theorem upto_lt {c : UInt8} {l : B} (h : c ∈ l) : (upto c l).length < l.length := by
  have := congrArg List.length (cut_at h)
  simp at this
  omega
theorem upto_take (c : UInt8) : ∀ (l : B), upto c l = l.take (upto c l).length
  | [] => by simp [upto]
  | x :: l => by
    by_cases e : x = c
    · simp [upto, e]
    · simp only [upto, e, if_false, List.length_cons, List.take_succ_cons]
      rw [← upto_take c l]
theorem after_drop (c : UInt8) {l : B} (h : c ∈ l) : after c l = l.drop ((upto c l).length + 1) := by
  have e := cut_at h
  generalize upto c l = u at e ⊢
  generalize after c l = v at e ⊢
  subst e
  simp
theorem index_some {c : UInt8} : ∀ {l : B}, c ∈ l → indexByte l c = ((upto c l).length : Int)
  | [], h => by simp at h
  | x :: l, h => by
    by_cases e : x = c
    · simp [upto, e, indexByte]
    · have h2 : c ∈ l := by
        rcases List.mem_cons.1 h with h | h
        · exact absurd h.symm e
        · exact h
      have ih := index_some h2
      have hb : (x == c) = false := by simpa using e
      have hn : (indexByte l c == -1) = false := by
        rw [ih, beq_eq_false_iff_ne]
        omega
      simp only [indexByte, hb, hn, upto, e, if_false, List.length_cons, Bool.false_eq_true]
      rw [ih]
      omega
theorem index_none {c : UInt8} : ∀ {l : B}, c ∉ l → indexByte l c = -1
  | [], _ => rfl
  | x :: l, h => by
    have h1 : x ≠ c := fun e => h (by simp [e])
    have h2 : c ∉ l := fun e => h (by simp [e])
    have hb : (x == c) = false := by simpa using h1
    simp [indexByte, hb, index_none h2]
/-- The digits of a number. -/
theorem digit_mem (u : Nat) : ∀ b ∈ decDigits u, 48 ≤ b.toNat ∧ b.toNat ≤ 57 := by
  induction u using Nat.strongRecOn with
  | _ u ih =>
    intro b hb
    by_cases h : u < 10
    · rw [decDigits, dif_pos h] at hb
      obtain rfl := List.mem_singleton.1 hb
      simp
      omega
    · rw [decDigits, dif_neg h] at hb
      rcases List.mem_append.1 hb with hb | hb
      · exact ih _ (by omega) b hb
      · obtain rfl := List.mem_singleton.1 hb
        simp
        omega
theorem digits_len_aux (j : Nat) : ∀ u : Nat, u < 10 ^ (j + 1) → (decDigits u).length ≤ j + 1 := by
  induction j with
  | zero =>
    intro u h
    rw [decDigits, dif_pos (by omega)]
    simp
  | succ j ih =>
    intro u h
    by_cases h1 : u < 10
    · rw [decDigits, dif_pos h1]
      simp
    · rw [decDigits, dif_neg h1]
      have : u / 10 < 10 ^ (j + 1) := by
        rw [Nat.pow_succ] at h
        omega
      have := ih _ this
      simp
      omega
theorem digits_pos (u : Nat) : 1 ≤ (decDigits u).length := by
  by_cases h1 : u < 10
  · rw [decDigits, dif_pos h1]
    simp
  · rw [decDigits, dif_neg h1]
    simp
/-- A text's sum. -/
def sum (l : B) : Nat := l.foldl (fun n b => (41 * n + b.toNat + 1) % 999979) 7
theorem sum_fold_lt (l : B) : ∀ n, n < 999979 → l.foldl (fun n b => (41 * n + b.toNat + 1) % 999979) n < 999979 := by
  induction l with
  | nil => intro n h; exact h
  | cons x l ih => intro n h; exact ih _ (Nat.mod_lt _ (by omega))
theorem sum_lt (l : B) : sum l < 999979 := sum_fold_lt l 7 (by omega)
/-- Printable, and no number sign. -/
def Plain (l : B) : Prop := ∀ b ∈ l, 32 ≤ b.toNat ∧ b.toNat ≤ 126 ∧ b ≠ 35
instance (l : B) : Decidable (Plain l) := inferInstanceAs (Decidable (∀ b ∈ l, 32 ≤ b.toNat ∧ b.toNat ≤ 126 ∧ b ≠ 35))
/-- A valid record. -/
def Ok (c r : B) : Prop := 1 ≤ c.length ∧ c.length ≤ 160 ∧ Plain c ∧ (64 : UInt8) ∉ c ∧ r.length ≤ 200 ∧ Plain r
instance (c r : B) : Decidable (Ok c r) := inferInstanceAs (Decidable (_ ∧ _))
def body (k : Nat) (c r : B) : B := decDigits k ++ 32 :: (c ++ 64 :: r)
def line (k : Nat) (c r : B) : B := body k c r ++ 35 :: decDigits (sum (body k c r))
def enc (k : Nat) (c r : B) : B := line k c r ++ [10]
theorem ne_of_toNat {a b : UInt8} (h : a.toNat ≠ b.toNat) : a ≠ b := fun e => h (by rw [e])
theorem body_no {k : Nat} {c r : B} (h : Ok c r) (x : UInt8) (hx : x = 10 ∨ x = 35) : x ∉ body k c r := by
  intro hm
  rcases List.mem_append.1 hm with hm | hm
  · have := digit_mem k x hm
    rcases hx with rfl | rfl
    · exact absurd this.1 (by decide)
    · exact absurd this.1 (by decide)
  · rcases List.mem_cons.1 hm with hm | hm
    · rcases hx with rfl | rfl <;> exact absurd hm (by decide)
    · rcases List.mem_append.1 hm with hm | hm
      · have := h.2.2.1 x hm
        rcases hx with rfl | rfl
        · exact absurd this.1 (by decide)
        · exact this.2.2 rfl
      · rcases List.mem_cons.1 hm with hm | hm
        · rcases hx with rfl | rfl <;> exact absurd hm (by decide)
        · have := h.2.2.2.2.2 x hm
          rcases hx with rfl | rfl
          · exact absurd this.1 (by decide)
          · exact this.2.2 rfl
theorem line_no {k : Nat} {c r : B} (h : Ok c r) : (10 : UInt8) ∉ line k c r := by
  intro hm
  rcases List.mem_append.1 hm with hm | hm
  · exact body_no h 10 (.inl rfl) hm
  · rcases List.mem_cons.1 hm with hm | hm
    · exact absurd hm (by decide)
    · exact absurd (digit_mem _ _ hm).1 (by decide)
theorem dig_no (k : Nat) (x : UInt8) (h : x.toNat < 48) : x ∉ decDigits k := fun hm => by
  have := (digit_mem _ _ hm).1
  omega
theorem line_text {k : Nat} {c r : B} (h : Ok c r) : upto 35 (line k c r) = body k c r := upto_app _ (body_no h 35 (.inr rfl))
theorem body_rest {k : Nat} {c r : B} : after 32 (body k c r) = c ++ 64 :: r := after_app _ (dig_no k 32 (by decide))
theorem rest_cmd {c r : B} (h : Ok c r) : upto 64 (c ++ 64 :: r) = c := upto_app _ h.2.2.2.1
theorem rest_rep {c r : B} (h : Ok c r) : after 64 (c ++ 64 :: r) = r := after_app _ h.2.2.2.1
theorem body_len (k : Nat) (c r : B) : (body k c r).length = (decDigits k).length + 2 + c.length + r.length := by
  simp [body]
  omega
theorem enc_len {k : Nat} {c r : B} (hk : k < 60) (h : Ok c r) : (enc k c r).length ≤ 372 ∧ 1 ≤ (enc k c r).length := by
  have h1 := digits_len_aux 1 k (by omega)
  have h2 := digits_len_aux 5 (sum (body k c r)) (by have := sum_lt (body k c r); omega)
  have h3 := h.2.1
  have h4 := h.2.2.2.2.1
  have := body_len k c r
  simp only [enc, line, List.length_append, List.length_cons, List.length_nil]
  omega
/-- Reads the record with the number k at the begin of a text, and how many bytes it has. -/
def dec (k : Nat) (s : B) : Option (B × B × Nat) :=
  if (10 : UInt8) ∈ s ∧ k < 60 ∧ Ok (upto 64 (after 32 (upto 35 (upto 10 s)))) (after 64 (after 32 (upto 35 (upto 10 s)))) ∧
      enc k (upto 64 (after 32 (upto 35 (upto 10 s)))) (after 64 (after 32 (upto 35 (upto 10 s)))) = upto 10 s ++ [10]
  then some (upto 64 (after 32 (upto 35 (upto 10 s))), after 64 (after 32 (upto 35 (upto 10 s))), (upto 10 s).length + 1) else none
theorem dec_some {k : Nat} {s c r : B} {n : Nat} : dec k s = some (c, r, n) ↔ k < 60 ∧ Ok c r ∧ enc k c r <+: s ∧ n = (enc k c r).length := by
  unfold dec
  constructor
  · intro h
    split at h
    · rename_i hc
      obtain ⟨h1, h2, h3, h4⟩ := hc
      simp only [Option.some.injEq, Prod.mk.injEq] at h
      obtain ⟨rfl, rfl, rfl⟩ := h
      refine ⟨h2, h3, ?_, ?_⟩
      · rw [h4]
        refine ⟨after 10 s, ?_⟩
        rw [List.append_assoc, List.singleton_append, ← cut_at h1]
      · rw [h4]
        simp
    · cases h
  · rintro ⟨h1, h2, ⟨t, ht⟩, rfl⟩
    have e : s = line k c r ++ 10 :: t := by rw [← ht]; simp [enc]
    have hu : upto 10 s = line k c r := by rw [e]; exact upto_app _ (line_no h2)
    have hm : (10 : UInt8) ∈ s := by rw [e]; simp
    rw [hu, line_text h2, body_rest, rest_cmd h2, rest_rep h2, if_pos ⟨hm, h1, h2, rfl⟩]
    simp [enc]
theorem dec_le {k : Nat} {s c r : B} {n : Nat} (h : dec k s = some (c, r, n)) : n ≤ s.length ∧ 1 ≤ n ∧ n ≤ 372 := by
  obtain ⟨h1, h2, h3, rfl⟩ := dec_some.1 h
  have := enc_len h1 h2
  exact ⟨h3.length_le, this.2, this.1⟩
theorem dec_app {k : Nat} {s : B} {x : B × B × Nat} (t : B) (h : dec k s = some x) : dec k (s ++ t) = some x := by
  obtain ⟨c, r, n⟩ := x
  obtain ⟨h1, h2, h3, h4⟩ := dec_some.1 h
  exact dec_some.2 ⟨h1, h2, h3.trans (List.prefix_append _ _), h4⟩
theorem dec_prefix {k : Nat} {s t : B} {x : B × B × Nat} (hp : s <+: t) (h : dec k s = some x) : dec k t = some x := by
  obtain ⟨u, rfl⟩ := hp
  exact dec_app u h
theorem dec_cut {k : Nat} {s : B} {x : B × B × Nat} {m : Nat} (h : dec k s = some x) (hm : x.2.2 ≤ m) : dec k (s.take m) = some x := by
  obtain ⟨c, r, n⟩ := x
  obtain ⟨h1, h2, h3, rfl⟩ := dec_some.1 h
  exact dec_some.2 ⟨h1, h2, List.prefix_take_iff.2 ⟨h3, hm⟩, rfl⟩
theorem dec_nil (k : Nat) : dec k [] = none := by simp [dec]
/-- All records, from the number k on, m at most. -/
def all : Nat → Nat → B → List (B × B × Nat)
  | 0, _, _ => []
  | m + 1, k, s => match dec k s with
    | none => []
    | some x => x :: all m (k + 1) (s.drop x.2.2)
def tot (l : List (B × B × Nat)) : Nat := (l.map (·.2.2)).sum
theorem all_nil (m k : Nat) : all m k [] = [] := by
  cases m with
  | zero => rfl
  | succ m => simp [all, dec_nil]
theorem all_none {m k : Nat} {s : B} (h : dec k s = none) : all m k s = [] := by
  cases m with
  | zero => rfl
  | succ m => simp [all, h]
theorem all_some {m k : Nat} {s : B} {x : B × B × Nat} (h : dec k s = some x) : all (m + 1) k s = x :: all m (k + 1) (s.drop x.2.2) := by simp [all, h]
theorem tot_cons (x : B × B × Nat) (l : List (B × B × Nat)) : tot (x :: l) = x.2.2 + tot l := by simp [tot]
theorem tot_app (l r : List (B × B × Nat)) : tot (l ++ r) = tot l + tot r := by simp [tot]
theorem all_len (m : Nat) : ∀ (k : Nat) (s : B), (all m k s).length ≤ m := by
  induction m with
  | zero => intro k s; simp [all]
  | succ m ih =>
    intro k s
    cases h : dec k s with
    | none => rw [all_none h]; simp
    | some x => rw [all_some h]; simp; exact ih _ _
theorem all_tot (m : Nat) : ∀ (k : Nat) (s : B), tot (all m k s) ≤ s.length := by
  induction m with
  | zero => intro k s; simp [all, tot]
  | succ m ih =>
    intro k s
    cases h : dec k s with
    | none => rw [all_none h]; simp [tot]
    | some x =>
      obtain ⟨c, r, n⟩ := x
      have h1 := (dec_le h).1
      have := ih (k + 1) (s.drop n)
      rw [all_some h, tot_cons]
      rw [List.length_drop] at this
      simp only
      omega
theorem all_tot372 (m : Nat) : ∀ (k : Nat) (s : B), tot (all m k s) ≤ 372 * m := by
  induction m with
  | zero => intro k s; simp [all, tot]
  | succ m ih =>
    intro k s
    cases h : dec k s with
    | none => rw [all_none h]; simp [tot]
    | some x =>
      obtain ⟨c, r, n⟩ := x
      have h1 := (dec_le h).2.2
      have := ih (k + 1) (s.drop n)
      rw [all_some h, tot_cons]
      simp only
      omega
/-- What is read of a text that is records alone goes on behind it. -/
theorem all_app (m : Nat) : ∀ (k : Nat) (s t : B), tot (all m k s) = s.length → all m k (s ++ t) = all m k s ++ all (m - (all m k s).length) (k + (all m k s).length) t := by
  induction m with
  | zero => intro k s t h; simp [all]
  | succ m ih =>
    intro k s t h
    by_cases h0 : s = []
    · subst h0
      simp [all_nil]
    · cases hd : dec k s with
      | none =>
        rw [all_none hd] at h
        exact absurd (List.length_eq_zero_iff.1 h.symm) h0
      | some x =>
        obtain ⟨c, r, n⟩ := x
        have hn := dec_le hd
        rw [all_some hd, tot_cons] at h
        simp only at h
        have hl : tot (all m (k + 1) (s.drop n)) = (s.drop n).length := by
          rw [List.length_drop]
          omega
        have e := ih (k + 1) (s.drop n) t hl
        rw [all_some (dec_app t hd), all_some hd]
        simp only [List.length_cons, List.cons_append]
        rw [List.drop_append_of_le_length hn.1, e]
        congr 3
        · omega
        · omega
theorem all_one {m k : Nat} {c r : B} (hk : k < 60) (h : Ok c r) : all (m + 1) k (enc k c r) = [(c, r, (enc k c r).length)] := by
  have hd : dec k (enc k c r) = some (c, r, (enc k c r).length) := dec_some.2 ⟨hk, h, List.prefix_refl _, rfl⟩
  rw [all_some hd]
  simp [all_nil]
theorem all_over (m k : Nat) (s : B) (h : 60 ≤ k) : all m k s = [] := all_none (by
  cases hd : dec k s with
  | none => rfl
  | some x =>
    obtain ⟨c, r, n⟩ := x
    have := (dec_some.1 hd).1
    omega)
/-- A place between records: the records ahead of it are just those of the text ahead of it. -/
theorem ends_iff (m : Nat) : ∀ (k : Nat) (D P : B), (∃ j, j ≤ (all m k (D ++ P)).length ∧ tot ((all m k (D ++ P)).take j) = D.length) ↔ tot (all m k D) = D.length := by
  induction m with
  | zero => intro k D P; simp [all, tot]
  | succ m ih =>
    intro k D P
    by_cases h0 : D = []
    · subst h0
      simp only [List.length_nil, all_nil]
      exact ⟨fun _ => rfl, fun _ => ⟨0, Nat.zero_le _, rfl⟩⟩
    have hD : 0 < D.length := List.length_pos_iff.2 h0
    have none_D : dec k D = none → ¬ tot (all (m + 1) k D) = D.length := fun h e => by
      rw [all_none h] at e
      simp [tot] at e
      omega
    cases hs : dec k (D ++ P) with
    | none =>
      have hd : dec k D = none := by
        cases hd : dec k D with
        | none => rfl
        | some x => rw [dec_app P hd] at hs; cases hs
      rw [all_none hs]
      refine ⟨?_, fun e => absurd e (none_D hd)⟩
      rintro ⟨j, hj, e⟩
      simp [tot] at e
      omega
    | some x =>
      obtain ⟨c, r, n⟩ := x
      have hn := dec_le hs
      rw [all_some hs]
      by_cases hc : n ≤ D.length
      · have hd : dec k D = some (c, r, n) := by
          have := dec_cut (m := D.length) hs hc
          rwa [List.take_left] at this
        rw [all_some hd, tot_cons]
        simp only
        have e := ih (k + 1) (D.drop n) P
        rw [← List.drop_append_of_le_length hc] at e
        constructor
        · rintro ⟨j, hj, h⟩
          cases j with
          | zero => simp [tot] at h; omega
          | succ j =>
            rw [List.take_succ_cons, tot_cons] at h
            simp only at h
            have := e.1 ⟨j, by simpa using hj, by rw [List.length_drop]; omega⟩
            rw [List.length_drop] at this
            omega
        · intro h
          obtain ⟨j, hj, h'⟩ := e.2 (by rw [List.length_drop]; omega)
          rw [List.length_drop] at h'
          refine ⟨j + 1, by simpa using hj, ?_⟩
          rw [List.take_succ_cons, tot_cons]
          simp only
          omega
      · have hd : dec k D = none := by
          cases hd : dec k D with
          | none => rfl
          | some x =>
            obtain ⟨c', r', n'⟩ := x
            rw [dec_app P hd] at hs
            have := dec_le hd
            simp only [Option.some.injEq, Prod.mk.injEq] at hs
            omega
        refine ⟨?_, fun e => absurd e (none_D hd)⟩
        rintro ⟨j, hj, h⟩
        cases j with
        | zero => simp [tot] at h; omega
        | succ j =>
          rw [List.take_succ_cons, tot_cons] at h
          simp only at h
          omega
end Go.Proofs.YtdpinnhgkocjhaaDoor.Log

/-
What is proved: what the printed functions on log records compute, over lists of bytes.
Conditions: sizes far below the machine's, enough rounds.
-/
namespace Go.Proofs.YtdpinnhgkocjhaaDoor.Pr.Pure
open Go.RowKit Go.Proofs.YtdpinnhgkocjhaaDoorW.PrintWords Go.Proofs.YtdpinnhgkocjhaaDoorW.PrintLast Go.Proofs.YtdpinnhgkocjhaaDoorW.PrintMore Go.Proofs.YtdpinnhgkocjhaaDoor.Log Go.Lib
set_option linter.unusedVariables false
set_option linter.unusedSimpArgs false

theorem w64 {x : Int} (h1 : -9223372036854775808 ≤ x) (h2 : x ≤ 9223372036854775807) : wrap64 x = x := by
  unfold wrap64
  omega
theorem i64b {x : Int} (h : (Lit.int .i64 x).wf = true) : -9223372036854775808 ≤ x ∧ x ≤ 9223372036854775807 := by
  simp [Lit.wf, IntKind.min, IntKind.max, IntKind.signed, IntKind.bits] at h
  omega
theorem set_map_step {α β : Type} (f : α → β) (l : List α) (z : β) (i : Nat) (hi : i < l.length) (a : α) (ha : l[i]? = some a) :
    ((l.take i).map f ++ List.replicate (l.length - i) z).set i (f a) = (l.take (i + 1)).map f ++ List.replicate (l.length - (i + 1)) z := by
  have h1 : ((l.take i).map f).length = i := by simp; omega
  rw [List.set_append_right _ _ (by omega), h1, Nat.sub_self]
  obtain ⟨m, hm⟩ : ∃ m, l.length - i = m + 1 := ⟨l.length - i - 1, by omega⟩
  rw [hm, show l.length - (i + 1) = m by omega, List.replicate_succ, List.set_cons_zero, List.take_add_one, ha]
  simp
theorem getD_some {α : Type} (l : List α) (z : α) (i : Nat) (h : i < l.length) : l[i]? = some (l.getD i z) := by
  rw [List.getD_eq_getElem?_getD, List.getElem?_eq_getElem h]
  rfl

/-- As Option.bind_some, but no rewriting by definition (the kernel would unfold too much). -/
theorem obs {α β : Type} (a : α) (f : α → Option β) : (some a).bind f = f a := id (Option.bind_some a f)
/-- A list of bytes as a string. -/
def M (l : List UInt8) : ByteArray := ⟨l.toArray⟩
theorem ex_M (b : ByteArray) : ∃ l, b = M l := ⟨b.data.toList, by unfold M; rw [Array.toArray_toList]⟩
theorem M_size (l : List UInt8) : (M l).size = l.length := by simp [M, ByteArray.size]
theorem M_data (l : List UInt8) : (M l).data.toList = l := by simp [M]
theorem M_inj {a b : List UInt8} : M a = M b ↔ a = b := ⟨fun h => by
  have := congrArg (fun x : ByteArray => x.data.toList) h
  simpa [M] using this, fun h => by rw [h]⟩
theorem M_toList (l : List UInt8) : (M l).toList = l := by rw [ByteArray.toList_eq, M_data]
theorem sc_M (a b : List UInt8) : sc (M a) (M b) = M (a ++ b) := by
  apply ByteArray.ext
  unfold sc M
  rw [ByteArray.data_append]
  simp
theorem sx_M (a : List UInt8) (i j : Nat) : sx (M a) i j = M ((a.drop i).take (j - i)) := by
  apply ByteArray.ext
  unfold sx M
  rw [ByteArray.data_extract]
  simp [List.extract_eq_take_drop]
theorem bt_M (l : List UInt8) (i : Nat) : bt (M l) (i : Int) = ((l.getD i 0).toNat : Int) := by
  have hb := rd_bytesOf (M l) (i : Int)
  rw [← hb]
  unfold rd bytesOf
  rw [M_data, Int.toNat_natCast, List.getD_eq_getElem?_getD, List.getD_eq_getElem?_getD, List.getElem?_map]
  cases l[i]? <;> rfl
theorem lit_M (l : List UInt8) : (⟨l.toArray⟩ : ByteArray) = M l := rfl
theorem drop_at (l : List UInt8) (i : Nat) (h : i < l.length) : l.drop i = l.getD i 0 :: l.drop (i + 1) := by
  rw [List.drop_eq_getElem_cons h, List.getD_eq_getElem?_getD, List.getElem?_eq_getElem h]
  rfl
theorem byte_eq (x : UInt8) (c : Nat) (hc : c < 256) : ((x.toNat : Int) = (c : Int)) ↔ x = UInt8.ofNat c := by
  constructor
  · intro h
    apply UInt8.toNat_inj.1
    rw [UInt8.toNat_ofNat']
    omega
  · rintro rfl
    rw [UInt8.toNat_ofNat']
    omega
theorem byte_rng (x : UInt8) : 0 ≤ (x.toNat : Int) ∧ (x.toNat : Int) ≤ 255 := by
  have := x.toNat_lt
  omega
theorem l1In_eq (a b c : Int) : spec_l1In.f a b c = some (decide (b ≤ a ∧ a ≤ c)) := by
  unfold spec_l1In.f
  by_cases h : b ≤ a
  · rw [if_pos h]; simp [h]
  · rw [if_neg (by omega)]; simp [h]
theorem within_eq (a b c : Int) : impl_within.f a b c = some (decide (b ≤ a ∧ a ≤ c)) := by
  unfold impl_within.f
  by_cases h : b ≤ a
  · rw [if_pos h]; simp [h]
  · rw [if_neg (by omega)]; simp [h]
theorem plain_nil : Plain [] := fun b h => by simp at h
theorem plain_cons (x : UInt8) (l : List UInt8) : Plain (x :: l) ↔ (32 ≤ x.toNat ∧ x.toNat ≤ 126 ∧ x ≠ 35) ∧ Plain l := by simp [Plain]
theorem isPlain_l0 (l : List UInt8) (hl : l.length ≤ 4611686018427387904) (d : Nat) : ∀ (k i : Nat), i + d = l.length → d < k → impl_isPlain.l0 k (M l) l.length i = some (decide (Plain (l.drop i))) := by
  induction d with
  | zero =>
    intro k i hd hk
    obtain ⟨k, rfl⟩ : ∃ m, k = m + 1 := ⟨k - 1, by omega⟩
    simp only [impl_isPlain.l0]
    rw [if_neg (by omega), List.drop_of_length_le (by omega)]
    simp [plain_nil]
  | succ d ih =>
    intro k i hd hk
    obtain ⟨k, rfl⟩ : ∃ m, k = m + 1 := ⟨k - 1, by omega⟩
    simp only [impl_isPlain.l0]
    rw [if_pos (by omega), if_pos (by omega), if_pos (by rw [M_size]; omega), bt_M, drop_at l i (by omega)]
    generalize l.getD i 0 = x
    have hx := byte_rng x
    rw [w64 (by omega) (by omega), w64 (by omega) (by omega), within_eq]
    simp only [Option.bind_some, decide_eq_true_eq]
    have ih' := ih k (i + 1) (by omega) (by omega)
    rw [show ((i + 1 : Nat) : Int) = (i : Int) + 1 by omega] at ih'
    by_cases h1 : (32 : Int) ≤ x.toNat ∧ (x.toNat : Int) ≤ 126
    · rw [if_pos h1]
      by_cases h2 : (x.toNat : Int) = 35
      · rw [if_pos h2]
        have : x = 35 := (byte_eq x 35 (by omega)).1 h2
        subst this
        simp [plain_cons]
      · rw [if_neg h2, ih']
        have h3 : x ≠ 35 := fun e => h2 (by rw [e]; rfl)
        have : (Plain (x :: l.drop (i + 1)) ↔ Plain (l.drop (i + 1))) := by
          rw [plain_cons]
          exact ⟨fun h => h.2, fun h => ⟨⟨by omega, by omega, h3⟩, h⟩⟩
        simp [this]
    · rw [if_neg h1]
      have : ¬ Plain (x :: l.drop (i + 1)) := by
        rw [plain_cons]
        rintro ⟨⟨a, b, _⟩, _⟩
        exact h1 ⟨by omega, by omega⟩
      simp [this]
theorem isPlain_eq (l : List UInt8) (hl : l.length ≤ 4611686018427387904) {k : Nat} (hk : l.length < k) : impl_isPlain.f k (M l) = some (decide (Plain l)) := by
  unfold impl_isPlain.f
  rw [M_size]
  simpa using isPlain_l0 l hl l.length k 0 (by omega) hk
theorem plain_l0 (l : List UInt8) (m : Int) (hl : l.length ≤ 4611686018427387904) (d : Nat) : ∀ (k i : Nat), i + d = l.length → d < k → spec_l27Plain.l0 k (M l) m i = some (decide (Plain (l.drop i) ∧ (l.length : Int) ≤ m)) := by
  induction d with
  | zero =>
    intro k i hd hk
    obtain ⟨k, rfl⟩ : ∃ m, k = m + 1 := ⟨k - 1, by omega⟩
    simp only [spec_l27Plain.l0]
    rw [M_size, if_neg (by omega), List.drop_of_length_le (by omega)]
    simp [plain_nil]
  | succ d ih =>
    intro k i hd hk
    obtain ⟨k, rfl⟩ : ∃ m, k = m + 1 := ⟨k - 1, by omega⟩
    simp only [spec_l27Plain.l0]
    rw [M_size, if_pos (by omega), if_pos (by omega), bt_M, drop_at l i (by omega)]
    generalize l.getD i 0 = x
    have hx := byte_rng x
    rw [w64 (by omega) (by omega), w64 (by omega) (by omega), l1In_eq]
    simp only [Option.bind_some, decide_eq_true_eq]
    have ih' := ih k (i + 1) (by omega) (by omega)
    rw [show ((i + 1 : Nat) : Int) = (i : Int) + 1 by omega] at ih'
    by_cases h1 : (32 : Int) ≤ x.toNat ∧ (x.toNat : Int) ≤ 126
    · rw [if_pos h1]
      by_cases h2 : (x.toNat : Int) = 35
      · rw [if_pos h2]
        have : x = 35 := (byte_eq x 35 (by omega)).1 h2
        subst this
        simp [plain_cons]
      · rw [if_neg h2, ih']
        have h3 : x ≠ 35 := fun e => h2 (by rw [e]; rfl)
        have : (Plain (x :: l.drop (i + 1)) ↔ Plain (l.drop (i + 1))) := by
          rw [plain_cons]
          exact ⟨fun h => h.2, fun h => ⟨⟨by omega, by omega, h3⟩, h⟩⟩
        simp [this]
    · rw [if_neg h1]
      have : ¬ Plain (x :: l.drop (i + 1)) := by
        rw [plain_cons]
        rintro ⟨⟨a, b, _⟩, _⟩
        exact h1 ⟨by omega, by omega⟩
      simp [this]
theorem plain_eq (l : List UInt8) (m : Int) (hl : l.length ≤ 4611686018427387904) {k : Nat} (hk : l.length < k) : spec_l27Plain.f k (M l) m = some (decide (Plain l ∧ (l.length : Int) ≤ m)) := by
  unfold spec_l27Plain.f
  simpa using plain_l0 l m hl l.length k 0 (by omega) hk
theorem stands_l0 (l : List UInt8) (c : Nat) (hc : c < 256) (hl : l.length ≤ 4611686018427387904) (d : Nat) : ∀ (k i : Nat), i + d = l.length → d < k → spec_l1Stands.l0 k (M l) c i = some (decide (UInt8.ofNat c ∈ l.drop i)) := by
  induction d with
  | zero =>
    intro k i hd hk
    obtain ⟨k, rfl⟩ : ∃ m, k = m + 1 := ⟨k - 1, by omega⟩
    simp only [spec_l1Stands.l0]
    rw [M_size, if_neg (by omega), List.drop_of_length_le (by omega)]
    simp
  | succ d ih =>
    intro k i hd hk
    obtain ⟨k, rfl⟩ : ∃ m, k = m + 1 := ⟨k - 1, by omega⟩
    simp only [spec_l1Stands.l0]
    rw [M_size, if_pos (by omega), if_pos (by omega), bt_M, drop_at l i (by omega)]
    generalize l.getD i 0 = x
    rw [w64 (by omega) (by omega)]
    have ih' := ih k (i + 1) (by omega) (by omega)
    rw [show ((i + 1 : Nat) : Int) = (i : Int) + 1 by omega] at ih'
    by_cases h1 : (x.toNat : Int) = (c : Int)
    · rw [if_pos h1]
      have : UInt8.ofNat c = x := ((byte_eq x c hc).1 h1).symm
      simp [this]
    · rw [if_neg h1, ih']
      have : ¬ UInt8.ofNat c = x := fun e => h1 ((byte_eq x c hc).2 e.symm)
      simp [this]
theorem stands_eq (l : List UInt8) (c : Nat) (hc : c < 256) (hl : l.length ≤ 4611686018427387904) {k : Nat} (hk : l.length < k) : spec_l1Stands.f k (M l) c = some (decide (UInt8.ofNat c ∈ l)) := by
  unfold spec_l1Stands.f
  simpa using stands_l0 l c hc hl l.length k 0 (by omega) hk
theorem index_eq (l : List UInt8) (c : UInt8) : stringslite_Index.f (M l) (M [c]) = some (indexByte l c) := by
  unfold stringslite_Index.f
  rw [M_size, M_data, M_data]
  rfl
theorem contains_eq (l : List UInt8) (c : UInt8) : strings_Contains.f (M l) (M [c]) = some (decide (c ∈ l)) := by
  unfold strings_Contains.f strings_Index.f
  rw [index_eq]
  simp only [Option.bind_some]
  by_cases h : c ∈ l
  · rw [index_some h]
    simp [h]
  · rw [index_none h]
    simp [h]
theorem dec_of {p : Prop} [Decidable p] {b : Bool} (h : b = true ↔ p) : some b = some (decide p) := by
  congr 1
  rw [Bool.eq_iff_iff, h, decide_eq_true_eq]
theorem isRec_eq (c r : List UInt8) (hc : c.length ≤ 4611686018427387904) (hr : r.length ≤ 4611686018427387904) {k : Nat} (hk : c.length + r.length < k) : impl_IsValidRecord.f k (M c) (M r) = some (decide (Ok c r)) := by
  unfold impl_IsValidRecord.f impl_isCommand.f
  rw [within_eq, isPlain_eq c hc (by omega), isPlain_eq r hr (by omega), M_size, M_size, show (⟨#[64]⟩ : ByteArray) = M [64] from rfl, contains_eq]
  simp only [Option.bind_some, decide_eq_true_eq]
  by_cases h1 : (1 : Int) ≤ c.length ∧ (c.length : Int) ≤ 160
  · rw [if_pos h1]
    have a1 : 1 ≤ c.length := by omega
    have a2 : c.length ≤ 160 := by omega
    by_cases h2 : Plain c
    · rw [if_pos h2]
      simp only [Option.bind_some]
      by_cases h3 : (64 : UInt8) ∈ c
      · rw [if_neg (by simp [h3])]
        exact dec_of ⟨fun h => by simp at h, fun h => absurd h3 h.2.2.2.1⟩
      · rw [if_pos (by simp [h3])]
        by_cases h4 : (r.length : Int) ≤ 200
        · rw [if_pos h4]
          exact dec_of ⟨fun h => ⟨a1, a2, h2, h3, by omega, of_decide_eq_true h⟩, fun h => decide_eq_true h.2.2.2.2.2⟩
        · rw [if_neg h4]
          exact dec_of ⟨fun h => by simp at h, fun h => absurd h.2.2.2.2.1 (by omega)⟩
    · rw [if_neg h2]
      simp only [Option.bind_some]
      rw [if_neg (by simp)]
      exact dec_of ⟨fun h => by simp at h, fun h => absurd h.2.2.1 h2⟩
  · rw [if_neg h1]
    simp only [Option.bind_some]
    rw [if_neg (by simp)]
    exact dec_of ⟨fun h => by simp at h, fun h => absurd (And.intro h.1 h.2.1) (fun h => h1 ⟨by omega, by omega⟩)⟩
theorem good_eq (c r : List UInt8) (hc : c.length ≤ 4611686018427387904) (hr : r.length ≤ 4611686018427387904) {k : Nat} (hk : c.length + r.length < k) : spec_l27Good.f k (M c) (M r) = some (decide (Ok c r)) := by
  unfold spec_l27Good.f
  rw [M_toList, plain_eq c 160 hc (by omega), plain_eq r 200 hr (by omega), show (64 : Int) = ((64 : Nat) : Int) from rfl, stands_eq c 64 (by omega) hc (by omega)]
  simp only [Option.bind_some, decide_eq_true_eq]
  by_cases h1 : c = []
  · rw [if_pos h1]
    exact dec_of ⟨fun h => by simp at h, fun h => absurd h.1 (by simp [h1])⟩
  · rw [if_neg h1]
    have a1 : 1 ≤ c.length := by have := List.length_pos_iff.2 h1; omega
    by_cases h2 : Plain c ∧ (c.length : Int) ≤ 160
    · rw [if_pos h2]
      have a2 : c.length ≤ 160 := by omega
      by_cases h3 : UInt8.ofNat 64 ∈ c
      · rw [if_pos h3]
        exact dec_of ⟨fun h => by simp at h, fun h => absurd h3 h.2.2.2.1⟩
      · rw [if_neg h3]
        refine dec_of ⟨fun h => ?_, fun h => decide_eq_true ⟨h.2.2.2.2.2, by have := h.2.2.2.2.1; omega⟩⟩
        have h := of_decide_eq_true h
        exact ⟨a1, a2, h2.1, h3, by omega, h.1⟩
    · rw [if_neg h2]
      exact dec_of ⟨fun h => by simp at h, fun h => absurd (And.intro h.2.2.1 h.2.1) (fun h => h2 ⟨h.1, by omega⟩)⟩
end Go.Proofs.YtdpinnhgkocjhaaDoor.Pr.Pure

/-
What is proved: what the printed functions on log records compute, over lists of bytes.
Conditions: sizes far below the machine's, enough rounds.
-/
namespace Go.Proofs.YtdpinnhgkocjhaaDoor.Pr.Pure
open Go.RowKit Go.Proofs.YtdpinnhgkocjhaaDoorW.PrintWords Go.Proofs.YtdpinnhgkocjhaaDoorW.PrintLast Go.Proofs.YtdpinnhgkocjhaaDoorW.PrintMore Go.Proofs.YtdpinnhgkocjhaaDoor.Log Go.Lib
set_option linter.unusedVariables false
set_option linter.unusedSimpArgs false
theorem cut_eq (l : List UInt8) (c : UInt8) (hl : l.length ≤ 4611686018427387904) : strings_Cut.f (M l) (M [c]) = some (M (upto c l), M (after c l), decide (c ∈ l)) := by
  unfold strings_Cut.f stringslite_Cut.f
  rw [index_eq]
  simp only [Option.bind_some]
  by_cases h : c ∈ l
  · have hlt := upto_lt h
    rw [index_some h, M_size, M_size, w64 (by simp; omega) (by simp; omega), if_pos (by omega), if_pos (by omega), if_pos (by omega), if_pos (by first | omega | (simp; done) | (simp; omega)), if_pos (by first | omega | (simp; done) | (simp; omega))]
    simp only [Option.bind_some, sx_M, Option.some.injEq, Prod.mk.injEq, M_inj, h, decide_true, and_true]
    constructor
    · rw [Int.toNat_natCast, List.drop_zero, Nat.sub_zero, ← upto_take]
    · rw [after_drop c h, show (((upto c l).length : Int) + ([c].length : Nat)).toNat = (upto c l).length + 1 by (first | omega | (simp; done) | (simp; omega)), List.take_of_length_le (by first | omega | (simp; done) | (simp; omega))]
  · rw [index_none h, if_neg (by omega)]
    simp only [Option.bind_some, Option.some.injEq, Prod.mk.injEq, h, decide_false, and_true, upto_none h, after_none h, true_and]
    rfl
theorem step_rng (n : Nat) (x : UInt8) (h : n < 999979) : Int.tmod (wrap64 (wrap64 (wrap64 (41 * (n : Int)) + wrap64 (x.toNat : Int)) + 1)) 999979 = (((41 * n + x.toNat + 1) % 999979 : Nat) : Int) := by
  have hx := byte_rng x
  rw [w64 (x := 41 * (n : Int)) (by omega) (by omega), w64 (x := (x.toNat : Int)) (by omega) (by omega), w64 (x := 41 * (n : Int) + x.toNat) (by omega) (by omega), w64 (by omega) (by omega)]
  rw [Int.tmod_eq_emod_of_nonneg (by omega)]
  omega
theorem checksum_l0 (l : List UInt8) (hl : l.length ≤ 4611686018427387904) (d : Nat) : ∀ (k i n : Nat), n < 999979 → i + d = l.length → d < k →
    impl_checksum.l0 k (M l) n l.length i = some (((l.drop i).foldl (fun n b => (41 * n + b.toNat + 1) % 999979) n : Nat) : Int) ∧
    spec_l1Sum.l0 k (M l) n i = some (((l.drop i).foldl (fun n b => (41 * n + b.toNat + 1) % 999979) n : Nat) : Int) := by
  induction d with
  | zero =>
    intro k i n hn hd hk
    obtain ⟨k, rfl⟩ : ∃ m, k = m + 1 := ⟨k - 1, by omega⟩
    simp only [impl_checksum.l0, spec_l1Sum.l0]
    rw [M_size, if_neg (by omega), if_neg (by omega), List.drop_of_length_le (by omega)]
    simp
  | succ d ih =>
    intro k i n hn hd hk
    obtain ⟨k, rfl⟩ : ∃ m, k = m + 1 := ⟨k - 1, by omega⟩
    simp only [impl_checksum.l0, spec_l1Sum.l0]
    rw [M_size, if_pos (by omega), if_pos (by omega), if_pos (by omega), if_pos (by omega), if_pos (by omega), bt_M, drop_at l i (by omega)]
    generalize l.getD i 0 = x
    rw [step_rng n x hn, w64 (x := (i : Int) + 1) (by omega) (by omega)]
    have := ih k (i + 1) ((41 * n + x.toNat + 1) % 999979) (Nat.mod_lt _ (by omega)) (by omega) (by omega)
    rw [show ((i + 1 : Nat) : Int) = (i : Int) + 1 by omega] at this
    exact this
theorem checksum_eq (l : List UInt8) (hl : l.length ≤ 4611686018427387904) {k : Nat} (hk : l.length < k) : impl_checksum.f k (M l) = some ((sum l : Nat) : Int) ∧ spec_l1Sum.f k (M l) = some ((sum l : Nat) : Int) := by
  unfold impl_checksum.f spec_l1Sum.f sum
  rw [M_size]
  simpa using checksum_l0 l hl l.length k 0 7 (by omega) (by omega) hk
theorem itoa_nat (n : Nat) : itoa (n : Int) = decDigits n := by
  unfold itoa
  rw [if_neg (by omega), Int.toNat_natCast]
theorem decimal_eq {a : Int} (h0 : -9223372036854775808 ≤ a) (h1 : a ≤ 9223372036854775807) : impl_decimal.f a = some (M (itoa a)) := by
  unfold impl_decimal.f strconv_Itoa_76.f
  rw [if_pos h0, if_pos h1]
  rfl
theorem dig_at (n : Nat) (h : n < 10) : (([48, 49, 50, 51, 52, 53, 54, 55, 56, 57] : List UInt8).drop n).take 1 = [UInt8.ofNat (48 + n)] := by
  match n, h with
  | 0, _ => rfl
  | 1, _ => rfl
  | 2, _ => rfl
  | 3, _ => rfl
  | 4, _ => rfl
  | 5, _ => rfl
  | 6, _ => rfl
  | 7, _ => rfl
  | 8, _ => rfl
  | 9, _ => rfl
theorem num_small (k n : Nat) (h : n < 10) : spec_l1Num.f (k + 1) (n : Int) = some (M (decDigits n)) := by
  rw [spec_l1Num.f, if_neg (by omega), if_pos (by omega), if_pos (by omega), w64 (by omega) (by omega), if_pos (by omega), if_pos (by omega), show (⟨#[48, 49, 50, 51, 52, 53, 54, 55, 56, 57]⟩ : ByteArray) = M [48, 49, 50, 51, 52, 53, 54, 55, 56, 57] from rfl, sx_M, show ((n : Int) + 1).toNat - (n : Int).toNat = 1 by omega, Int.toNat_natCast, dig_at n h, decDigits, dif_pos h]
theorem num_div (n : Nat) (hn : n ≤ 1000000000000000000) : wrap64 (Int.tdiv (n : Int) 10) = ((n / 10 : Nat) : Int) := by
    rw [Int.tdiv_eq_ediv_of_nonneg (by omega)]
    unfold wrap64
    omega
theorem num_mod (n : Nat) : Int.tmod (n : Int) 10 = ((n % 10 : Nat) : Int) := by
    rw [Int.tmod_eq_emod_of_nonneg (by omega)]
    omega
theorem num_app (n : Nat) (h10 : ¬ n < 10) : decDigits n = decDigits (n / 10) ++ [UInt8.ofNat (48 + n % 10)] := by
    conv => lhs; rw [decDigits, dif_neg h10]
theorem num_dig (q : Nat) (hm : q < 10) : sx (⟨#[48, 49, 50, 51, 52, 53, 54, 55, 56, 57]⟩ : ByteArray) ((q : Int).toNat) ((wrap64 ((q : Int) + 1) : Int).toNat) = M [UInt8.ofNat (48 + q)] := by
  rw [w64 (by omega) (by omega), show (⟨#[48, 49, 50, 51, 52, 53, 54, 55, 56, 57]⟩ : ByteArray) = M [48, 49, 50, 51, 52, 53, 54, 55, 56, 57] from rfl, sx_M, show ((q : Int) + 1).toNat - (q : Int).toNat = 1 by omega, Int.toNat_natCast, dig_at q hm]
theorem num_unf (k : Nat) (a0 : Int) (D d : ByteArray) (q : Int) (h : ¬ a0 < 0) (h2 : ¬ a0 < 10) (hq : Int.tmod a0 10 = q) (hb : spec_l1Num.f k (wrap64 (Int.tdiv a0 10)) = some D) (c1 : 0 ≤ q) (c2 : q ≤ wrap64 (q + 1)) (c3 : wrap64 (q + 1) ≤ 10)
    (hd : sx (⟨#[48, 49, 50, 51, 52, 53, 54, 55, 56, 57]⟩ : ByteArray) ((q : Int).toNat) ((wrap64 (q + 1) : Int).toNat) = d) (c4 : D.size + d.size ≤ 9223372036854775807) : spec_l1Num.f (k + 1) a0 = some (sc D d) := by
  subst hd
  subst hq
  rw [spec_l1Num.f, if_neg h, if_neg h2, hb, Option.bind_some, if_pos c1, if_pos c2, if_pos c3, if_pos c4]
theorem num_step (k n : Nat) (h10 : ¬ n < 10) (hn : n ≤ 1000000000000000000) (ih : spec_l1Num.f k ((n / 10 : Nat) : Int) = some (M (decDigits (n / 10)))) (hl : (decDigits (n / 10)).length ≤ 40) : spec_l1Num.f (k + 1) (n : Int) = some (M (decDigits n)) := by
  have hq : n % 10 < 10 := Nat.mod_lt _ (by omega)
  have hw : wrap64 (((n % 10 : Nat) : Int) + 1) = ((n % 10 : Nat) : Int) + 1 := w64 (by omega) (by omega)
  have := num_unf k n (M (decDigits (n / 10))) (M [UInt8.ofNat (48 + n % 10)]) ((n % 10 : Nat) : Int) (by omega) (by omega) (num_mod n) (by rw [num_div n hn]; exact ih) (by omega) (by rw [hw]; omega) (by rw [hw]; omega) (num_dig _ hq) (by rw [M_size, M_size]; simp only [List.length_cons, List.length_nil]; omega)
  rw [this, sc_M, ← num_app n h10]
theorem num_of {n k : Nat} (h : n ≤ 1000000000000000000) (hk : 20 ≤ k) : spec_l1Num.f k (n : Int) = some (M (decDigits n)) := by
  have all : ∀ (j k n : Nat), n ≤ 1000000000000000000 → n < 10 ^ (j + 1) → j ≤ 19 → j < k → spec_l1Num.f k (n : Int) = some (M (decDigits n)) := by
    intro j
    induction j with
    | zero =>
      intro k n h hj h19 hk
      obtain ⟨k, rfl⟩ : ∃ m, k = m + 1 := ⟨k - 1, by omega⟩
      exact num_small k n (by omega)
    | succ j ih =>
      intro k n h hj h19 hk
      obtain ⟨k, rfl⟩ : ∃ m, k = m + 1 := ⟨k - 1, by omega⟩
      by_cases h10 : n < 10
      · exact num_small k n h10
      · have hd : n / 10 < 10 ^ (j + 1) := by
          rw [Nat.pow_succ] at hj
          omega
        exact num_step k n h10 h (ih k (n / 10) (by omega) hd (by omega) (by omega)) (Nat.le_trans (digits_len_aux j (n / 10) hd) (by omega))
  exact all 19 k n h (Nat.lt_of_le_of_lt h (by decide)) (by omega) (by omega)
/-- Lengths for which nothing wraps. -/
theorem encode_eq {a k : Nat} (ha : a ≤ 1000000000000000000) (c r : List UInt8) (hc : c.length ≤ 1152921504606846976) (hr : r.length ≤ 1152921504606846976) (hk : c.length + r.length + 60 < k) : impl_encode.f k a (M c) (M r) = some (M (enc a c r)) := by
  have hd := digits_len_aux 19 a (by omega)
  have hb := body_len a c r
  have hs := sum_lt (body a c r)
  have hd2 := digits_len_aux 5 (sum (body a c r)) (by omega)
  unfold impl_encode.f
  rw [decimal_eq (by omega) (by omega), itoa_nat]
  simp only [Option.bind_some, show (⟨#[32]⟩ : ByteArray) = M [32] from rfl, show (⟨#[64]⟩ : ByteArray) = M [64] from rfl, show (⟨#[35]⟩ : ByteArray) = M [35] from rfl, show (⟨#[10]⟩ : ByteArray) = M [10] from rfl, sc_M, M_size]
  have e : decDigits a ++ [32] ++ c ++ [64] ++ r = body a c r := by simp [body]
  rw [e]
  have hks : (body a c r).length < k := by omega
  rw [(checksum_eq (body a c r) (by omega) hks).1]
  simp only [Option.bind_some]
  rw [decimal_eq (by omega) (by omega), itoa_nat]
  simp only [Option.bind_some, sc_M, M_size]
  rw [if_pos (by omega), if_pos (by simp; omega), if_pos (by simp; omega), if_pos (by simp; omega), if_pos (by omega), if_pos (by simp; omega), if_pos (by simp; omega)]
  simp [enc, line]
theorem line_eq {a k : Nat} (ha : a ≤ 1000000000000000000) (c r : List UInt8) (hc : c.length ≤ 1152921504606846976) (hr : r.length ≤ 1152921504606846976) (hk : c.length + r.length + 60 < k) : spec_l27Line.f k a (M c) (M r) = some (M (enc a c r)) := by
  have hd := digits_len_aux 19 a (by omega)
  have hb := body_len a c r
  have hs := sum_lt (body a c r)
  have hd2 := digits_len_aux 5 (sum (body a c r)) (by omega)
  unfold spec_l27Line.f
  rw [num_of ha (by omega)]
  simp only [Option.bind_some, show (⟨#[32]⟩ : ByteArray) = M [32] from rfl, show (⟨#[64]⟩ : ByteArray) = M [64] from rfl, show (⟨#[10]⟩ : ByteArray) = M [10] from rfl, sc_M, M_size]
  have e : decDigits a ++ [32] ++ c ++ [64] ++ r = body a c r := by simp [body]
  rw [e]
  have hks : (body a c r).length < k := by omega
  have hseal : spec_l1Seal.f k (M (body a c r)) = some (M (line a c r)) := by
    unfold spec_l1Seal.f
    rw [(checksum_eq (body a c r) (by omega) hks).2]
    simp only [Option.bind_some]
    rw [num_of (by omega) (by omega)]
    simp only [Option.bind_some, show (⟨#[35]⟩ : ByteArray) = M [35] from rfl, sc_M, M_size]
    rw [if_pos (by omega), if_pos (by simp; omega)]
    simp [line]
  rw [hseal]
  simp only [Option.bind_some, sc_M, M_size]
  have hll : (line a c r).length = (body a c r).length + 1 + (decDigits (sum (body a c r))).length := by simp [line]; omega
  rw [if_pos (by omega), if_pos (by simp; omega), if_pos (by simp; omega), if_pos (by simp; omega), if_pos (by omega)]
  rfl
end Go.Proofs.YtdpinnhgkocjhaaDoor.Pr.Pure

/-
What is proved: how the printed functions read a log's records, over lists of bytes.
Conditions: sizes far below the machine's, enough rounds.
-/
namespace Go.Proofs.YtdpinnhgkocjhaaDoor.Pr.Pure
open Go.RowKit Go.Proofs.YtdpinnhgkocjhaaDoorW.PrintWords Go.Proofs.YtdpinnhgkocjhaaDoorW.PrintLast Go.Proofs.YtdpinnhgkocjhaaDoorW.PrintMore Go.Proofs.YtdpinnhgkocjhaaDoor.Log Go.Lib
set_option linter.unusedVariables false
set_option linter.unusedSimpArgs false
/-- The pieces between the bytes c. -/
def pieces (c : UInt8) : List UInt8 → List (List UInt8)
  | [] => [[]]
  | x :: l => if x = c then [] :: pieces c l else match pieces c l with
    | [] => [[x]]
    | p :: ps => (x :: p) :: ps
theorem pieces_ne (c : UInt8) : ∀ l, ∃ p ps, pieces c l = p :: ps
  | [] => ⟨[], [], rfl⟩
  | x :: l => by
    obtain ⟨p, ps, h⟩ := pieces_ne c l
    by_cases e : x = c
    · exact ⟨_, _, by simp [pieces, e]; exact ⟨rfl, rfl⟩⟩
    · exact ⟨_, _, by simp [pieces, e, h]; exact ⟨rfl, rfl⟩⟩
theorem pieces_len (c : UInt8) : ∀ l, (pieces c l).length ≤ l.length + 1
  | [] => by simp [pieces]
  | x :: l => by
    have := pieces_len c l
    by_cases e : x = c
    · simp [pieces, e]; omega
    · obtain ⟨p, ps, h⟩ := pieces_ne c l
      rw [h] at this
      simp [pieces, e, h] at this ⊢
      omega
theorem pieces_head (c : UInt8) : ∀ l, ∃ ps, pieces c l = upto c l :: ps ∧ (ps ≠ [] ↔ c ∈ l)
  | [] => ⟨[], rfl, by simp⟩
  | x :: l => by
    by_cases e : x = c
    · obtain ⟨p, ps, h⟩ := pieces_ne c l
      refine ⟨pieces c l, by simp [pieces, upto, e], ?_⟩
      rw [h]
      simp [e]
    · obtain ⟨ps, h, h2⟩ := pieces_head c l
      refine ⟨ps, by simp [pieces, upto, e, h], ?_⟩
      rw [h2]
      have : ¬ c = x := fun h => e h.symm
      simp [this]
/-- A piece that has begun. -/
def glue (p : List UInt8) : List (List UInt8) → List (List UInt8)
  | [] => [p]
  | q :: qs => (p ++ q) :: qs
theorem split_l0 (l : List UInt8) (c : Nat) (hc : c < 256) (hl : l.length ≤ 1099511627776) (d : Nat) : ∀ (k i j : Nat) (acc : List ByteArray), i + d = l.length → j ≤ i → d < k → acc.length + d ≤ 2199023255552 →
    spec_l1Split.l0 k (M l) c acc j i = some (acc ++ (glue ((l.drop j).take (i - j)) (pieces (UInt8.ofNat c) (l.drop i))).map M) := by
  induction d with
  | zero =>
    intro k i j acc hd hj hk ha
    obtain ⟨k, rfl⟩ : ∃ m, k = m + 1 := ⟨k - 1, by omega⟩
    simp only [spec_l1Split.l0]
    rw [M_size, if_neg (by omega), if_pos (by omega), if_pos (by omega), if_pos (by omega), List.drop_of_length_le (i := i) (by omega), sx_M, Int.toNat_natCast]
    simp only [pieces, glue, List.append_nil, List.map_cons, List.map_nil]
    rw [List.take_of_length_le (by simp), List.take_of_length_le (by first | omega | (simp; done) | (simp; omega))]
  | succ d ih =>
    intro k i j acc hd hj hk ha
    obtain ⟨k, rfl⟩ : ∃ m, k = m + 1 := ⟨k - 1, by omega⟩
    simp only [spec_l1Split.l0]
    rw [M_size, if_pos (by omega), if_pos (by omega), bt_M, drop_at l i (by omega)]
    have hx : (l.drop j).take (i + 1 - j) = (l.drop j).take (i - j) ++ [l.getD i 0] := by
      rw [show i + 1 - j = (i - j) + 1 by omega, List.take_add_one, List.getElem?_drop, show j + (i - j) = i by omega, List.getElem?_eq_getElem (by omega), List.getD_eq_getElem?_getD, List.getElem?_eq_getElem (by omega)]
      rfl
    generalize hxx : l.getD i 0 = x at hx ⊢
    rw [w64 (x := (i : Int) + 1) (by omega) (by omega)]
    by_cases h1 : (x.toNat : Int) = (c : Int)
    · have he : x = UInt8.ofNat c := (byte_eq x c hc).1 h1
      rw [if_pos h1, if_pos (by omega), if_pos (by omega), if_pos (by omega), if_pos (by omega), sx_M, Int.toNat_natCast, Int.toNat_natCast]
      have := ih k (i + 1) (i + 1) (acc ++ [M ((l.drop j).take (i - j))]) (by omega) (by omega) (by omega) (by first | omega | (simp; done) | (simp; omega))
      rw [show ((i + 1 : Nat) : Int) = (i : Int) + 1 by omega] at this
      rw [this]
      obtain ⟨p, ps, hp⟩ := pieces_ne (UInt8.ofNat c) (l.drop (i + 1))
      simp [pieces, he, glue, hp]
    · have he : ¬ x = UInt8.ofNat c := fun e => h1 ((byte_eq x c hc).2 e)
      rw [if_neg h1]
      have := ih k (i + 1) j acc (by omega) (by omega) (by omega) (by omega)
      rw [show ((i + 1 : Nat) : Int) = (i : Int) + 1 by omega] at this
      rw [this, hx]
      obtain ⟨p, ps, hp⟩ := pieces_ne (UInt8.ofNat c) (l.drop (i + 1))
      simp [pieces, he, glue, hp]
theorem split_eq (l : List UInt8) (c : Nat) (hc : c < 256) (hl : l.length ≤ 1099511627776) {k : Nat} (hk : l.length < k) : spec_l1Split.f k (M l) c = some ((pieces (UInt8.ofNat c) l).map M) := by
  unfold spec_l1Split.f
  have := split_l0 l c hc hl l.length k 0 0 [] (by omega) (by omega) hk (by first | omega | (simp; done) | (simp; omega))
  obtain ⟨p, ps, hp⟩ := pieces_ne (UInt8.ofNat c) l
  simpa [glue, hp] using this
theorem split_head (l : List UInt8) (c : Nat) (hc : c < 256) (hl : l.length ≤ 1099511627776) {k : Nat} (hk : l.length < k) :
    ∃ ps : List ByteArray, spec_l1Split.f k (M l) c = some (M (upto (UInt8.ofNat c) l) :: ps) ∧ (ps ≠ [] ↔ UInt8.ofNat c ∈ l) ∧ ps.length ≤ l.length := by
  obtain ⟨ps, h1, h2⟩ := pieces_head (UInt8.ofNat c) l
  refine ⟨ps.map M, by rw [split_eq l c hc hl hk, h1]; rfl, by rw [← h2]; simp, ?_⟩
  have := pieces_len (UInt8.ofNat c) l
  rw [h1] at this
  simpa using this
theorem rd_head (a : ByteArray) (ps : List ByteArray) : rdOf ByteArray.empty (a :: ps) 0 = a := rfl
/-- The program's reading of one record. -/
theorem readRecord_eq {k K : Nat} (s : List UInt8) (hs : s.length ≤ 1099511627776) (hk : k ≤ 1000000) (hK : 2 * s.length + 100 < K) :
    impl_readRecord.f K k (M s) = some (match dec k s with | some (c, r, n) => (M c, M r, (n : Int), true) | none => (M [], M [], 0, false)) := by
  have l1 := upto_len (c := 10) s
  have l2 := upto_len (c := 35) (upto 10 s)
  have l3 : ∀ (c : UInt8) (l : List UInt8), (after c l).length ≤ l.length := fun c l => by
    by_cases h : c ∈ l
    · rw [after_drop c h, List.length_drop]; omega
    · rw [after_none h]; simp
  have l4 := l3 32 (upto 35 (upto 10 s))
  have l5 := upto_len (c := 64) (after 32 (upto 35 (upto 10 s)))
  have l6 := l3 64 (after 32 (upto 35 (upto 10 s)))
  unfold impl_readRecord.f
  rw [show (⟨#[10]⟩ : ByteArray) = M [10] from rfl, show (⟨#[35]⟩ : ByteArray) = M [35] from rfl, show (⟨#[32]⟩ : ByteArray) = M [32] from rfl, show (⟨#[64]⟩ : ByteArray) = M [64] from rfl, cut_eq s 10 (by omega)]
  simp only [Option.bind_some]
  rw [cut_eq _ 35 (by omega)]
  simp only [Option.bind_some]
  rw [cut_eq _ 32 (by omega)]
  simp only [Option.bind_some]
  rw [cut_eq _ 64 (by omega)]
  simp only [Option.bind_some]
  unfold dec
  generalize after 32 (upto 35 (upto 10 s)) = rest at l4 l5 l6 ⊢
  by_cases h1 : (10 : UInt8) ∈ s
  · rw [if_pos (by simpa using h1)]
    by_cases h2 : 60 ≤ k
    · rw [if_pos (by omega), if_neg (by omega)]
      rfl
    · rw [if_neg (by omega), isRec_eq _ _ (by omega) (by omega) (by omega)]
      simp only [Option.bind_some, decide_eq_true_eq]
      by_cases h3 : Ok (upto 64 rest) (after 64 rest)
      · rw [if_pos h3, encode_eq (by omega) _ _ (by omega) (by omega) (by omega)]
        simp only [Option.bind_some]
        rw [M_size, if_pos (by omega), sc_M, M_toList, M_toList]
        by_cases h4 : enc k (upto 64 rest) (after 64 rest) = upto 10 s ++ [10]
        · rw [if_pos h4, if_pos ⟨h1, by omega, h3, h4⟩, w64 (by omega) (by omega)]
          simp
        · rw [if_neg h4, if_neg (fun h => h4 h.2.2.2)]
          rfl
      · rw [if_neg h3, if_neg (fun h => h3 h.2.2.1)]
        rfl
  · rw [if_neg (by simpa using h1), if_neg (fun h => h1 h.1)]
    rfl
/-- The reference's reading of one line. -/
theorem read_eq {k K : Nat} (s : List UInt8) (hs : s.length ≤ 1099511627776) (hk : k ≤ 1000000) (hK : 4 * s.length + 200 < K) :
    ∃ (c r : List UInt8) (b : Bool), spec_l27Read.f K (M s) k = some (M c, M r, b) ∧ (b = true → Ok c r ∧ enc k c r = s ++ [10]) ∧ (∀ c' r', Ok c' r' → enc k c' r' = s ++ [10] → b = true ∧ c = c' ∧ r = r') := by
  have hd := digits_len_aux 7 k (by omega)
  obtain ⟨ps, hp, _, _⟩ := split_head s 35 (by omega) hs (k := K) (by omega)
  have l1 := upto_len (c := 35) s
  have hline : ∀ c' r', Ok c' r' → enc k c' r' = s ++ [10] → upto 35 s = decDigits k ++ 32 :: (c' ++ 64 :: r') := fun c' r' ho he => by
    have : s = line k c' r' := by
      have := congrArg List.dropLast he
      simpa [enc] using this.symm
    rw [this, line_text ho]
    rfl
  unfold spec_l27Read.f
  rw [num_of (by omega) (by omega)]
  simp only [Option.bind_some]
  rw [M_size, if_pos (by omega), show (35 : Int) = ((35 : Nat) : Int) from rfl, hp]
  simp only [Option.bind_some]
  rw [if_pos (by first | omega | (simp; done) | (simp; omega)), rd_head, show (⟨#[32]⟩ : ByteArray) = M [32] from rfl, sc_M, M_size, M_size, show UInt8.ofNat 35 = 35 from rfl]
  generalize htx : upto 35 s = text at l1 hline ⊢
  have hlen : (decDigits k ++ [32]).length = (decDigits k).length + 1 := by simp
  obtain ⟨K1, rfl⟩ : ∃ m, K = m + 1 := ⟨K - 1, by omega⟩
  have fail : spec_l27Read.j0 (K1 + 1) (M s) k (M (decDigits k ++ [32])) (M text) true = some (M [], M [], false) := by
    simp only [spec_l27Read.j0]
    rfl
  by_cases h1 : text.length < (decDigits k ++ [32]).length
  · rw [if_pos (by omega), fail]
    refine ⟨[], [], false, rfl, by simp, fun c' r' ho he => ?_⟩
    have := hline c' r' ho he
    rw [this] at h1
    simp only [List.length_append, List.length_cons, List.length_nil] at h1
    omega
  · rw [if_neg (by omega), if_pos (by omega), if_pos (by omega), sx_M, M_toList, M_toList, List.drop_zero, Nat.sub_zero]
    by_cases h2 : text.take (decDigits k ++ [32]).length = decDigits k ++ [32]
    · have hb : (List.take (decDigits k ++ [32]).length text != decDigits k ++ [32]) = false := by simpa using h2
      rw [hb]
      simp only [spec_l27Read.j0]
      rw [if_neg (by simp), M_size, M_size, if_pos (by omega), if_pos (by omega), sx_M, List.take_of_length_le (by simp)]
      generalize hrest : text.drop (decDigits k ++ [32]).length = rest
      have hrl : rest.length = text.length - (decDigits k ++ [32]).length := by rw [← hrest, List.length_drop]
      obtain ⟨qs, hq, _, _⟩ := split_head rest 64 (by omega) (by omega) (k := K1) (by omega)
      rw [show (64 : Int) = ((64 : Nat) : Int) from rfl, hq]
      simp only [Option.bind_some]
      rw [if_pos (by first | omega | (simp; done) | (simp; omega)), rd_head, M_size, M_size, show UInt8.ofNat 64 = 64 from rfl]
      have hcr : ∀ c' r', Ok c' r' → enc k c' r' = s ++ [10] → rest = c' ++ 64 :: r' := fun c' r' ho he => by
        rw [← hrest, hline c' r' ho he, show decDigits k ++ 32 :: (c' ++ 64 :: r') = (decDigits k ++ [32]) ++ (c' ++ 64 :: r') by simp]
        exact List.drop_left
      by_cases h3 : (64 : UInt8) ∈ rest
      · have hlt := upto_lt h3
        rw [if_neg (by omega), w64 (by omega) (by omega), if_pos (by omega), if_pos (by omega), sx_M, show (((upto 64 rest).length : Int) + 1).toNat = (upto 64 rest).length + 1 by omega, List.take_of_length_le (by simp), ← after_drop 64 h3]
        have l6 : (after 64 rest).length ≤ rest.length := by rw [after_drop 64 h3, List.length_drop]; omega
        rw [good_eq _ _ (by omega) (by omega) (by omega)]
        simp only [Option.bind_some, decide_eq_true_eq]
        have hun : ∀ c' r', Ok c' r' → enc k c' r' = s ++ [10] → upto 64 rest = c' ∧ after 64 rest = r' := fun c' r' ho he => by
          rw [hcr c' r' ho he, rest_cmd ho, rest_rep ho]
          exact ⟨rfl, rfl⟩
        by_cases h4 : Ok (upto 64 rest) (after 64 rest)
        · rw [if_pos h4, line_eq (by omega) _ _ (by omega) (by omega) (by omega)]
          simp only [Option.bind_some]
          rw [M_size, if_pos (by omega), show (⟨#[10]⟩ : ByteArray) = M [10] from rfl, sc_M, M_toList, M_toList]
          refine ⟨_, _, _, rfl, fun h => ⟨h4, by simpa using h⟩, fun c' r' ho he => ?_⟩
          obtain ⟨e1, e2⟩ := hun c' r' ho he
          refine ⟨?_, e1, e2⟩
          rw [e1, e2, he]
          simp
        · rw [if_neg h4]
          refine ⟨_, _, false, rfl, by simp, fun c' r' ho he => ?_⟩
          obtain ⟨e1, e2⟩ := hun c' r' ho he
          rw [e1, e2] at h4
          exact absurd ho h4
      · rw [upto_none h3, if_pos rfl]
        refine ⟨[], [], false, rfl, by simp, fun c' r' ho he => ?_⟩
        rw [hcr c' r' ho he] at h3
        exact absurd h3 (by simp)
    · have hb : (List.take (decDigits k ++ [32]).length text != decDigits k ++ [32]) = true := by simpa using h2
      rw [hb, fail]
      refine ⟨[], [], false, rfl, by simp, fun c' r' ho he => ?_⟩
      have h5 := hline c' r' ho he
      rw [show decDigits k ++ 32 :: (c' ++ 64 :: r') = (decDigits k ++ [32]) ++ (c' ++ 64 :: r') by simp] at h5
      rw [h5, List.take_left] at h2
      exact absurd rfl h2
end Go.Proofs.YtdpinnhgkocjhaaDoor.Pr.Pure

/-
What is proved: what the printed functions on logs compute, over lists of bytes.
Conditions: sizes far below the machine's, enough rounds.
-/
namespace Go.Proofs.YtdpinnhgkocjhaaDoor.Pr.Pure
open Go.RowKit Go.Proofs.YtdpinnhgkocjhaaDoorW.PrintWords Go.Proofs.YtdpinnhgkocjhaaDoorW.PrintLast Go.Proofs.YtdpinnhgkocjhaaDoorW.PrintMore Go.Proofs.YtdpinnhgkocjhaaDoor.Log Go.Lib
set_option linter.unusedVariables false
set_option linter.unusedSimpArgs false
theorem dec_iff {k : Nat} {s c r : B} {n : Nat} : dec k s = some (c, r, n) ↔ k < 60 ∧ (10 : UInt8) ∈ s ∧ Ok c r ∧ enc k c r = upto 10 s ++ [10] ∧ n = (upto 10 s).length + 1 := by
  constructor
  · intro h
    unfold dec at h
    split at h
    · rename_i hc
      simp only [Option.some.injEq, Prod.mk.injEq] at h
      obtain ⟨rfl, rfl, rfl⟩ := h
      exact ⟨hc.2.1, hc.1, hc.2.2.1, hc.2.2.2, rfl⟩
    · cases h
  · rintro ⟨h1, h2, h3, h4, rfl⟩
    refine dec_some.2 ⟨h1, h3, ?_, by rw [h4]; simp⟩
    rw [h4]
    refine ⟨after 10 s, ?_⟩
    rw [List.append_assoc, List.singleton_append, ← cut_at h2]
/-- A record as the program holds it. -/
def R27 (x : B × B × Nat) : S27 := ⟨M x.1, M x.2.1⟩
theorem open_l0 (s : List UInt8) (hs : s.length ≤ 1099511627776) (m : Nat) : ∀ (K at_ : Nat) (acc : List S27), acc.length + m = 60 → at_ ≤ s.length → 2 * m + 4 * s.length + 300 < K →
    spec_l27Open.l0 K (M s) acc at_ = some (acc ++ (all m acc.length (s.drop at_)).map R27, ((at_ + tot (all m acc.length (s.drop at_)) : Nat) : Int)) := by
  induction m with
  | zero =>
    intro K at_ acc ha hat hK
    obtain ⟨K, rfl⟩ : ∃ m, K = m + 1 + 1 := ⟨K - 2, by omega⟩
    simp only [spec_l27Open.l0]
    have : decide ((acc.length : Int) < 60) = false := by simp; omega
    rw [this, ite_self]
    simp [spec_l27Open.j1, all, tot]
  | succ m ih =>
    intro K at_ acc ha hat hK
    obtain ⟨K, rfl⟩ : ∃ m, K = m + 1 + 1 := ⟨K - 2, by omega⟩
    simp only [spec_l27Open.l0]
    have hd : decide ((acc.length : Int) < 60) = true := by simp; omega
    rw [M_size, hd]
    by_cases hlt : at_ < s.length
    · rw [if_pos (by omega)]
      have hrl : (s.drop at_).length = s.length - at_ := List.length_drop
      have hsx : sx (M s) (((at_ : Int) : Int).toNat) s.length = M (s.drop at_) := by
        rw [sx_M, Int.toNat_natCast, List.take_of_length_le (by simp)]
      generalize hrest : s.drop at_ = rest at hrl hsx ⊢
      have lu := upto_len (c := 10) rest
      obtain ⟨ps, hp, hpn, _⟩ := split_head rest 10 (by omega) (by omega) (k := K) (by omega)
      obtain ⟨c, r, b, hr, hb, hu⟩ := read_eq (k := acc.length) (K := K) (upto 10 rest) (by omega) (by omega) (by omega)
      simp only [spec_l27Open.j1]
      rw [if_pos trivial, if_pos (by omega), M_size, if_pos (by omega), hsx, show (10 : Int) = ((10 : Nat) : Int) from rfl, hp]
      simp only [Option.bind_some]
      rw [if_pos (by first | omega | (simp; done) | (simp; omega)), rd_head, show UInt8.ofNat 10 = 10 from rfl, hr]
      simp only [Option.bind_some]
      by_cases h2 : ps = []
      · have h10 : (10 : UInt8) ∉ rest := fun h => absurd h2 (hpn.2 h)
        have hn : dec acc.length rest = none := by
          cases h : dec acc.length rest with
          | none => rfl
          | some x => obtain ⟨c', r', n'⟩ := x; exact absurd (dec_iff.1 h).2.1 h10
        rw [if_pos (by rw [h2]; simp), all_none hn]
        simp [tot]
      · have h10 : (10 : UInt8) ∈ rest := hpn.1 h2
        have hpl : 0 < ps.length := List.length_pos_iff.2 h2
        rw [if_neg (by first | omega | (simp; omega))]
        cases hbb : b with
        | true =>
          subst hbb
          obtain ⟨ho, he⟩ := hb rfl
          have hdec : dec acc.length rest = some (c, r, (upto 10 rest).length + 1) := dec_iff.2 ⟨by omega, h10, ho, he, rfl⟩
          have hlt' := upto_lt h10
          rw [if_pos rfl, if_pos (by omega), M_size, w64 (x := (at_ : Int) + ((upto 10 rest).length : Nat)) (by omega) (by omega), w64 (by omega) (by omega)]
          have := ih K (at_ + ((upto 10 rest).length + 1)) (acc ++ [⟨M c, M r⟩]) (by simp; omega) (by omega) (by omega)
          rw [show ((at_ : Int) + ((upto 10 rest).length : Nat) + 1) = ((at_ + ((upto 10 rest).length + 1) : Nat) : Int) by omega, this, all_some hdec, tot_cons, ← List.drop_drop, hrest]
          simp [R27]
          omega
        | false =>
          subst hbb
          have hn : dec acc.length rest = none := by
            cases h : dec acc.length rest with
            | none => rfl
            | some x =>
              obtain ⟨c', r', n'⟩ := x
              obtain ⟨_, _, ho, he, _⟩ := dec_iff.1 h
              exact absurd (hu c' r' ho he).1 (by simp)
          rw [if_neg (by simp), all_none hn]
          simp [tot]
    · rw [if_neg (by omega), List.drop_of_length_le (by omega), all_nil]
      simp [spec_l27Open.j1, tot]
theorem open_eq (s : List UInt8) (hs : s.length ≤ 1099511627776) {K : Nat} (hK : 4 * s.length + 500 < K) : spec_l27Open.f K (M s) = some ((all 60 0 s).map R27, ((tot (all 60 0 s) : Nat) : Int)) := by
  unfold spec_l27Open.f
  have := open_l0 s hs 60 K 0 [] rfl (Nat.zero_le _) (by omega)
  simpa using this
/-- The places of the records' ends, from a place on. -/
def sums (a : Nat) : List (B × B × Nat) → List Int
  | [] => []
  | x :: xs => ((a + x.2.2 : Nat) : Int) :: sums (a + x.2.2) xs
theorem rd_last (E : List Int) (a : Int) : rd (E ++ [a]) (((E ++ [a]).length : Int) - 1) = a := by
  unfold rd
  rw [List.length_append, show (((E.length + [a].length : Nat) : Int) - 1).toNat = E.length by simp, List.getD_eq_getElem?_getD, List.getElem?_append_right (Nat.le_refl _), Nat.sub_self]
  rfl
theorem reads_l0 (s : List UInt8) (hs : s.length ≤ 1099511627776) (m : Nat) : ∀ (K at_ : Nat) (acc : List S27) (E : List Int), acc.length + m = 60 → E.length ≤ acc.length → at_ ≤ s.length → m + 2 * s.length + 200 < K →
    impl_readRecords.l0 K (M s) acc (E ++ [(at_ : Int)]) = some (acc ++ (all m acc.length (s.drop at_)).map R27, E ++ [(at_ : Int)] ++ sums at_ (all m acc.length (s.drop at_))) := by
  induction m with
  | zero =>
    intro K at_ acc E ha hE hat hK
    obtain ⟨K, rfl⟩ : ∃ m, K = m + 1 := ⟨K - 1, by omega⟩
    have hl : (E ++ [(at_ : Int)]).length = E.length + 1 := by simp
    simp only [impl_readRecords.l0]
    rw [w64 (by omega) (by omega), if_pos (by omega), if_pos (by omega), rd_last, M_size, if_pos (by omega), if_pos (by omega), sx_M, Int.toNat_natCast, List.take_of_length_le (by simp), readRecord_eq _ (by simp; omega) (by omega) (by simp; omega)]
    have hn : dec acc.length (s.drop at_) = none := by
      cases h : dec acc.length (s.drop at_) with
      | none => rfl
      | some x => obtain ⟨c', r', n'⟩ := x; have := (dec_iff.1 h).1; omega
    rw [hn]
    simp [all, sums]
  | succ m ih =>
    intro K at_ acc E ha hE hat hK
    obtain ⟨K, rfl⟩ : ∃ m, K = m + 1 := ⟨K - 1, by omega⟩
    have hl : (E ++ [(at_ : Int)]).length = E.length + 1 := by simp
    have hdl : (s.drop at_).length = s.length - at_ := List.length_drop
    simp only [impl_readRecords.l0]
    rw [w64 (by omega) (by omega), if_pos (by omega), if_pos (by omega), rd_last, M_size, if_pos (by omega), if_pos (by omega), sx_M, Int.toNat_natCast, List.take_of_length_le (by simp), readRecord_eq _ (by omega) (by omega) (by omega)]
    cases h : dec acc.length (s.drop at_) with
    | none =>
      rw [all_none h]
      simp [sums]
    | some x =>
      obtain ⟨c, r, n⟩ := x
      have hn := dec_le h
      simp only [Option.bind_some]
      rw [if_pos trivial, if_pos (by omega), if_pos (by omega), w64 (by omega) (by omega)]
      have := ih K (at_ + n) (acc ++ [⟨M c, M r⟩]) (E ++ [(at_ : Int)]) (by simp; omega) (by simp; omega) (by omega) (by omega)
      rw [show ((at_ : Int) + (n : Int)) = ((at_ + n : Nat) : Int) by omega, this, all_some h, ← List.drop_drop]
      simp [sums, R27]
theorem reads_eq (s : List UInt8) (hs : s.length ≤ 1099511627776) {K : Nat} (hK : 2 * s.length + 300 < K) : impl_readRecords.f K (M s) = some ((all 60 0 s).map R27, 0 :: sums 0 (all 60 0 s)) := by
  unfold impl_readRecords.f
  have := reads_l0 s hs 60 K 0 [] [] rfl (Nat.le_refl _) (Nat.zero_le _) (by omega)
  simpa using this
theorem sums_len (l : List (B × B × Nat)) : ∀ a, (sums a l).length = l.length := by
  induction l with
  | nil => intro a; rfl
  | cons x l ih => intro a; simp [sums, ih]
theorem sums_last (l : List (B × B × Nat)) : ∀ a : Nat, ∃ E, (a : Int) :: sums a l = E ++ [((a + tot l : Nat) : Int)] := by
  induction l with
  | nil => intro a; exact ⟨[], by simp [sums, tot]⟩
  | cons x l ih =>
    intro a
    obtain ⟨E, h⟩ := ih (a + x.2.2)
    refine ⟨(a : Int) :: E, ?_⟩
    rw [sums, h, tot_cons]
    simp
    omega
theorem rd_sums (l : List (B × B × Nat)) : rd (0 :: sums 0 l) ((((0 : Int) :: sums 0 l).length : Int) - 1) = ((tot l : Nat) : Int) := by
  obtain ⟨E, h⟩ := sums_last l 0
  have h' : (0 : Int) :: sums 0 l = E ++ [((tot l : Nat) : Int)] := by simpa using h
  rw [h', rd_last]
theorem sums_mem (l : List (B × B × Nat)) : ∀ (a n : Nat), (n : Int) ∈ ((a : Int) :: sums a l) ↔ ∃ j, j ≤ l.length ∧ a + tot (l.take j) = n := by
  induction l with
  | nil =>
    intro a n
    constructor
    · intro h
      simp [sums] at h
      exact ⟨0, Nat.le_refl _, by simp [tot]; omega⟩
    · rintro ⟨j, _, h⟩
      simp [tot] at h
      simp [sums]
      omega
  | cons x l ih =>
    intro a n
    rw [sums, List.mem_cons, ih (a + x.2.2) n]
    constructor
    · rintro (h | ⟨j, hj, h⟩)
      · exact ⟨0, Nat.zero_le _, by simp [tot]; omega⟩
      · exact ⟨j + 1, by simpa using hj, by rw [List.take_succ_cons, tot_cons]; omega⟩
    · rintro ⟨j, hj, h⟩
      cases j with
      | zero => simp [tot] at h; exact .inl (by omega)
      | succ j => rw [List.take_succ_cons, tot_cons] at h; exact .inr ⟨j, by simpa using hj, by omega⟩
theorem has_l0 (l : List Int) (x : Int) (hl : l.length ≤ 4611686018427387904) (d : Nat) : ∀ (k i : Nat), i + d = l.length → d < k → ∃ r : Int, slices_Index_int_int.l0 k l x l.length i = some r ∧ (0 ≤ r ↔ x ∈ l.drop i) := by
  induction d with
  | zero =>
    intro k i hd hk
    obtain ⟨k, rfl⟩ : ∃ m, k = m + 1 := ⟨k - 1, by omega⟩
    refine ⟨-1, ?_, ?_⟩
    · simp only [slices_Index_int_int.l0]
      rw [if_neg (by omega)]
    · rw [List.drop_of_length_le (by omega)]
      simp
  | succ d ih =>
    intro k i hd hk
    obtain ⟨k, rfl⟩ : ∃ m, k = m + 1 := ⟨k - 1, by omega⟩
    have hx : l.drop i = rd l i :: l.drop (i + 1) := by
      unfold rd
      rw [Int.toNat_natCast, List.drop_eq_getElem_cons (by omega), List.getD_eq_getElem?_getD, List.getElem?_eq_getElem (by omega)]
      rfl
    simp only [slices_Index_int_int.l0]
    rw [if_pos (by omega), if_pos (by omega), if_pos (by omega), hx, w64 (by omega) (by omega)]
    by_cases h : x = rd l i
    · rw [if_pos h]
      exact ⟨i, rfl, by simp [h]⟩
    · rw [if_neg h]
      obtain ⟨r, h1, h2⟩ := ih k (i + 1) (by omega) (by omega)
      rw [show ((i + 1 : Nat) : Int) = (i : Int) + 1 by omega] at h1
      exact ⟨r, h1, by rw [h2]; simp [h]⟩
theorem has_eq (l : List Int) (x : Int) (hl : l.length ≤ 4611686018427387904) {k : Nat} (hk : l.length < k) : impl_has.f k l x = some (decide (x ∈ l)) := by
  unfold impl_has.f slices_Contains_int_int.f slices_Index_int_int.f
  obtain ⟨r, h1, h2⟩ := has_l0 l x hl l.length k 0 (by omega) hk
  rw [show ((0 : Nat) : Int) = 0 from rfl] at h1
  rw [h1]
  simp only [Option.bind_some]
  exact dec_of (by rw [decide_eq_true_eq]; simpa using h2)
/-- A valid log: durable and pending bytes, and how many records there are. -/
def Good (D P : List UInt8) (C : Int) : Prop := tot (all 60 0 (D ++ P)) = (D ++ P).length ∧ tot (all 60 0 D) = D.length ∧ C = ((all 60 0 (D ++ P)).length : Int)
instance (D P : List UInt8) (C : Int) : Decidable (Good D P C) := inferInstanceAs (Decidable (_ ∧ _))
theorem Good.le {D P : List UInt8} {C : Int} (h : Good D P C) : (D ++ P).length ≤ 22320 := by
  have := all_tot372 60 0 (D ++ P)
  have := h.1
  omega
theorem records_eq (D P : List UInt8) (C : Int) (hs : (D ++ P).length ≤ 1099511627776) {K : Nat} (hK : 4 * (D ++ P).length + 600 < K) :
    impl_records.f K (M D) (M P) C = some (if Good D P C then ((all 60 0 (D ++ P)).map R27, true) else ([], false)) := by
  have hl : (D ++ P).length = D.length + P.length := List.length_append
  have h60 := all_len 60 0 (D ++ P)
  have hsl := sums_len (all 60 0 (D ++ P)) 0
  have hsl' : ((0 : Int) :: sums 0 (all 60 0 (D ++ P))).length = (all 60 0 (D ++ P)).length + 1 := by rw [List.length_cons, hsl]
  unfold impl_records.f
  rw [M_size, M_size, if_pos (by omega), sc_M, reads_eq _ hs (by omega)]
  simp only [Option.bind_some]
  rw [w64 (by omega) (by omega), if_pos (by omega), if_pos (by omega), rd_sums, M_size]
  by_cases h1 : tot (all 60 0 (D ++ P)) = (D ++ P).length
  · rw [if_pos (by omega), has_eq _ _ (by omega) (by omega)]
    simp only [Option.bind_some, decide_eq_true_eq]
    have hm : ((D.length : Int) ∈ ((0 : Int) :: sums 0 (all 60 0 (D ++ P)))) ↔ tot (all 60 0 D) = D.length := by
      have := sums_mem (all 60 0 (D ++ P)) 0 D.length
      rw [show (((0 : Nat)) : Int) = 0 from rfl] at this
      rw [this]
      simpa using ends_iff 60 0 D P
    by_cases h2 : tot (all 60 0 D) = D.length
    · rw [if_pos (hm.2 h2)]
      by_cases h3 : C = ((all 60 0 (D ++ P)).length : Int)
      · have hg : Good D P C := ⟨h1, h2, h3⟩
        rw [if_pos (by rw [List.length_map]; exact h3), if_pos hg]
      · rw [if_neg (by rw [List.length_map]; exact h3), if_neg (show ¬ Good D P C from fun h => h3 h.2.2)]
    · rw [if_neg (fun h => h2 (hm.1 h)), if_neg (show ¬ Good D P C from fun h => h2 h.2.1)]
  · rw [if_neg (by omega), if_neg (show ¬ Good D P C from fun h => h1 h.1)]
theorem log_eq (D P : List UInt8) (C : Int) (hD : D.length ≤ 549755813888) (hP : P.length ≤ 549755813888) {K : Nat} (hK : 4 * (D ++ P).length + 600 < K) : spec_l27Log.f K (M D) (M P) C = some (decide (Good D P C)) := by
  have hl : (D ++ P).length = D.length + P.length := List.length_append
  unfold spec_l27Log.f
  rw [M_size, M_size, w64 (by omega) (by omega), sc_M, open_eq _ (by omega) (by omega), open_eq _ (by omega) (by omega)]
  simp only [Option.bind_some]
  by_cases h0 : (30000 : Int) < (D.length : Int) + (P.length : Int)
  · rw [if_pos h0]
    exact dec_of ⟨fun h => by simp at h, fun h => by have := Good.le h; omega⟩
  · rw [if_neg h0, if_pos (by omega)]
    by_cases h1 : tot (all 60 0 (D ++ P)) = (D ++ P).length
    · rw [if_pos (by omega)]
      by_cases h2 : tot (all 60 0 D) = D.length
      · rw [if_pos (by omega)]
        refine dec_of ?_
        rw [beq_iff_eq, List.length_map]
        exact ⟨fun h => ⟨h1, h2, h.symm⟩, fun h => h.2.2.symm⟩
      · rw [if_neg (by omega)]
        exact dec_of ⟨fun h => by simp at h, fun h => absurd h.2.1 h2⟩
    · rw [if_neg (by omega)]
      exact dec_of ⟨fun h => by simp at h, fun h => absurd h.1 h1⟩
theorem valid_eq (D P : List UInt8) (C : Int) (hs : (D ++ P).length ≤ 1099511627776) {K : Nat} (hK : 4 * (D ++ P).length + 600 < K) : impl_IsValidLog.f K (M D) (M P) C = some (decide (Good D P C)) := by
  unfold impl_IsValidLog.f
  rw [records_eq D P C hs hK]
  simp only [Option.bind_some]
  by_cases h : Good D P C <;> simp [h]
end Go.Proofs.YtdpinnhgkocjhaaDoor.Pr.Pure

/-
What is proved: the program's functions on logs and the reference's answer the same.
Conditions: sizes far below the machine's, enough rounds.
-/
namespace Go.Proofs.YtdpinnhgkocjhaaDoor.Pr.Pure
open Go.RowKit Go.Proofs.YtdpinnhgkocjhaaDoorW.PrintWords Go.Proofs.YtdpinnhgkocjhaaDoorW.PrintLast Go.Proofs.YtdpinnhgkocjhaaDoorW.PrintMore Go.Proofs.YtdpinnhgkocjhaaDoor.Log Go.Lib
set_option linter.unusedVariables false
set_option linter.unusedSimpArgs false
theorem szRecord (c r : List UInt8) (n : Int) (h0 : 0 ≤ n) (h1 : n ≤ 1048576) (hc : c.length ≤ 140737488351232) (hr : r.length ≤ 140737488351232) :
    ∃ t, laws_szLogRecord.f (M c) (M r) n = some t ∧ (¬ t < 0 → c.length + r.length ≤ 1048576 ∧ t ≤ 1048576) := by
  unfold laws_szLogRecord.f
  rw [M_size, M_size, w64 (x := n - (c.length : Int)) (by omega) (by omega), w64 (x := n - (c.length : Int) - (r.length : Int)) (by omega) (by omega)]
  by_cases a : n - (c.length : Int) < 0
  · rw [if_pos a]; exact ⟨_, rfl, fun h => absurd (by omega) h⟩
  · rw [if_neg a]
    by_cases b : n - (c.length : Int) - (r.length : Int) < 0
    · rw [if_pos b]; exact ⟨_, rfl, fun h => absurd (by omega) h⟩
    · rw [if_neg b]; exact ⟨_, rfl, fun _ => by omega⟩
theorem szLog_eq (D P : List UInt8) (C : Int) (hc : D.length ≤ 140737488351232) (hr : P.length ≤ 140737488351232) :
    ∃ t, laws_szLog.f (M D) (M P) C 1048576 = some t ∧ (¬ t < 0 → D.length + P.length ≤ 1048576 ∧ t ≤ 1048576) := by
  unfold laws_szLog.f
  rw [M_size, M_size, w64 (x := 1048576 - (D.length : Int)) (by omega) (by omega), w64 (x := 1048576 - (D.length : Int) - (P.length : Int)) (by omega) (by omega)]
  by_cases a : 1048576 - (D.length : Int) < 0
  · rw [if_pos a]; exact ⟨_, rfl, fun h => absurd (by omega) h⟩
  · rw [if_neg a]
    by_cases b : 1048576 - (D.length : Int) - (P.length : Int) < 0
    · rw [if_pos b]; exact ⟨_, rfl, fun h => absurd (by omega) h⟩
    · rw [if_neg b]; exact ⟨_, rfl, fun _ => by omega⟩
/-- Both write a record the same way. -/
theorem encode_val (a : Nat) (ha : a ≤ 59) (c r : List UInt8) (hc : c.length ≤ 1048576) (hr : r.length ≤ 1048576) {k : Nat} (hk : c.length + r.length + 60 < k) :
    spec_EncodeRecord.f k (a : Int) (M c) (M r) = some (if Ok c r then (M (enc a c r), true) else (M [], false)) ∧ impl_EncodeRecord.f k (a : Int) (M c) (M r) = some (if Ok c r then (M (enc a c r), true) else (M [], false)) := by
  unfold spec_EncodeRecord.f impl_EncodeRecord.f
  have h : decide ((0 : Int) ≤ (a : Int) ∧ (a : Int) ≤ 59) = true := decide_eq_true ⟨by omega, by omega⟩
  rw [l1In_eq, within_eq, good_eq c r (by omega) (by omega) (by omega), isRec_eq c r (by omega) (by omega) (by omega)]
  simp only [Option.bind_some]
  rw [h, if_pos rfl, if_pos rfl]
  by_cases g : Ok c r
  · rw [if_pos g, decide_eq_true g, if_pos rfl, if_pos rfl, line_eq (by omega) c r (by omega) (by omega) (by omega), encode_eq (by omega) c r (by omega) (by omega) (by omega)]
    exact ⟨rfl, rfl⟩
  · rw [if_neg g, decide_eq_false g, if_neg Bool.false_ne_true]
    try rw [if_neg Bool.false_ne_true]
    exact ⟨rfl, rfl⟩
theorem encode_both (a : Int) (ha : -9223372036854775808 ≤ a ∧ a ≤ 9223372036854775807) (c r : List UInt8) (hc : c.length ≤ 1048576) (hr : r.length ≤ 1048576) {k : Nat} (hk : c.length + r.length + 60 < k) :
    ∃ e b, spec_EncodeRecord.f k a (M c) (M r) = some (e, b) ∧ impl_EncodeRecord.f k a (M c) (M r) = some (e, b) := by
  by_cases h : 0 ≤ a ∧ a ≤ 59
  · obtain ⟨n, rfl⟩ : ∃ n : Nat, a = n := ⟨a.toNat, by omega⟩
    obtain ⟨h1, h2⟩ := encode_val n (by omega) c r hc hr hk
    exact ⟨_, _, h1, h2⟩
  · unfold spec_EncodeRecord.f impl_EncodeRecord.f
    rw [l1In_eq, within_eq, decide_eq_false h]
    exact ⟨_, _, rfl, rfl⟩
/-- What is recovered from a text. -/
def recov (s : List UInt8) : List UInt8 := s.take (tot (all 60 0 s))
theorem recover_both (s : List UInt8) (hs : s.length ≤ 1048576) {k : Nat} (hk : 4 * s.length + 600 < k) :
    spec_RecoverLog.f k (M s) = some (if s.length ≤ 30000 then (M (recov s), M [], ((all 60 0 s).length : Int), ((tot (all 60 0 s) : Nat) : Int), true) else (M [], M [], 0, 0, false)) ∧
    impl_RecoverLog.f k (M s) = some (if s.length ≤ 30000 then (M (recov s), M [], ((all 60 0 s).length : Int), ((tot (all 60 0 s) : Nat) : Int), true) else (M [], M [], 0, 0, false)) := by
  have h60 := all_len 60 0 s
  have htl := all_tot 60 0 s
  have hsl' : ((0 : Int) :: sums 0 (all 60 0 s)).length = (all 60 0 s).length + 1 := by rw [List.length_cons, sums_len]
  unfold spec_RecoverLog.f impl_RecoverLog.f recov
  rw [M_size]
  by_cases h : s.length ≤ 30000
  · rw [if_pos h, if_neg (by omega), if_neg (by omega), open_eq s (by omega) (by omega), reads_eq s (by omega) (by omega)]
    simp only [Option.bind_some]
    rw [w64 (by omega) (by omega), rd_sums]
    repeat rw [if_pos (by omega)]
    rw [sx_M, Int.toNat_natCast, List.drop_zero, Nat.sub_zero, List.length_map]
    exact ⟨rfl, rfl⟩
  · rw [if_neg h, if_pos (by omega), if_pos (by omega)]
    exact ⟨rfl, rfl⟩
theorem isLog_both (D P : List UInt8) (C : Int) (hs : D.length + P.length ≤ 1048576) {k : Nat} (hk : 4 * (D.length + P.length) + 600 < k) :
    spec_IsValidLog.f k (M D) (M P) C = some (decide (Good D P C)) ∧ impl_IsValidLog.f k (M D) (M P) C = some (decide (Good D P C)) := by
  have hl : (D ++ P).length = D.length + P.length := List.length_append
  unfold spec_IsValidLog.f
  rw [log_eq D P C (by omega) (by omega) (by omega), valid_eq D P C (by omega) (by omega)]
  exact ⟨rfl, rfl⟩
theorem sync_both (D P : List UInt8) (C : Int) (hs : D.length + P.length ≤ 1048576) {k : Nat} (hk : 4 * (D.length + P.length) + 600 < k) :
    spec_SyncLog.f k (M D) (M P) C = some (if Good D P C then (M (D ++ P), M [], C, true) else (M [], M [], 0, false)) ∧ impl_SyncLog.f k (M D) (M P) C = some (if Good D P C then (M (D ++ P), M [], C, true) else (M [], M [], 0, false)) := by
  have hl : (D ++ P).length = D.length + P.length := List.length_append
  unfold spec_SyncLog.f impl_SyncLog.f
  rw [log_eq D P C (by omega) (by omega) (by omega), valid_eq D P C (by omega) (by omega)]
  simp only [Option.bind_some]
  by_cases g : Good D P C
  · rw [if_pos g, decide_eq_true g, if_pos rfl]
    try rw [if_pos rfl]
    rw [M_size, M_size]
    repeat rw [if_pos (by omega)]
    rw [sc_M]
    exact ⟨rfl, rfl⟩
  · rw [if_neg g, decide_eq_false g, if_neg Bool.false_ne_true]
    try rw [if_neg Bool.false_ne_true]
    exact ⟨rfl, rfl⟩
theorem Good.count {D P : List UInt8} {C : Int} (h : Good D P C) : 0 ≤ C ∧ C ≤ 60 := by
  have := all_len 60 0 (D ++ P)
  have := h.2.2
  omega
/-- A log with a record more. -/
def appended (D P : List UInt8) (C : Int) (c r : List UInt8) : ByteArray × ByteArray × Int × Int :=
  if Good D P C ∧ Ok c r then (if C = 60 then (M D, M P, C, 2) else (M D, M (P ++ enc C.toNat c r), C + 1, 0)) else (M D, M P, C, 1)
theorem append_both (D P : List UInt8) (C : Int) (c r : List UInt8) (hs : D.length + P.length ≤ 1048576) (hc : c.length ≤ 1048576) (hr : r.length ≤ 1048576) {k : Nat} (hk : 4 * (D.length + P.length) + c.length + r.length + 700 < k) :
    spec_AppendRecord.f k (M D) (M P) C (M c) (M r) = some (appended D P C c r) ∧ impl_AppendRecord.f k (M D) (M P) C (M c) (M r) = some (appended D P C c r) := by
  have hl : (D ++ P).length = D.length + P.length := List.length_append
  unfold spec_AppendRecord.f impl_AppendRecord.f appended
  obtain ⟨k, rfl⟩ : ∃ m, k = m + 1 := ⟨k - 1, by omega⟩
  rw [log_eq D P C (by omega) (by omega) (by omega), valid_eq D P C (by omega) (by omega), good_eq c r (by omega) (by omega) (by omega), isRec_eq c r (by omega) (by omega) (by omega)]
  simp only [Option.bind_some, spec_AppendRecord.j0, impl_AppendRecord.j0]
  by_cases g : Good D P C
  · have hct := g.count
    rw [decide_eq_true g, if_pos rfl, if_pos rfl]
    by_cases o : Ok c r
    · have hgo : Good D P C ∧ Ok c r := ⟨g, o⟩
      have hn : ¬ ((!true) = true) := by decide
      rw [if_pos hgo, decide_eq_true o, if_neg hn, if_neg hn]
      by_cases h60 : C = 60
      · rw [if_pos h60, if_pos h60, if_pos h60]
        exact ⟨rfl, rfl⟩
      · obtain ⟨n, rfl⟩ : ∃ n : Nat, C = n := ⟨C.toNat, by omega⟩
        have hel := (enc_len (k := n) (by omega) o).1
        rw [if_neg h60, if_neg h60, if_neg h60, line_eq (by omega) c r (by omega) (by omega) (by omega), encode_eq (by omega) c r (by omega) (by omega) (by omega)]
        simp only [Option.bind_some]
        rw [M_size, M_size, if_pos (by omega)]
        try rw [if_pos (by omega)]
        rw [sc_M, w64 (by omega) (by omega), Int.toNat_natCast]
        exact ⟨rfl, rfl⟩
    · rw [if_neg (show ¬ (Good D P C ∧ Ok c r) from fun h => o h.2), decide_eq_false o, if_pos (show (!false) = true from rfl), if_pos (show (!false) = true from rfl)]
      exact ⟨rfl, rfl⟩
  · rw [if_neg (show ¬ (Good D P C ∧ Ok c r) from fun h => g h.1), decide_eq_false g, if_neg Bool.false_ne_true]
    try rw [if_neg Bool.false_ne_true]
    repeat rw [if_pos rfl]
    exact ⟨rfl, rfl⟩
theorem records_both (D P : List UInt8) (C : Int) (hs : D.length + P.length ≤ 1048576) {k : Nat} (hk : 4 * (D.length + P.length) + 600 < k) :
    spec_LogRecords.f k (M D) (M P) C = some (if Good D P C then ((all 60 0 (D ++ P)).map R27, true) else ([], false)) ∧ impl_LogRecords.f k (M D) (M P) C = some (if Good D P C then ((all 60 0 (D ++ P)).map R27, true) else ([], false)) := by
  have hl : (D ++ P).length = D.length + P.length := List.length_append
  unfold spec_LogRecords.f impl_LogRecords.f
  rw [log_eq D P C (by omega) (by omega) (by omega), records_eq D P C (by omega) (by omega)]
  simp only [Option.bind_some]
  by_cases g : Good D P C
  · rw [if_pos g, decide_eq_true g, if_pos rfl, M_size, M_size, if_pos (by omega), sc_M, open_eq _ (by omega) (by omega)]
    simp
  · rw [if_neg g, decide_eq_false g, if_neg Bool.false_ne_true]
    simp
theorem fuel_log {a k : Nat} (hk : k = 4 * a + 700) : 4 * a + 600 < k := by omega
theorem fuel_app {a b c k : Nat} (hk : k = 4 * a + b + c + 800) : 4 * a + b + c + 700 < k := by omega
theorem fuel_le {a b n : Nat} (h : a + b ≤ n) : a ≤ n ∧ b ≤ n := by omega
theorem eqLog_self (a b : ByteArray) (c : Int) : laws_eqLog.f a b c a b c = some true := by
  unfold laws_eqLog.f
  rw [if_pos rfl, if_pos rfl, if_pos rfl]
/-- A log and a record that came in. -/
theorem ex_log (a b : ByteArray) : ∃ D P, a = M D ∧ b = M P := by
  obtain ⟨D, h1⟩ := ex_M a
  obtain ⟨P, h2⟩ := ex_M b
  exact ⟨D, P, h1, h2⟩
end Go.Proofs.YtdpinnhgkocjhaaDoor.Pr.Pure

/-
What is proved: the texts by which the laws mark strings.
Conditions: numbers of a moderate size, enough rounds.
-/
namespace Go.Proofs.YtdpinnhgkocjhaaDoor.Pr.Pure
open Go.RowKit Go.Proofs.YtdpinnhgkocjhaaDoorW.PrintWords Go.Proofs.YtdpinnhgkocjhaaDoorW.PrintLast Go.Proofs.YtdpinnhgkocjhaaDoorW.PrintMore
set_option linter.unusedVariables false
set_option linter.unusedSimpArgs false
theorem strOf_one (x : Int) : (strOfNums [x]).size = 1 := by simp [strOfNums, ByteArray.size]
theorem markText_l0 : ∀ (j k : Nat) (x : Int) (s : ByteArray), 0 ≤ x → x < 10 ^ j → x ≤ 1125899906842624 → j < k → s.size + j ≤ 1000 → ∃ r, laws_markText.l0 k x s = some r := by
  intro j
  induction j with
  | zero =>
    intro k x s h0 h1 h2 hk hs
    obtain ⟨k, rfl⟩ : ∃ m, k = m + 1 := ⟨k - 1, by omega⟩
    simp only [laws_markText.l0]
    rw [if_neg (by omega), if_pos (by omega)]
    exact ⟨_, rfl⟩
  | succ j ih =>
    intro k x s h0 h1 h2 hk hs
    obtain ⟨k, rfl⟩ : ∃ m, k = m + 1 := ⟨k - 1, by omega⟩
    simp only [laws_markText.l0]
    by_cases h : x > 0
    · have hd : Int.tdiv x 10 = x / 10 := Int.tdiv_eq_ediv_of_nonneg h0
      have h3 : x / 10 < 10 ^ j := by
        rw [Int.pow_succ] at h1
        omega
      rw [if_pos h, obs, strOf_one, if_pos (by omega), hd, w64 (by omega) (by omega)]
      refine ih k (x / 10) _ (by omega) h3 (by omega) (by omega) ?_
      unfold sc
      rw [ByteArray.size_append, strOf_one]
      omega
    · rw [if_neg h, if_pos (by omega)]
      exact ⟨_, rfl⟩
theorem markText_ex {x : Int} (h0 : 0 ≤ x) (h1 : x ≤ 1125899906842624) : ∃ r, laws_markText.f 40 x = some r := by
  unfold laws_markText.f
  by_cases h : x ≤ 0
  · rw [if_pos h]
    exact ⟨_, rfl⟩
  · rw [if_neg h]
    exact markText_l0 16 40 x _ h0 (Int.lt_of_le_of_lt h1 (by decide)) h1 (by omega) (by decide)
/-- The text of a number. -/
def txt (x : Int) : ByteArray := (laws_markText.f 40 x).getD ⟨#[]⟩
theorem markText_eq {k : Nat} (hk : 40 ≤ k) {x : Int} (h0 : 0 ≤ x) (h1 : x ≤ 1125899906842624) : laws_markText.f k x = some (txt x) := by
  obtain ⟨r, hr⟩ := markText_ex h0 h1
  have : laws_markText.f k x = some r := at_rounds (fun k => laws_markText.mono x k) hk hr
  rw [this]
  unfold txt
  rw [hr]
  rfl
end Go.Proofs.YtdpinnhgkocjhaaDoor.Pr.Pure

/-
What is proved: FnExactLogRecords.Pure: the program's function and the reference's answer the same, in memory of their own.
Conditions: sizes as the types allow.
-/
namespace Go.Proofs.YtdpinnhgkocjhaaDoor.Pr.Pure
open Go.RowKit Go.Proofs.YtdpinnhgkocjhaaDoorW.PrintWords Go.Proofs.YtdpinnhgkocjhaaDoorW.PrintLast Go.Proofs.YtdpinnhgkocjhaaDoorW.PrintMore Go.Proofs.YtdpinnhgkocjhaaDoorW.Opens Go.Proofs.YtdpinnhgkocjhaaDoor.Log
set_option linter.unusedVariables false

theorem set_app {α : Type} (pre ys : List α) (y z : α) (i : Nat) (h : pre.length = i) : (pre ++ y :: ys).set ((i : Int)).toNat z = pre ++ z :: ys := by
  rw [Int.toNat_natCast, List.set_append_right _ _ (by omega), h, Nat.sub_self, List.set_cons_zero]
theorem getD_app {α : Type} (pre ys : List α) (y d : α) (i : Nat) (h : pre.length = i) : (pre ++ y :: ys).getD ((i : Int)).toNat d = y := by
  rw [Int.toNat_natCast, List.getD_eq_getElem?_getD, List.getElem?_append_right (by omega), h, Nat.sub_self]
  rfl
theorem len_app {α : Type} (pre ys : List α) (y : α) : ((pre ++ y :: ys).length : Int) = (pre.length : Int) + (ys.length : Int) + 1 := by
  simp
  omega

/-- Marked records. -/
def upRec (a : Int) : Nat → List S27
  | 0 => []
  | n + 1 => ⟨txt a, txt (a + 1)⟩ :: upRec (a + 2) n
theorem upRec_len (n : Nat) : ∀ a, (upRec a n).length = n := by
  induction n with
  | zero => intro a; rfl
  | succ n ih => intro a; simp [upRec, ih]
theorem upRec_get (n : Nat) : ∀ (a A : Int) (j : Nat), j < n → A = a + 2 * j → (upRec a n)[j]? = some ⟨txt A, txt (A + 1)⟩ := by
  induction n with
  | zero => intro a A j h; omega
  | succ n ih =>
    intro a A j h hA
    cases j with
    | zero =>
      obtain rfl : A = a := by omega
      simp [upRec]
    | succ j =>
      simp only [upRec, List.getElem?_cons_succ]
      exact ih (a + 2) A j (by omega) (by omega)
theorem mark_up0 (d : Nat) : ∀ (k i : Nat) (pre suf : List S27) (a : Int), pre.length = i → suf.length = d → d + 50 < k → i + d ≤ 1000000 → 0 ≤ a → a + 2 * d ≤ 1000000 →
    laws_markLogRecordS.l0 k (pre ++ suf) a i = some (a + 2 * d, pre ++ upRec a d) := by
  induction d with
  | zero =>
    intro k i pre suf a hp hs hk hb h0 h1
    obtain ⟨k, rfl⟩ : ∃ m, k = m + 1 := ⟨k - 1, by omega⟩
    obtain rfl : suf = [] := List.length_eq_zero_iff.1 hs
    simp only [laws_markLogRecordS.l0]
    rw [if_neg (by simp; omega)]
    simp [upRec]
  | succ d ih =>
    intro k i pre suf a hp hs hk hb h0 h1
    obtain ⟨k, rfl⟩ : ∃ m, k = m + 1 := ⟨k - 1, by omega⟩
    obtain ⟨y, ys, rfl⟩ : ∃ y ys, suf = y :: ys := List.exists_cons_of_length_pos (by omega)
    have hys : ys.length = d := by simpa using hs
    have er : ∀ z, rd_T27 (pre ++ z :: ys) (i : Int) = z := fun z => getD_app pre ys z z27 i hp
    have es : ∀ y z, (pre ++ y :: ys).set ((i : Int)).toNat z = pre ++ z :: ys := fun y z => set_app pre ys y z i hp
    have c1 : (i : Int) < ((pre ++ y :: ys).length : Int) := by rw [len_app]; omega
    have c2 : (0 : Int) ≤ (i : Int) := by omega
    simp only [laws_markLogRecordS.l0]
    rw [if_pos c1, markText_eq (by omega) h0 (by omega), obs, if_pos c2, obs, w64 (x := a + 1) (by omega) (by omega), markText_eq (by omega) (by omega) (by omega), obs, w64 (x := a + 1 + 1) (by omega) (by omega), w64 (x := (i : Int) + 1) (by omega) (by omega)]
    simp only [er, es]
    have := ih k (i + 1) (pre ++ [⟨txt a, txt (a + 1)⟩]) ys (a + 1 + 1) (by simp; omega) hys (by omega) (by omega) (by omega) (by omega)
    rw [List.append_assoc, List.append_assoc, List.singleton_append, List.singleton_append] at this
    rw [show ((i : Int) + 1) = ((i + 1 : Nat) : Int) by omega, this]
    simp only [upRec, Option.some.injEq, Prod.mk.injEq]
    exact ⟨by omega, by rw [show a + 1 + 1 = a + 2 by omega]⟩
theorem mark_up {l : List S27} (hl : l.length ≤ 1000) {k : Nat} (hk : l.length + 50 < k) : laws_markLogRecordS.f k l 1 = some (1 + 2 * (l.length : Int), upRec 1 l.length) := by
  unfold laws_markLogRecordS.f
  have := mark_up0 l.length k 0 [] l 1 rfl rfl hk (by omega) (by omega) (by omega)
  simpa using this
theorem held_up0 (n : Nat) (b : Int) (d : Nat) : ∀ (k i : Nat) (A : Int), A = b + 2 * i → i + d = n → d + 50 < k → n ≤ 1000000 → 0 ≤ b → b + 2 * n ≤ 1000000 →
    laws_heldLogRecordS.l0 k (upRec b n) A i = some (b + 2 * n) := by
  induction d with
  | zero =>
    intro k i A hA hd hk hn h0 h1
    obtain ⟨k, rfl⟩ : ∃ m, k = m + 1 := ⟨k - 1, by omega⟩
    simp only [laws_heldLogRecordS.l0]
    rw [if_neg (by rw [upRec_len]; omega)]
    congr 1
    omega
  | succ d ih =>
    intro k i A hA hd hk hn h0 h1
    obtain ⟨k, rfl⟩ : ∃ m, k = m + 1 := ⟨k - 1, by omega⟩
    have e : rd_T27 (upRec b n) (i : Int) = ⟨txt A, txt (A + 1)⟩ := by
      show (upRec b n).getD ((i : Int)).toNat _ = _
      rw [Int.toNat_natCast, List.getD_eq_getElem?_getD, upRec_get n b A i (by omega) hA]
      rfl
    have c1 : (i : Int) < ((upRec b n).length : Int) := by rw [upRec_len]; omega
    have c2 : (0 : Int) ≤ (i : Int) := by omega
    have := ih k (i + 1) (A + 1 + 1) (by omega) (by omega) (by omega) hn h0 h1
    simp only [laws_heldLogRecordS.l0, e]
    rw [if_pos c1, if_pos c2, markText_eq (by omega) (by omega) (by omega), obs, if_pos rfl, w64 (x := A + 1) (by omega) (by omega), markText_eq (by omega) (by omega) (by omega), obs, if_pos rfl, w64 (x := A + 1 + 1) (by omega) (by omega), w64 (x := (i : Int) + 1) (by omega) (by omega), show ((i : Int) + 1) = ((i + 1 : Nat) : Int) by omega]
    exact this
theorem held_up {n : Nat} (hn : n ≤ 1000) {k : Nat} (hk : n + 50 < k) : laws_heldLogRecordS.f k (upRec 1 n) 1 = some (1 + 2 * (n : Int)) := by
  unfold laws_heldLogRecordS.f
  exact held_up0 n 1 n k 0 1 (by omega) (by omega) hk (by omega) (by omega) (by omega)
theorem eqRecS_self (l : List S27) (hl : l.length ≤ 1000000) (d : Nat) : ∀ (k : Nat) (i : Int), 0 ≤ i → i + d = l.length → d < k → laws_eqLogRecordS.l0 k l l i = some true := by
  induction d with
  | zero =>
    intro k i h0 hd hk
    obtain ⟨k, rfl⟩ : ∃ m, k = m + 1 := ⟨k - 1, by omega⟩
    simp only [laws_eqLogRecordS.l0]
    rw [if_neg (by omega)]
  | succ d ih =>
    intro k i h0 hd hk
    obtain ⟨k, rfl⟩ : ∃ m, k = m + 1 := ⟨k - 1, by omega⟩
    simp only [laws_eqLogRecordS.l0, laws_eqLogRecord.f, if_true, obs]
    rw [if_pos (by omega), if_pos (by omega), if_pos (by omega), w64 (by omega) (by omega)]
    exact ih k (i + 1) (by omega) (by omega) (by omega)
theorem eqRecS_eq {l : List S27} (hl : l.length ≤ 1000) {k : Nat} (hk : l.length < k) : laws_eqLogRecordS.f k l l = some true := by
  unfold laws_eqLogRecordS.f
  rw [if_pos rfl]
  exact eqRecS_self l (by omega) l.length k 0 (by omega) (by omega) hk
theorem FnExactLogRecords : FnExactLogRecords.Pure := by
  intro x0 h0
  obtain ⟨D, P, hD, hP⟩ := ex_log x0.f0 x0.f1
  obtain ⟨hs0, hs1, hs2⟩ := h0
  rw [hD, M_size] at hs0
  rw [hP, M_size] at hs1
  obtain ⟨t, ht, hb⟩ := szLog_eq D P x0.f2 hs0 hs1
  obtain ⟨k, hk⟩ : ∃ k, k = 4 * (D.length + P.length) + 700 := ⟨_, rfl⟩
  refine ⟨k + 2, ?_⟩
  unfold laws_FnExactLogRecords.f laws_toLog.f
  rw [hD, hP, ht]
  simp only [obs]
  by_cases hn : t < 0
  · rw [if_pos hn]
  · rw [if_neg hn]
    have hle := hb hn
    obtain ⟨⟨L', b'⟩, hv⟩ : ∃ p, p = (if Good D P x0.f2 then ((all 60 0 (D ++ P)).map R27, true) else ([], false)) := ⟨_, rfl⟩
    have hL' : L'.length ≤ 60 := by
      have := all_len 60 0 (D ++ P)
      by_cases g : Good D P x0.f2
      · rw [if_pos g] at hv
        simp only [Prod.mk.injEq] at hv
        rw [hv.1]
        simpa using this
      · rw [if_neg g] at hv
        simp only [Prod.mk.injEq] at hv
        rw [hv.1]
        simp
    obtain ⟨e1, e2⟩ := records_both D P x0.f2 hle.1 (k := k + 2) (by omega)
    obtain ⟨_, e2'⟩ := records_both D P x0.f2 hle.1 (k := k + 1) (by omega)
    rw [← hv] at e1 e2 e2'
    have m1 : laws_markLogRecordS.f (k + 1) L' 1 = some (1 + 2 * (L'.length : Int), upRec 1 L'.length) := mark_up (by omega) (by omega)
    have m2 : laws_heldLogRecordS.f (k + 1) (upRec 1 L'.length) 1 = some (1 + 2 * (L'.length : Int)) := held_up (by omega) (by omega)
    have m3 : laws_heldLogRecordS.f k (upRec 1 L'.length) 1 = some (1 + 2 * (L'.length : Int)) := held_up (by omega) (by omega)
    have m4 : laws_eqLogRecordS.f (k + 2) L' L' = some true := eqRecS_eq (by omega) (by omega)
    have m5 : laws_eqLogRecordS.f (k + 1) L' L' = some true := eqRecS_eq (by omega) (by omega)
    have n0 : ¬ ((1 : Int) + 2 * L'.length < 0) := by omega
    simp only [e1, e2, obs, m4, if_true, bne_self_eq_false, laws_FnExactLogRecords.j0, Bool.false_eq_true, if_false, m1, m2, if_neg n0, laws_toLog.f, e2', m5, laws_FnExactLogRecords.j1, m3]
end Go.Proofs.YtdpinnhgkocjhaaDoor.Pr.Pure

