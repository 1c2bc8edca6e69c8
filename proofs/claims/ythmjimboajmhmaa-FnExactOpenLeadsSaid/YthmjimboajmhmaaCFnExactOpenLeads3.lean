/-
What is proved: parts of the law FnExactOpenLeads: what the functions that it reaches compute, and the plain law.
Conditions: those of each theorem.
-/
import Derived.ChangeArms
import Derived.ChangeSlices
import Derived.Deep.Slices
import Derived.RowKit
import Derived.SizedLaws
import Derived.WideShapes
import Derived.Test.YthmjimboajmhmaaCFnExactOpenLeads2
namespace Go.Proofs.Ythmjimboajmhmaa.Pr
open Go.RowKit Go.Proofs.YthmjimboajmhmaaW.PrintWords Go.Proofs.YthmjimboajmhmaaW.PrintLast Go.Proofs.YthmjimboajmhmaaW.PrintMore
attribute [local go_sem] max2_int min2_int max_two min_two max_three min_three max_four min_four   -- for this text's walks alone
set_option linter.unusedVariables false
set_option linter.unusedSimpArgs false
def impl_areLegs.l0 : Nat → List (S37) → List (S37) → Int → Int → Option (Bool)
 | 0, _, _, _, _ => none
 | k + 1, x0, x5, x6, x7 => if x7 < x6 then (if 0 ≤ x7 then (if x7 < (x5.length : Int) then ((impl_IsLeg.f ((rd_T37 x5 x7).f0) ((rd_T37 x5 x7).f1) ((rd_T37 x5 x7).f2) ((rd_T37 x5 x7).f3) ((rd_T37 x5 x7).f4)).bind fun t196 => (if t196 = true then (impl_areLegs.l0 k x0 x5 x6 (wrap64 (x7 + 1))) else (some false))) else (none)) else (none)) else (some (decide ((x0.length : Int) ≤ 12)))
def impl_areLegs.f (k : Nat) (l0 : List (S37)) : Option (Bool) := impl_areLegs.l0 k l0 l0 (l0.length : Int) 0
theorem impl_areLegs.mono_l : ∀ k, (∀ y0 y1 y2 y3, LeO (impl_areLegs.l0 k y0 y1 y2 y3) (impl_areLegs.l0 (k + 1) y0 y1 y2 y3))
 | 0 => fun _ _ _ _ r h => by simp [impl_areLegs.l0] at h
 | k + 1 => by
  have ih0 := impl_areLegs.mono_l k
  ·
   intro y0 y1 y2 y3
   unfold impl_areLegs.l0
   repeat' first
   | (with_reducible exact ih0 _ _ _ _)
   | (with_reducible exact LeO.refl _)
   | (with_reducible exact LeO.none _)
   | (with_reducible refine LeO.ite ?_ ?_)
   | (with_reducible refine LeO.bind ?_ (fun _ => ?_))
   | exact ih0 _ _ _ _
   | exact LeO.none _
   | refine LeO.ite ?_ ?_
   | refine LeO.bind ?_ (fun _ => ?_)
theorem impl_areLegs.mono : ∀ a0 k, LeO (impl_areLegs.f k a0) (impl_areLegs.f (k + 1) a0) := by
 intro a0 k
 have ih0 := impl_areLegs.mono_l k
 unfold impl_areLegs.f
 repeat' first
   | (with_reducible exact ih0 _ _ _ _)
   | (with_reducible exact LeO.refl _)
   | (with_reducible exact LeO.none _)
   | (with_reducible refine LeO.ite ?_ ?_)
   | (with_reducible refine LeO.bind ?_ (fun _ => ?_))
   | exact ih0 _ _ _ _
   | exact LeO.none _
   | refine LeO.ite ?_ ?_
   | refine LeO.bind ?_ (fun _ => ?_)
set_option maxHeartbeats 8000000 in
set_option maxRecDepth 100000 in
theorem impl_areLegs.calls (k : Nat) (A0 : Option Addr) (c0 : Nat) (l0 : List (S37)) (r : Bool) (w : World) (hr0 : Kd.C k37 w A0 l0.length l0) (hc0 : l0.length ≤ c0) (h : impl_areLegs.f k l0 = some r) :
  Calls Try.prog 69 #[.slice A0 l0.length c0] w fun e w' => e = .returned (.bool r) ∧ Below w.heap.size w w' := by
 have hu37 := Try.underlying37
 have HR0 := Aside0.mk hr0
 have HC0 := Aside0.mk hc0
 clear hr0 hc0
 have HB := Aside0.mk (Below.refl w.heap.size w)
 have H : (impl_areLegs.l0 k l0 l0 (l0.length : Int) 0) = some r := h
 clear h
 have H' := Aside0.mk H
 clear H
 go_enter Try.func69, Try.ntmps69
 go_wp2
 go_loopg [7] k (fun kq v7 w' => ∃ (x7_1 : Int), v7 = .int .i64 x7_1 ∧ Aside0 (impl_areLegs.l0 kq l0 l0 (l0.length : Int) x7_1 = some r) ∧ Aside0 (kq ≤ k) ∧ Aside0 (Below w.heap.size w w'))
 case atStart => exact ⟨(0), (by first | rfl | (simp; done) | (simp [*]; done)), H', ⟨Nat.le_refl _⟩, ⟨lb0_ HB.out⟩⟩
 case round =>
  clear H'
  obtain ⟨x7_1, rfl, HA, HK1, HB⟩ := hrel
  cases gk with
  | zero => exact absurd HA.out (by simp [impl_areLegs.l0])
  | succ k1 =>
   have H := HA.out
   clear HA
   simp only [impl_areLegs.l0] at H
   by_cases c2 : x7_1 < (l0.length : Int)
   ·
    rw [if_pos c2] at H
    have c2b0 : decide (x7_1 < (l0.length : Int)) = true := decide_eq_true c2
    clear c2
    by_cases c3 : 0 ≤ x7_1
    ·
     rw [if_pos c3] at H
     have c3b0 : decide (0 ≤ x7_1) = true := decide_eq_true c3
     clear c3
     by_cases c4 : x7_1 < (l0.length : Int)
     ·
      rw [if_pos c4] at H
      have c4b0 : decide (x7_1 < (l0.length : Int)) = true := decide_eq_true c4
      clear c4
      replace H := Option.bind_eq_some_iff.mp H
      obtain ⟨t196, A50, H⟩ := H
      replace H : (if t196 = true then (impl_areLegs.l0 k1 l0 l0 (l0.length : Int) (wrap64 (x7_1 + 1))) else (some false)) = some r := H
      have A5 := Aside0.mk A50
      clear A50
      by_cases c6 : t196 = true
      ·
       subst c6
       have H1 : (impl_areLegs.l0 k1 l0 l0 (l0.length : Int) (wrap64 (x7_1 + 1))) = some r := by rw [if_pos rfl] at H; exact H
       clear H
       have H := H1
       clear H1
       have H' := Aside0.mk H
       clear H
       have p194 : 0 ≤ (x7_1 : Int) := dt_
       have q194 : x7_1 < (l0.length : Int) := dt_
       obtain ⟨ad194, e194, hx194_0, hx194_1, hx194_2, hx194_3, hx194_4⟩ := at_T37 HR0.out x7_1 p194 q194
       cases e194
       replace hx194_0 := bc_ HB.out hx194_0
       replace hx194_1 := bc_ HB.out hx194_1
       replace hx194_2 := bc_ HB.out hx194_2
       replace hx194_3 := bc_ HB.out hx194_3
       replace hx194_4 := bc_ HB.out hx194_4
       replace p194 := eq_true p194
       replace q194 := eq_true q194
       go_wp2_with (first | ((with_reducible refine gate_dst (N := 4) rfl ?_); refine box_event ?hg (N := 4) ?hd (cs := #[.int .i64 0, .int .i64 0, .int .i64 0, .int .i64 0, .int .i64 0]) (t := 37) ?hr ?_; (case hd => rfl); (case hg => rfl); (case hr => first | (go_simp; done) | (go_simp; rfl)); intro gb195 hg w7 hbox hb; have BK195 := Aside0.mk (hbox); have GW195 := Aside0.mk ((bz_ hg (lb0_ HB.out))); have GE195 := Aside0.mk ((bz_ hg (lb0_ HB.out))); replace HB := Aside0.mk (below_step (lb0_ HB.out) hb); clear hb hbox hg; obtain ⟨hcz8_0, hcz8_1, hcz8_2, hcz8_3, hcz8_4⟩ := cz5_ BK195.out; obtain ⟨hfz8_0, hfz8_1, hfz8_2, hfz8_3, hfz8_4⟩ := fz5_ BK195.out) | ((with_reducible refine gate_callee (f := 102) rfl ?_); refine ga_ (some 12) Try.func102 #[.agg #[.int .i64 ((rd_T37 l0 x7_1).f0), .int .i64 ((rd_T37 l0 x7_1).f1), .int .i64 ((rd_T37 l0 x7_1).f2), .int .i64 ((rd_T37 l0 x7_1).f3), .int .i64 ((rd_T37 l0 x7_1).f4)]] ?_; (with_reducible refine (impl_IsLeg.calls ((rd_T37 l0 x7_1).f0) ((rd_T37 l0 x7_1).f1) ((rd_T37 l0 x7_1).f2) ((rd_T37 l0 x7_1).f3) ((rd_T37 l0 x7_1).f4) true _ A5.out).mono ?_); rintro e w9 ⟨rfl, hb⟩; refine ⟨_, rfl, ?_⟩; replace BK195 := Aside0.mk (blk_below (g := gb195) (o := .cells #[.int .i64 ((rd_T37 l0 x7_1).f0), .int .i64 ((rd_T37 l0 x7_1).f1), .int .i64 ((rd_T37 l0 x7_1).f2), .int .i64 ((rd_T37 l0 x7_1).f3), .int .i64 ((rd_T37 l0 x7_1).f4)] 37 (0, 0)) (by (with_reducible repeat (first | refine blk_drewN ?_ _ | refine blk_drew ?_ | refine blk_alloc ?_ _)); exact (p5_ BK195.out _ _ _ _ _)) hb); replace HB := Aside0.mk (below_step (lb1_ HB.out GE195.out) hb); (try clear hb); (try clear hb2); (try clear hk); (try clear hi)))
       go_roundg k1
       case measure => have := HK1.out; omega
       case rel => exact ⟨(wrap64 (x7_1 + 1)), (by first | rfl | (simp; done) | (simp [*]; done)), H', ⟨by have := HK1.out; omega⟩, ⟨lb1_ HB.out GE195.out⟩⟩
      ·
       replace c6 := Bool.eq_false_iff.mpr c6
       subst c6
       have H1 : (some false) = some r := by rw [if_neg (show ¬ (false = true) by decide)] at H; exact H
       clear H
       have H := H1
       clear H1
       obtain rfl := Option.some.inj H
       have p194 : 0 ≤ (x7_1 : Int) := dt_
       have q194 : x7_1 < (l0.length : Int) := dt_
       obtain ⟨ad194, e194, hx194_0, hx194_1, hx194_2, hx194_3, hx194_4⟩ := at_T37 HR0.out x7_1 p194 q194
       cases e194
       replace hx194_0 := bc_ HB.out hx194_0
       replace hx194_1 := bc_ HB.out hx194_1
       replace hx194_2 := bc_ HB.out hx194_2
       replace hx194_3 := bc_ HB.out hx194_3
       replace hx194_4 := bc_ HB.out hx194_4
       replace p194 := eq_true p194
       replace q194 := eq_true q194
       go_wp2_with (first | ((with_reducible refine gate_dst (N := 4) rfl ?_); refine box_event ?hg (N := 4) ?hd (cs := #[.int .i64 0, .int .i64 0, .int .i64 0, .int .i64 0, .int .i64 0]) (t := 37) ?hr ?_; (case hd => rfl); (case hg => rfl); (case hr => first | (go_simp; done) | (go_simp; rfl)); intro gb195 hg w10 hbox hb; have BK195 := Aside0.mk (hbox); have GW195 := Aside0.mk ((bz_ hg (lb0_ HB.out))); have GE195 := Aside0.mk ((bz_ hg (lb0_ HB.out))); replace HB := Aside0.mk (below_step (lb0_ HB.out) hb); clear hb hbox hg; obtain ⟨hcz11_0, hcz11_1, hcz11_2, hcz11_3, hcz11_4⟩ := cz5_ BK195.out; obtain ⟨hfz11_0, hfz11_1, hfz11_2, hfz11_3, hfz11_4⟩ := fz5_ BK195.out) | ((with_reducible refine gate_callee (f := 102) rfl ?_); refine ga_ (some 12) Try.func102 #[.agg #[.int .i64 ((rd_T37 l0 x7_1).f0), .int .i64 ((rd_T37 l0 x7_1).f1), .int .i64 ((rd_T37 l0 x7_1).f2), .int .i64 ((rd_T37 l0 x7_1).f3), .int .i64 ((rd_T37 l0 x7_1).f4)]] ?_; (with_reducible refine (impl_IsLeg.calls ((rd_T37 l0 x7_1).f0) ((rd_T37 l0 x7_1).f1) ((rd_T37 l0 x7_1).f2) ((rd_T37 l0 x7_1).f3) ((rd_T37 l0 x7_1).f4) false _ A5.out).mono ?_); rintro e w12 ⟨rfl, hb⟩; refine ⟨_, rfl, ?_⟩; replace BK195 := Aside0.mk (blk_below (g := gb195) (o := .cells #[.int .i64 ((rd_T37 l0 x7_1).f0), .int .i64 ((rd_T37 l0 x7_1).f1), .int .i64 ((rd_T37 l0 x7_1).f2), .int .i64 ((rd_T37 l0 x7_1).f3), .int .i64 ((rd_T37 l0 x7_1).f4)] 37 (0, 0)) (by (with_reducible repeat (first | refine blk_drewN ?_ _ | refine blk_drew ?_ | refine blk_alloc ?_ _)); exact (p5_ BK195.out _ _ _ _ _)) hb); replace HB := Aside0.mk (below_step (lb1_ HB.out GE195.out) hb); (try clear hb); (try clear hb2); (try clear hk); (try clear hi)))
       go_ret
       exact ⟨rr_, lb1_ HB.out GE195.out⟩
     ·
      rw [if_neg c4] at H
      exact absurd H (by simp)
    ·
     rw [if_neg c3] at H
     exact absurd H (by simp)
   ·
    rw [if_neg c2] at H
    have c2b0 : decide (x7_1 < (l0.length : Int)) = false := decide_eq_false c2
    clear c2
    obtain rfl := Option.some.inj H
    go_wp2
    go_ret
    exact ⟨rr_, lb0_ HB.out⟩
theorem heap_new_ (w : World) (cs : Array Value) (t : TypeId) : (w.alloc (.cells cs t)).heap[w.heap.size]? = some (.cells cs t (0, 0)) := by
 show (w.heap.push _)[w.heap.size]? = _
 simp
def bits_Mul64.f (a0 : Int) (a1 : Int) : Option (Int × Int) := some (IntKind.u64.wrap ((IntKind.u64.wrap ((IntKind.u64.wrap ((a0 / 4294967296) * (a1 / 4294967296))) + ((IntKind.u64.wrap ((IntKind.u64.wrap ((a0 / 4294967296) * (Go.bits .and .u64 a1 4294967295))) + ((IntKind.u64.wrap ((Go.bits .and .u64 a0 4294967295) * (Go.bits .and .u64 a1 4294967295))) / 4294967296))) / 4294967296))) + ((IntKind.u64.wrap ((Go.bits .and .u64 (IntKind.u64.wrap ((IntKind.u64.wrap ((a0 / 4294967296) * (Go.bits .and .u64 a1 4294967295))) + ((IntKind.u64.wrap ((Go.bits .and .u64 a0 4294967295) * (Go.bits .and .u64 a1 4294967295))) / 4294967296))) 4294967295) + (IntKind.u64.wrap ((Go.bits .and .u64 a0 4294967295) * (a1 / 4294967296))))) / 4294967296)), IntKind.u64.wrap (a0 * a1))
set_option maxHeartbeats 8000000 in
set_option maxRecDepth 100000 in
theorem bits_Mul64.calls (a0 : Int) (a1 : Int) (r1 : Int) (r2 : Int) (w : World) (h : bits_Mul64.f a0 a1 = some (r1, r2)) :
  Calls Try.prog 126 #[.int .u64 a0, .int .u64 a1] w fun e w' => e = .returned (.tuple #[.int .u64 r1, .int .u64 r2]) ∧ Drawn0 w w' := by
 have H : (some (IntKind.u64.wrap ((IntKind.u64.wrap ((IntKind.u64.wrap ((a0 / 4294967296) * (a1 / 4294967296))) + ((IntKind.u64.wrap ((IntKind.u64.wrap ((a0 / 4294967296) * (Go.bits .and .u64 a1 4294967295))) + ((IntKind.u64.wrap ((Go.bits .and .u64 a0 4294967295) * (Go.bits .and .u64 a1 4294967295))) / 4294967296))) / 4294967296))) + ((IntKind.u64.wrap ((Go.bits .and .u64 (IntKind.u64.wrap ((IntKind.u64.wrap ((a0 / 4294967296) * (Go.bits .and .u64 a1 4294967295))) + ((IntKind.u64.wrap ((Go.bits .and .u64 a0 4294967295) * (Go.bits .and .u64 a1 4294967295))) / 4294967296))) 4294967295) + (IntKind.u64.wrap ((Go.bits .and .u64 a0 4294967295) * (a1 / 4294967296))))) / 4294967296)), IntKind.u64.wrap (a0 * a1))) = some (r1, r2) := h
 clear h
 simp only [Option.some.injEq, Prod.mk.injEq] at H
 obtain ⟨rfl, rfl⟩ := H
 go_enter Try.func126, Try.ntmps126
 go_wp2
 go_ret2
 exact ⟨by first | rfl | (simp; done) | (simp [*]; done), by repeat (first | exact Drawn0.refl _ | apply Drawn0.step)⟩
def bits_Mul.f (a0 : Int) (a1 : Int) : Option (Int × Int) := (bits_Mul64.f a0 a1).bind fun bt197 => (some (bt197.1, bt197.2))
set_option maxHeartbeats 8000000 in
set_option maxRecDepth 100000 in
theorem bits_Mul.calls (a0 : Int) (a1 : Int) (r1 : Int) (r2 : Int) (w : World) (h : bits_Mul.f a0 a1 = some (r1, r2)) :
  Calls Try.prog 118 #[.int .u64 a0, .int .u64 a1] w fun e w' => e = .returned (.tuple #[.int .u64 r1, .int .u64 r2]) ∧ Drawn0 w w' := by
 have H : ((bits_Mul64.f a0 a1).bind fun bt197 => (some (bt197.1, bt197.2))) = some (r1, r2) := h
 clear h
 replace H := Option.bind_eq_some_iff.mp H
 obtain ⟨⟨t197, t198⟩, A30, H⟩ := H
 replace H : (some (t197, t198)) = some (r1, r2) := H
 have A3 := Aside0.mk A30
 clear A30
 simp only [Option.some.injEq, Prod.mk.injEq] at H
 obtain ⟨rfl, rfl⟩ := H
 go_enter Try.func118, Try.ntmps118
 go_wp2_with (first | ((with_reducible refine gate_callee (f := 126) rfl ?_); refine ga_ (some 25) Try.func126 #[.int .u64 a0, .int .u64 a1] ?_; (with_reducible refine (bits_Mul64.calls a0 a1 t197 t198 _ A3.out).mono ?_); rintro e w' ⟨rfl, ⟨nd, rfl⟩⟩; refine ⟨_, rfl, ?_⟩))
 go_ret2
 exact ⟨by first | rfl | (simp; done) | (simp [*]; done), by repeat (first | exact Drawn0.refl _ | apply Drawn0.step)⟩
def slices_Repeat_int_int.f (l0 : List Int) (a1 : Int) : Option (List Int) := if l0.length = 1 ∧ a1 = 8 then some (List.replicate 8 (rd l0 0)) else none
theorem made8 : madeCells (Value.int .i64 0).cells 8 = #[.int .i64 0, .int .i64 0, .int .i64 0, .int .i64 0, .int .i64 0, .int .i64 0, .int .i64 0, .int .i64 0] := by
 apply Array.ext
 ·
  simp [madeCells]
 ·
  intro i h1 h2
  match i, h2 with
  | 0, _ => simp [madeCells, Value.cells]
  | 1, _ => simp [madeCells, Value.cells]
  | 2, _ => simp [madeCells, Value.cells]
  | 3, _ => simp [madeCells, Value.cells]
  | 4, _ => simp [madeCells, Value.cells]
  | 5, _ => simp [madeCells, Value.cells]
  | 6, _ => simp [madeCells, Value.cells]
  | 7, _ => simp [madeCells, Value.cells]
  | n + 8, h => exact absurd h (by simp)
theorem cell_add0_ (W : World) (g j : Nat) : W.cell? ((⟨g, 0, none⟩ : Addr).add j) = W.cell? ⟨g, j, none⟩ := by
 unfold Addr.add
 split
 ·
  rename_i h
  rw [h]
 ·
  simp only [Nat.zero_add]
theorem mul_1_8 : bits_Mul.f 1 8 = some (0, 8) := by decide +kernel
set_option maxHeartbeats 8000000 in
set_option maxRecDepth 100000 in
theorem slices_Repeat_int_int.calls (A0 : Option Addr) (c0 : Nat) (l0 : List Int) (a1 : Int) (r : List Int) (w : World) (hr0 : Kd.C (Kd.int .i64) w A0 l0.length l0) (hc0 : l0.length ≤ c0) (h : slices_Repeat_int_int.f l0 a1 = some r) :
  Calls Try.prog 103 #[.slice A0 l0.length c0, .int .i64 a1] w fun e w' => ∃ v0_ : Value, e = .returned (v0_) ∧ Kd.R (Kd.int .i64) 3 w' w.heap.size (fun _ => True) v0_ r ∧ Below w.heap.size w w' := by
 unfold slices_Repeat_int_int.f at h
 by_cases hl : l0.length = 1 ∧ a1 = 8
 ·
  rw [if_pos hl] at h
  obtain rfl := Option.some.inj h
  obtain ⟨hl1, rfl⟩ := hl
  obtain ⟨ad, rfl, hx⟩ := Kd.at_int hr0 0 (by omega) (by omega)
  have HR := Aside0.mk hr0
  clear hr0
  rw [hl1] at hc0 ⊢
  have hm : ∀ W : World, Sem.run Try.prog (Instr.makeSlice 60 (.int .i64 8) (.int .i64 8)) W = .ok (.slice (some ⟨W.heap.size, 0, none⟩) 8 8) (W.alloc (.cells #[.int .i64 0, .int .i64 0, .int .i64 0, .int .i64 0, .int .i64 0, .int .i64 0, .int .i64 0, .int .i64 0] 3)) := fun W => by
   obtain ⟨i0, hi, hz0, hz1, hz2⟩ := info_parts info3
   have h := run_makeSlice (P := Try.prog) W 60 3 i0 (.int .i64 0) Try.underlying60 hi hz0 .i64 .i64 8 8 (by decide) (by decide) (by rw [hz1]; decide) (by rw [hz2]; decide) (by decide)
   rw [hz1] at h
   rw [h, show Int.toNat 8 * 1 = 8 from rfl, made8]
   rfl
  generalize rd l0 0 = x at hx ⊢
  have hsrc : Aside0 (∀ W : World, Below w.heap.size w W → ∀ (j : Nat) (v : Value), [Value.int .i64 x][j]? = some v → W.cell? (ad.add j) = some v) := ⟨fun W hb j v hj => by
   match j, hj with
   | 0, hj =>
    have : v = .int .i64 x := (by simpa using hj : Value.int .i64 x = v).symm
    subst this
    exact pw_cell_below hb hx⟩
  have hsz : Aside0 ((Try.prog.info? 3).map (·.size) = some 1) := ⟨by kernel_rfl⟩
  have hone : Aside0 (∀ v ∈ [Value.int .i64 x], v.oneCell' = true) := ⟨fun v hv => by rw [List.mem_singleton.1 hv]; rfl⟩
  go_enter Try.func103, Try.ntmps103
  go_wp2_with (first | (go_at_call 118; refine (bits_Mul.calls 1 8 0 8 _ mul_1_8).mono ?_; rintro e w1 ⟨rfl, ⟨n1, rfl⟩⟩) | (refine wpList_copy_splice rfl (.tmp 31) (.tmp 32) 60 60 rfl 3 Try.underlying60 hsz.out _ _ _ _ _ _ rfl rfl w.heap.size 0 [.int .i64 0, .int .i64 0, .int .i64 0, .int .i64 0, .int .i64 0, .int .i64 0, .int .i64 0, .int .i64 0] 3 (heap_new_ _ _ _) [.int .i64 x] rfl (fun _ => ⟨rfl, ad, rfl, hsrc.out _ (below_alloc (pw_below_drewN (Below.refl _ _) _) _)⟩) (by simp) hone.out w.heap.size w (below_alloc (pw_below_drewN (Below.refl _ _) _) _) (Nat.le_refl _) ?_; intro w2 hg2 hb2))
  have HG0 := Aside0.mk hg2
  have HB0 := Aside0.mk hb2
  clear hg2 hb2
  go_loopg [8] 3 (fun gg s8 wr => Aside0 (Below w.heap.size w wr) ∧ ((3 ≤ gg ∧ s8 = .int .i64 1 ∧ Aside0 (Hid (wr.heap[w.heap.size]? = some (.cells (List.toArray [.int .i64 x, .int .i64 0, .int .i64 0, .int .i64 0, .int .i64 0, .int .i64 0, .int .i64 0, .int .i64 0]) 3 (0, 0))))) ∨ (2 ≤ gg ∧ s8 = .int .i64 2 ∧ Aside0 (Hid (wr.heap[w.heap.size]? = some (.cells (List.toArray [.int .i64 x, .int .i64 x, .int .i64 0, .int .i64 0, .int .i64 0, .int .i64 0, .int .i64 0, .int .i64 0]) 3 (0, 0))))) ∨ (1 ≤ gg ∧ s8 = .int .i64 4 ∧ Aside0 (Hid (wr.heap[w.heap.size]? = some (.cells (List.toArray [.int .i64 x, .int .i64 x, .int .i64 x, .int .i64 x, .int .i64 0, .int .i64 0, .int .i64 0, .int .i64 0]) 3 (0, 0))))) ∨ (s8 = .int .i64 8 ∧ Aside0 (Hid (wr.heap[w.heap.size]? = some (.cells (List.toArray [.int .i64 x, .int .i64 x, .int .i64 x, .int .i64 x, .int .i64 x, .int .i64 x, .int .i64 x, .int .i64 x]) 3 (0, 0)))))))
  case atStart => exact ⟨HB0, .inl ⟨Nat.le_refl _, rfl, HG0⟩⟩
  case round =>
  obtain ⟨HB, ⟨hg, rfl, HG⟩ | ⟨hg, rfl, HG⟩ | ⟨hg, rfl, HG⟩ | ⟨rfl, HG⟩⟩ := hrel
  ·
   have hsrc1 : Aside0 (∀ W : World, Hid (W.heap[w.heap.size]? = some (.cells (List.toArray [.int .i64 x, .int .i64 0, .int .i64 0, .int .i64 0, .int .i64 0, .int .i64 0, .int .i64 0, .int .i64 0]) 3 (0, 0))) → ∀ (j : Nat) (v : Value), [Value.int .i64 x][j]? = some v → W.cell? ((⟨w.heap.size, 0, none⟩ : Addr).add j) = some v) := ⟨fun W hg j v hj => by
    have e := cell_of_row W w.heap.size (0 + j) _ 3 (0, 0) hg
    rw [Nat.zero_add] at e
    refine Eq.trans (cell_add0_ W w.heap.size j) (e.trans ?_)
    clear e hg
    have hl := (List.getElem?_eq_some_iff.1 hj).1
    match j, hl, hj with
    | 0, _, hj => exact hj
    | m + 1, hl, _ => exact absurd hl (by simp)⟩
   have hone1 : Aside0 (∀ v ∈ [Value.int .i64 x], v.oneCell' = true) := ⟨fun v hv => by simp at hv; rw [hv]; rfl⟩
   go_wp2_with fail
   go_region_held3 (fun W => True) (exact trivial) ((first | (refine step_copy_splice rfl (.tmp 41) (.tmp 44) 60 60 rfl 3 Try.underlying60 hsz.out _ _ _ _ _ _ rfl rfl w.heap.size 1 [.int .i64 x, .int .i64 0, .int .i64 0, .int .i64 0, .int .i64 0, .int .i64 0, .int .i64 0, .int .i64 0] 3 HG.out [Value.int .i64 x] rfl (fun _ => ⟨rfl, _, rfl, hsrc1.out _ HG.out⟩) (by simp) hone1.out w.heap.size w (below_drew HB.out) (Nat.le_refl _) ?_; intro w3 hg3 hb3) | fail))
   all_goals go_wp2_with fail
   go_roundg 2
   case measure => omega
   case rel => exact ⟨⟨hb3⟩, .inr (.inl ⟨by omega, by rfl, ⟨hg3⟩⟩)⟩
  ·
   have hsrc2 : Aside0 (∀ W : World, Hid (W.heap[w.heap.size]? = some (.cells (List.toArray [.int .i64 x, .int .i64 x, .int .i64 0, .int .i64 0, .int .i64 0, .int .i64 0, .int .i64 0, .int .i64 0]) 3 (0, 0))) → ∀ (j : Nat) (v : Value), [Value.int .i64 x, Value.int .i64 x][j]? = some v → W.cell? ((⟨w.heap.size, 0, none⟩ : Addr).add j) = some v) := ⟨fun W hg j v hj => by
    have e := cell_of_row W w.heap.size (0 + j) _ 3 (0, 0) hg
    rw [Nat.zero_add] at e
    refine Eq.trans (cell_add0_ W w.heap.size j) (e.trans ?_)
    clear e hg
    have hl := (List.getElem?_eq_some_iff.1 hj).1
    match j, hl, hj with
    | 0, _, hj => exact hj
    | 1, _, hj => exact hj
    | m + 2, hl, _ => exact absurd hl (by simp)⟩
   have hone2 : Aside0 (∀ v ∈ [Value.int .i64 x, Value.int .i64 x], v.oneCell' = true) := ⟨fun v hv => by simp at hv; rw [hv]; rfl⟩
   go_wp2_with fail
   go_region_held3 (fun W => True) (exact trivial) ((first | (refine step_copy_splice rfl (.tmp 41) (.tmp 44) 60 60 rfl 3 Try.underlying60 hsz.out _ _ _ _ _ _ rfl rfl w.heap.size 2 [.int .i64 x, .int .i64 x, .int .i64 0, .int .i64 0, .int .i64 0, .int .i64 0, .int .i64 0, .int .i64 0] 3 HG.out [Value.int .i64 x, Value.int .i64 x] rfl (fun _ => ⟨rfl, _, rfl, hsrc2.out _ HG.out⟩) (by simp) hone2.out w.heap.size w (below_drew HB.out) (Nat.le_refl _) ?_; intro w3 hg3 hb3) | fail))
   all_goals go_wp2_with fail
   go_roundg 1
   case measure => omega
   case rel => exact ⟨⟨hb3⟩, .inr (.inr (.inl ⟨by omega, by rfl, ⟨hg3⟩⟩))⟩
  ·
   have hsrc4 : Aside0 (∀ W : World, Hid (W.heap[w.heap.size]? = some (.cells (List.toArray [.int .i64 x, .int .i64 x, .int .i64 x, .int .i64 x, .int .i64 0, .int .i64 0, .int .i64 0, .int .i64 0]) 3 (0, 0))) → ∀ (j : Nat) (v : Value), [Value.int .i64 x, Value.int .i64 x, Value.int .i64 x, Value.int .i64 x][j]? = some v → W.cell? ((⟨w.heap.size, 0, none⟩ : Addr).add j) = some v) := ⟨fun W hg j v hj => by
    have e := cell_of_row W w.heap.size (0 + j) _ 3 (0, 0) hg
    rw [Nat.zero_add] at e
    refine Eq.trans (cell_add0_ W w.heap.size j) (e.trans ?_)
    clear e hg
    have hl := (List.getElem?_eq_some_iff.1 hj).1
    match j, hl, hj with
    | 0, _, hj => exact hj
    | 1, _, hj => exact hj
    | 2, _, hj => exact hj
    | 3, _, hj => exact hj
    | m + 4, hl, _ => exact absurd hl (by simp)⟩
   have hone4 : Aside0 (∀ v ∈ [Value.int .i64 x, Value.int .i64 x, Value.int .i64 x, Value.int .i64 x], v.oneCell' = true) := ⟨fun v hv => by simp at hv; rw [hv]; rfl⟩
   go_wp2_with fail
   go_region_held3 (fun W => True) (exact trivial) ((first | (refine step_copy_splice rfl (.tmp 41) (.tmp 44) 60 60 rfl 3 Try.underlying60 hsz.out _ _ _ _ _ _ rfl rfl w.heap.size 4 [.int .i64 x, .int .i64 x, .int .i64 x, .int .i64 x, .int .i64 0, .int .i64 0, .int .i64 0, .int .i64 0] 3 HG.out [Value.int .i64 x, Value.int .i64 x, Value.int .i64 x, Value.int .i64 x] rfl (fun _ => ⟨rfl, _, rfl, hsrc4.out _ HG.out⟩) (by simp) hone4.out w.heap.size w (below_drew HB.out) (Nat.le_refl _) ?_; intro w3 hg3 hb3) | fail))
   all_goals go_wp2_with fail
   go_roundg 0
   case measure => omega
   case rel => exact ⟨⟨hb3⟩, .inr (.inr (.inr ⟨by rfl, ⟨hg3⟩⟩))⟩
  ·
   go_wp2
   go_ret
   refine ⟨_, rfl, Kd.R_of_own ⟨rfl, .inr ⟨_, 8, _, rfl, Nat.le_refl _, HG.out, Nat.le_refl _, by decide, rfl, rfl⟩⟩ (fun _ _ => trivial), HB.out⟩
 ·
  rw [if_neg hl] at h
  cases h
mutual
def impl_Exploration_wayOut.l0 : Nat → List Int → Int → List (S37) → List Bool → List Bool → Int → Int → Option (Int × Bool)
 | 0, _, _, _, _, _, _, _ => none
 | k + 1, x4, x11, x200000, x200001, x200002, x200003, x200004 => if x11 < 8 then (impl_Exploration_wayOut.l1 k x4 x11 x200000 (x200000.length : Int) 0 x200000 x200001 x200002 x200003 x200004) else (if 0 ≤ x200003 then (if x200003 < (x4.length : Int) then (some (rd x4 x200003, decide ((rd x4 x200003) < 1073741824))) else (none)) else (none))
def impl_Exploration_wayOut.l1 : Nat → List Int → Int → List (S37) → Int → Int → List (S37) → List Bool → List Bool → Int → Int → Option (Int × Bool)
 | 0, _, _, _, _, _, _, _, _, _, _ => none
 | k + 1, x4, x11, x14, x15, x16, x200000, x200001, x200002, x200003, x200004 => if x16 < x15 then (if 0 ≤ x16 then (if x16 < (x14.length : Int) then (if 0 ≤ ((rd_T37 x14 x16).f0) then (if ((rd_T37 x14 x16).f0) < (x200001.length : Int) then (if rdOf false x200001 ((rd_T37 x14 x16).f0) = true then (if 0 ≤ ((rd_T37 x14 x16).f1) then (if ((rd_T37 x14 x16).f1) < (x200001.length : Int) then (if rdOf false x200001 ((rd_T37 x14 x16).f1) = true then (if ((rd_T37 x14 x16).f0) < (x4.length : Int) then (if ((rd_T37 x14 x16).f1) < (x4.length : Int) then ((some (x4.set (((rd_T37 x14 x16).f0) : Int).toNat (mn (rd x4 ((rd_T37 x14 x16).f0)) (wrap64 ((rd x4 ((rd_T37 x14 x16).f1)) + ((rd_T37 x14 x16).f2)))) : List Int)).bind fun y215 => (impl_Exploration_wayOut.l1 k (y215.set (((rd_T37 x14 x16).f1) : Int).toNat (mn (rd y215 ((rd_T37 x14 x16).f1)) (wrap64 ((rd y215 ((rd_T37 x14 x16).f0)) + ((rd_T37 x14 x16).f2))))) x11 x14 x15 (wrap64 (x16 + 1)) x200000 x200001 x200002 x200003 x200004)) else (none)) else (none)) else (impl_Exploration_wayOut.l1 k x4 x11 x14 x15 (wrap64 (x16 + 1)) x200000 x200001 x200002 x200003 x200004)) else (none)) else (none)) else (impl_Exploration_wayOut.l1 k x4 x11 x14 x15 (wrap64 (x16 + 1)) x200000 x200001 x200002 x200003 x200004)) else (none)) else (none)) else (none)) else (none)) else (impl_Exploration_wayOut.l0 k x4 (wrap64 (x11 + 1)) x200000 x200001 x200002 x200003 x200004)
end
def impl_Exploration_wayOut.f (k : Nat) (l0_0 : List (S37)) (l0_1 : List Bool) (l0_2 : List Bool) (a0_3 : Int) (a0_4 : Int) : Option (Int × Bool) := (slices_Repeat_int_int.f (([1073741824] : List Int)) 8).bind fun t203 => (if 0 < (t203.length : Int) then (impl_Exploration_wayOut.l0 k (t203.set (0 : Int).toNat 0) 0 l0_0 l0_1 l0_2 a0_3 a0_4) else (none))
theorem impl_Exploration_wayOut.mono_l : ∀ k, (∀ y0 y1 y2 y3 y4 y5 y6, LeO (impl_Exploration_wayOut.l0 k y0 y1 y2 y3 y4 y5 y6) (impl_Exploration_wayOut.l0 (k + 1) y0 y1 y2 y3 y4 y5 y6)) ∧ (∀ y0 y1 y2 y3 y4 y5 y6 y7 y8 y9, LeO (impl_Exploration_wayOut.l1 k y0 y1 y2 y3 y4 y5 y6 y7 y8 y9) (impl_Exploration_wayOut.l1 (k + 1) y0 y1 y2 y3 y4 y5 y6 y7 y8 y9))
 | 0 => ⟨fun _ _ _ _ _ _ _ r h => by simp [impl_Exploration_wayOut.l0] at h, fun _ _ _ _ _ _ _ _ _ _ r h => by simp [impl_Exploration_wayOut.l1] at h⟩
 | k + 1 => by
  obtain ⟨ih0, ih1⟩ := impl_Exploration_wayOut.mono_l k
  refine ⟨?_, ?_⟩
  ·
   intro y0 y1 y2 y3 y4 y5 y6
   unfold impl_Exploration_wayOut.l0
   repeat' first
   | (with_reducible exact ih0 _ _ _ _ _ _ _)
   | (with_reducible exact ih1 _ _ _ _ _ _ _ _ _ _)
   | (with_reducible exact LeO.refl _)
   | (with_reducible exact LeO.none _)
   | (with_reducible refine LeO.ite ?_ ?_)
   | (with_reducible refine LeO.bind ?_ (fun _ => ?_))
   | exact ih0 _ _ _ _ _ _ _
   | exact ih1 _ _ _ _ _ _ _ _ _ _
   | exact LeO.none _
   | refine LeO.ite ?_ ?_
   | refine LeO.bind ?_ (fun _ => ?_)
  ·
   intro y0 y1 y2 y3 y4 y5 y6 y7 y8 y9
   unfold impl_Exploration_wayOut.l1
   repeat' first
   | (with_reducible exact ih0 _ _ _ _ _ _ _)
   | (with_reducible exact ih1 _ _ _ _ _ _ _ _ _ _)
   | (with_reducible exact LeO.refl _)
   | (with_reducible exact LeO.none _)
   | (with_reducible refine LeO.ite ?_ ?_)
   | (with_reducible refine LeO.bind ?_ (fun _ => ?_))
   | exact ih0 _ _ _ _ _ _ _
   | exact ih1 _ _ _ _ _ _ _ _ _ _
   | exact LeO.none _
   | refine LeO.ite ?_ ?_
   | refine LeO.bind ?_ (fun _ => ?_)
theorem impl_Exploration_wayOut.mono : ∀ a0 a1 a2 a3 a4 k, LeO (impl_Exploration_wayOut.f k a0 a1 a2 a3 a4) (impl_Exploration_wayOut.f (k + 1) a0 a1 a2 a3 a4) := by
 intro a0 a1 a2 a3 a4 k
 obtain ⟨ih0, ih1⟩ := impl_Exploration_wayOut.mono_l k
 unfold impl_Exploration_wayOut.f
 repeat' first
   | (with_reducible exact ih0 _ _ _ _ _ _ _)
   | (with_reducible exact ih1 _ _ _ _ _ _ _ _ _ _)
   | (with_reducible exact LeO.refl _)
   | (with_reducible exact LeO.none _)
   | (with_reducible refine LeO.ite ?_ ?_)
   | (with_reducible refine LeO.bind ?_ (fun _ => ?_))
   | exact ih0 _ _ _ _ _ _ _
   | exact ih1 _ _ _ _ _ _ _ _ _ _
   | exact LeO.none _
   | refine LeO.ite ?_ ?_
   | refine LeO.bind ?_ (fun _ => ?_)
def impl_Exploration_wayOut.T9 : Bool × List (List Nat × List Nat) := (true, [([], []), ([], []), ([1], [1]), ([], []), ([], []), ([4], [4]), ([3, 5], [3, 5]), ([6], [6]), ([], []), ([], []), ([9], [9]), ([8, 10], [8, 10]), ([11], [11]), ([], []), ([13], [13]), ([12, 14], [12, 14]), ([7, 15], [7, 15]), ([0, 2, 0, 1, 2, 3, 4, 5, 6, 7, 8, 9, 10, 11, 12, 13, 14, 15, 16], [0, 2]), ([17, 16, 0, 1, 2, 3, 4, 5, 6, 7, 8, 9, 10, 11, 12, 13, 14, 15, 16], [16, 17])])
def impl_Exploration_wayOut.B9 : List Nat := [0, 0, 2, 0, 0, 16, 56, 120, 0, 0, 512, 1792, 3840, 0, 8192, 32512, 65528, 131071, 262143]
theorem impl_Exploration_wayOut.tab9 : rtab .any (opsOf Try.f72 9) = impl_Exploration_wayOut.T9 := by kernel_rfl
theorem impl_Exploration_wayOut.bits9 : waitsOk impl_Exploration_wayOut.T9.2 impl_Exploration_wayOut.B9 = true := by kernel_rfl
def impl_Exploration_wayOut.T10 : Bool × List (List Nat × List Nat) := (true, [([], []), ([], []), ([1], [1]), ([], []), ([], []), ([4], [4]), ([3, 5], [3, 5]), ([6], [6]), ([], []), ([], []), ([9], [9]), ([8, 10], [8, 10]), ([11], [11]), ([], []), ([13], [13]), ([12, 14], [12, 14]), ([7, 15], [7, 15]), ([0, 2, 0, 1, 2, 3, 4, 5, 6, 7, 8, 9, 10, 11, 12, 13, 14, 15, 16], [0, 2]), ([17, 16, 0, 1, 2, 3, 4, 5, 6, 7, 8, 9, 10, 11, 12, 13, 14, 15, 16], [16, 17])])
def impl_Exploration_wayOut.B10 : List Nat := [0, 0, 2, 0, 0, 16, 56, 120, 0, 0, 512, 1792, 3840, 0, 8192, 32512, 65528, 131071, 262143]
theorem impl_Exploration_wayOut.tab10 : rtab .any (opsOf Try.f72 10) = impl_Exploration_wayOut.T10 := by kernel_rfl
theorem impl_Exploration_wayOut.bits10 : waitsOk impl_Exploration_wayOut.T10.2 impl_Exploration_wayOut.B10 = true := by kernel_rfl
def impl_Exploration_wayOut.T13 : Bool × List (List Nat × List Nat) := (true, [([], []), ([], []), ([1], [1]), ([0, 2], [0, 2]), ([3], [3]), ([], []), ([], []), ([6], [6]), ([5, 7], [5, 7]), ([8], [8]), ([9], [9]), ([4, 0, 1, 2, 3, 4], [4]), ([10, 11, 0, 1, 2, 3, 4, 5, 6, 7, 8, 9, 10, 11], [10])])
def impl_Exploration_wayOut.B13 : List Nat := [0, 0, 2, 7, 15, 0, 0, 64, 224, 480, 992, 31, 4095]
theorem impl_Exploration_wayOut.tab13 : rtab .any (opsOf Try.f72 13) = impl_Exploration_wayOut.T13 := by kernel_rfl
theorem impl_Exploration_wayOut.bits13 : waitsOk impl_Exploration_wayOut.T13.2 impl_Exploration_wayOut.B13 = true := by kernel_rfl
abbrev impl_Exploration_wayOut.mk0 : Array Bool := #[fF,fF,fF,fF,fF,fF,fF,fF,fF,fF,fF,fF,fF,fF,fF,fF,fF,fF,fF]
abbrev impl_Exploration_wayOut.mk1 : Array Bool := #[tT,fF,fF,fF,fF,fF,fF,fF,fF,fF,fF,fF,fF,fF,fF,fF,fF,fF,fF]
abbrev impl_Exploration_wayOut.mk2 : Array Bool := #[tT,tT,fF,fF,fF,fF,fF,fF,fF,fF,fF,fF,fF,fF,fF,fF,fF,fF,fF]
abbrev impl_Exploration_wayOut.mk3 : Array Bool := #[tT,tT,fF,tT,fF,fF,fF,fF,fF,fF,fF,fF,fF,fF,fF,fF,fF,fF,fF]
abbrev impl_Exploration_wayOut.mk4 : Array Bool := #[tT,tT,fF,tT,tT,fF,fF,fF,fF,fF,fF,fF,fF,fF,fF,fF,fF,fF,fF]
abbrev impl_Exploration_wayOut.mk5 : Array Bool := #[tT,tT,fF,tT,tT,fF,fF,fF,tT,fF,fF,fF,fF,fF,fF,fF,fF,fF,fF]
abbrev impl_Exploration_wayOut.mk6 : Array Bool := #[tT,tT,fF,tT,tT,fF,fF,fF,tT,tT,fF,fF,fF,fF,fF,fF,fF,fF,fF]
abbrev impl_Exploration_wayOut.mk7 : Array Bool := #[tT,tT,fF,tT,tT,fF,fF,fF,tT,tT,fF,fF,fF,tT,fF,fF,fF,fF,fF]
abbrev impl_Exploration_wayOut.mk8 : Array Bool := #[tT,tT,tT,tT,tT,fF,fF,fF,tT,tT,fF,fF,fF,tT,fF,fF,fF,fF,fF]
abbrev impl_Exploration_wayOut.mk9 : Array Bool := #[tT,tT,tT,tT,tT,tT,fF,fF,tT,tT,fF,fF,fF,tT,fF,fF,fF,fF,fF]
abbrev impl_Exploration_wayOut.mk10 : Array Bool := #[tT,tT,tT,tT,tT,tT,tT,fF,tT,tT,fF,fF,fF,tT,fF,fF,fF,fF,fF]
abbrev impl_Exploration_wayOut.mk11 : Array Bool := #[tT,tT,tT,tT,tT,tT,tT,tT,tT,tT,fF,fF,fF,tT,fF,fF,fF,fF,fF]
abbrev impl_Exploration_wayOut.mk12 : Array Bool := #[tT,tT,tT,tT,tT,tT,tT,tT,tT,tT,tT,fF,fF,tT,fF,fF,fF,fF,fF]
abbrev impl_Exploration_wayOut.mk13 : Array Bool := #[tT,tT,tT,tT,tT,tT,tT,tT,tT,tT,tT,tT,fF,tT,fF,fF,fF,fF,fF]
abbrev impl_Exploration_wayOut.mk14 : Array Bool := #[tT,tT,tT,tT,tT,tT,tT,tT,tT,tT,tT,tT,tT,tT,fF,fF,fF,fF,fF]
abbrev impl_Exploration_wayOut.mk15 : Array Bool := #[tT,tT,tT,tT,tT,tT,tT,tT,tT,tT,tT,tT,tT,tT,tT,fF,fF,fF,fF]
abbrev impl_Exploration_wayOut.mk16 : Array Bool := #[tT,tT,tT,tT,tT,tT,tT,tT,tT,tT,tT,tT,tT,tT,tT,tT,fF,fF,fF]
abbrev impl_Exploration_wayOut.mk17 : Array Bool := #[tT,tT,tT,tT,tT,tT,tT,tT,tT,tT,tT,tT,tT,tT,tT,tT,tT,fF,fF]
abbrev impl_Exploration_wayOut.mk18 : Array Bool := #[tT,tT,tT,tT,tT,tT,tT,tT,tT,tT,tT,tT,tT,tT,tT,tT,tT,tT,fF]
abbrev impl_Exploration_wayOut.mk19 : Array Bool := #[tT,tT,tT,tT,tT,tT,tT,tT,tT,tT,tT,tT,tT,tT,tT,tT,tT,tT,tT]
abbrev impl_Exploration_wayOut.mk20 : Array Bool := #[fF,fF,fF,fF,fF,fF,fF,fF,fF,fF,fF,fF,fF]
abbrev impl_Exploration_wayOut.mk21 : Array Bool := #[tT,fF,fF,fF,fF,fF,fF,fF,fF,fF,fF,fF,fF]
abbrev impl_Exploration_wayOut.mk22 : Array Bool := #[tT,tT,fF,fF,fF,fF,fF,fF,fF,fF,fF,fF,fF]
abbrev impl_Exploration_wayOut.mk23 : Array Bool := #[tT,tT,fF,fF,fF,tT,fF,fF,fF,fF,fF,fF,fF]
abbrev impl_Exploration_wayOut.mk24 : Array Bool := #[tT,tT,fF,fF,fF,tT,tT,fF,fF,fF,fF,fF,fF]
abbrev impl_Exploration_wayOut.mk25 : Array Bool := #[tT,tT,tT,fF,fF,tT,tT,fF,fF,fF,fF,fF,fF]
abbrev impl_Exploration_wayOut.mk26 : Array Bool := #[tT,tT,tT,tT,fF,tT,tT,fF,fF,fF,fF,fF,fF]
abbrev impl_Exploration_wayOut.mk27 : Array Bool := #[tT,tT,tT,tT,tT,tT,tT,fF,fF,fF,fF,fF,fF]
abbrev impl_Exploration_wayOut.mk28 : Array Bool := #[tT,tT,tT,tT,tT,tT,tT,fF,fF,fF,fF,tT,fF]
abbrev impl_Exploration_wayOut.mk29 : Array Bool := #[tT,tT,tT,tT,tT,tT,tT,tT,fF,fF,fF,tT,fF]
abbrev impl_Exploration_wayOut.mk30 : Array Bool := #[tT,tT,tT,tT,tT,tT,tT,tT,tT,fF,fF,tT,fF]
abbrev impl_Exploration_wayOut.mk31 : Array Bool := #[tT,tT,tT,tT,tT,tT,tT,tT,tT,tT,fF,tT,fF]
abbrev impl_Exploration_wayOut.mk32 : Array Bool := #[tT,tT,tT,tT,tT,tT,tT,tT,tT,tT,tT,tT,fF]
abbrev impl_Exploration_wayOut.mk33 : Array Bool := #[tT,tT,tT,tT,tT,tT,tT,tT,tT,tT,tT,tT,tT]
set_option maxHeartbeats 8000000 in
set_option maxRecDepth 100000 in
theorem impl_Exploration_wayOut.calls (k : Nat) (A0_0 : Option Addr) (c0_0 : Nat) (l0_0 : List (S37)) (A0_1 : Option Addr) (c0_1 : Nat) (l0_1 : List Bool) (A0_2 : Option Addr) (c0_2 : Nat) (l0_2 : List Bool) (a0_3 : Int) (a0_4 : Int) (r1 : Int) (r2 : Bool) (w : World) (hr0_0 : Kd.C k37 w A0_0 l0_0.length l0_0) (hc0_0 : l0_0.length ≤ c0_0) (hr0_1 : Kd.C Kd.bool w A0_1 l0_1.length l0_1) (hc0_1 : l0_1.length ≤ c0_1) (hr0_2 : Kd.C Kd.bool w A0_2 l0_2.length l0_2) (hc0_2 : l0_2.length ≤ c0_2) (h : impl_Exploration_wayOut.f k l0_0 l0_1 l0_2 a0_3 a0_4 = some (r1, r2)) :
  Calls Try.prog 72 #[.agg #[.slice A0_0 l0_0.length c0_0, .slice A0_1 l0_1.length c0_1, .slice A0_2 l0_2.length c0_2, .int .i64 a0_3, .int .i64 a0_4]] w fun e w' => e = .returned (.tuple #[.int .i64 r1, .bool r2]) ∧ Below w.heap.size w w' := by
 have hu30 := Try.underlying30
 have hu37 := Try.underlying37
 have HR0_0 := Aside0.mk hr0_0
 have HC0_0 := Aside0.mk hc0_0
 clear hr0_0 hc0_0
 have HR0_1 := Aside0.mk hr0_1
 have HC0_1 := Aside0.mk hc0_1
 clear hr0_1 hc0_1
 have HR0_2 := Aside0.mk hr0_2
 have HC0_2 := Aside0.mk hc0_2
 clear hr0_2 hc0_2
 have HB := Aside0.mk (Below.refl w.heap.size w)
 have H : ((slices_Repeat_int_int.f (([1073741824] : List Int)) 8).bind fun t203 => (if 0 < (t203.length : Int) then (impl_Exploration_wayOut.l0 k (t203.set (0 : Int).toNat 0) 0 l0_0 l0_1 l0_2 a0_3 a0_4) else (none))) = some (r1, r2) := h
 clear h
 obtain ⟨y200, hy200⟩ : ∃ y_ : List Int, y_ = (([1073741824] : List Int)) := ⟨_, rfl⟩
 replace H : ((slices_Repeat_int_int.f y200 8).bind fun t203 => (if 0 < (t203.length : Int) then (impl_Exploration_wayOut.l0 k (t203.set (0 : Int).toNat 0) 0 l0_0 l0_1 l0_2 a0_3 a0_4) else (none))) = some (r1, r2) := by first | (rw [hy200]; with_reducible exact H) | (have H2_ := (Option.bind_some _ _).symm.trans H; rw [hy200]; with_reducible exact H2_) | (have H2_ := (Option.bind_some _ _).symm.trans H; with_reducible exact H2_) | with_reducible exact H | (rw [hy200]; exact H) | exact H
 have Ny200 := Aside0.mk hy200
 clear hy200
 replace H := Option.bind_eq_some_iff.mp H
 obtain ⟨t203, A20, H⟩ := H
 replace H : (if 0 < (t203.length : Int) then (impl_Exploration_wayOut.l0 k (t203.set (0 : Int).toNat 0) 0 l0_0 l0_1 l0_2 a0_3 a0_4) else (none)) = some (r1, r2) := H
 have A2 := Aside0.mk A20
 clear A20
 by_cases c3 : 0 < (t203.length : Int)
 ·
  rw [if_pos c3] at H
  have c3b0 : decide (0 < (t203.length : Int)) = true := decide_eq_true c3
  have c3b1 : decide (0 < t203.length) = true := decide_eq_true (by omega)
  clear c3
  obtain ⟨y206, hy206⟩ : ∃ y_ : List Int, y_ = (t203.set (0 : Int).toNat 0) := ⟨_, rfl⟩
  replace H : (impl_Exploration_wayOut.l0 k y206 0 l0_0 l0_1 l0_2 a0_3 a0_4) = some (r1, r2) := by first | (rw [hy206]; with_reducible exact H) | (have H2_ := (Option.bind_some _ _).symm.trans H; rw [hy206]; with_reducible exact H2_) | (have H2_ := (Option.bind_some _ _).symm.trans H; with_reducible exact H2_) | with_reducible exact H | (rw [hy206]; exact H) | exact H
  have Ny206 := Aside0.mk hy206
  clear hy206
  have H' := Aside0.mk H
  clear H
  go_enter Try.func72, Try.ntmps72
  go_wp2_with (first | ((with_reducible refine gate_dst (N := 1) rfl ?_); refine box_event ?hg (N := 1) ?hd (cs := #[.slice A0_0 l0_0.length c0_0, .slice A0_1 l0_1.length c0_1, .slice A0_2 l0_2.length c0_2, .int .i64 a0_3, .int .i64 a0_4]) (t := 30) ?hr ?_; (case hd => rfl); (case hg => rfl); (case hr => first | (go_simp; done) | (go_simp; rfl)); intro gb199 hg w5 hbox hb; have BK199 := Aside0.mk (hbox); have GW199 := Aside0.mk ((bz_ hg (lb0_ HB.out))); have GE199 := Aside0.mk ((bz_ hg (lb0_ HB.out))); replace HB := Aside0.mk (below_step (lb0_ HB.out) hb); clear hb hbox hg) | ((with_reducible refine gate_dst (N := 7) rfl ?_); refine Kd.R_lit (Kd.int .i64) _ 3 ?hg (N := 7) ?hd (xs := ([1073741824] : List Int)) (inner := [.int .i64 1073741824]) (ok := fun _ => True) (okp := fun _ => True) ?hr ?hp (fun _ hk => hk) trivial (Below.refl _ _) (Nat.le_refl _) (by simp) ?_; (case hd => rfl); (case hg => rfl); (case hr => first | (go_simp; done) | (go_simp; rfl)); (case hp => exact (Reps.one (show Kd.M (Kd.int .i64) _ _ _ 1073741824 [.int .i64 1073741824] from rfl) (Reps.none _ _))); intro v201 w6 ho7 hb hg_ hnew_; clear hg_ hnew_; replace ho7 := ry_ Ny200.out ho7; have HO202 := Aside0.mk (Kd.R_lower ho7 (below_size (lb1_ HB.out GE199.out))); replace BK199 := Aside0.mk (bb_ (bk_ BK199.out) hb); replace HB := Aside0.mk (below_step (lb1_ HB.out GE199.out) hb); clear hb ho7; obtain ⟨Ao8, co8, eo8⟩ := Kd.R_slice HO202.out; subst eo8) | ((with_reducible refine gate_callee (f := 103) rfl ?_); refine ga_ (some 8) Try.func103 #[.slice Ao8 y200.length co8, .int .i64 8] ?_; (with_reducible refine (slices_Repeat_int_int.calls _ _ y200 8 t203 _ ?side1 ?side2 A2.out).mono ?_); (case side1 => exact kc_ (Kd.R_reads' HO202.out).2.2); (case side2 => exact (Kd.R_reads' HO202.out).2.1); rintro e w9 ⟨v204, rfl, ho0, hb⟩; refine ⟨_, rfl, ?_⟩; have HO205 := Aside0.mk (Kd.R_lower (Kd.R_new' ho0 (Kd.R_lt (kr_ HO202.out))) (below_size (lb1_ HB.out GE199.out))); replace HO202 := Aside0.mk (Kd.R_elder' (kr_ HO202.out) (Kd.R_base ho0) hb); replace BK199 := Aside0.mk (bb_ (bk_ BK199.out) hb); replace HB := Aside0.mk (below_step (lb1_ HB.out GE199.out) hb); (try clear hb); (try clear hb2); (try clear hk); (try clear hi); (try clear ho0); have p4 : 0 ≤ (0 : Int) := (by omega); have q4 : (0 : Int) < ((t203.length : Int) : Int) := dt_; have qi4 : (0 < t203.length) = True := eq_true (by omega); obtain ⟨go4, co4, eo4, gb4, gl4, cl4, HG4⟩ := Kd.R_form HO205.out (by omega); (first | cases eo4 | (injection eo4 with ea_ en_ ec_; (first | subst ea_ | (injection ea_ with ea_; subst ea_)); subst ec_; clear en_)); have GB4 := Aside0.mk gb4; have GG4 := Aside0.mk HG4; clear gb4 gl4 HG4; obtain ⟨hx4_0, hf4_0⟩ := Kd.R_celln 0 HO205.out (0 : Int) p4 q4; (try rw [show ((0 : Int)).toNat = 0 from rfl] at hx4_0); (try simp only [Nat.reduceMul, Nat.zero_mul, Nat.zero_add, Nat.reduceAdd] at hx4_0); (try rw [show ((0 : Int)).toNat = 0 from rfl] at hf4_0); (try simp only [Nat.reduceMul, Nat.zero_mul, Nat.zero_add, Nat.reduceAdd] at hf4_0); replace p4 := eq_true p4; replace q4 := eq_true q4; have n_ := Aside0.mk (Kd.R_mono (ok' := (fun k_ => some k_ ≠ (.slice Ao8 y200.length co8 : Value).ownBlock)) HO205.out (fun k_ hk => hk.2)); clear HO205; have HO205 := n_; clear n_; obtain ⟨hy10_, hz10_⟩ := Kd.R_celln 0 HO205.out (0 : Int) (by omega) (dt_); (try simp only [Int.reduceToNat, Int.toNat_zero, Int.toNat_ofNat, Nat.reduceMul, Nat.zero_mul, Nat.zero_add] at hy10_ hz10_); (try rw [show ((0 : Int)).toNat = 0 from rfl] at hy10_); (try rw [show ((0 : Int)).toNat = 0 from rfl] at hz10_); have HP10 := Kd.R_putg HO205.out (0 : Int) 0) | ((with_reducible refine gate_store (t := 3) (p := 10) rfl ?_); refine store_event (t := 3) (p := 10) (v := ?vo_w11) (w1 := (w9.setCell ⟨go4, (0 : Int).toNat, none⟩ (.int .i64 0))) ?hg ?ho ?hn ?hr ?_; (case ho => rfl); (case hg => rfl); (case hn => rfl); (case hr => first | (go_simp; done) | (go_simp; rfl)); intro w11 hw; have hg : w9.grownBy w11 (some go4) := (by rw [hw]; exact HP10.2); have hp_ : Kd.R (Kd.int .i64) 3 w11 w.heap.size (fun k_ => some k_ ≠ (.slice Ao8 y200.length co8 : Value).ownBlock) (.slice (some ⟨go4, 0, none⟩) t203.length co4) y206 := (by rw [hw, Ny206.out]; exact HP10.1); clear HP10; replace BK199 := Aside0.mk (blk_grown (g := gb199) (o := .cells #[.slice A0_0 l0_0.length c0_0, .slice A0_1 l0_1.length c0_1, .slice A0_2 l0_2.length c0_2, .int .i64 a0_3, .int .i64 a0_4] 30 (0, 0)) (bk_ BK199.out) hg (Kd.R_ne HO205.out BK199.out (by decide))); replace HO202 := Aside0.mk (Kd.R_after (v := (.slice (some ⟨go4, 0, none⟩) t203.length co4)) (v1 := (.slice (some ⟨go4, 0, none⟩) t203.length co4)) (ok := (fun _ => True)) (kr_ HO202.out) hg (.inl rfl)); replace HO205 := Aside0.mk (hp_); replace HB := Aside0.mk ((by rw [hw]; exact below_set (HB.out) GB4.out : Below w.heap.size w w11)); clear hg hw hp_))
  go_loopg [11] k (fun kq v11 w' => ∃ (x4_1 : List Int) (x11_1 : Int), v11 = .int .i64 x11_1 ∧ Aside0 (impl_Exploration_wayOut.l0 kq x4_1 x11_1 l0_0 l0_1 l0_2 a0_3 a0_4 = some (r1, r2)) ∧ Aside0 (kq ≤ k) ∧ Aside0 (Kd.R (Kd.int .i64) 3 w' w.heap.size (fun _ => True) (.slice (some ⟨go4, 0, none⟩) t203.length co4) x4_1) ∧ Aside0 (w'.heap[gb199]? = some (.cells #[(.slice A0_0 l0_0.length c0_0), (.slice A0_1 l0_1.length c0_1), (.slice A0_2 l0_2.length c0_2), .int .i64 a0_3, .int .i64 a0_4] 30 (0, 0))) ∧ Aside0 (Below w.heap.size w w'))
  case atStart => exact ⟨(y206), (0), (by first | rfl | (simp; done) | (simp [*]; done)), H', ⟨Nat.le_refl _⟩, ⟨krm_ HO205.out (fun _ hk => trivial)⟩, ⟨bk_ BK199.out⟩, ⟨lb1_ HB.out GE199.out⟩⟩
  case round =>
   clear H'
   try clear c1
   try clear p2
   try clear c3
   try clear c3b0
   try clear c3b1
   try clear p4
   try clear q4
   try clear hx4
   try clear qi4
   try clear hf4
   try clear c7
   try clear c10
   try clear hx4_0
   try clear p4
   try clear q4
   obtain ⟨x4_1, x11_1, rfl, HA, HK1, HO_4, BK199, HB⟩ := hrel
   have hl4_1 := (Kd.R_reads' HO_4.out).1
   rw [hl4_1] at HO_4
   (try simp only [hl4_1])
   (try simp only [hl4_1] at BK199)
   cases gk with
   | zero => exact absurd HA.out (by simp [impl_Exploration_wayOut.l0])
   | succ k1 =>
    have H := HA.out
    clear HA
    simp only [impl_Exploration_wayOut.l0] at H
    by_cases c12 : x11_1 < 8
    ·
     rw [if_pos c12] at H
     have c12b0 : decide (x11_1 < 8) = true := decide_eq_true c12
     clear c12
     have H' := Aside0.mk H
     clear H
     obtain ⟨hcz13_0, hcz13_1, hcz13_2, hcz13_3, hcz13_4⟩ := cz5_ BK199.out
     obtain ⟨hfz13_0, hfz13_1, hfz13_2, hfz13_3, hfz13_4⟩ := fz5_ BK199.out
     go_wp2
     go_loopg [16] k1 (fun kq v16 w' => ∃ (x4_2 : List Int) (x16_2 : Int), v16 = .int .i64 x16_2 ∧ Aside0 (impl_Exploration_wayOut.l1 kq x4_2 x11_1 l0_0 (l0_0.length : Int) x16_2 l0_0 l0_1 l0_2 a0_3 a0_4 = some (r1, r2)) ∧ Aside0 (kq ≤ k1) ∧ Aside0 (Kd.R (Kd.int .i64) 3 w' w.heap.size (fun _ => True) (.slice (some ⟨go4, 0, none⟩) x4_1.length co4) x4_2) ∧ Aside0 (w'.heap[gb199]? = some (.cells #[(.slice A0_0 l0_0.length c0_0), (.slice A0_1 l0_1.length c0_1), (.slice A0_2 l0_2.length c0_2), .int .i64 a0_3, .int .i64 a0_4] 30 (0, 0))) ∧ Aside0 (Below w.heap.size w w'))
     case atStart => exact ⟨(x4_1), (0), (by first | rfl | (simp; done) | (simp [*]; done)), H', ⟨Nat.le_refl _⟩, ⟨by (try simp only [hl4_1]); (with_reducible repeat (first | apply Kd.R_alloc | apply Kd.R_drewN | apply Kd.R_drew)); exact HO_4.out⟩, ⟨by (try simp only [hl4_1]); (with_reducible repeat (first | refine blk_drewN ?_ _ | refine blk_drew ?_ | refine blk_alloc ?_ _)); exact BK199.out⟩, ⟨lb1_ HB.out GE199.out⟩⟩
     case round =>
      clear H'
      try clear c1
      try clear p2
      try clear c3
      try clear c3b0
      try clear c3b1
      try clear p4
      try clear q4
      try clear hx4
      try clear qi4
      try clear hf4
      try clear c7
      try clear c10
      try clear c12
      try clear c12b0
      try clear hcz13_0 hcz13_1 hcz13_2 hcz13_3 hcz13_4
      try clear hfz13_0 hfz13_1 hfz13_2 hfz13_3 hfz13_4
      try clear hx4_0
      try clear p2
      try clear p4
      try clear q4
      obtain ⟨x4_2, x16_2, rfl, HA, HK2, HO_4, BK199, HB⟩ := hrel
      have hl4_2 := (Kd.R_reads' HO_4.out).1
      rw [hl4_2] at HO_4
      (try simp only [hl4_2])
      (try simp only [hl4_2] at BK199)
      cases gk with
      | zero => exact absurd HA.out (by simp [impl_Exploration_wayOut.l1])
      | succ k2 =>
       have H := HA.out
       clear HA
       simp only [impl_Exploration_wayOut.l1] at H
       by_cases c14 : x16_2 < (l0_0.length : Int)
       ·
        rw [if_pos c14] at H
        have c14b0 : decide (x16_2 < (l0_0.length : Int)) = true := decide_eq_true c14; clear c14
        by_cases c15 : 0 ≤ x16_2
        ·
         rw [if_pos c15] at H
         have c15b0 : decide (0 ≤ x16_2) = true := decide_eq_true c15; clear c15
         by_cases c16 : x16_2 < (l0_0.length : Int)
         ·
          rw [if_pos c16] at H
          have c16b0 : decide (x16_2 < (l0_0.length : Int)) = true := decide_eq_true c16; clear c16
          by_cases c17 : 0 ≤ ((rd_T37 l0_0 x16_2).f0)
          ·
           rw [if_pos c17] at H
           have c17b0 : decide (0 ≤ ((rd_T37 l0_0 x16_2).f0)) = true := decide_eq_true c17; clear c17
           by_cases c18 : ((rd_T37 l0_0 x16_2).f0) < (l0_1.length : Int)
           ·
            rw [if_pos c18] at H
            have c18b0 : decide (((rd_T37 l0_0 x16_2).f0) < (l0_1.length : Int)) = true := decide_eq_true c18; clear c18
            obtain ⟨bq19, hbq19⟩ : ∃ b_ : Bool, b_ = (rdOf false l0_1 ((rd_T37 l0_0 x16_2).f0)) := ⟨_, rfl⟩
            replace H : (if bq19 = true then (if 0 ≤ ((rd_T37 l0_0 x16_2).f1) then (if ((rd_T37 l0_0 x16_2).f1) < (l0_1.length : Int) then (if rdOf false l0_1 ((rd_T37 l0_0 x16_2).f1) = true then (if ((rd_T37 l0_0 x16_2).f0) < (x4_2.length : Int) then (if ((rd_T37 l0_0 x16_2).f1) < (x4_2.length : Int) then ((some (x4_2.set (((rd_T37 l0_0 x16_2).f0) : Int).toNat (mn (rd x4_2 ((rd_T37 l0_0 x16_2).f0)) (wrap64 ((rd x4_2 ((rd_T37 l0_0 x16_2).f1)) + ((rd_T37 l0_0 x16_2).f2)))) : List Int)).bind fun y215 => (impl_Exploration_wayOut.l1 k2 (y215.set (((rd_T37 l0_0 x16_2).f1) : Int).toNat (mn (rd y215 ((rd_T37 l0_0 x16_2).f1)) (wrap64 ((rd y215 ((rd_T37 l0_0 x16_2).f0)) + ((rd_T37 l0_0 x16_2).f2))))) x11_1 l0_0 (l0_0.length : Int) (wrap64 (x16_2 + 1)) l0_0 l0_1 l0_2 a0_3 a0_4)) else (none)) else (none)) else (impl_Exploration_wayOut.l1 k2 x4_2 x11_1 l0_0 (l0_0.length : Int) (wrap64 (x16_2 + 1)) l0_0 l0_1 l0_2 a0_3 a0_4)) else (none)) else (none)) else (impl_Exploration_wayOut.l1 k2 x4_2 x11_1 l0_0 (l0_0.length : Int) (wrap64 (x16_2 + 1)) l0_0 l0_1 l0_2 a0_3 a0_4)) = some (r1, r2) := by rw [← hbq19] at H; exact H
            have Nbq19 := Aside0.mk hbq19; clear hbq19
            by_cases c20 : bq19 = true
            ·
             subst c20
             have H1 : (if 0 ≤ ((rd_T37 l0_0 x16_2).f1) then (if ((rd_T37 l0_0 x16_2).f1) < (l0_1.length : Int) then (if rdOf false l0_1 ((rd_T37 l0_0 x16_2).f1) = true then (if ((rd_T37 l0_0 x16_2).f0) < (x4_2.length : Int) then (if ((rd_T37 l0_0 x16_2).f1) < (x4_2.length : Int) then ((some (x4_2.set (((rd_T37 l0_0 x16_2).f0) : Int).toNat (mn (rd x4_2 ((rd_T37 l0_0 x16_2).f0)) (wrap64 ((rd x4_2 ((rd_T37 l0_0 x16_2).f1)) + ((rd_T37 l0_0 x16_2).f2)))) : List Int)).bind fun y215 => (impl_Exploration_wayOut.l1 k2 (y215.set (((rd_T37 l0_0 x16_2).f1) : Int).toNat (mn (rd y215 ((rd_T37 l0_0 x16_2).f1)) (wrap64 ((rd y215 ((rd_T37 l0_0 x16_2).f0)) + ((rd_T37 l0_0 x16_2).f2))))) x11_1 l0_0 (l0_0.length : Int) (wrap64 (x16_2 + 1)) l0_0 l0_1 l0_2 a0_3 a0_4)) else (none)) else (none)) else (impl_Exploration_wayOut.l1 k2 x4_2 x11_1 l0_0 (l0_0.length : Int) (wrap64 (x16_2 + 1)) l0_0 l0_1 l0_2 a0_3 a0_4)) else (none)) else (none)) = some (r1, r2) := by rw [if_pos rfl] at H; exact H
             clear H; have H := H1; clear H1
             by_cases c21 : 0 ≤ ((rd_T37 l0_0 x16_2).f1)
             ·
              rw [if_pos c21] at H
              have c21b0 : decide (0 ≤ ((rd_T37 l0_0 x16_2).f1)) = true := decide_eq_true c21; clear c21
              by_cases c22 : ((rd_T37 l0_0 x16_2).f1) < (l0_1.length : Int)
              ·
               rw [if_pos c22] at H
               have c22b0 : decide (((rd_T37 l0_0 x16_2).f1) < (l0_1.length : Int)) = true := decide_eq_true c22; clear c22
               obtain ⟨bq23, hbq23⟩ : ∃ b_ : Bool, b_ = (rdOf false l0_1 ((rd_T37 l0_0 x16_2).f1)) := ⟨_, rfl⟩
               replace H : (if bq23 = true then (if ((rd_T37 l0_0 x16_2).f0) < (x4_2.length : Int) then (if ((rd_T37 l0_0 x16_2).f1) < (x4_2.length : Int) then ((some (x4_2.set (((rd_T37 l0_0 x16_2).f0) : Int).toNat (mn (rd x4_2 ((rd_T37 l0_0 x16_2).f0)) (wrap64 ((rd x4_2 ((rd_T37 l0_0 x16_2).f1)) + ((rd_T37 l0_0 x16_2).f2)))) : List Int)).bind fun y215 => (impl_Exploration_wayOut.l1 k2 (y215.set (((rd_T37 l0_0 x16_2).f1) : Int).toNat (mn (rd y215 ((rd_T37 l0_0 x16_2).f1)) (wrap64 ((rd y215 ((rd_T37 l0_0 x16_2).f0)) + ((rd_T37 l0_0 x16_2).f2))))) x11_1 l0_0 (l0_0.length : Int) (wrap64 (x16_2 + 1)) l0_0 l0_1 l0_2 a0_3 a0_4)) else (none)) else (none)) else (impl_Exploration_wayOut.l1 k2 x4_2 x11_1 l0_0 (l0_0.length : Int) (wrap64 (x16_2 + 1)) l0_0 l0_1 l0_2 a0_3 a0_4)) = some (r1, r2) := by rw [← hbq23] at H; exact H
               have Nbq23 := Aside0.mk hbq23; clear hbq23
               by_cases c24 : bq23 = true
               ·
                subst c24
                have H1 : (if ((rd_T37 l0_0 x16_2).f0) < (x4_2.length : Int) then (if ((rd_T37 l0_0 x16_2).f1) < (x4_2.length : Int) then ((some (x4_2.set (((rd_T37 l0_0 x16_2).f0) : Int).toNat (mn (rd x4_2 ((rd_T37 l0_0 x16_2).f0)) (wrap64 ((rd x4_2 ((rd_T37 l0_0 x16_2).f1)) + ((rd_T37 l0_0 x16_2).f2)))) : List Int)).bind fun y215 => (impl_Exploration_wayOut.l1 k2 (y215.set (((rd_T37 l0_0 x16_2).f1) : Int).toNat (mn (rd y215 ((rd_T37 l0_0 x16_2).f1)) (wrap64 ((rd y215 ((rd_T37 l0_0 x16_2).f0)) + ((rd_T37 l0_0 x16_2).f2))))) x11_1 l0_0 (l0_0.length : Int) (wrap64 (x16_2 + 1)) l0_0 l0_1 l0_2 a0_3 a0_4)) else (none)) else (none)) = some (r1, r2) := by rw [if_pos rfl] at H; exact H
                clear H; have H := H1; clear H1
                by_cases c25 : ((rd_T37 l0_0 x16_2).f0) < (x4_2.length : Int)
                ·
                 rw [if_pos c25] at H
                 have c25b0 : decide (((rd_T37 l0_0 x16_2).f0) < (x4_2.length : Int)) = true := decide_eq_true c25; clear c25
                 by_cases c26 : ((rd_T37 l0_0 x16_2).f1) < (x4_2.length : Int)
                 ·
                  rw [if_pos c26] at H
                  have c26b0 : decide (((rd_T37 l0_0 x16_2).f1) < (x4_2.length : Int)) = true := decide_eq_true c26; clear c26
                  obtain ⟨ji27, hji27⟩ : ∃ j_ : Int, (mn (rd x4_2 ((rd_T37 l0_0 x16_2).f0)) (wrap64 ((rd x4_2 ((rd_T37 l0_0 x16_2).f1)) + ((rd_T37 l0_0 x16_2).f2)))) = j_ := ⟨_, rfl⟩
                  replace H : ((some (x4_2.set (((rd_T37 l0_0 x16_2).f0) : Int).toNat (ji27) : List Int)).bind fun y215 => (impl_Exploration_wayOut.l1 k2 (y215.set (((rd_T37 l0_0 x16_2).f1) : Int).toNat (mn (rd y215 ((rd_T37 l0_0 x16_2).f1)) (wrap64 ((rd y215 ((rd_T37 l0_0 x16_2).f0)) + ((rd_T37 l0_0 x16_2).f2))))) x11_1 l0_0 (l0_0.length : Int) (wrap64 (x16_2 + 1)) l0_0 l0_1 l0_2 a0_3 a0_4)) = some (r1, r2) := by first | (rw [hji27] at H; exact H) | (simp only [hji27] at H ⊢; exact H)
                  have hji27_ : (if (wrap64 ((rd x4_2 ((rd_T37 l0_0 x16_2).f1)) + ((rd_T37 l0_0 x16_2).f2))) < (rd x4_2 ((rd_T37 l0_0 x16_2).f0)) then (wrap64 ((rd x4_2 ((rd_T37 l0_0 x16_2).f1)) + ((rd_T37 l0_0 x16_2).f2))) else (rd x4_2 ((rd_T37 l0_0 x16_2).f0))) = ji27 := hji27
                  obtain ⟨y215, hy215⟩ : ∃ y_ : List Int, y_ = (x4_2.set (((rd_T37 l0_0 x16_2).f0) : Int).toNat (ji27)) := ⟨_, rfl⟩
                  replace H : (impl_Exploration_wayOut.l1 k2 (y215.set (((rd_T37 l0_0 x16_2).f1) : Int).toNat (mn (rd y215 ((rd_T37 l0_0 x16_2).f1)) (wrap64 ((rd y215 ((rd_T37 l0_0 x16_2).f0)) + ((rd_T37 l0_0 x16_2).f2))))) x11_1 l0_0 (l0_0.length : Int) (wrap64 (x16_2 + 1)) l0_0 l0_1 l0_2 a0_3 a0_4) = some (r1, r2) := by first | (rw [hy215]; with_reducible exact H) | (have H2_ := (Option.bind_some _ _).symm.trans H; rw [hy215]; with_reducible exact H2_) | (have H2_ := (Option.bind_some _ _).symm.trans H; with_reducible exact H2_) | with_reducible exact H | (rw [hy215]; exact H) | exact H
                  have Ny215 := Aside0.mk hy215; clear hy215
                  obtain ⟨ji29, hji29⟩ : ∃ j_ : Int, (mn (rd y215 ((rd_T37 l0_0 x16_2).f1)) (wrap64 ((rd y215 ((rd_T37 l0_0 x16_2).f0)) + ((rd_T37 l0_0 x16_2).f2)))) = j_ := ⟨_, rfl⟩
                  replace H : (impl_Exploration_wayOut.l1 k2 (y215.set (((rd_T37 l0_0 x16_2).f1) : Int).toNat (ji29)) x11_1 l0_0 (l0_0.length : Int) (wrap64 (x16_2 + 1)) l0_0 l0_1 l0_2 a0_3 a0_4) = some (r1, r2) := by first | (rw [hji29] at H; exact H) | (simp only [hji29] at H ⊢; exact H)
                  have hji29_ : (if (wrap64 ((rd y215 ((rd_T37 l0_0 x16_2).f0)) + ((rd_T37 l0_0 x16_2).f2))) < (rd y215 ((rd_T37 l0_0 x16_2).f1)) then (wrap64 ((rd y215 ((rd_T37 l0_0 x16_2).f0)) + ((rd_T37 l0_0 x16_2).f2))) else (rd y215 ((rd_T37 l0_0 x16_2).f1))) = ji29 := hji29
                  obtain ⟨y218, hy218⟩ : ∃ y_ : List Int, y_ = (y215.set (((rd_T37 l0_0 x16_2).f1) : Int).toNat (ji29)) := ⟨_, rfl⟩
                  replace H : (impl_Exploration_wayOut.l1 k2 y218 x11_1 l0_0 (l0_0.length : Int) (wrap64 (x16_2 + 1)) l0_0 l0_1 l0_2 a0_3 a0_4) = some (r1, r2) := by first | (rw [hy218]; with_reducible exact H) | (have H2_ := (Option.bind_some _ _).symm.trans H; rw [hy218]; with_reducible exact H2_) | (have H2_ := (Option.bind_some _ _).symm.trans H; with_reducible exact H2_) | with_reducible exact H | (rw [hy218]; exact H) | exact H
                  have Ny218 := Aside0.mk hy218; clear hy218; have H' := Aside0.mk H; clear H; have p209 : 0 ≤ (x16_2 : Int) := dt_; have q209 : x16_2 < (l0_0.length : Int) := dt_; obtain ⟨ad209, e209, hx209_0, hx209_1, hx209_2, hx209_3, hx209_4⟩ := at_T37 HR0_0.out x16_2 p209 q209
                  cases e209
                  replace hx209_0 := bc_ HB.out hx209_0; replace hx209_1 := bc_ HB.out hx209_1; replace hx209_2 := bc_ HB.out hx209_2; replace hx209_3 := bc_ HB.out hx209_3; replace hx209_4 := bc_ HB.out hx209_4; replace p209 := eq_true p209; replace q209 := eq_true q209
                  try go_wp2_with (first | ((with_reducible refine gate_dst (N := 6) rfl ?_); refine box_event ?hg (N := 6) ?hd (cs := #[.int .i64 0, .int .i64 0, .int .i64 0, .int .i64 0, .int .i64 0]) (t := 37) ?hr ?_; (case hd => rfl); (case hg => rfl); (case hr => first | (go_simp; done) | (go_simp; rfl)); intro gb210 hg w31 hbox hb; replace HO_4 := Aside0.mk (Kd.R_below (kr_ HO_4.out) hb); have BK210 := Aside0.mk (hbox); have GW210 := Aside0.mk ((bz_ hg (lb1_ HB.out GE199.out))); have GE210 := Aside0.mk ((bz_ hg (lb1_ HB.out GE199.out))); replace HB := Aside0.mk (below_step (lb1_ HB.out GE199.out) hb); have NB199_210 := Aside0.mk (nl_ hg BK199.out); have NB210_199 := Aside0.mk (ng_ hg BK199.out); replace BK199 := Aside0.mk (bb_ (bk_ BK199.out) hb); clear hb hbox hg; have hnb32 := NB210_199.out; have hnc32 := NB199_210.out; obtain ⟨hcz33_0, hcz33_1, hcz33_2, hcz33_3, hcz33_4⟩ := cz5_ BK210.out; obtain ⟨hfz33_0, hfz33_1, hfz33_2, hfz33_3, hfz33_4⟩ := fz5_ BK210.out; obtain ⟨hcz34_0, hcz34_1, hcz34_2, hcz34_3, hcz34_4⟩ := cz5_ BK199.out; obtain ⟨hfz34_0, hfz34_1, hfz34_2, hfz34_3, hfz34_4⟩ := fz5_ BK199.out; have p211 : 0 ≤ (((rd_T37 l0_0 x16_2).f0) : Int) := dt_; have q211 : ((rd_T37 l0_0 x16_2).f0) < (l0_1.length : Int) := dt_; obtain ⟨ad211, e211, hx211_0⟩ := Kd.at_bool HR0_1.out ((rd_T37 l0_0 x16_2).f0) p211 q211; (try rw [← Nbq19.out] at hx211_0); (try rw [← Nbq23.out] at hx211_0); cases e211; have hn211_0 : ad211.block ≠ gb210 := Nat.ne_of_lt (Nat.lt_of_lt_of_le (by have := World.block_lt_of_cell? _ _ hx211_0; first | rwa [add_block] at this | exact this) GW210.out); have hn211_1 : ad211.block ≠ gb210 := Nat.ne_of_lt (Nat.lt_of_lt_of_le (by have := World.block_lt_of_cell? _ _ hx211_0; first | rwa [add_block] at this | exact this) GW210.out); have hn211_2 : ad211.block ≠ gb210 := Nat.ne_of_lt (Nat.lt_of_lt_of_le (by have := World.block_lt_of_cell? _ _ hx211_0; first | rwa [add_block] at this | exact this) GW210.out); have hn211_3 : ad211.block ≠ gb210 := Nat.ne_of_lt (Nat.lt_of_lt_of_le (by have := World.block_lt_of_cell? _ _ hx211_0; first | rwa [add_block] at this | exact this) GW210.out); have hn211_4 : ad211.block ≠ gb210 := Nat.ne_of_lt (Nat.lt_of_lt_of_le (by have := World.block_lt_of_cell? _ _ hx211_0; first | rwa [add_block] at this | exact this) GW210.out); replace hx211_0 := bc_ HB.out hx211_0; replace hx211_0 := (cell_far (p := ⟨gb210, 0, none⟩) (by first | (rw [add_block]; exact hn211_0) | (show (Addr.add _ _).block ≠ _; rw [add_block]; exact hn211_0) | exact hn211_0) (.int .i64 ((rd_T37 l0_0 x16_2).f0))).trans hx211_0; replace hx211_0 := (cell_far (p := ⟨gb210, 1, none⟩) (by first | (rw [add_block]; exact hn211_1) | (show (Addr.add _ _).block ≠ _; rw [add_block]; exact hn211_1) | exact hn211_1) (.int .i64 ((rd_T37 l0_0 x16_2).f1))).trans hx211_0; replace hx211_0 := (cell_far (p := ⟨gb210, 2, none⟩) (by first | (rw [add_block]; exact hn211_2) | (show (Addr.add _ _).block ≠ _; rw [add_block]; exact hn211_2) | exact hn211_2) (.int .i64 ((rd_T37 l0_0 x16_2).f2))).trans hx211_0; replace hx211_0 := (cell_far (p := ⟨gb210, 3, none⟩) (by first | (rw [add_block]; exact hn211_3) | (show (Addr.add _ _).block ≠ _; rw [add_block]; exact hn211_3) | exact hn211_3) (.int .i64 ((rd_T37 l0_0 x16_2).f3))).trans hx211_0; replace hx211_0 := (cell_far (p := ⟨gb210, 4, none⟩) (by first | (rw [add_block]; exact hn211_4) | (show (Addr.add _ _).block ≠ _; rw [add_block]; exact hn211_4) | exact hn211_4) (.int .i64 ((rd_T37 l0_0 x16_2).f4))).trans hx211_0; clear hn211_0; clear hn211_1; clear hn211_2; clear hn211_3; clear hn211_4; replace p211 := eq_true p211; replace q211 := eq_true q211; have p212 : 0 ≤ (((rd_T37 l0_0 x16_2).f1) : Int) := dt_; have q212 : ((rd_T37 l0_0 x16_2).f1) < (l0_1.length : Int) := dt_; obtain ⟨ad212, e212, hx212_0⟩ := Kd.at_bool HR0_1.out ((rd_T37 l0_0 x16_2).f1) p212 q212; (try rw [← Nbq19.out] at hx212_0); (try rw [← Nbq23.out] at hx212_0); obtain rfl : ad211 = ad212 := (by injection e212); have hn212_0 : ad211.block ≠ gb210 := Nat.ne_of_lt (Nat.lt_of_lt_of_le (by have := World.block_lt_of_cell? _ _ hx212_0; first | rwa [add_block] at this | exact this) GW210.out); have hn212_1 : ad211.block ≠ gb210 := Nat.ne_of_lt (Nat.lt_of_lt_of_le (by have := World.block_lt_of_cell? _ _ hx212_0; first | rwa [add_block] at this | exact this) GW210.out); have hn212_2 : ad211.block ≠ gb210 := Nat.ne_of_lt (Nat.lt_of_lt_of_le (by have := World.block_lt_of_cell? _ _ hx212_0; first | rwa [add_block] at this | exact this) GW210.out); have hn212_3 : ad211.block ≠ gb210 := Nat.ne_of_lt (Nat.lt_of_lt_of_le (by have := World.block_lt_of_cell? _ _ hx212_0; first | rwa [add_block] at this | exact this) GW210.out); have hn212_4 : ad211.block ≠ gb210 := Nat.ne_of_lt (Nat.lt_of_lt_of_le (by have := World.block_lt_of_cell? _ _ hx212_0; first | rwa [add_block] at this | exact this) GW210.out); replace hx212_0 := bc_ HB.out hx212_0; replace hx212_0 := (cell_far (p := ⟨gb210, 0, none⟩) (by first | (rw [add_block]; exact hn212_0) | (show (Addr.add _ _).block ≠ _; rw [add_block]; exact hn212_0) | exact hn212_0) (.int .i64 ((rd_T37 l0_0 x16_2).f0))).trans hx212_0; replace hx212_0 := (cell_far (p := ⟨gb210, 1, none⟩) (by first | (rw [add_block]; exact hn212_1) | (show (Addr.add _ _).block ≠ _; rw [add_block]; exact hn212_1) | exact hn212_1) (.int .i64 ((rd_T37 l0_0 x16_2).f1))).trans hx212_0; replace hx212_0 := (cell_far (p := ⟨gb210, 2, none⟩) (by first | (rw [add_block]; exact hn212_2) | (show (Addr.add _ _).block ≠ _; rw [add_block]; exact hn212_2) | exact hn212_2) (.int .i64 ((rd_T37 l0_0 x16_2).f2))).trans hx212_0; replace hx212_0 := (cell_far (p := ⟨gb210, 3, none⟩) (by first | (rw [add_block]; exact hn212_3) | (show (Addr.add _ _).block ≠ _; rw [add_block]; exact hn212_3) | exact hn212_3) (.int .i64 ((rd_T37 l0_0 x16_2).f3))).trans hx212_0; replace hx212_0 := (cell_far (p := ⟨gb210, 4, none⟩) (by first | (rw [add_block]; exact hn212_4) | (show (Addr.add _ _).block ≠ _; rw [add_block]; exact hn212_4) | exact hn212_4) (.int .i64 ((rd_T37 l0_0 x16_2).f4))).trans hx212_0; clear hn212_0; clear hn212_1; clear hn212_2; clear hn212_3; clear hn212_4; replace p212 := eq_true p212; replace q212 := eq_true q212))
                  have n0_ : Aside0 (Kd.R (Kd.int .i64) 3 (((((w31.setCell ⟨gb210, 0, none⟩ (.int .i64 ((rd_T37 l0_0 x16_2).f0))).setCell ⟨gb210, 1, none⟩ (.int .i64 ((rd_T37 l0_0 x16_2).f1))).setCell ⟨gb210, 2, none⟩ (.int .i64 ((rd_T37 l0_0 x16_2).f2))).setCell ⟨gb210, 3, none⟩ (.int .i64 ((rd_T37 l0_0 x16_2).f3))).setCell ⟨gb210, 4, none⟩ (.int .i64 ((rd_T37 l0_0 x16_2).f4))) w.heap.size (fun _ => True) (.slice (some ⟨go4, 0, none⟩) x4_2.length co4) x4_2) := ⟨Kd.R_mono (r5_ HO_4.out BK210.out (by decide) _ _ _ _ _) (fun _ hk => trivial)⟩
                  have n1_ : Aside0 ((((((w31.setCell ⟨gb210, 0, none⟩ (.int .i64 ((rd_T37 l0_0 x16_2).f0))).setCell ⟨gb210, 1, none⟩ (.int .i64 ((rd_T37 l0_0 x16_2).f1))).setCell ⟨gb210, 2, none⟩ (.int .i64 ((rd_T37 l0_0 x16_2).f2))).setCell ⟨gb210, 3, none⟩ (.int .i64 ((rd_T37 l0_0 x16_2).f3))).setCell ⟨gb210, 4, none⟩ (.int .i64 ((rd_T37 l0_0 x16_2).f4))).heap[gb199]? = some (.cells #[.slice (some ad209) l0_0.length c0_0, .slice (some ad211) l0_1.length c0_1, .slice A0_2 l0_2.length c0_2, .int .i64 a0_3, .int .i64 a0_4] 30 (0, 0))) := ⟨by exact (f5_ BK199.out NB199_210.out _ _ _ _ _)⟩
                  have n2_ : Aside0 ((((((w31.setCell ⟨gb210, 0, none⟩ (.int .i64 ((rd_T37 l0_0 x16_2).f0))).setCell ⟨gb210, 1, none⟩ (.int .i64 ((rd_T37 l0_0 x16_2).f1))).setCell ⟨gb210, 2, none⟩ (.int .i64 ((rd_T37 l0_0 x16_2).f2))).setCell ⟨gb210, 3, none⟩ (.int .i64 ((rd_T37 l0_0 x16_2).f3))).setCell ⟨gb210, 4, none⟩ (.int .i64 ((rd_T37 l0_0 x16_2).f4))).heap[gb210]? = some (.cells #[.int .i64 ((rd_T37 l0_0 x16_2).f0), .int .i64 ((rd_T37 l0_0 x16_2).f1), .int .i64 ((rd_T37 l0_0 x16_2).f2), .int .i64 ((rd_T37 l0_0 x16_2).f3), .int .i64 ((rd_T37 l0_0 x16_2).f4)] 37 (0, 0))) := ⟨by exact (p5_ BK210.out _ _ _ _ _)⟩
                  have n3_ : Aside0 (Below w.heap.size w (((((w31.setCell ⟨gb210, 0, none⟩ (.int .i64 ((rd_T37 l0_0 x16_2).f0))).setCell ⟨gb210, 1, none⟩ (.int .i64 ((rd_T37 l0_0 x16_2).f1))).setCell ⟨gb210, 2, none⟩ (.int .i64 ((rd_T37 l0_0 x16_2).f2))).setCell ⟨gb210, 3, none⟩ (.int .i64 ((rd_T37 l0_0 x16_2).f3))).setCell ⟨gb210, 4, none⟩ (.int .i64 ((rd_T37 l0_0 x16_2).f4)))) := ⟨lb2_ HB.out GE199.out GE210.out⟩
                  (try clear HO_4); (try clear BK199); (try clear BK210); (try clear HB); generalize (((((w31.setCell ⟨gb210, 0, none⟩ (.int .i64 ((rd_T37 l0_0 x16_2).f0))).setCell ⟨gb210, 1, none⟩ (.int .i64 ((rd_T37 l0_0 x16_2).f1))).setCell ⟨gb210, 2, none⟩ (.int .i64 ((rd_T37 l0_0 x16_2).f2))).setCell ⟨gb210, 3, none⟩ (.int .i64 ((rd_T37 l0_0 x16_2).f3))).setCell ⟨gb210, 4, none⟩ (.int .i64 ((rd_T37 l0_0 x16_2).f4))) = w35 at n0_ n1_ n2_ n3_ ⊢; have HO_4 := n0_; have BK199 := n1_; have BK210 := n2_; have HB := n3_; clear n0_ n1_ n2_ n3_; replace HO_4 := Aside0.mk (Kd.R_drew HO_4.out); replace BK199 := Aside0.mk (blk_drew BK199.out); replace BK210 := Aside0.mk (blk_drew BK210.out); replace HB := Aside0.mk (below_drew1 HB.out); have p213 : 0 ≤ (((rd_T37 l0_0 x16_2).f0) : Int) := dt_; have q213 : ((rd_T37 l0_0 x16_2).f0) < (x4_2.length : Int) := dt_; obtain ⟨ad213, e213, hx213_0⟩ := Kd.at_int (Kd.R_reads' HO_4.out).2.2 ((rd_T37 l0_0 x16_2).f0) p213 q213
                  obtain rfl : (⟨go4, 0, none⟩ : Addr) = ad213 := (by injection e213)
                  (first | simp only [add_plain] at hx213_0 | simp only [add_at] at hx213_0 | simp only [Addr.add, Nat.zero_add] at hx213_0 | skip)
                  replace p213 := eq_true p213; replace q213 := eq_true q213; have p214 : 0 ≤ (((rd_T37 l0_0 x16_2).f1) : Int) := dt_; have q214 : ((rd_T37 l0_0 x16_2).f1) < (x4_2.length : Int) := dt_; obtain ⟨ad214, e214, hx214_0⟩ := Kd.at_int (Kd.R_reads' HO_4.out).2.2 ((rd_T37 l0_0 x16_2).f1) p214 q214
                  obtain rfl : (⟨go4, 0, none⟩ : Addr) = ad214 := (by injection e214)
                  (first | simp only [add_plain] at hx214_0 | simp only [add_at] at hx214_0 | simp only [Addr.add, Nat.zero_add] at hx214_0 | skip)
                  replace p214 := eq_true p214; replace q214 := eq_true q214; have p28 : 0 ≤ (((rd_T37 l0_0 x16_2).f0) : Int) := dt_; have q28 : (((rd_T37 l0_0 x16_2).f0) : Int) < ((x4_2.length : Int) : Int) := dt_; obtain ⟨hx28_0, hf28_0⟩ := Kd.R_celln 0 HO_4.out (((rd_T37 l0_0 x16_2).f0) : Int) p28 q28; replace p28 := eq_true p28; replace q28 := eq_true q28; have HP37 := Kd.R_putn HO_4.out (((rd_T37 l0_0 x16_2).f0) : Int) ji27
                  rw [← Ny215.out] at HP37
                  have HQ37 := Aside0.mk HP37; clear HP37; refine start_ (n := 19) (S := fun w' => w'.cell? ⟨gb210, 0, none⟩ = some (.int .i64 ((rd_T37 l0_0 x16_2).f0)) ∧ w'.cell? ⟨gb210, 1, none⟩ = some (.int .i64 ((rd_T37 l0_0 x16_2).f1)) ∧ w'.cell? ⟨gb210, 2, none⟩ = some (.int .i64 ((rd_T37 l0_0 x16_2).f2)) ∧ w'.cell? ⟨gb210, 3, none⟩ = some (.int .i64 ((rd_T37 l0_0 x16_2).f3)) ∧ w'.cell? ⟨gb210, 4, none⟩ = some (.int .i64 ((rd_T37 l0_0 x16_2).f4)) ∧ w'.cell? ⟨go4, (((rd_T37 l0_0 x16_2).f0)).toNat, none⟩ = some (.int .i64 (rd x4_2 ((rd_T37 l0_0 x16_2).f0))) ∧ w'.cell? ⟨go4, (((rd_T37 l0_0 x16_2).f1)).toNat, none⟩ = some (.int .i64 (rd x4_2 ((rd_T37 l0_0 x16_2).f1)))) (ds := [18]) impl_Exploration_wayOut.mk0 (by kernel_rfl) rfl rfl ⟨(blk_cell BK210.out 0).trans rfl, (blk_cell BK210.out 1).trans rfl, (blk_cell BK210.out 2).trans rfl, (blk_cell BK210.out 3).trans rfl, (blk_cell BK210.out 4).trans rfl, hx213_0, hx214_0⟩ (fun hHeld => ?_); refine with_tabW impl_Exploration_wayOut.tab9 impl_Exploration_wayOut.bits9 (fun HT_ HW_ => ?_); generalize w35.drew = w36 at HO_4 BK199 BK210 HB HQ37 hf28_0 hx213_0 hx214_0 hx28_0 hHeld ⊢; refine pz_ HT_ 0 (some 34) impl_Exploration_wayOut.mk1 ?_; refine pz_ HT_ 1 (some 35) impl_Exploration_wayOut.mk2 ?_; refine pz_ HT_ 3 (some 37) impl_Exploration_wayOut.mk3 ?_; refine pz_ HT_ 4 (some 38) impl_Exploration_wayOut.mk4 ?_; refine pz_ HT_ 8 (some 42) impl_Exploration_wayOut.mk5 ?_; refine pz_ HT_ 9 (some 43) impl_Exploration_wayOut.mk6 ?_; refine pz_ HT_ 13 (some 47) impl_Exploration_wayOut.mk7 ?_; refine tk_ HT_ HW_ hHeld 2 (some 36) impl_Exploration_wayOut.mk8 ?_; refine tk_ HT_ HW_ hHeld 5 (some 39) impl_Exploration_wayOut.mk9 ?_; refine pz_ HT_ 6 (some 40) impl_Exploration_wayOut.mk10 ?_; refine tk_ HT_ HW_ hHeld 7 (some 41) impl_Exploration_wayOut.mk11 ?_; refine tk_ HT_ HW_ hHeld 10 (some 44) impl_Exploration_wayOut.mk12 ?_; refine pz_ HT_ 11 (some 45) impl_Exploration_wayOut.mk13 ?_; refine tk_ HT_ HW_ hHeld 12 (some 46) impl_Exploration_wayOut.mk14 ?_; refine tk_ HT_ HW_ hHeld 14 (some 48) impl_Exploration_wayOut.mk15 ?_; refine pz_ HT_ 15 (some 49) impl_Exploration_wayOut.mk16 ?_; refine pz_ HT_ 16 (some 50) impl_Exploration_wayOut.mk17 ?_; refine pz_ HT_ 17 (some 51) impl_Exploration_wayOut.mk18 ?_; refine last_ (i := 18) (N := none) impl_Exploration_wayOut.mk19 rfl rfl (one_of HT_.out (by kernel_rfl)) (by decide) (fun K hK => ?_); refine skip_ (w1 := ?_) (by rfl) rfl ?_ ?_; rotate_left
                  ·
                   go_simp; rfl
                  refine hK.out _ _ ?_; clear hK K; refine done_ (done_of HT_.out (by kernel_rfl)) ?_
                  try go_wp2
                  have n0_ : Aside0 (Kd.R (Kd.int .i64) 3 (w36.setCell ⟨go4, (((rd_T37 l0_0 x16_2).f0) : Int).toNat, none⟩ (.int .i64 ji27)) w.heap.size (fun _ => True) (.slice (some ⟨go4, 0, none⟩) x4_2.length co4) y215) := ⟨kr_ HQ37.out⟩
                  have n1_ : Aside0 ((w36.setCell ⟨go4, (((rd_T37 l0_0 x16_2).f0) : Int).toNat, none⟩ (.int .i64 ji27)).heap[gb199]? = some (.cells #[.slice (some ad209) l0_0.length c0_0, .slice (some ad211) l0_1.length c0_1, .slice A0_2 l0_2.length c0_2, .int .i64 a0_3, .int .i64 a0_4] 30 (0, 0))) := ⟨by (with_reducible repeat (first | refine blk_drewN ?_ _ | refine blk_drew ?_ | refine blk_alloc ?_ _)); refine blk_far ?_ (by have h_ := Kd.R_ne HO_4.out BK199.out (by decide); intro e_; exact h_ (by rw [e_]; rfl)) _; (with_reducible repeat (first | refine blk_drewN ?_ _ | refine blk_drew ?_ | refine blk_alloc ?_ _)); exact BK199.out⟩
                  have n2_ : Aside0 ((w36.setCell ⟨go4, (((rd_T37 l0_0 x16_2).f0) : Int).toNat, none⟩ (.int .i64 ji27)).heap[gb210]? = some (.cells #[.int .i64 ((rd_T37 l0_0 x16_2).f0), .int .i64 ((rd_T37 l0_0 x16_2).f1), .int .i64 ((rd_T37 l0_0 x16_2).f2), .int .i64 ((rd_T37 l0_0 x16_2).f3), .int .i64 ((rd_T37 l0_0 x16_2).f4)] 37 (0, 0))) := ⟨by (with_reducible repeat (first | refine blk_drewN ?_ _ | refine blk_drew ?_ | refine blk_alloc ?_ _)); refine blk_far ?_ (by have h_ := Kd.R_ne HO_4.out BK210.out (by decide); intro e_; exact h_ (by rw [e_]; rfl)) _; (with_reducible repeat (first | refine blk_drewN ?_ _ | refine blk_drew ?_ | refine blk_alloc ?_ _)); exact BK210.out⟩
                  have n3_ : Aside0 (Below w.heap.size w (w36.setCell ⟨go4, (((rd_T37 l0_0 x16_2).f0) : Int).toNat, none⟩ (.int .i64 ji27))) := ⟨lb3_ HB.out GB4.out GE199.out GE210.out⟩
                  (try clear HO_4); (try clear BK199); (try clear BK210); (try clear HB); generalize (w36.setCell ⟨go4, (((rd_T37 l0_0 x16_2).f0) : Int).toNat, none⟩ (.int .i64 ji27)) = w38 at n0_ n1_ n2_ n3_ ⊢; have HO_4 := n0_; have BK199 := n1_; have BK210 := n2_; have HB := n3_; clear n0_ n1_ n2_ n3_; replace HO_4 := Aside0.mk (Kd.R_drew HO_4.out); replace BK199 := Aside0.mk (blk_drew BK199.out); replace BK210 := Aside0.mk (blk_drew BK210.out); replace HB := Aside0.mk (below_drew1 HB.out); have p216 : 0 ≤ (((rd_T37 l0_0 x16_2).f1) : Int) := dt_
                  have q216 : ((rd_T37 l0_0 x16_2).f1) < (y215.length : Int) := (by have h_ : (((rd_T37 l0_0 x16_2).f1) : Int) < ((x4_2.length : Int) : Int) := dt_; first | (have e_ := (Kd.R_reads' HO_4.out).1; omega) | simpa only [Ny215.out, List.length_set] using h_)
                  have ql216 : ((((rd_T37 l0_0 x16_2).f1) : Int) < ((x4_2.length : Int) : Int)) = True := eq_true (dt_); obtain ⟨ad216, e216, hx216_0⟩ := Kd.at_int (Kd.R_reads' HO_4.out).2.2 ((rd_T37 l0_0 x16_2).f1) p216 q216
                  obtain rfl : (⟨go4, 0, none⟩ : Addr) = ad216 := (by injection e216)
                  (first | simp only [add_plain] at hx216_0 | simp only [add_at] at hx216_0 | simp only [Addr.add, Nat.zero_add] at hx216_0 | skip)
                  replace p216 := eq_true p216; replace q216 := eq_true q216; have p217 : 0 ≤ (((rd_T37 l0_0 x16_2).f0) : Int) := dt_
                  have q217 : ((rd_T37 l0_0 x16_2).f0) < (y215.length : Int) := (by have h_ : (((rd_T37 l0_0 x16_2).f0) : Int) < ((x4_2.length : Int) : Int) := dt_; first | (have e_ := (Kd.R_reads' HO_4.out).1; omega) | simpa only [Ny215.out, List.length_set] using h_)
                  have ql217 : ((((rd_T37 l0_0 x16_2).f0) : Int) < ((x4_2.length : Int) : Int)) = True := eq_true (dt_); obtain ⟨ad217, e217, hx217_0⟩ := Kd.at_int (Kd.R_reads' HO_4.out).2.2 ((rd_T37 l0_0 x16_2).f0) p217 q217
                  obtain rfl : (⟨go4, 0, none⟩ : Addr) = ad217 := (by injection e217)
                  (first | simp only [add_plain] at hx217_0 | simp only [add_at] at hx217_0 | simp only [Addr.add, Nat.zero_add] at hx217_0 | skip)
                  replace p217 := eq_true p217; replace q217 := eq_true q217; have p30 : 0 ≤ (((rd_T37 l0_0 x16_2).f1) : Int) := dt_; have q30 : (((rd_T37 l0_0 x16_2).f1) : Int) < ((x4_2.length : Int) : Int) := dt_; obtain ⟨hx30_0, hf30_0⟩ := Kd.R_celln 0 HO_4.out (((rd_T37 l0_0 x16_2).f1) : Int) p30 q30; replace p30 := eq_true p30; replace q30 := eq_true q30; have HP40 := Kd.R_putn HO_4.out (((rd_T37 l0_0 x16_2).f1) : Int) ji29
                  rw [← Ny218.out] at HP40
                  have HQ40 := Aside0.mk HP40; clear HP40; refine start_ (n := 19) (S := fun w' => w'.cell? ⟨gb210, 0, none⟩ = some (.int .i64 ((rd_T37 l0_0 x16_2).f0)) ∧ w'.cell? ⟨gb210, 1, none⟩ = some (.int .i64 ((rd_T37 l0_0 x16_2).f1)) ∧ w'.cell? ⟨gb210, 2, none⟩ = some (.int .i64 ((rd_T37 l0_0 x16_2).f2)) ∧ w'.cell? ⟨gb210, 3, none⟩ = some (.int .i64 ((rd_T37 l0_0 x16_2).f3)) ∧ w'.cell? ⟨gb210, 4, none⟩ = some (.int .i64 ((rd_T37 l0_0 x16_2).f4)) ∧ w'.cell? ⟨go4, (((rd_T37 l0_0 x16_2).f1)).toNat, none⟩ = some (.int .i64 (rd y215 ((rd_T37 l0_0 x16_2).f1))) ∧ w'.cell? ⟨go4, (((rd_T37 l0_0 x16_2).f0)).toNat, none⟩ = some (.int .i64 (rd y215 ((rd_T37 l0_0 x16_2).f0)))) (ds := [18]) impl_Exploration_wayOut.mk0 (by kernel_rfl) rfl rfl ⟨(blk_cell BK210.out 0).trans rfl, (blk_cell BK210.out 1).trans rfl, (blk_cell BK210.out 2).trans rfl, (blk_cell BK210.out 3).trans rfl, (blk_cell BK210.out 4).trans rfl, hx216_0, hx217_0⟩ (fun hHeld => ?_); refine with_tabW impl_Exploration_wayOut.tab10 impl_Exploration_wayOut.bits10 (fun HT_ HW_ => ?_); generalize w38.drew = w39 at HO_4 BK199 BK210 HB HQ37 HQ40 hf30_0 hx216_0 hx217_0 hx30_0 hHeld ⊢; refine pz_ HT_ 0 (some 52) impl_Exploration_wayOut.mk1 ?_; refine pz_ HT_ 1 (some 53) impl_Exploration_wayOut.mk2 ?_; refine pz_ HT_ 3 (some 55) impl_Exploration_wayOut.mk3 ?_; refine pz_ HT_ 4 (some 56) impl_Exploration_wayOut.mk4 ?_; refine pz_ HT_ 8 (some 60) impl_Exploration_wayOut.mk5 ?_; refine pz_ HT_ 9 (some 61) impl_Exploration_wayOut.mk6 ?_; refine pz_ HT_ 13 (some 65) impl_Exploration_wayOut.mk7 ?_; refine tk_ HT_ HW_ hHeld 2 (some 54) impl_Exploration_wayOut.mk8 ?_; refine tk_ HT_ HW_ hHeld 5 (some 57) impl_Exploration_wayOut.mk9 ?_; refine pz_ HT_ 6 (some 58) impl_Exploration_wayOut.mk10 ?_; refine tk_ HT_ HW_ hHeld 7 (some 59) impl_Exploration_wayOut.mk11 ?_; refine tk_ HT_ HW_ hHeld 10 (some 62) impl_Exploration_wayOut.mk12 ?_; refine pz_ HT_ 11 (some 63) impl_Exploration_wayOut.mk13 ?_; refine tk_ HT_ HW_ hHeld 12 (some 64) impl_Exploration_wayOut.mk14 ?_; refine tk_ HT_ HW_ hHeld 14 (some 66) impl_Exploration_wayOut.mk15 ?_; refine pz_ HT_ 15 (some 67) impl_Exploration_wayOut.mk16 ?_; refine pz_ HT_ 16 (some 68) impl_Exploration_wayOut.mk17 ?_; refine pz_ HT_ 17 (some 69) impl_Exploration_wayOut.mk18 ?_; refine last_ (i := 18) (N := none) impl_Exploration_wayOut.mk19 rfl rfl (one_of HT_.out (by kernel_rfl)) (by decide) (fun K hK => ?_); refine skip_ (w1 := ?_) (by rfl) rfl ?_ ?_; rotate_left
                  ·
                   go_simp; rfl
                  refine hK.out _ _ ?_; clear hK K; refine done_ (done_of HT_.out (by kernel_rfl)) ?_
                  try go_wp2
                  (try simp only [← hl4_2])
                  go_roundg k2
                  case measure => have := HK1.out; have := HK2.out; omega
                  case rel => exact ⟨(y218), (wrap64 (x16_2 + 1)), (by first | rfl | (simp; done) | (simp [*]; done)), H', ⟨by have := HK1.out; have := HK2.out; omega⟩, ⟨by (try simp only [hl4_1]); (try simp only [hl4_2]); (with_reducible repeat (first | apply Kd.R_alloc | apply Kd.R_drewN | apply Kd.R_drew)); exact HQ40.out⟩, ⟨by (try simp only [hl4_1]); (try simp only [hl4_2]); (with_reducible repeat (first | refine blk_drewN ?_ _ | refine blk_drew ?_ | refine blk_alloc ?_ _)); refine blk_far ?_ (by have h_ := Kd.R_ne HO_4.out BK199.out (by decide); intro e_; exact h_ (by rw [e_]; rfl)) _; (with_reducible repeat (first | refine blk_drewN ?_ _ | refine blk_drew ?_ | refine blk_alloc ?_ _)); exact BK199.out⟩, ⟨lb3_ HB.out GB4.out GE199.out GE210.out⟩⟩
                 ·
                  rw [if_neg c26] at H
                  exact absurd H (by simp)
                ·
                 rw [if_neg c25] at H
                 exact absurd H (by simp)
               ·
                replace c24 := Bool.eq_false_iff.mpr c24; subst c24
                have H1 : (impl_Exploration_wayOut.l1 k2 x4_2 x11_1 l0_0 (l0_0.length : Int) (wrap64 (x16_2 + 1)) l0_0 l0_1 l0_2 a0_3 a0_4) = some (r1, r2) := by rw [if_neg (show ¬ (false = true) by decide)] at H; exact H
                clear H; have H := H1; clear H1; have H' := Aside0.mk H; clear H; have p209 : 0 ≤ (x16_2 : Int) := dt_; have q209 : x16_2 < (l0_0.length : Int) := dt_; obtain ⟨ad209, e209, hx209_0, hx209_1, hx209_2, hx209_3, hx209_4⟩ := at_T37 HR0_0.out x16_2 p209 q209
                cases e209
                replace hx209_0 := bc_ HB.out hx209_0; replace hx209_1 := bc_ HB.out hx209_1; replace hx209_2 := bc_ HB.out hx209_2; replace hx209_3 := bc_ HB.out hx209_3; replace hx209_4 := bc_ HB.out hx209_4; replace p209 := eq_true p209; replace q209 := eq_true q209
                go_wp2_with (first | ((with_reducible refine gate_dst (N := 6) rfl ?_); refine box_event ?hg (N := 6) ?hd (cs := #[.int .i64 0, .int .i64 0, .int .i64 0, .int .i64 0, .int .i64 0]) (t := 37) ?hr ?_; (case hd => rfl); (case hg => rfl); (case hr => first | (go_simp; done) | (go_simp; rfl)); intro gb210 hg w41 hbox hb; replace HO_4 := Aside0.mk (Kd.R_below (kr_ HO_4.out) hb); have BK210 := Aside0.mk (hbox); have GW210 := Aside0.mk ((bz_ hg (lb1_ HB.out GE199.out))); have GE210 := Aside0.mk ((bz_ hg (lb1_ HB.out GE199.out))); replace HB := Aside0.mk (below_step (lb1_ HB.out GE199.out) hb); have NB199_210 := Aside0.mk (nl_ hg BK199.out); have NB210_199 := Aside0.mk (ng_ hg BK199.out); replace BK199 := Aside0.mk (bb_ (bk_ BK199.out) hb); clear hb hbox hg; have hnb42 := NB210_199.out; have hnc42 := NB199_210.out; obtain ⟨hcz43_0, hcz43_1, hcz43_2, hcz43_3, hcz43_4⟩ := cz5_ BK210.out; obtain ⟨hfz43_0, hfz43_1, hfz43_2, hfz43_3, hfz43_4⟩ := fz5_ BK210.out; obtain ⟨hcz44_0, hcz44_1, hcz44_2, hcz44_3, hcz44_4⟩ := cz5_ BK199.out; obtain ⟨hfz44_0, hfz44_1, hfz44_2, hfz44_3, hfz44_4⟩ := fz5_ BK199.out; have p211 : 0 ≤ (((rd_T37 l0_0 x16_2).f0) : Int) := dt_; have q211 : ((rd_T37 l0_0 x16_2).f0) < (l0_1.length : Int) := dt_; obtain ⟨ad211, e211, hx211_0⟩ := Kd.at_bool HR0_1.out ((rd_T37 l0_0 x16_2).f0) p211 q211; (try rw [← Nbq19.out] at hx211_0); (try rw [← Nbq23.out] at hx211_0); cases e211; have hn211_0 : ad211.block ≠ gb210 := Nat.ne_of_lt (Nat.lt_of_lt_of_le (by have := World.block_lt_of_cell? _ _ hx211_0; first | rwa [add_block] at this | exact this) GW210.out); have hn211_1 : ad211.block ≠ gb210 := Nat.ne_of_lt (Nat.lt_of_lt_of_le (by have := World.block_lt_of_cell? _ _ hx211_0; first | rwa [add_block] at this | exact this) GW210.out); have hn211_2 : ad211.block ≠ gb210 := Nat.ne_of_lt (Nat.lt_of_lt_of_le (by have := World.block_lt_of_cell? _ _ hx211_0; first | rwa [add_block] at this | exact this) GW210.out); have hn211_3 : ad211.block ≠ gb210 := Nat.ne_of_lt (Nat.lt_of_lt_of_le (by have := World.block_lt_of_cell? _ _ hx211_0; first | rwa [add_block] at this | exact this) GW210.out); have hn211_4 : ad211.block ≠ gb210 := Nat.ne_of_lt (Nat.lt_of_lt_of_le (by have := World.block_lt_of_cell? _ _ hx211_0; first | rwa [add_block] at this | exact this) GW210.out); replace hx211_0 := bc_ HB.out hx211_0; replace hx211_0 := (cell_far (p := ⟨gb210, 0, none⟩) (by first | (rw [add_block]; exact hn211_0) | (show (Addr.add _ _).block ≠ _; rw [add_block]; exact hn211_0) | exact hn211_0) (.int .i64 ((rd_T37 l0_0 x16_2).f0))).trans hx211_0; replace hx211_0 := (cell_far (p := ⟨gb210, 1, none⟩) (by first | (rw [add_block]; exact hn211_1) | (show (Addr.add _ _).block ≠ _; rw [add_block]; exact hn211_1) | exact hn211_1) (.int .i64 ((rd_T37 l0_0 x16_2).f1))).trans hx211_0; replace hx211_0 := (cell_far (p := ⟨gb210, 2, none⟩) (by first | (rw [add_block]; exact hn211_2) | (show (Addr.add _ _).block ≠ _; rw [add_block]; exact hn211_2) | exact hn211_2) (.int .i64 ((rd_T37 l0_0 x16_2).f2))).trans hx211_0; replace hx211_0 := (cell_far (p := ⟨gb210, 3, none⟩) (by first | (rw [add_block]; exact hn211_3) | (show (Addr.add _ _).block ≠ _; rw [add_block]; exact hn211_3) | exact hn211_3) (.int .i64 ((rd_T37 l0_0 x16_2).f3))).trans hx211_0; replace hx211_0 := (cell_far (p := ⟨gb210, 4, none⟩) (by first | (rw [add_block]; exact hn211_4) | (show (Addr.add _ _).block ≠ _; rw [add_block]; exact hn211_4) | exact hn211_4) (.int .i64 ((rd_T37 l0_0 x16_2).f4))).trans hx211_0; clear hn211_0; clear hn211_1; clear hn211_2; clear hn211_3; clear hn211_4; replace p211 := eq_true p211; replace q211 := eq_true q211; have p212 : 0 ≤ (((rd_T37 l0_0 x16_2).f1) : Int) := dt_; have q212 : ((rd_T37 l0_0 x16_2).f1) < (l0_1.length : Int) := dt_; obtain ⟨ad212, e212, hx212_0⟩ := Kd.at_bool HR0_1.out ((rd_T37 l0_0 x16_2).f1) p212 q212; (try rw [← Nbq19.out] at hx212_0); (try rw [← Nbq23.out] at hx212_0); obtain rfl : ad211 = ad212 := (by injection e212); have hn212_0 : ad211.block ≠ gb210 := Nat.ne_of_lt (Nat.lt_of_lt_of_le (by have := World.block_lt_of_cell? _ _ hx212_0; first | rwa [add_block] at this | exact this) GW210.out); have hn212_1 : ad211.block ≠ gb210 := Nat.ne_of_lt (Nat.lt_of_lt_of_le (by have := World.block_lt_of_cell? _ _ hx212_0; first | rwa [add_block] at this | exact this) GW210.out); have hn212_2 : ad211.block ≠ gb210 := Nat.ne_of_lt (Nat.lt_of_lt_of_le (by have := World.block_lt_of_cell? _ _ hx212_0; first | rwa [add_block] at this | exact this) GW210.out); have hn212_3 : ad211.block ≠ gb210 := Nat.ne_of_lt (Nat.lt_of_lt_of_le (by have := World.block_lt_of_cell? _ _ hx212_0; first | rwa [add_block] at this | exact this) GW210.out); have hn212_4 : ad211.block ≠ gb210 := Nat.ne_of_lt (Nat.lt_of_lt_of_le (by have := World.block_lt_of_cell? _ _ hx212_0; first | rwa [add_block] at this | exact this) GW210.out); replace hx212_0 := bc_ HB.out hx212_0; replace hx212_0 := (cell_far (p := ⟨gb210, 0, none⟩) (by first | (rw [add_block]; exact hn212_0) | (show (Addr.add _ _).block ≠ _; rw [add_block]; exact hn212_0) | exact hn212_0) (.int .i64 ((rd_T37 l0_0 x16_2).f0))).trans hx212_0; replace hx212_0 := (cell_far (p := ⟨gb210, 1, none⟩) (by first | (rw [add_block]; exact hn212_1) | (show (Addr.add _ _).block ≠ _; rw [add_block]; exact hn212_1) | exact hn212_1) (.int .i64 ((rd_T37 l0_0 x16_2).f1))).trans hx212_0; replace hx212_0 := (cell_far (p := ⟨gb210, 2, none⟩) (by first | (rw [add_block]; exact hn212_2) | (show (Addr.add _ _).block ≠ _; rw [add_block]; exact hn212_2) | exact hn212_2) (.int .i64 ((rd_T37 l0_0 x16_2).f2))).trans hx212_0; replace hx212_0 := (cell_far (p := ⟨gb210, 3, none⟩) (by first | (rw [add_block]; exact hn212_3) | (show (Addr.add _ _).block ≠ _; rw [add_block]; exact hn212_3) | exact hn212_3) (.int .i64 ((rd_T37 l0_0 x16_2).f3))).trans hx212_0; replace hx212_0 := (cell_far (p := ⟨gb210, 4, none⟩) (by first | (rw [add_block]; exact hn212_4) | (show (Addr.add _ _).block ≠ _; rw [add_block]; exact hn212_4) | exact hn212_4) (.int .i64 ((rd_T37 l0_0 x16_2).f4))).trans hx212_0; clear hn212_0; clear hn212_1; clear hn212_2; clear hn212_3; clear hn212_4; replace p212 := eq_true p212; replace q212 := eq_true q212))
                (try simp only [← hl4_2])
                go_roundg k2
                case measure => have := HK1.out; have := HK2.out; omega
                case rel => exact ⟨(x4_2), (wrap64 (x16_2 + 1)), (by first | rfl | (simp; done) | (simp [*]; done)), H', ⟨by have := HK1.out; have := HK2.out; omega⟩, ⟨by (try simp only [hl4_1]); (try simp only [hl4_2]); (with_reducible repeat (first | apply Kd.R_alloc | apply Kd.R_drewN | apply Kd.R_drew)); exact Kd.R_mono (Kd.R_far (p := ⟨gb210, 4, none⟩) (Kd.R_far (p := ⟨gb210, 3, none⟩) (Kd.R_far (p := ⟨gb210, 2, none⟩) (Kd.R_far (p := ⟨gb210, 1, none⟩) (Kd.R_far (p := ⟨gb210, 0, none⟩) (Kd.R_types HO_4.out BK210.out (by decide)) (fun _ hk => hk.2) (.int .i64 ((rd_T37 l0_0 x16_2).f0))) (fun _ hk => hk.2) (.int .i64 ((rd_T37 l0_0 x16_2).f1))) (fun _ hk => hk.2) (.int .i64 ((rd_T37 l0_0 x16_2).f2))) (fun _ hk => hk.2) (.int .i64 ((rd_T37 l0_0 x16_2).f3))) (fun _ hk => hk.2) (.int .i64 ((rd_T37 l0_0 x16_2).f4))) (fun _ hk => trivial)⟩, ⟨by (try simp only [hl4_1]); (try simp only [hl4_2]); (with_reducible repeat (first | refine blk_drewN ?_ _ | refine blk_drew ?_ | refine blk_alloc ?_ _)); refine blk_far ?_ NB199_210.out _; (with_reducible repeat (first | refine blk_drewN ?_ _ | refine blk_drew ?_ | refine blk_alloc ?_ _)); refine blk_far ?_ NB199_210.out _; (with_reducible repeat (first | refine blk_drewN ?_ _ | refine blk_drew ?_ | refine blk_alloc ?_ _)); refine blk_far ?_ NB199_210.out _; (with_reducible repeat (first | refine blk_drewN ?_ _ | refine blk_drew ?_ | refine blk_alloc ?_ _)); refine blk_far ?_ NB199_210.out _; (with_reducible repeat (first | refine blk_drewN ?_ _ | refine blk_drew ?_ | refine blk_alloc ?_ _)); refine blk_far ?_ NB199_210.out _; (with_reducible repeat (first | refine blk_drewN ?_ _ | refine blk_drew ?_ | refine blk_alloc ?_ _)); exact BK199.out⟩, ⟨lb2_ HB.out GE199.out GE210.out⟩⟩
              ·
               rw [if_neg c22] at H
               exact absurd H (by simp)
             ·
              rw [if_neg c21] at H
              exact absurd H (by simp)
            ·
             replace c20 := Bool.eq_false_iff.mpr c20; subst c20
             have H1 : (impl_Exploration_wayOut.l1 k2 x4_2 x11_1 l0_0 (l0_0.length : Int) (wrap64 (x16_2 + 1)) l0_0 l0_1 l0_2 a0_3 a0_4) = some (r1, r2) := by rw [if_neg (show ¬ (false = true) by decide)] at H; exact H
             clear H; have H := H1; clear H1; have H' := Aside0.mk H; clear H; have p209 : 0 ≤ (x16_2 : Int) := dt_; have q209 : x16_2 < (l0_0.length : Int) := dt_; obtain ⟨ad209, e209, hx209_0, hx209_1, hx209_2, hx209_3, hx209_4⟩ := at_T37 HR0_0.out x16_2 p209 q209
             cases e209
             replace hx209_0 := bc_ HB.out hx209_0; replace hx209_1 := bc_ HB.out hx209_1; replace hx209_2 := bc_ HB.out hx209_2; replace hx209_3 := bc_ HB.out hx209_3; replace hx209_4 := bc_ HB.out hx209_4; replace p209 := eq_true p209; replace q209 := eq_true q209
             go_wp2_with (first | ((with_reducible refine gate_dst (N := 6) rfl ?_); refine box_event ?hg (N := 6) ?hd (cs := #[.int .i64 0, .int .i64 0, .int .i64 0, .int .i64 0, .int .i64 0]) (t := 37) ?hr ?_; (case hd => rfl); (case hg => rfl); (case hr => first | (go_simp; done) | (go_simp; rfl)); intro gb210 hg w45 hbox hb; replace HO_4 := Aside0.mk (Kd.R_below (kr_ HO_4.out) hb); have BK210 := Aside0.mk (hbox); have GW210 := Aside0.mk ((bz_ hg (lb1_ HB.out GE199.out))); have GE210 := Aside0.mk ((bz_ hg (lb1_ HB.out GE199.out))); replace HB := Aside0.mk (below_step (lb1_ HB.out GE199.out) hb); have NB199_210 := Aside0.mk (nl_ hg BK199.out); have NB210_199 := Aside0.mk (ng_ hg BK199.out); replace BK199 := Aside0.mk (bb_ (bk_ BK199.out) hb); clear hb hbox hg; have hnb46 := NB210_199.out; have hnc46 := NB199_210.out; obtain ⟨hcz47_0, hcz47_1, hcz47_2, hcz47_3, hcz47_4⟩ := cz5_ BK210.out; obtain ⟨hfz47_0, hfz47_1, hfz47_2, hfz47_3, hfz47_4⟩ := fz5_ BK210.out; obtain ⟨hcz48_0, hcz48_1, hcz48_2, hcz48_3, hcz48_4⟩ := cz5_ BK199.out; obtain ⟨hfz48_0, hfz48_1, hfz48_2, hfz48_3, hfz48_4⟩ := fz5_ BK199.out; have p211 : 0 ≤ (((rd_T37 l0_0 x16_2).f0) : Int) := dt_; have q211 : ((rd_T37 l0_0 x16_2).f0) < (l0_1.length : Int) := dt_; obtain ⟨ad211, e211, hx211_0⟩ := Kd.at_bool HR0_1.out ((rd_T37 l0_0 x16_2).f0) p211 q211; (try rw [← Nbq19.out] at hx211_0); cases e211; have hn211_0 : ad211.block ≠ gb210 := Nat.ne_of_lt (Nat.lt_of_lt_of_le (by have := World.block_lt_of_cell? _ _ hx211_0; first | rwa [add_block] at this | exact this) GW210.out); have hn211_1 : ad211.block ≠ gb210 := Nat.ne_of_lt (Nat.lt_of_lt_of_le (by have := World.block_lt_of_cell? _ _ hx211_0; first | rwa [add_block] at this | exact this) GW210.out); have hn211_2 : ad211.block ≠ gb210 := Nat.ne_of_lt (Nat.lt_of_lt_of_le (by have := World.block_lt_of_cell? _ _ hx211_0; first | rwa [add_block] at this | exact this) GW210.out); have hn211_3 : ad211.block ≠ gb210 := Nat.ne_of_lt (Nat.lt_of_lt_of_le (by have := World.block_lt_of_cell? _ _ hx211_0; first | rwa [add_block] at this | exact this) GW210.out); have hn211_4 : ad211.block ≠ gb210 := Nat.ne_of_lt (Nat.lt_of_lt_of_le (by have := World.block_lt_of_cell? _ _ hx211_0; first | rwa [add_block] at this | exact this) GW210.out); replace hx211_0 := bc_ HB.out hx211_0; replace hx211_0 := (cell_far (p := ⟨gb210, 0, none⟩) (by first | (rw [add_block]; exact hn211_0) | (show (Addr.add _ _).block ≠ _; rw [add_block]; exact hn211_0) | exact hn211_0) (.int .i64 ((rd_T37 l0_0 x16_2).f0))).trans hx211_0; replace hx211_0 := (cell_far (p := ⟨gb210, 1, none⟩) (by first | (rw [add_block]; exact hn211_1) | (show (Addr.add _ _).block ≠ _; rw [add_block]; exact hn211_1) | exact hn211_1) (.int .i64 ((rd_T37 l0_0 x16_2).f1))).trans hx211_0; replace hx211_0 := (cell_far (p := ⟨gb210, 2, none⟩) (by first | (rw [add_block]; exact hn211_2) | (show (Addr.add _ _).block ≠ _; rw [add_block]; exact hn211_2) | exact hn211_2) (.int .i64 ((rd_T37 l0_0 x16_2).f2))).trans hx211_0; replace hx211_0 := (cell_far (p := ⟨gb210, 3, none⟩) (by first | (rw [add_block]; exact hn211_3) | (show (Addr.add _ _).block ≠ _; rw [add_block]; exact hn211_3) | exact hn211_3) (.int .i64 ((rd_T37 l0_0 x16_2).f3))).trans hx211_0; replace hx211_0 := (cell_far (p := ⟨gb210, 4, none⟩) (by first | (rw [add_block]; exact hn211_4) | (show (Addr.add _ _).block ≠ _; rw [add_block]; exact hn211_4) | exact hn211_4) (.int .i64 ((rd_T37 l0_0 x16_2).f4))).trans hx211_0; clear hn211_0; clear hn211_1; clear hn211_2; clear hn211_3; clear hn211_4; replace p211 := eq_true p211; replace q211 := eq_true q211))
             (try simp only [← hl4_2])
             go_roundg k2
             case measure => have := HK1.out; have := HK2.out; omega
             case rel => exact ⟨(x4_2), (wrap64 (x16_2 + 1)), (by first | rfl | (simp; done) | (simp [*]; done)), H', ⟨by have := HK1.out; have := HK2.out; omega⟩, ⟨by (try simp only [hl4_1]); (try simp only [hl4_2]); (with_reducible repeat (first | apply Kd.R_alloc | apply Kd.R_drewN | apply Kd.R_drew)); exact Kd.R_mono (Kd.R_far (p := ⟨gb210, 4, none⟩) (Kd.R_far (p := ⟨gb210, 3, none⟩) (Kd.R_far (p := ⟨gb210, 2, none⟩) (Kd.R_far (p := ⟨gb210, 1, none⟩) (Kd.R_far (p := ⟨gb210, 0, none⟩) (Kd.R_types HO_4.out BK210.out (by decide)) (fun _ hk => hk.2) (.int .i64 ((rd_T37 l0_0 x16_2).f0))) (fun _ hk => hk.2) (.int .i64 ((rd_T37 l0_0 x16_2).f1))) (fun _ hk => hk.2) (.int .i64 ((rd_T37 l0_0 x16_2).f2))) (fun _ hk => hk.2) (.int .i64 ((rd_T37 l0_0 x16_2).f3))) (fun _ hk => hk.2) (.int .i64 ((rd_T37 l0_0 x16_2).f4))) (fun _ hk => trivial)⟩, ⟨by (try simp only [hl4_1]); (try simp only [hl4_2]); (with_reducible repeat (first | refine blk_drewN ?_ _ | refine blk_drew ?_ | refine blk_alloc ?_ _)); refine blk_far ?_ NB199_210.out _; (with_reducible repeat (first | refine blk_drewN ?_ _ | refine blk_drew ?_ | refine blk_alloc ?_ _)); refine blk_far ?_ NB199_210.out _; (with_reducible repeat (first | refine blk_drewN ?_ _ | refine blk_drew ?_ | refine blk_alloc ?_ _)); refine blk_far ?_ NB199_210.out _; (with_reducible repeat (first | refine blk_drewN ?_ _ | refine blk_drew ?_ | refine blk_alloc ?_ _)); refine blk_far ?_ NB199_210.out _; (with_reducible repeat (first | refine blk_drewN ?_ _ | refine blk_drew ?_ | refine blk_alloc ?_ _)); refine blk_far ?_ NB199_210.out _; (with_reducible repeat (first | refine blk_drewN ?_ _ | refine blk_drew ?_ | refine blk_alloc ?_ _)); exact BK199.out⟩, ⟨lb2_ HB.out GE199.out GE210.out⟩⟩
           ·
            rw [if_neg c18] at H
            exact absurd H (by simp)
          ·
           rw [if_neg c17] at H
           exact absurd H (by simp)
         ·
          rw [if_neg c16] at H
          exact absurd H (by simp)
        ·
         rw [if_neg c15] at H
         exact absurd H (by simp)
       ·
        rw [if_neg c14] at H
        have c14b0 : decide (x16_2 < (l0_0.length : Int)) = false := decide_eq_false c14; clear c14; have H' := Aside0.mk H; clear H
        go_wp2
        (try simp only [← hl4_1, ← hl4_2])
        go_roundg k2
        case measure => have := HK1.out; have := HK2.out; omega
        case rel => exact ⟨(x4_2), (wrap64 (x11_1 + 1)), (by first | rfl | (simp; done) | (simp [*]; done)), H', ⟨by have := HK1.out; have := HK2.out; omega⟩, ⟨by (try simp only [hl4_1]); (try simp only [hl4_2]); (with_reducible repeat (first | apply Kd.R_alloc | apply Kd.R_drewN | apply Kd.R_drew)); exact HO_4.out⟩, ⟨by (try simp only [hl4_1]); (try simp only [hl4_2]); (with_reducible repeat (first | refine blk_drewN ?_ _ | refine blk_drew ?_ | refine blk_alloc ?_ _)); exact BK199.out⟩, ⟨lb1_ HB.out GE199.out⟩⟩
    ·
     rw [if_neg c12] at H
     have c12b0 : decide (x11_1 < 8) = false := decide_eq_false c12
     clear c12
     by_cases c49 : 0 ≤ a0_3
     ·
      rw [if_pos c49] at H
      have c49b0 : decide (0 ≤ a0_3) = true := decide_eq_true c49
      clear c49
      by_cases c50 : a0_3 < (x4_1.length : Int)
      ·
       rw [if_pos c50] at H
       have c50b0 : decide (a0_3 < (x4_1.length : Int)) = true := decide_eq_true c50
       clear c50
       simp only [Option.some.injEq, Prod.mk.injEq] at H
       obtain ⟨rfl, rfl⟩ := H
       try go_wp2
       replace HO_4 := Aside0.mk (Kd.R_drew HO_4.out)
       replace BK199 := Aside0.mk (blk_drew BK199.out)
       replace HB := Aside0.mk (below_drew1 HB.out)
       have p207 : 0 ≤ (a0_3 : Int) := dt_
       have q207 : a0_3 < (x4_1.length : Int) := dt_
       obtain ⟨ad207, e207, hx207_0⟩ := Kd.at_int (Kd.R_reads' HO_4.out).2.2 a0_3 p207 q207
       obtain rfl : (⟨go4, 0, none⟩ : Addr) = ad207 := (by injection e207)
       (first | simp only [add_plain] at hx207_0 | simp only [add_at] at hx207_0 | simp only [Addr.add, Nat.zero_add] at hx207_0 | skip)
       replace p207 := eq_true p207
       replace q207 := eq_true q207
       have p208 : 0 ≤ (a0_3 : Int) := dt_
       have q208 : a0_3 < (x4_1.length : Int) := dt_
       obtain ⟨ad208, e208, hx208_0⟩ := Kd.at_int (Kd.R_reads' HO_4.out).2.2 a0_3 p208 q208
       obtain rfl : (⟨go4, 0, none⟩ : Addr) = ad208 := (by injection e208)
       (first | simp only [add_plain] at hx208_0 | simp only [add_at] at hx208_0 | simp only [Addr.add, Nat.zero_add] at hx208_0 | skip)
       replace p208 := eq_true p208
       replace q208 := eq_true q208
       refine start_ (n := 13) (S := fun w' => w'.cell? ⟨gb199, 0, none⟩ = some (.slice A0_0 l0_0.length c0_0) ∧ w'.cell? ⟨gb199, 1, none⟩ = some (.slice A0_1 l0_1.length c0_1) ∧ w'.cell? ⟨gb199, 2, none⟩ = some (.slice A0_2 l0_2.length c0_2) ∧ w'.cell? ⟨gb199, 3, none⟩ = some (.int .i64 a0_3) ∧ w'.cell? ⟨gb199, 4, none⟩ = some (.int .i64 a0_4) ∧ w'.cell? ⟨go4, (a0_3).toNat, none⟩ = some (.int .i64 (rd x4_1 a0_3)) ∧ w'.cell? ⟨go4, (a0_3).toNat, none⟩ = some (.int .i64 (rd x4_1 a0_3))) (ds := []) impl_Exploration_wayOut.mk20 (by kernel_rfl) rfl rfl ⟨(blk_cell BK199.out 0).trans rfl, (blk_cell BK199.out 1).trans rfl, (blk_cell BK199.out 2).trans rfl, (blk_cell BK199.out 3).trans rfl, (blk_cell BK199.out 4).trans rfl, hx207_0, hx208_0⟩ (fun hHeld => ?_); refine with_tabW impl_Exploration_wayOut.tab13 impl_Exploration_wayOut.bits13 (fun HT_ HW_ => ?_)
       generalize wr.drew = w51 at HO_4 BK199 HB hx207_0 hx208_0 hHeld ⊢
       refine pz_ HT_ 0 (some 72) impl_Exploration_wayOut.mk21 ?_
       refine pz_ HT_ 1 (some 73) impl_Exploration_wayOut.mk22 ?_
       refine pz_ HT_ 5 (some 77) impl_Exploration_wayOut.mk23 ?_
       refine pz_ HT_ 6 (some 78) impl_Exploration_wayOut.mk24 ?_
       refine tk_ HT_ HW_ hHeld 2 (some 74) impl_Exploration_wayOut.mk25 ?_
       refine pz_ HT_ 3 (some 75) impl_Exploration_wayOut.mk26 ?_
       refine tk_ HT_ HW_ hHeld 4 (some 76) impl_Exploration_wayOut.mk27 ?_
       refine pz_ HT_ 11 (some 2) impl_Exploration_wayOut.mk28 ?_
       refine tk_ HT_ HW_ hHeld 7 (some 79) impl_Exploration_wayOut.mk29 ?_
       refine pz_ HT_ 8 (some 80) impl_Exploration_wayOut.mk30 ?_
       refine tk_ HT_ HW_ hHeld 9 (some 81) impl_Exploration_wayOut.mk31 ?_
       refine pz_ HT_ 10 (some 82) impl_Exploration_wayOut.mk32 ?_
       refine pz_ HT_ 12 (some 3) impl_Exploration_wayOut.mk33 ?_
       refine done_ (done_of HT_.out (by kernel_rfl)) ?_
       try go_wp2
       go_ret2
       exact ⟨rr_, lb1_ HB.out GE199.out⟩
      ·
       rw [if_neg c50] at H
       exact absurd H (by simp)
     ·
      rw [if_neg c49] at H
      exact absurd H (by simp)
 ·
  rw [if_neg c3] at H
  exact absurd H (by simp)
def impl_IsExploration.j0 : Nat → Bool → List (S37) → List Bool → List Bool → Int → Int → Option (Bool)
 | 0, _, _, _, _, _, _ => none
 | k + 1, x32, x220000, x220001, x220002, x220003, x220004 => if x32 = true then (some false) else (if 0 < (x220001.length : Int) then (if rdOf false x220001 0 = true then (if 0 ≤ x220003 then (if x220003 < (x220001.length : Int) then (if rdOf false x220001 x220003 = true then ((impl_Exploration_wayOut.f k x220000 x220001 x220002 x220003 x220004).bind fun bt225 => (if bt225.2 = true then (some (decide (bt225.1 ≤ x220004))) else (some false))) else (some false)) else (none)) else (none)) else (some false)) else (none))
def impl_IsExploration.f (k : Nat) (l0_0 : List (S37)) (l0_1 : List Bool) (l0_2 : List Bool) (a0_3 : Int) (a0_4 : Int) : Option (Bool) := (impl_areLegs.f k l0_0).bind fun t220 => (if t220 = true then (if (l0_1.length : Int) = 8 then (if (l0_2.length : Int) = 8 then ((impl_isStation.f a0_3).bind fun t221 => (if t221 = true then ((impl_within.f a0_4 0 100000).bind fun t222 => (impl_IsExploration.j0 k (!t222) l0_0 l0_1 l0_2 a0_3 a0_4)) else (impl_IsExploration.j0 k true l0_0 l0_1 l0_2 a0_3 a0_4))) else (impl_IsExploration.j0 k true l0_0 l0_1 l0_2 a0_3 a0_4)) else (impl_IsExploration.j0 k true l0_0 l0_1 l0_2 a0_3 a0_4)) else (impl_IsExploration.j0 k true l0_0 l0_1 l0_2 a0_3 a0_4))
theorem impl_IsExploration.mono_l : ∀ k, (∀ y0 y1 y2 y3 y4 y5, LeO (impl_IsExploration.j0 k y0 y1 y2 y3 y4 y5) (impl_IsExploration.j0 (k + 1) y0 y1 y2 y3 y4 y5))
 | 0 => fun _ _ _ _ _ _ r h => by simp [impl_IsExploration.j0] at h
 | k + 1 => by
  have ih0 := impl_IsExploration.mono_l k
  ·
   intro y0 y1 y2 y3 y4 y5
   unfold impl_IsExploration.j0
   repeat' first
   | (with_reducible exact ih0 _ _ _ _ _ _)
   | (with_reducible exact impl_Exploration_wayOut.mono _ _ _ _ _ _)
   | (with_reducible exact impl_areLegs.mono _ _)
   | (with_reducible exact LeO.refl _)
   | (with_reducible exact LeO.none _)
   | (with_reducible refine LeO.ite ?_ ?_)
   | (with_reducible refine LeO.bind ?_ (fun _ => ?_))
   | exact ih0 _ _ _ _ _ _
   | exact impl_Exploration_wayOut.mono _ _ _ _ _ _
   | exact impl_areLegs.mono _ _
   | exact LeO.none _
   | refine LeO.ite ?_ ?_
   | refine LeO.bind ?_ (fun _ => ?_)
theorem impl_IsExploration.mono : ∀ a0 a1 a2 a3 a4 k, LeO (impl_IsExploration.f k a0 a1 a2 a3 a4) (impl_IsExploration.f (k + 1) a0 a1 a2 a3 a4) := by
 intro a0 a1 a2 a3 a4 k
 have ih0 := impl_IsExploration.mono_l k
 unfold impl_IsExploration.f
 repeat' first
   | (with_reducible exact ih0 _ _ _ _ _ _)
   | (with_reducible exact impl_Exploration_wayOut.mono _ _ _ _ _ _)
   | (with_reducible exact impl_areLegs.mono _ _)
   | (with_reducible exact LeO.refl _)
   | (with_reducible exact LeO.none _)
   | (with_reducible refine LeO.ite ?_ ?_)
   | (with_reducible refine LeO.bind ?_ (fun _ => ?_))
   | exact ih0 _ _ _ _ _ _
   | exact impl_Exploration_wayOut.mono _ _ _ _ _ _
   | exact impl_areLegs.mono _ _
   | exact LeO.none _
   | refine LeO.ite ?_ ?_
   | refine LeO.bind ?_ (fun _ => ?_)
set_option maxHeartbeats 8000000 in
set_option maxRecDepth 100000 in
theorem impl_IsExploration.calls (k : Nat) (A0_0 : Option Addr) (c0_0 : Nat) (l0_0 : List (S37)) (A0_1 : Option Addr) (c0_1 : Nat) (l0_1 : List Bool) (A0_2 : Option Addr) (c0_2 : Nat) (l0_2 : List Bool) (a0_3 : Int) (a0_4 : Int) (r : Bool) (w : World) (hr0_0 : Kd.C k37 w A0_0 l0_0.length l0_0) (hc0_0 : l0_0.length ≤ c0_0) (hr0_1 : Kd.C Kd.bool w A0_1 l0_1.length l0_1) (hc0_1 : l0_1.length ≤ c0_1) (hr0_2 : Kd.C Kd.bool w A0_2 l0_2.length l0_2) (hc0_2 : l0_2.length ≤ c0_2) (h : impl_IsExploration.f k l0_0 l0_1 l0_2 a0_3 a0_4 = some r) :
  Calls Try.prog 18 #[.agg #[.slice A0_0 l0_0.length c0_0, .slice A0_1 l0_1.length c0_1, .slice A0_2 l0_2.length c0_2, .int .i64 a0_3, .int .i64 a0_4]] w fun e w' => e = .returned (.bool r) ∧ Below w.heap.size w w' := by
 have hu30 := Try.underlying30
 have HR0_0 := Aside0.mk hr0_0
 have HC0_0 := Aside0.mk hc0_0
 clear hr0_0 hc0_0
 have HR0_1 := Aside0.mk hr0_1
 have HC0_1 := Aside0.mk hc0_1
 clear hr0_1 hc0_1
 have HR0_2 := Aside0.mk hr0_2
 have HC0_2 := Aside0.mk hc0_2
 clear hr0_2 hc0_2
 have HB := Aside0.mk (Below.refl w.heap.size w)
 have H : ((impl_areLegs.f k l0_0).bind fun t220 => (if t220 = true then (if (l0_1.length : Int) = 8 then (if (l0_2.length : Int) = 8 then ((impl_isStation.f a0_3).bind fun t221 => (if t221 = true then ((impl_within.f a0_4 0 100000).bind fun t222 => (impl_IsExploration.j0 k (!t222) l0_0 l0_1 l0_2 a0_3 a0_4)) else (impl_IsExploration.j0 k true l0_0 l0_1 l0_2 a0_3 a0_4))) else (impl_IsExploration.j0 k true l0_0 l0_1 l0_2 a0_3 a0_4)) else (impl_IsExploration.j0 k true l0_0 l0_1 l0_2 a0_3 a0_4)) else (impl_IsExploration.j0 k true l0_0 l0_1 l0_2 a0_3 a0_4))) = some r := h
 clear h
 have HC2 := Aside0.mk H
 clear H
 go_enter Try.func18, Try.ntmps18
 go_upto_region 1 with (first | ((with_reducible refine gate_dst (N := 1) rfl ?_); (try (refine gate_guard (by rfl) ?_; dsimp only)); refine box_event ?hg (N := 1) ?hd (cs := #[.slice A0_0 l0_0.length c0_0, .slice A0_1 l0_1.length c0_1, .slice A0_2 l0_2.length c0_2, .int .i64 a0_3, .int .i64 a0_4]) (t := 30) ?hr ?_; (case hd => rfl); (case hg => rfl); (case hr => first | (go_simp; done) | (go_simp; rfl)); intro gb219 hg w3 hbox hb; have BK219 := Aside0.mk (hbox); have GW219 := Aside0.mk ((bz_ hg (lb0_ HB.out))); have GE219 := Aside0.mk ((bz_ hg (lb0_ HB.out))); replace HB := Aside0.mk (below_step (lb0_ HB.out) hb); clear hb hbox hg))
 (try simp only [Act.put, List.setIfInBounds_toArray, List.set_cons_zero, List.set_cons_succ])
 go_cut [32] (fun v32 wc => ∃ (kq : Nat) (x32_1 : Bool), v32 = .bool x32_1 ∧ Aside0 (impl_IsExploration.j0 kq x32_1 l0_0 l0_1 l0_2 a0_3 a0_4 = some r) ∧ Aside0 (kq ≤ k) ∧ Aside0 (wc.heap[gb219]? = some (.cells #[(.slice A0_0 l0_0.length c0_0), (.slice A0_1 l0_1.length c0_1), (.slice A0_2 l0_2.length c0_2), .int .i64 a0_3, .int .i64 a0_4] 30 (0, 0))) ∧ Aside0 (Below w.heap.size w wc))
 case first =>
  have H := HC2.out
  clear HC2
  replace H := Option.bind_eq_some_iff.mp H
  obtain ⟨t220, A40, H⟩ := H
  replace H : (if t220 = true then (if (l0_1.length : Int) = 8 then (if (l0_2.length : Int) = 8 then ((impl_isStation.f a0_3).bind fun t221 => (if t221 = true then ((impl_within.f a0_4 0 100000).bind fun t222 => (impl_IsExploration.j0 k (!t222) l0_0 l0_1 l0_2 a0_3 a0_4)) else (impl_IsExploration.j0 k true l0_0 l0_1 l0_2 a0_3 a0_4))) else (impl_IsExploration.j0 k true l0_0 l0_1 l0_2 a0_3 a0_4)) else (impl_IsExploration.j0 k true l0_0 l0_1 l0_2 a0_3 a0_4)) else (impl_IsExploration.j0 k true l0_0 l0_1 l0_2 a0_3 a0_4)) = some r := H
  have A4 := Aside0.mk A40
  clear A40
  by_cases c5 : t220 = true
  ·
   subst c5
   have H1 : (if (l0_1.length : Int) = 8 then (if (l0_2.length : Int) = 8 then ((impl_isStation.f a0_3).bind fun t221 => (if t221 = true then ((impl_within.f a0_4 0 100000).bind fun t222 => (impl_IsExploration.j0 k (!t222) l0_0 l0_1 l0_2 a0_3 a0_4)) else (impl_IsExploration.j0 k true l0_0 l0_1 l0_2 a0_3 a0_4))) else (impl_IsExploration.j0 k true l0_0 l0_1 l0_2 a0_3 a0_4)) else (impl_IsExploration.j0 k true l0_0 l0_1 l0_2 a0_3 a0_4)) = some r := by rw [if_pos rfl] at H; exact H
   clear H
   have H := H1
   clear H1
   by_cases c6 : (l0_1.length : Int) = 8
   ·
    rw [if_pos c6] at H
    have c6b0 : ((l0_1.length : Int) == 8) = true := beq_iff_eq.mpr c6
    have c6b1 : ((l0_1.length : Int) != 8) = false := bne_eq_false_iff_eq.mpr c6
    clear c6
    (first | rw [c6b0] | (simp only [i64_w, i32_w]; rw [c6b0]) | skip)
    by_cases c7 : (l0_2.length : Int) = 8
    ·
     rw [if_pos c7] at H
     have c7b0 : ((l0_2.length : Int) == 8) = true := beq_iff_eq.mpr c7
     have c7b1 : ((l0_2.length : Int) != 8) = false := bne_eq_false_iff_eq.mpr c7
     clear c7
     replace H := Option.bind_eq_some_iff.mp H
     obtain ⟨t221, A80, H⟩ := H
     replace H : (if t221 = true then ((impl_within.f a0_4 0 100000).bind fun t222 => (impl_IsExploration.j0 k (!t222) l0_0 l0_1 l0_2 a0_3 a0_4)) else (impl_IsExploration.j0 k true l0_0 l0_1 l0_2 a0_3 a0_4)) = some r := H
     have A8 := Aside0.mk A80
     clear A80
     by_cases c9 : t221 = true
     ·
      subst c9
      have H1 : ((impl_within.f a0_4 0 100000).bind fun t222 => (impl_IsExploration.j0 k (!t222) l0_0 l0_1 l0_2 a0_3 a0_4)) = some r := by rw [if_pos rfl] at H; exact H
      clear H
      have H := H1
      clear H1
      replace H := Option.bind_eq_some_iff.mp H
      obtain ⟨t222, A100, H⟩ := H
      replace H : (impl_IsExploration.j0 k (!t222) l0_0 l0_1 l0_2 a0_3 a0_4) = some r := H
      have A10 := Aside0.mk A100
      clear A100
      have H' := Aside0.mk H
      clear H
      obtain ⟨hcz11_0, hcz11_1, hcz11_2, hcz11_3, hcz11_4⟩ := cz5_ BK219.out
      obtain ⟨hfz11_0, hfz11_1, hfz11_2, hfz11_3, hfz11_4⟩ := fz5_ BK219.out
      go_wp2_with (first | ((with_reducible refine gate_callee (f := 69) rfl ?_); refine ga_ (some 7) Try.func69 #[.slice A0_0 l0_0.length c0_0] ?_; (with_reducible refine (impl_areLegs.calls k _ _ l0_0 true _ ?side1 ?side2 A4.out).mono ?_); (case side1 => exact kc_ (Kd.C_below HR0_0.out HB.out)); (case side2 => exact HC0_0.out); rintro e w12 ⟨rfl, hb⟩; refine ⟨_, rfl, ?_⟩; replace BK219 := Aside0.mk (bb_ (bk_ BK219.out) hb); replace HB := Aside0.mk (below_step (lb1_ HB.out GE219.out) hb); (try clear hb); (try clear hb2); (try clear hk); (try clear hi); obtain ⟨hcz13_0, hcz13_1, hcz13_2, hcz13_3, hcz13_4⟩ := cz5_ BK219.out; obtain ⟨hfz13_0, hfz13_1, hfz13_2, hfz13_3, hfz13_4⟩ := fz5_ BK219.out) | (go_at_call 70; (with_reducible refine (impl_isStation.calls a0_3 true _ A8.out).mono ?_); rintro e w' ⟨rfl, ⟨nd, rfl⟩⟩) | (go_at_call 71; (with_reducible refine (impl_within.calls a0_4 0 100000 t222 _ A10.out).mono ?_); rintro e w' ⟨rfl, ⟨nd, rfl⟩⟩))
      go_meet
      case rel => exact ⟨_, (!t222), (by first | rfl | (simp; done) | (simp [*]; done)), H', ⟨by first | omega | exact Nat.le_refl _⟩, ⟨bk_ BK219.out⟩, ⟨lb1_ HB.out GE219.out⟩⟩
     ·
      replace c9 := Bool.eq_false_iff.mpr c9
      subst c9
      have H1 : (impl_IsExploration.j0 k true l0_0 l0_1 l0_2 a0_3 a0_4) = some r := by rw [if_neg (show ¬ (false = true) by decide)] at H; exact H
      clear H
      have H := H1
      clear H1
      have H' := Aside0.mk H
      clear H
      obtain ⟨hcz14_0, hcz14_1, hcz14_2, hcz14_3, hcz14_4⟩ := cz5_ BK219.out
      obtain ⟨hfz14_0, hfz14_1, hfz14_2, hfz14_3, hfz14_4⟩ := fz5_ BK219.out
      go_wp2_with (first | ((with_reducible refine gate_callee (f := 69) rfl ?_); refine ga_ (some 7) Try.func69 #[.slice A0_0 l0_0.length c0_0] ?_; (with_reducible refine (impl_areLegs.calls k _ _ l0_0 true _ ?side1 ?side2 A4.out).mono ?_); (case side1 => exact kc_ (Kd.C_below HR0_0.out HB.out)); (case side2 => exact HC0_0.out); rintro e w15 ⟨rfl, hb⟩; refine ⟨_, rfl, ?_⟩; replace BK219 := Aside0.mk (bb_ (bk_ BK219.out) hb); replace HB := Aside0.mk (below_step (lb1_ HB.out GE219.out) hb); (try clear hb); (try clear hb2); (try clear hk); (try clear hi); obtain ⟨hcz16_0, hcz16_1, hcz16_2, hcz16_3, hcz16_4⟩ := cz5_ BK219.out; obtain ⟨hfz16_0, hfz16_1, hfz16_2, hfz16_3, hfz16_4⟩ := fz5_ BK219.out) | (go_at_call 70; (with_reducible refine (impl_isStation.calls a0_3 false _ A8.out).mono ?_); rintro e w' ⟨rfl, ⟨nd, rfl⟩⟩))
      go_meet
      case rel => exact ⟨_, (true), (by first | rfl | (simp; done) | (simp [*]; done)), H', ⟨by first | omega | exact Nat.le_refl _⟩, ⟨bk_ BK219.out⟩, ⟨lb1_ HB.out GE219.out⟩⟩
    ·
     rw [if_neg c7] at H
     have c7b0 : ((l0_2.length : Int) == 8) = false := beq_eq_false_iff_ne.mpr c7
     have c7b1 : ((l0_2.length : Int) != 8) = true := bne_iff_ne.mpr c7
     have H' := Aside0.mk H
     clear H
     obtain ⟨hcz17_0, hcz17_1, hcz17_2, hcz17_3, hcz17_4⟩ := cz5_ BK219.out
     obtain ⟨hfz17_0, hfz17_1, hfz17_2, hfz17_3, hfz17_4⟩ := fz5_ BK219.out
     go_wp2_with (first | ((with_reducible refine gate_callee (f := 69) rfl ?_); refine ga_ (some 7) Try.func69 #[.slice A0_0 l0_0.length c0_0] ?_; (with_reducible refine (impl_areLegs.calls k _ _ l0_0 true _ ?side1 ?side2 A4.out).mono ?_); (case side1 => exact kc_ (Kd.C_below HR0_0.out HB.out)); (case side2 => exact HC0_0.out); rintro e w18 ⟨rfl, hb⟩; refine ⟨_, rfl, ?_⟩; replace BK219 := Aside0.mk (bb_ (bk_ BK219.out) hb); replace HB := Aside0.mk (below_step (lb1_ HB.out GE219.out) hb); (try clear hb); (try clear hb2); (try clear hk); (try clear hi); obtain ⟨hcz19_0, hcz19_1, hcz19_2, hcz19_3, hcz19_4⟩ := cz5_ BK219.out; obtain ⟨hfz19_0, hfz19_1, hfz19_2, hfz19_3, hfz19_4⟩ := fz5_ BK219.out))
     go_meet
     case rel => exact ⟨_, (true), (by first | rfl | (simp; done) | (simp [*]; done)), H', ⟨by first | omega | exact Nat.le_refl _⟩, ⟨bk_ BK219.out⟩, ⟨lb1_ HB.out GE219.out⟩⟩
   ·
    rw [if_neg c6] at H
    have c6b0 : ((l0_1.length : Int) == 8) = false := beq_eq_false_iff_ne.mpr c6
    have c6b1 : ((l0_1.length : Int) != 8) = true := bne_iff_ne.mpr c6
    (first | rw [c6b0] | (simp only [i64_w, i32_w]; rw [c6b0]) | skip)
    have H' := Aside0.mk H
    clear H
    obtain ⟨hcz20_0, hcz20_1, hcz20_2, hcz20_3, hcz20_4⟩ := cz5_ BK219.out
    obtain ⟨hfz20_0, hfz20_1, hfz20_2, hfz20_3, hfz20_4⟩ := fz5_ BK219.out
    go_wp2_with (first | ((with_reducible refine gate_callee (f := 69) rfl ?_); refine ga_ (some 7) Try.func69 #[.slice A0_0 l0_0.length c0_0] ?_; (with_reducible refine (impl_areLegs.calls k _ _ l0_0 true _ ?side1 ?side2 A4.out).mono ?_); (case side1 => exact kc_ (Kd.C_below HR0_0.out HB.out)); (case side2 => exact HC0_0.out); rintro e w21 ⟨rfl, hb⟩; refine ⟨_, rfl, ?_⟩; replace BK219 := Aside0.mk (bb_ (bk_ BK219.out) hb); replace HB := Aside0.mk (below_step (lb1_ HB.out GE219.out) hb); (try clear hb); (try clear hb2); (try clear hk); (try clear hi); obtain ⟨hcz22_0, hcz22_1, hcz22_2, hcz22_3, hcz22_4⟩ := cz5_ BK219.out; obtain ⟨hfz22_0, hfz22_1, hfz22_2, hfz22_3, hfz22_4⟩ := fz5_ BK219.out))
    go_meet
    case rel => exact ⟨_, (true), (by first | rfl | (simp; done) | (simp [*]; done)), H', ⟨by first | omega | exact Nat.le_refl _⟩, ⟨bk_ BK219.out⟩, ⟨lb1_ HB.out GE219.out⟩⟩
  ·
   replace c5 := Bool.eq_false_iff.mpr c5
   subst c5
   have H1 : (impl_IsExploration.j0 k true l0_0 l0_1 l0_2 a0_3 a0_4) = some r := by rw [if_neg (show ¬ (false = true) by decide)] at H; exact H
   clear H
   have H := H1
   clear H1
   have H' := Aside0.mk H
   clear H
   obtain ⟨hcz23_0, hcz23_1, hcz23_2, hcz23_3, hcz23_4⟩ := cz5_ BK219.out
   obtain ⟨hfz23_0, hfz23_1, hfz23_2, hfz23_3, hfz23_4⟩ := fz5_ BK219.out
   go_wp2_with (first | ((with_reducible refine gate_callee (f := 69) rfl ?_); refine ga_ (some 7) Try.func69 #[.slice A0_0 l0_0.length c0_0] ?_; (with_reducible refine (impl_areLegs.calls k _ _ l0_0 false _ ?side1 ?side2 A4.out).mono ?_); (case side1 => exact kc_ (Kd.C_below HR0_0.out HB.out)); (case side2 => exact HC0_0.out); rintro e w24 ⟨rfl, hb⟩; refine ⟨_, rfl, ?_⟩; replace BK219 := Aside0.mk (bb_ (bk_ BK219.out) hb); replace HB := Aside0.mk (below_step (lb1_ HB.out GE219.out) hb); (try clear hb); (try clear hb2); (try clear hk); (try clear hi)))
   go_meet
   case rel => exact ⟨_, (true), (by first | rfl | (simp; done) | (simp [*]; done)), H', ⟨by first | omega | exact Nat.le_refl _⟩, ⟨bk_ BK219.out⟩, ⟨lb1_ HB.out GE219.out⟩⟩
 case rest =>
  clear HC2
  try clear c1
  try clear p2
  try clear c5
  try clear c6
  try clear c6b0
  try clear c6b1
  try clear c7
  try clear c7b0
  try clear c7b1
  try clear c9
  try clear c18
  try clear hcz11_0 hcz11_1 hcz11_2 hcz11_3 hcz11_4
  try clear hcz13_0 hcz13_1 hcz13_2 hcz13_3 hcz13_4
  try clear hcz14_0 hcz14_1 hcz14_2 hcz14_3 hcz14_4
  try clear hcz16_0 hcz16_1 hcz16_2 hcz16_3 hcz16_4
  try clear hcz17_0 hcz17_1 hcz17_2 hcz17_3 hcz17_4
  try clear hcz19_0 hcz19_1 hcz19_2 hcz19_3 hcz19_4
  try clear hcz20_0 hcz20_1 hcz20_2 hcz20_3 hcz20_4
  try clear hcz22_0 hcz22_1 hcz22_2 hcz22_3 hcz22_4
  try clear hcz23_0 hcz23_1 hcz23_2 hcz23_3 hcz23_4
  try clear hfz11_0 hfz11_1 hfz11_2 hfz11_3 hfz11_4
  try clear hfz13_0 hfz13_1 hfz13_2 hfz13_3 hfz13_4
  try clear hfz14_0 hfz14_1 hfz14_2 hfz14_3 hfz14_4
  try clear hfz16_0 hfz16_1 hfz16_2 hfz16_3 hfz16_4
  try clear hfz17_0 hfz17_1 hfz17_2 hfz17_3 hfz17_4
  try clear hfz19_0 hfz19_1 hfz19_2 hfz19_3 hfz19_4
  try clear hfz20_0 hfz20_1 hfz20_2 hfz20_3 hfz20_4
  try clear hfz22_0 hfz22_1 hfz22_2 hfz22_3 hfz22_4
  try clear hfz23_0 hfz23_1 hfz23_2 hfz23_3 hfz23_4
  obtain ⟨kq, x32_1, rfl, HA, HJ1, BK219, HB⟩ := hcut
  cases kq with
  | zero => exact absurd HA.out (by simp [impl_IsExploration.j0])
  | succ kj1 =>
   have H := HA.out
   clear HA
   simp only [impl_IsExploration.j0] at H
   by_cases c25 : x32_1 = true
   ·
    subst c25
    have H1 : (some false) = some r := by rw [if_pos rfl] at H; exact H
    clear H
    have H := H1
    clear H1
    obtain rfl := Option.some.inj H
    go_wp2
    go_ret
    exact ⟨rr_, lb1_ HB.out GE219.out⟩
   ·
    replace c25 := Bool.eq_false_iff.mpr c25
    subst c25
    have H1 : (if 0 < (l0_1.length : Int) then (if rdOf false l0_1 0 = true then (if 0 ≤ a0_3 then (if a0_3 < (l0_1.length : Int) then (if rdOf false l0_1 a0_3 = true then ((impl_Exploration_wayOut.f kj1 l0_0 l0_1 l0_2 a0_3 a0_4).bind fun bt225 => (if bt225.2 = true then (some (decide (bt225.1 ≤ a0_4))) else (some false))) else (some false)) else (none)) else (none)) else (some false)) else (none)) = some r := by rw [if_neg (show ¬ (false = true) by decide)] at H; exact H
    clear H
    have H := H1
    clear H1
    by_cases c26 : 0 < (l0_1.length : Int)
    ·
     rw [if_pos c26] at H
     have c26b0 : decide (0 < (l0_1.length : Int)) = true := decide_eq_true c26
     have c26b1 : decide (0 < l0_1.length) = true := decide_eq_true (by omega)
     clear c26
     obtain ⟨bq27, hbq27⟩ : ∃ b_ : Bool, b_ = (rdOf false l0_1 0) := ⟨_, rfl⟩
     replace H : (if bq27 = true then (if 0 ≤ a0_3 then (if a0_3 < (l0_1.length : Int) then (if rdOf false l0_1 a0_3 = true then ((impl_Exploration_wayOut.f kj1 l0_0 l0_1 l0_2 a0_3 a0_4).bind fun bt225 => (if bt225.2 = true then (some (decide (bt225.1 ≤ a0_4))) else (some false))) else (some false)) else (none)) else (none)) else (some false)) = some r := by rw [← hbq27] at H; exact H
     have Nbq27 := Aside0.mk hbq27
     clear hbq27
     by_cases c28 : bq27 = true
     ·
      subst c28
      have H1 : (if 0 ≤ a0_3 then (if a0_3 < (l0_1.length : Int) then (if rdOf false l0_1 a0_3 = true then ((impl_Exploration_wayOut.f kj1 l0_0 l0_1 l0_2 a0_3 a0_4).bind fun bt225 => (if bt225.2 = true then (some (decide (bt225.1 ≤ a0_4))) else (some false))) else (some false)) else (none)) else (none)) = some r := by rw [if_pos rfl] at H; exact H
      clear H
      have H := H1
      clear H1
      by_cases c29 : 0 ≤ a0_3
      ·
       rw [if_pos c29] at H
       have c29b0 : decide (0 ≤ a0_3) = true := decide_eq_true c29
       clear c29
       by_cases c30 : a0_3 < (l0_1.length : Int)
       ·
        rw [if_pos c30] at H
        have c30b0 : decide (a0_3 < (l0_1.length : Int)) = true := decide_eq_true c30; clear c30
        obtain ⟨bq31, hbq31⟩ : ∃ b_ : Bool, b_ = (rdOf false l0_1 a0_3) := ⟨_, rfl⟩
        replace H : (if bq31 = true then ((impl_Exploration_wayOut.f kj1 l0_0 l0_1 l0_2 a0_3 a0_4).bind fun bt225 => (if bt225.2 = true then (some (decide (bt225.1 ≤ a0_4))) else (some false))) else (some false)) = some r := by rw [← hbq31] at H; exact H
        have Nbq31 := Aside0.mk hbq31; clear hbq31
        by_cases c32 : bq31 = true
        ·
         subst c32
         have H1 : ((impl_Exploration_wayOut.f kj1 l0_0 l0_1 l0_2 a0_3 a0_4).bind fun bt225 => (if bt225.2 = true then (some (decide (bt225.1 ≤ a0_4))) else (some false))) = some r := by rw [if_pos rfl] at H; exact H
         clear H; have H := H1; clear H1; replace H := Option.bind_eq_some_iff.mp H; obtain ⟨⟨t225, t226⟩, A330, H⟩ := H; replace H : (if t226 = true then (some (decide (t225 ≤ a0_4))) else (some false)) = some r := H; have A33 := Aside0.mk A330; clear A330
         by_cases c34 : t226 = true
         ·
          subst c34
          have H1 : (some (decide (t225 ≤ a0_4))) = some r := by rw [if_pos rfl] at H; exact H
          clear H; have H := H1; clear H1; obtain rfl := Option.some.inj H; obtain ⟨hcz35_0, hcz35_1, hcz35_2, hcz35_3, hcz35_4⟩ := cz5_ BK219.out; obtain ⟨hfz35_0, hfz35_1, hfz35_2, hfz35_3, hfz35_4⟩ := fz5_ BK219.out
          have p223 : 0 ≤ (0 : Int) := (by omega)
          have q223 : 0 < (l0_1.length : Int) := dt_; obtain ⟨ad223, e223, hx223_0⟩ := Kd.at_bool HR0_1.out 0 p223 q223; (try rw [← Nbq27.out] at hx223_0); (try rw [← Nbq31.out] at hx223_0)
          cases e223
          have qi223 : (0 < l0_1.length) = True := eq_true (by omega); (try rw [show ((0 : Int)).toNat = 0 from rfl] at hx223_0); (try rw [Addr.add_zero'] at hx223_0); replace hx223_0 := bc_ HB.out hx223_0; replace p223 := eq_true p223; replace q223 := eq_true q223; have p224 : 0 ≤ (a0_3 : Int) := dt_; have q224 : a0_3 < (l0_1.length : Int) := dt_; obtain ⟨ad224, e224, hx224_0⟩ := Kd.at_bool HR0_1.out a0_3 p224 q224; (try rw [← Nbq27.out] at hx224_0); (try rw [← Nbq31.out] at hx224_0)
          obtain rfl : ad223 = ad224 := (by injection e224)
          replace hx224_0 := bc_ HB.out hx224_0; replace p224 := eq_true p224; replace q224 := eq_true q224
          go_wp2_with (first | ((with_reducible refine gate_callee (f := 72) rfl ?_); refine ga_ (some 49) Try.func72 #[.agg #[.slice A0_0 l0_0.length c0_0, .slice (some ad223) l0_1.length c0_1, .slice A0_2 l0_2.length c0_2, .int .i64 a0_3, .int .i64 a0_4]] ?_; (with_reducible refine (impl_Exploration_wayOut.calls kj1 _ _ l0_0 _ _ l0_1 _ _ l0_2 a0_3 a0_4 t225 true _ ?side1 ?side2 ?side3 ?side4 ?side5 ?side6 A33.out).mono ?_); (case side1 => exact kc_ (Kd.C_below HR0_0.out HB.out)); (case side2 => exact HC0_0.out); (case side3 => exact kc_ (Kd.C_below HR0_1.out HB.out)); (case side4 => exact HC0_1.out); (case side5 => exact kc_ (Kd.C_below HR0_2.out HB.out)); (case side6 => exact HC0_2.out); rintro e w36 ⟨rfl, hb⟩; refine ⟨_, rfl, ?_⟩; replace BK219 := Aside0.mk (bb_ (bk_ BK219.out) hb); replace HB := Aside0.mk (below_step (lb1_ HB.out GE219.out) hb); (try clear hb); (try clear hb2); (try clear hk); (try clear hi); obtain ⟨hcz37_0, hcz37_1, hcz37_2, hcz37_3, hcz37_4⟩ := cz5_ BK219.out; obtain ⟨hfz37_0, hfz37_1, hfz37_2, hfz37_3, hfz37_4⟩ := fz5_ BK219.out))
          go_ret
          exact ⟨rr_, lb1_ HB.out GE219.out⟩
         ·
          replace c34 := Bool.eq_false_iff.mpr c34; subst c34
          have H1 : (some false) = some r := by rw [if_neg (show ¬ (false = true) by decide)] at H; exact H
          clear H; have H := H1; clear H1; obtain rfl := Option.some.inj H; obtain ⟨hcz38_0, hcz38_1, hcz38_2, hcz38_3, hcz38_4⟩ := cz5_ BK219.out; obtain ⟨hfz38_0, hfz38_1, hfz38_2, hfz38_3, hfz38_4⟩ := fz5_ BK219.out
          have p223 : 0 ≤ (0 : Int) := (by omega)
          have q223 : 0 < (l0_1.length : Int) := dt_; obtain ⟨ad223, e223, hx223_0⟩ := Kd.at_bool HR0_1.out 0 p223 q223; (try rw [← Nbq27.out] at hx223_0); (try rw [← Nbq31.out] at hx223_0)
          cases e223
          have qi223 : (0 < l0_1.length) = True := eq_true (by omega); (try rw [show ((0 : Int)).toNat = 0 from rfl] at hx223_0); (try rw [Addr.add_zero'] at hx223_0); replace hx223_0 := bc_ HB.out hx223_0; replace p223 := eq_true p223; replace q223 := eq_true q223; have p224 : 0 ≤ (a0_3 : Int) := dt_; have q224 : a0_3 < (l0_1.length : Int) := dt_; obtain ⟨ad224, e224, hx224_0⟩ := Kd.at_bool HR0_1.out a0_3 p224 q224; (try rw [← Nbq27.out] at hx224_0); (try rw [← Nbq31.out] at hx224_0)
          obtain rfl : ad223 = ad224 := (by injection e224)
          replace hx224_0 := bc_ HB.out hx224_0; replace p224 := eq_true p224; replace q224 := eq_true q224
          go_wp2_with (first | ((with_reducible refine gate_callee (f := 72) rfl ?_); refine ga_ (some 49) Try.func72 #[.agg #[.slice A0_0 l0_0.length c0_0, .slice (some ad223) l0_1.length c0_1, .slice A0_2 l0_2.length c0_2, .int .i64 a0_3, .int .i64 a0_4]] ?_; (with_reducible refine (impl_Exploration_wayOut.calls kj1 _ _ l0_0 _ _ l0_1 _ _ l0_2 a0_3 a0_4 t225 false _ ?side1 ?side2 ?side3 ?side4 ?side5 ?side6 A33.out).mono ?_); (case side1 => exact kc_ (Kd.C_below HR0_0.out HB.out)); (case side2 => exact HC0_0.out); (case side3 => exact kc_ (Kd.C_below HR0_1.out HB.out)); (case side4 => exact HC0_1.out); (case side5 => exact kc_ (Kd.C_below HR0_2.out HB.out)); (case side6 => exact HC0_2.out); rintro e w39 ⟨rfl, hb⟩; refine ⟨_, rfl, ?_⟩; replace BK219 := Aside0.mk (bb_ (bk_ BK219.out) hb); replace HB := Aside0.mk (below_step (lb1_ HB.out GE219.out) hb); (try clear hb); (try clear hb2); (try clear hk); (try clear hi)))
          go_ret
          exact ⟨rr_, lb1_ HB.out GE219.out⟩
        ·
         replace c32 := Bool.eq_false_iff.mpr c32; subst c32
         have H1 : (some false) = some r := by rw [if_neg (show ¬ (false = true) by decide)] at H; exact H
         clear H; have H := H1; clear H1; obtain rfl := Option.some.inj H; obtain ⟨hcz40_0, hcz40_1, hcz40_2, hcz40_3, hcz40_4⟩ := cz5_ BK219.out; obtain ⟨hfz40_0, hfz40_1, hfz40_2, hfz40_3, hfz40_4⟩ := fz5_ BK219.out
         have p223 : 0 ≤ (0 : Int) := (by omega)
         have q223 : 0 < (l0_1.length : Int) := dt_; obtain ⟨ad223, e223, hx223_0⟩ := Kd.at_bool HR0_1.out 0 p223 q223; (try rw [← Nbq27.out] at hx223_0); (try rw [← Nbq31.out] at hx223_0)
         cases e223
         have qi223 : (0 < l0_1.length) = True := eq_true (by omega); (try rw [show ((0 : Int)).toNat = 0 from rfl] at hx223_0); (try rw [Addr.add_zero'] at hx223_0); replace hx223_0 := bc_ HB.out hx223_0; replace p223 := eq_true p223; replace q223 := eq_true q223; have p224 : 0 ≤ (a0_3 : Int) := dt_; have q224 : a0_3 < (l0_1.length : Int) := dt_; obtain ⟨ad224, e224, hx224_0⟩ := Kd.at_bool HR0_1.out a0_3 p224 q224; (try rw [← Nbq27.out] at hx224_0); (try rw [← Nbq31.out] at hx224_0)
         obtain rfl : ad223 = ad224 := (by injection e224)
         replace hx224_0 := bc_ HB.out hx224_0; replace p224 := eq_true p224; replace q224 := eq_true q224
         go_wp2
         go_ret
         exact ⟨rr_, lb1_ HB.out GE219.out⟩
       ·
        rw [if_neg c30] at H
        exact absurd H (by simp)
      ·
       rw [if_neg c29] at H
       exact absurd H (by simp)
     ·
      replace c28 := Bool.eq_false_iff.mpr c28
      subst c28
      have H1 : (some false) = some r := by rw [if_neg (show ¬ (false = true) by decide)] at H; exact H
      clear H
      have H := H1
      clear H1
      obtain rfl := Option.some.inj H
      obtain ⟨hcz41_0, hcz41_1, hcz41_2, hcz41_3, hcz41_4⟩ := cz5_ BK219.out
      obtain ⟨hfz41_0, hfz41_1, hfz41_2, hfz41_3, hfz41_4⟩ := fz5_ BK219.out
      have p223 : 0 ≤ (0 : Int) := (by omega)
      have q223 : 0 < (l0_1.length : Int) := dt_
      obtain ⟨ad223, e223, hx223_0⟩ := Kd.at_bool HR0_1.out 0 p223 q223
      (try rw [← Nbq27.out] at hx223_0)
      cases e223
      have qi223 : (0 < l0_1.length) = True := eq_true (by omega)
      (try rw [show ((0 : Int)).toNat = 0 from rfl] at hx223_0)
      (try rw [Addr.add_zero'] at hx223_0)
      replace hx223_0 := bc_ HB.out hx223_0
      replace p223 := eq_true p223
      replace q223 := eq_true q223
      go_wp2
      go_ret
      exact ⟨rr_, lb1_ HB.out GE219.out⟩
    ·
     rw [if_neg c26] at H
     exact absurd H (by simp)
def idxP {α : Type} (p : α → Bool) (l : List α) : Int := if l.any p then (l.findIdx p : Int) else -1
theorem idxP_hit {α : Type} (p : α → Bool) (z : α) (l : List α) (k : Nat) (hk : k < l.length) (h : p (l.getD k z) = true) (hb : ∀ j, j < k → p (l.getD j z) = false) : idxP p l = k := by
 have hf : l.findIdx p = k := by
  rw [List.findIdx_eq hk]
  refine ⟨by rw [List.getD_eq_getElem?_getD, List.getElem?_eq_getElem hk] at h; exact h, fun j hj => ?_⟩
  have := hb j hj
  rw [List.getD_eq_getElem?_getD, List.getElem?_eq_getElem (by omega)] at this
  exact this
 unfold idxP
 rw [if_pos, hf]
 rw [List.any_eq_true]
 refine ⟨l[k], List.getElem_mem hk, ?_⟩
 rw [List.getD_eq_getElem?_getD, List.getElem?_eq_getElem hk] at h
 exact h
theorem idxP_miss {α : Type} (p : α → Bool) (z : α) (l : List α) (hb : ∀ j, j < l.length → p (l.getD j z) = false) : idxP p l = -1 := by
 unfold idxP
 rw [if_neg]
 rw [List.any_eq_true]
 rintro ⟨x, hx, hp⟩
 obtain ⟨j, hj, rfl⟩ := List.mem_iff_getElem.1 hx
 have := hb j hj
 rw [List.getD_eq_getElem?_getD, List.getElem?_eq_getElem hj] at this
 rw [show (some l[j]).getD z = l[j] from rfl, hp] at this
 cases this
theorem idxP_any {α : Type} (p : α → Bool) (l : List α) : decide (0 ≤ idxP p l) = l.any p := by
 unfold idxP
 split
 ·
  rename_i h
  rw [h]
  simp
 ·
  rename_i h
  rw [Bool.eq_false_iff.mpr h]
  rfl
set_option maxHeartbeats 4000000 in
theorem idx_Leg.calls (p : S37 → Bool) (g : Nat) (lb : Array Value) (eg : ∀ args w, (callFunc g args).run Try.prog w = .ok (.enter g args) w) (A0 : Option Addr) (c0 : Nat) (l0 : List S37) (w : World) (hr0 : Kd.C k37 w A0 l0.length l0) (hc0 : l0.length ≤ c0)
  (hp : ∀ (W : World) (x : S37), x ∈ l0 → Below w.heap.size w W → Calls Try.prog g (#[.agg #[.int .i64 x.f0, .int .i64 x.f1, .int .i64 x.f2, .int .i64 x.f3, .int .i64 x.f4]] ++ lb) W fun e w' => e = .returned (.bool (p x)) ∧ Below w.heap.size w w') :
  Calls Try.prog 116 #[.slice A0 l0.length c0, .func (.func g) #[] lb] w fun e w' => e = .returned (.int .i64 (idxP p l0)) ∧ Below w.heap.size w w' := by
 have hL : l0.length ≤ 9223372036854775807 := hr0.2.1
 have HP := Aside0.mk hp
 have HR := Aside0.mk hr0
 clear hp hr0
 go_enter Try.func116, Try.ntmps116
 go_wp2
 go_loopg [5, 8] l0.length (fun gg _ s8 wr => ∃ kk : Nat, kk ≤ l0.length ∧ l0.length - kk ≤ gg ∧ s8 = .int .i64 kk ∧ Aside0 (Below w.heap.size w wr) ∧ Aside0 (∀ j, j < kk → p (l0.getD j z37) = false))
 case atStart => exact ⟨0, Nat.zero_le _, by omega, rfl, ⟨Below.refl _ w⟩, ⟨fun j hj => absurd hj (Nat.not_lt_zero _)⟩⟩
 case round =>
  obtain ⟨kk, hkk, hg, rfl, BW, AA⟩ := hrel
  by_cases hlt : kk < l0.length
  ·
   have hltz : (kk : Int) < (l0.length : Int) := by omega
   have hk0 : (0 : Int) ≤ (kk : Int) := by omega
   obtain ⟨ad, e0, hx0, hx1, hx2, hx3, hx4⟩ := at_T37 HR.out (kk : Int) hk0 hltz
   replace hx0 := (BW.out.cell (World.block_lt_of_cell? w _ hx0)).trans hx0
   replace hx1 := (BW.out.cell (World.block_lt_of_cell? w _ hx1)).trans hx1
   replace hx2 := (BW.out.cell (World.block_lt_of_cell? w _ hx2)).trans hx2
   replace hx3 := (BW.out.cell (World.block_lt_of_cell? w _ hx3)).trans hx3
   replace hx4 := (BW.out.cell (World.block_lt_of_cell? w _ hx4)).trans hx4
   have hm : rd_T37 l0 (kk : Int) ∈ l0 := by
    show l0.getD (kk : Int).toNat _ ∈ l0
    rw [Int.toNat_natCast, List.getD_eq_getElem?_getD, List.getElem?_eq_getElem hlt]
    exact List.getElem_mem hlt
   have hcall := HP.out wr (rd_T37 l0 (kk : Int)) hm BW.out
   have hpk : Aside0 (p (rd_T37 l0 (kk : Int)) = p (l0.getD kk z37)) := ⟨rfl⟩
   clear hm
   generalize rd_T37 l0 (kk : Int) = y at hx0 hx1 hx2 hx3 hx4 hcall hpk
   subst e0
   rw [Int.toNat_natCast] at hx0 hx1 hx2 hx3 hx4
   cases hq : p y with
   | true =>
    rw [hq] at hcall
    go_wp2_with (go_at_fn g; refine hcall.mono ?_; rintro e w' ⟨rfl, hb'⟩)
    go_ret
    refine ⟨?_, hb'⟩
    rw [idxP_hit p z37 l0 kk hlt (hpk.out.symm.trans hq) AA.out]
    rfl
   | false =>
    rw [hq] at hcall
    go_wp2_with (go_at_fn g; refine hcall.mono ?_; rintro e w' ⟨rfl, hb'⟩)
    go_roundg (l0.length - (kk + 1))
    case measure => omega
    case rel =>
     refine ⟨kk + 1, by omega, by omega, by go_num, ⟨hb'⟩, ⟨fun j hj => ?_⟩⟩
     by_cases e : j = kk
     ·
      subst e
      exact hpk.out.symm.trans hq
     ·
      exact AA.out j (by omega)
  ·
   have hltz : ¬ (kk : Int) < (l0.length : Int) := by omega
   have hkl : kk = l0.length := by omega
   go_wp2
   go_ret
   refine ⟨?_, BW.out⟩
   rw [idxP_miss p z37 l0 (fun j hj => AA.out j (by omega))]
   rfl
set_option maxHeartbeats 4000000 in
theorem cont_Leg.calls (p : S37 → Bool) (g : Nat) (lb : Array Value) (eg : ∀ args w, (callFunc g args).run Try.prog w = .ok (.enter g args) w) (A0 : Option Addr) (c0 : Nat) (l0 : List S37) (w : World) (hr0 : Kd.C k37 w A0 l0.length l0) (hc0 : l0.length ≤ c0)
  (hp : ∀ (W : World) (x : S37), x ∈ l0 → Below w.heap.size w W → Calls Try.prog g (#[.agg #[.int .i64 x.f0, .int .i64 x.f1, .int .i64 x.f2, .int .i64 x.f3, .int .i64 x.f4]] ++ lb) W fun e w' => e = .returned (.bool (p x)) ∧ Below w.heap.size w w') :
  Calls Try.prog 94 #[.slice A0 l0.length c0, .func (.func g) #[] lb] w fun e w' => e = .returned (.bool (l0.any p)) ∧ Below w.heap.size w w' := by
 rw [← idxP_any p l0]
 have hcon := idx_Leg.calls p g lb eg A0 c0 l0 w hr0 hc0 hp
 generalize idxP p l0 = r at hcon ⊢
 have HC := Aside0.mk hcon
 clear hcon hp hr0
 go_enter Try.func94, Try.ntmps94
 go_wp2_with (go_at_call 116; refine HC.out.mono ?_; rintro e w' ⟨rfl, hb'⟩)
 go_ret
 exact ⟨rfl, hb'⟩
def lead1_ (V : List Bool) (s : Int) (y : S37) : Option Bool := if y.f0 = s ∨ y.f1 = s then (if 0 ≤ wrap64 (wrap64 (y.f0 + y.f1) - s) ∧ wrap64 (wrap64 (y.f0 + y.f1) - s) < (V.length : Int) then some (!rdOf false V (wrap64 (wrap64 (y.f0 + y.f1) - s))) else none) else some false
def leadsF_ (l : List S37) (V : List Bool) : List Bool → Int → List Int → Option (List Int)
 | [], _, acc => some acc
 | b :: bs, s, acc => if l.all (fun y => (lead1_ V s y).isSome) = true ∧ acc.length < 1000000 then leadsF_ l V bs (wrap64 (s + 1)) (if (b && !l.any (fun y => (lead1_ V s y).getD false)) = true then acc ++ [s] else acc) else none
def impl_OpenLeads.f (k : Nat) (l0_0 : List S37) (l0_1 l0_2 : List Bool) (a0_3 a0_4 : Int) : Option (List Int × Bool) :=
 (impl_IsExploration.f k l0_0 l0_1 l0_2 a0_3 a0_4).bind fun t => if t = true then (leadsF_ l0_0 l0_1 l0_2 0 []).bind fun r => some (r, true) else some ([], false)
theorem impl_OpenLeads.mono : ∀ a0 a1 a2 a3 a4 k, LeO (impl_OpenLeads.f k a0 a1 a2 a3 a4) (impl_OpenLeads.f (k + 1) a0 a1 a2 a3 a4) := by
 intro a0 a1 a2 a3 a4 k
 unfold impl_OpenLeads.f
 exact LeO.bind (impl_IsExploration.mono _ _ _ _ _ k) (fun _ => LeO.refl _)
set_option maxHeartbeats 8000000 in
set_option maxRecDepth 100000 in
theorem openLeads1_ (gs gx : Nat) (s : Int) (A1 : Option Addr) (c1 : Nat) (V : List Bool) (y : S37) (r : Bool) (w : World) (hs : w.cell? ⟨gs, 0, none⟩ = some (.int .i64 s)) (hx : w.cell? ⟨gx, 1, none⟩ = some (.slice A1 V.length c1)) (hV : Kd.C Kd.bool w A1 V.length V) (h : lead1_ V s y = some r) :
  Calls Try.prog 95 (#[.agg #[.int .i64 y.f0, .int .i64 y.f1, .int .i64 y.f2, .int .i64 y.f3, .int .i64 y.f4]] ++ #[.pointer (some ⟨gs, 0, none⟩), .pointer (some ⟨gx, 0, none⟩)]) w fun e w' => e = .returned (.bool r) ∧ Below w.heap.size w w' := by
 show Calls Try.prog 95 #[.agg #[.int .i64 y.f0, .int .i64 y.f1, .int .i64 y.f2, .int .i64 y.f3, .int .i64 y.f4], .pointer (some ⟨gs, 0, none⟩), .pointer (some ⟨gx, 0, none⟩)] w _
 have hu2 := Try.underlying30
 have hu3 := Try.underlying37
 have hB := below_alloc (Below.refl w.heap.size w) (.cells #[.int .i64 y.f0, .int .i64 y.f1, .int .i64 y.f2, .int .i64 y.f3, .int .i64 y.f4] 37)
 have HB := Aside0.mk hB
 replace hs := bc_ hB hs
 replace hx := bc_ hB hx
 unfold lead1_ at h
 by_cases q : y.f0 = s ∨ y.f1 = s
 ·
  rw [if_pos q] at h
  by_cases z : 0 ≤ wrap64 (wrap64 (y.f0 + y.f1) - s) ∧ wrap64 (wrap64 (y.f0 + y.f1) - s) < (V.length : Int)
  ·
   rw [if_pos z] at h
   obtain rfl := Option.some.inj h
   obtain ⟨ad, e0, hv⟩ := Kd.at_bool hV _ z.1 z.2
   subst e0
   replace hv := bc_ hB hv
   obtain ⟨z0, z1⟩ := z
   replace z0 := eq_true z0
   replace z1 := eq_true z1
   clear hV hB
   by_cases q0 : y.f0 = s
   ·
    subst q0
    go_enter Try.func95, Try.ntmps95
    go_wp2
    go_ret
    exact ⟨rfl, HB.out⟩
   ·
    obtain rfl := q.resolve_left q0
    have n0 : (y.f0 == y.f1) = false := beq_eq_false_iff_ne.mpr q0
    have n1 : decide (y.f0 = y.f1) = false := decide_eq_false q0
    go_enter Try.func95, Try.ntmps95
    go_wp2
    go_ret
    exact ⟨rfl, HB.out⟩
  ·
   rw [if_neg z] at h
   cases h
 ·
  rw [if_neg q] at h
  obtain rfl := Option.some.inj h
  have q0 : ¬ y.f0 = s := fun e => q (.inl e)
  have q1 : ¬ y.f1 = s := fun e => q (.inr e)
  have n0 : (y.f0 == s) = false := beq_eq_false_iff_ne.mpr q0
  have n1 : (y.f1 == s) = false := beq_eq_false_iff_ne.mpr q1
  have m0 : decide (y.f0 = s) = false := decide_eq_false q0
  have m1 : decide (y.f1 = s) = false := decide_eq_false q1
  clear q hV hB
  go_enter Try.func95, Try.ntmps95
  go_wp2
  go_ret
  exact ⟨rfl, HB.out⟩
set_option maxHeartbeats 8000000 in
set_option maxRecDepth 100000 in
theorem impl_OpenLeads.calls (k : Nat) (A0_0 : Option Addr) (c0_0 : Nat) (l0_0 : List (S37)) (A0_1 : Option Addr) (c0_1 : Nat) (l0_1 : List Bool) (A0_2 : Option Addr) (c0_2 : Nat) (l0_2 : List Bool) (a0_3 : Int) (a0_4 : Int) (r1 : List Int) (r2 : Bool) (w : World) (hr0_0 : Kd.C k37 w A0_0 l0_0.length l0_0) (hc0_0 : l0_0.length ≤ c0_0) (hr0_1 : Kd.C Kd.bool w A0_1 l0_1.length l0_1) (hc0_1 : l0_1.length ≤ c0_1) (hr0_2 : Kd.C Kd.bool w A0_2 l0_2.length l0_2) (hc0_2 : l0_2.length ≤ c0_2) (h : impl_OpenLeads.f k l0_0 l0_1 l0_2 a0_3 a0_4 = some (r1, r2)) :
  Calls Try.prog 44 #[.agg #[.slice A0_0 l0_0.length c0_0, .slice A0_1 l0_1.length c0_1, .slice A0_2 l0_2.length c0_2, .int .i64 a0_3, .int .i64 a0_4]] w fun e w' => ∃ v0_ : Value, e = .returned (.tuple #[v0_, .bool r2]) ∧ Kd.R (Kd.int .i64) 3 w' w.heap.size (fun _ => True) v0_ r1 ∧ Below w.heap.size w w' := by
 unfold impl_OpenLeads.f at h
 obtain ⟨t, hie, h⟩ := Option.bind_eq_some_iff.mp h
 have hu2 := Try.underlying30
 have HB := Aside0.mk (Below.refl w.heap.size w)
 have HR0 := Aside0.mk hr0_0
 have HC0 := Aside0.mk hc0_0
 have HR1 := Aside0.mk hr0_1
 have HC1 := Aside0.mk hc0_1
 have HR2 := Aside0.mk hr0_2
 have HC2 := Aside0.mk hc0_2
 clear hr0_0 hc0_0 hr0_1 hc0_1 hr0_2 hc0_2
 cases t with
 | false =>
  simp only [Bool.false_eq_true, if_false, Option.some.injEq, Prod.mk.injEq] at h
  obtain ⟨rfl, rfl⟩ := h
  go_enter Try.func44, Try.ntmps44
  go_wp2_with (first | ((with_reducible refine gate_dst (N := 1) rfl ?_); refine box_event ?hg (N := 1) ?hd (cs := #[.slice A0_0 l0_0.length c0_0, .slice A0_1 l0_1.length c0_1, .slice A0_2 l0_2.length c0_2, .int .i64 a0_3, .int .i64 a0_4]) (t := 30) ?hr ?_; (case hd => rfl); (case hg => rfl); (case hr => first | (go_simp; done) | (go_simp; rfl)); intro gb hg w2 hbox hb; have BK := Aside0.mk hbox; have GE := Aside0.mk (bz_ hg HB.out); replace HB := Aside0.mk (below_step HB.out hb); clear hb hbox hg; obtain ⟨hcz0, hcz1, hcz2, hcz3, hcz4⟩ := cz5_ BK.out) | ((with_reducible refine gate_callee (f := 18) rfl ?_); refine ga_ (some 9) Try.func18 #[.agg #[.slice A0_0 l0_0.length c0_0, .slice A0_1 l0_1.length c0_1, .slice A0_2 l0_2.length c0_2, .int .i64 a0_3, .int .i64 a0_4]] ?_; refine (impl_IsExploration.calls k _ _ l0_0 _ _ l0_1 _ _ l0_2 a0_3 a0_4 false _ (Kd.C_below HR0.out HB.out) HC0.out (Kd.C_below HR1.out HB.out) HC1.out (Kd.C_below HR2.out HB.out) HC2.out hie).mono ?_; rintro e w6 ⟨rfl, hb⟩; refine ⟨_, rfl, ?_⟩; clear hcz0 hcz1 hcz2 hcz3 hcz4; replace BK := Aside0.mk (bb_ BK.out hb); replace HB := Aside0.mk (below_step HB.out hb); clear hb))
  go_ret2
  exact ⟨_, rr_, Kd.R_nil _ _ _ _ _, HB.out⟩
 | true =>
  simp only [if_true] at h
  obtain ⟨r, hr, h⟩ := Option.bind_eq_some_iff.mp h
  simp only [Option.some.injEq, Prod.mk.injEq] at h
  obtain ⟨rfl, rfl⟩ := h
  have HA0 := Aside0.mk hr
  clear hr
  have hL2 : l0_2.length ≤ 9223372036854775807 := HR2.out.2.1
  go_enter Try.func44, Try.ntmps44
  go_wp2_with (first | ((with_reducible refine gate_dst (N := 1) rfl ?_); refine box_event ?hg (N := 1) ?hd (cs := #[.slice A0_0 l0_0.length c0_0, .slice A0_1 l0_1.length c0_1, .slice A0_2 l0_2.length c0_2, .int .i64 a0_3, .int .i64 a0_4]) (t := 30) ?hr ?_; (case hd => rfl); (case hg => rfl); (case hr => first | (go_simp; done) | (go_simp; rfl)); intro gb hg w2 hbox hb; have BK := Aside0.mk hbox; have GE := Aside0.mk (bz_ hg HB.out); replace HB := Aside0.mk (below_step HB.out hb); clear hb hbox hg; obtain ⟨hcz0, hcz1, hcz2, hcz3, hcz4⟩ := cz5_ BK.out) | ((with_reducible refine gate_callee (f := 18) rfl ?_); refine ga_ (some 9) Try.func18 #[.agg #[.slice A0_0 l0_0.length c0_0, .slice A0_1 l0_1.length c0_1, .slice A0_2 l0_2.length c0_2, .int .i64 a0_3, .int .i64 a0_4]] ?_; refine (impl_IsExploration.calls k _ _ l0_0 _ _ l0_1 _ _ l0_2 a0_3 a0_4 true _ (Kd.C_below HR0.out HB.out) HC0.out (Kd.C_below HR1.out HB.out) HC1.out (Kd.C_below HR2.out HB.out) HC2.out hie).mono ?_; rintro e w6 ⟨rfl, hb⟩; refine ⟨_, rfl, ?_⟩; clear hcz0 hcz1 hcz2 hcz3 hcz4; replace BK := Aside0.mk (bb_ BK.out hb); replace HB := Aside0.mk (below_step HB.out hb); clear hb; obtain ⟨hcz0, hcz1, hcz2, hcz3, hcz4⟩ := cz5_ BK.out))
  clear hcz0 hcz1 hcz2 hcz3 hcz4
  go_loopg [4, 14] l0_2.length (fun gg v4 v14 wr => ∃ (kk : Nat) (acc : List Int), kk ≤ l0_2.length ∧ l0_2.length - kk ≤ gg ∧ v14 = .int .i64 kk ∧ Aside0 (leadsF_ l0_0 l0_1 (l0_2.drop kk) (kk : Int) acc = some r) ∧ Aside0 (Kd.R (Kd.int .i64) 3 wr w.heap.size (fun _ => True) v4 acc) ∧ Aside0 (wr.heap[gb]? = some (.cells #[.slice A0_0 l0_0.length c0_0, .slice A0_1 l0_1.length c0_1, .slice A0_2 l0_2.length c0_2, .int .i64 a0_3, .int .i64 a0_4] 30 (0, 0))) ∧ Aside0 (Below w.heap.size w wr))
  case atStart => exact ⟨0, [], Nat.zero_le _, by omega, rfl, HA0, ⟨Kd.R_nil _ _ _ _ _⟩, BK, HB⟩
  case round =>
   clear BK HB
   obtain ⟨kk, acc, hkk, hgg, rfl, HA, HO, BK, BW⟩ := hrel
   by_cases hlt : kk < l0_2.length
   ·
    have hltz : (kk : Int) < (l0_2.length : Int) := by omega
    have hk0 : (0 : Int) ≤ (kk : Int) := by omega
    have hA := HA.out
    have ed : l0_2.drop kk = rdOf false l0_2 (kk : Int) :: l0_2.drop (kk + 1) := by
     rw [List.drop_eq_getElem_cons hlt]
     unfold rdOf
     rw [Int.toNat_natCast, List.getD_eq_getElem?_getD, List.getElem?_eq_getElem hlt]
     rfl
    rw [ed] at hA
    unfold leadsF_ at hA
    by_cases hz : l0_0.all (fun y => (lead1_ l0_1 (kk : Int) y).isSome) = true ∧ acc.length < 1000000
    ·
     rw [if_pos hz] at hA
     have ALL := Aside0.mk hz.1
     have HL := Aside0.mk hz.2
     have hw1 : wrap64 ((kk : Int) + 1) = ((kk + 1 : Nat) : Int) := by
      unfold wrap64
      omega
     rw [hw1] at hA
     obtain ⟨ad, e0, hx0⟩ := Kd.at_bool HR2.out (kk : Int) hk0 hltz
     subst e0
     replace hx0 := bc_ BW.out hx0
     rw [Int.toNat_natCast] at hx0
     have HG := Aside0.mk hgg
     clear HA ed hz hgg
     generalize rdOf false l0_2 (kk : Int) = bv at hA hx0
     obtain ⟨an, hany⟩ : ∃ an, l0_0.any (fun y => (lead1_ l0_1 (kk : Int) y).getD false) = an := ⟨_, rfl⟩
     rw [hany] at hA
     have ANY := Aside0.mk hany
     clear hany
     obtain ⟨hcz0, hcz1, hcz2, hcz3, hcz4⟩ := cz5_ BK.out
     cases bv with
     | false =>
      cases an with
      | false =>
       simp only [Bool.false_and, Bool.true_and, Bool.not_true, Bool.not_false, Bool.and_true, Bool.and_false, Bool.false_eq_true, if_false, if_true] at hA
       have HA' := Aside0.mk hA
       clear hA hcz0 hcz1 hcz2 hcz3 hcz4
       go_wp2_with (first | ((with_reducible refine gate_dst (N := 5) rfl ?_); refine box_event ?hg (N := 5) ?hd (cs := #[.int .i64 0]) (t := 3) ?hr ?_; (case hd => rfl); (case hg => rfl); (case hr => first | (go_simp; done) | (go_simp; rfl)); intro gs hg w5 hbox hb; have BS := Aside0.mk hbox; have GS := Aside0.mk (bz_ hg BW.out); have HO5 := Aside0.mk (Kd.R_below (Kd.R_mono (ok' := fun k => k ≠ gs) (Kd.R_bound HO.out) (fun k hk => by rw [hg]; exact Nat.ne_of_lt hk.2.2.1)) hb); have hnb : gs ≠ gb := ng_ hg BK.out; have hnc : gb ≠ gs := nl_ hg BK.out; have BK5 := Aside0.mk (bb_ BK.out hb); have BW5 := Aside0.mk (below_step BW.out hb); clear hb hbox hg; have hcs : w5.cell? ⟨gs, 0, none⟩ = some (.int .i64 0) := (blk_cell BS.out 0).trans rfl; have hfs := blk_frozen BS.out 0; obtain ⟨hcz0, hcz1, hcz2, hcz3, hcz4⟩ := cz5_ BK5.out) | (go_at_call 94; refine (cont_Leg.calls (fun y => (lead1_ l0_1 (kk : Int) y).getD false) 95 #[.pointer (some ⟨gs, 0, none⟩), .pointer (some ⟨gb, 0, none⟩)] (fun _ _ => rfl) A0_0 c0_0 l0_0 (w5.setCell ⟨gs, 0, none⟩ (.int .i64 (kk : Int))) (Kd.C_below HR0.out (below_set BW5.out GS.out)) HC0.out ?cl).mono ?_; (case cl => (intro W' y hy hW'; obtain ⟨b_, hb_⟩ := Option.isSome_iff_exists.1 (List.all_eq_true.1 ALL.out y hy); (rw [show (lead1_ l0_1 (kk : Int) y).getD false = b_ from by rw [hb_]; rfl]); refine (openLeads1_ gs gb (kk : Int) A0_1 c0_1 l0_1 y b_ W' ((blk_cell (blk_below (blk_put BS.out 0 _ rfl) hW') 0).trans rfl) ((blk_cell (blk_below (blk_far BK5.out hnc _) hW') 1).trans rfl) (Kd.C_below HR1.out (below_step (below_set BW5.out GS.out) hW')) hb_).mono ?_; rintro e w'' ⟨rfl, hb2⟩; exact ⟨rfl, below_step hW' hb2⟩)); rw [ANY.out]; rintro e w7 ⟨rfl, hb7⟩; clear hcs hfs hcz0 hcz1 hcz2 hcz3 hcz4; have BK7 := Aside0.mk (bb_ (blk_far BK5.out hnc _) hb7); have BS7 := Aside0.mk (bb_ (blk_put (cs' := #[.int .i64 (kk : Int)]) BS.out 0 _ rfl) hb7); have BW7 := Aside0.mk (below_step (below_set BW5.out GS.out) hb7); have HO7 := Aside0.mk (Kd.R_mono (ok' := fun _ => True) (Kd.R_below (Kd.R_far (p := ⟨gs, 0, none⟩) HO5.out (fun k hk => hk) (.int .i64 (kk : Int))) hb7) (fun _ _ => trivial)); clear hb7; have hcs : w7.cell? ⟨gs, 0, none⟩ = some (.int .i64 (kk : Int)) := (blk_cell BS7.out 0).trans rfl))
       go_roundg (l0_2.length - (kk + 1))
       case measure => have := HG.out; omega
       case rel => exact ⟨kk + 1, acc, by omega, by omega, by go_num, HA', HO7, BK7, BW7⟩
      | true =>
       simp only [Bool.false_and, Bool.true_and, Bool.not_true, Bool.not_false, Bool.and_true, Bool.and_false, Bool.false_eq_true, if_false, if_true] at hA
       have HA' := Aside0.mk hA
       clear hA hcz0 hcz1 hcz2 hcz3 hcz4
       go_wp2_with (first | ((with_reducible refine gate_dst (N := 5) rfl ?_); refine box_event ?hg (N := 5) ?hd (cs := #[.int .i64 0]) (t := 3) ?hr ?_; (case hd => rfl); (case hg => rfl); (case hr => first | (go_simp; done) | (go_simp; rfl)); intro gs hg w5 hbox hb; have BS := Aside0.mk hbox; have GS := Aside0.mk (bz_ hg BW.out); have HO5 := Aside0.mk (Kd.R_below (Kd.R_mono (ok' := fun k => k ≠ gs) (Kd.R_bound HO.out) (fun k hk => by rw [hg]; exact Nat.ne_of_lt hk.2.2.1)) hb); have hnb : gs ≠ gb := ng_ hg BK.out; have hnc : gb ≠ gs := nl_ hg BK.out; have BK5 := Aside0.mk (bb_ BK.out hb); have BW5 := Aside0.mk (below_step BW.out hb); clear hb hbox hg; have hcs : w5.cell? ⟨gs, 0, none⟩ = some (.int .i64 0) := (blk_cell BS.out 0).trans rfl; have hfs := blk_frozen BS.out 0; obtain ⟨hcz0, hcz1, hcz2, hcz3, hcz4⟩ := cz5_ BK5.out) | (go_at_call 94; refine (cont_Leg.calls (fun y => (lead1_ l0_1 (kk : Int) y).getD false) 95 #[.pointer (some ⟨gs, 0, none⟩), .pointer (some ⟨gb, 0, none⟩)] (fun _ _ => rfl) A0_0 c0_0 l0_0 (w5.setCell ⟨gs, 0, none⟩ (.int .i64 (kk : Int))) (Kd.C_below HR0.out (below_set BW5.out GS.out)) HC0.out ?cl).mono ?_; (case cl => (intro W' y hy hW'; obtain ⟨b_, hb_⟩ := Option.isSome_iff_exists.1 (List.all_eq_true.1 ALL.out y hy); (rw [show (lead1_ l0_1 (kk : Int) y).getD false = b_ from by rw [hb_]; rfl]); refine (openLeads1_ gs gb (kk : Int) A0_1 c0_1 l0_1 y b_ W' ((blk_cell (blk_below (blk_put BS.out 0 _ rfl) hW') 0).trans rfl) ((blk_cell (blk_below (blk_far BK5.out hnc _) hW') 1).trans rfl) (Kd.C_below HR1.out (below_step (below_set BW5.out GS.out) hW')) hb_).mono ?_; rintro e w'' ⟨rfl, hb2⟩; exact ⟨rfl, below_step hW' hb2⟩)); rw [ANY.out]; rintro e w7 ⟨rfl, hb7⟩; clear hcs hfs hcz0 hcz1 hcz2 hcz3 hcz4; have BK7 := Aside0.mk (bb_ (blk_far BK5.out hnc _) hb7); have BS7 := Aside0.mk (bb_ (blk_put (cs' := #[.int .i64 (kk : Int)]) BS.out 0 _ rfl) hb7); have BW7 := Aside0.mk (below_step (below_set BW5.out GS.out) hb7); have HO7 := Aside0.mk (Kd.R_mono (ok' := fun _ => True) (Kd.R_below (Kd.R_far (p := ⟨gs, 0, none⟩) HO5.out (fun k hk => hk) (.int .i64 (kk : Int))) hb7) (fun _ _ => trivial)); clear hb7; have hcs : w7.cell? ⟨gs, 0, none⟩ = some (.int .i64 (kk : Int)) := (blk_cell BS7.out 0).trans rfl))
       go_roundg (l0_2.length - (kk + 1))
       case measure => have := HG.out; omega
       case rel => exact ⟨kk + 1, acc, by omega, by omega, by go_num, HA', HO7, BK7, BW7⟩
     | true =>
      cases an with
      | false =>
       simp only [Bool.false_and, Bool.true_and, Bool.not_true, Bool.not_false, Bool.and_true, Bool.and_false, Bool.false_eq_true, if_false, if_true] at hA
       have HA' := Aside0.mk hA
       clear hA hcz0 hcz1 hcz2 hcz3 hcz4
       go_wp2_with (first | ((with_reducible refine gate_dst (N := 5) rfl ?_); refine box_event ?hg (N := 5) ?hd (cs := #[.int .i64 0]) (t := 3) ?hr ?_; (case hd => rfl); (case hg => rfl); (case hr => first | (go_simp; done) | (go_simp; rfl)); intro gs hg w5 hbox hb; have BS := Aside0.mk hbox; have GS := Aside0.mk (bz_ hg BW.out); have HO5 := Aside0.mk (Kd.R_below (Kd.R_mono (ok' := fun k => k ≠ gs) (Kd.R_bound HO.out) (fun k hk => by rw [hg]; exact Nat.ne_of_lt hk.2.2.1)) hb); have hnb : gs ≠ gb := ng_ hg BK.out; have hnc : gb ≠ gs := nl_ hg BK.out; have BK5 := Aside0.mk (bb_ BK.out hb); have BW5 := Aside0.mk (below_step BW.out hb); clear hb hbox hg; have hcs : w5.cell? ⟨gs, 0, none⟩ = some (.int .i64 0) := (blk_cell BS.out 0).trans rfl; have hfs := blk_frozen BS.out 0; obtain ⟨hcz0, hcz1, hcz2, hcz3, hcz4⟩ := cz5_ BK5.out) | (go_at_call 94; refine (cont_Leg.calls (fun y => (lead1_ l0_1 (kk : Int) y).getD false) 95 #[.pointer (some ⟨gs, 0, none⟩), .pointer (some ⟨gb, 0, none⟩)] (fun _ _ => rfl) A0_0 c0_0 l0_0 (w5.setCell ⟨gs, 0, none⟩ (.int .i64 (kk : Int))) (Kd.C_below HR0.out (below_set BW5.out GS.out)) HC0.out ?cl).mono ?_; (case cl => (intro W' y hy hW'; obtain ⟨b_, hb_⟩ := Option.isSome_iff_exists.1 (List.all_eq_true.1 ALL.out y hy); (rw [show (lead1_ l0_1 (kk : Int) y).getD false = b_ from by rw [hb_]; rfl]); refine (openLeads1_ gs gb (kk : Int) A0_1 c0_1 l0_1 y b_ W' ((blk_cell (blk_below (blk_put BS.out 0 _ rfl) hW') 0).trans rfl) ((blk_cell (blk_below (blk_far BK5.out hnc _) hW') 1).trans rfl) (Kd.C_below HR1.out (below_step (below_set BW5.out GS.out) hW')) hb_).mono ?_; rintro e w'' ⟨rfl, hb2⟩; exact ⟨rfl, below_step hW' hb2⟩)); rw [ANY.out]; rintro e w7 ⟨rfl, hb7⟩; clear hcs hfs hcz0 hcz1 hcz2 hcz3 hcz4; have BK7 := Aside0.mk (bb_ (blk_far BK5.out hnc _) hb7); have BS7 := Aside0.mk (bb_ (blk_put (cs' := #[.int .i64 (kk : Int)]) BS.out 0 _ rfl) hb7); have BW7 := Aside0.mk (below_step (below_set BW5.out GS.out) hb7); have HO7 := Aside0.mk (Kd.R_mono (ok' := fun _ => True) (Kd.R_below (Kd.R_far (p := ⟨gs, 0, none⟩) HO5.out (fun k hk => hk) (.int .i64 (kk : Int))) hb7) (fun _ _ => trivial)); clear hb7; have hcs : w7.cell? ⟨gs, 0, none⟩ = some (.int .i64 (kk : Int)) := (blk_cell BS7.out 0).trans rfl) | ((with_reducible refine gate_builtin (b := .append) (xs := #[.tmp 28, .tmp 30]) rfl ?_); at_builtin; refine Kd.R_append (Kd.int .i64) (w0 := w) w.heap.size rfl (.tmp 28) (.tmp 30) 60 3 (.int .i64 0) 8 rfl Try.underlying60 info3 rfl (by decide) (by omega) u4 acc (kk : Int) [.int .i64 (kk : Int)] (fun _ => True) (fun _ => False) rfl (by first | (go_simp; done) | (go_simp; rfl)) ?aP (fun _ hk => hk.elim) ?aF ?aO ?aB ?aS ?aL ?_; (case aP => exact rfl); (case aB => exact BW7.out); (case aF => exact (fun _ _ => trivial)); (case aO => exact HO7.out); (case aS => exact (below_size BW7.out)); (case aL => have := HL.out; omega); intro v9 w9 ho hb hg hat; have BK9 := Aside0.mk (blk_grown BK7.out hg (Kd.R_ne HO7.out BK7.out (by decide))); have HO9 := Aside0.mk ho; have BW9 := Aside0.mk hb; clear ho hb hg hat))
       go_roundg (l0_2.length - (kk + 1))
       case measure => have := HG.out; omega
       case rel => exact ⟨kk + 1, acc ++ [(kk : Int)], by omega, by omega, by go_num, HA', HO9, BK9, BW9⟩
      | true =>
       simp only [Bool.false_and, Bool.true_and, Bool.not_true, Bool.not_false, Bool.and_true, Bool.and_false, Bool.false_eq_true, if_false, if_true] at hA
       have HA' := Aside0.mk hA
       clear hA hcz0 hcz1 hcz2 hcz3 hcz4
       go_wp2_with (first | ((with_reducible refine gate_dst (N := 5) rfl ?_); refine box_event ?hg (N := 5) ?hd (cs := #[.int .i64 0]) (t := 3) ?hr ?_; (case hd => rfl); (case hg => rfl); (case hr => first | (go_simp; done) | (go_simp; rfl)); intro gs hg w5 hbox hb; have BS := Aside0.mk hbox; have GS := Aside0.mk (bz_ hg BW.out); have HO5 := Aside0.mk (Kd.R_below (Kd.R_mono (ok' := fun k => k ≠ gs) (Kd.R_bound HO.out) (fun k hk => by rw [hg]; exact Nat.ne_of_lt hk.2.2.1)) hb); have hnb : gs ≠ gb := ng_ hg BK.out; have hnc : gb ≠ gs := nl_ hg BK.out; have BK5 := Aside0.mk (bb_ BK.out hb); have BW5 := Aside0.mk (below_step BW.out hb); clear hb hbox hg; have hcs : w5.cell? ⟨gs, 0, none⟩ = some (.int .i64 0) := (blk_cell BS.out 0).trans rfl; have hfs := blk_frozen BS.out 0; obtain ⟨hcz0, hcz1, hcz2, hcz3, hcz4⟩ := cz5_ BK5.out) | (go_at_call 94; refine (cont_Leg.calls (fun y => (lead1_ l0_1 (kk : Int) y).getD false) 95 #[.pointer (some ⟨gs, 0, none⟩), .pointer (some ⟨gb, 0, none⟩)] (fun _ _ => rfl) A0_0 c0_0 l0_0 (w5.setCell ⟨gs, 0, none⟩ (.int .i64 (kk : Int))) (Kd.C_below HR0.out (below_set BW5.out GS.out)) HC0.out ?cl).mono ?_; (case cl => (intro W' y hy hW'; obtain ⟨b_, hb_⟩ := Option.isSome_iff_exists.1 (List.all_eq_true.1 ALL.out y hy); (rw [show (lead1_ l0_1 (kk : Int) y).getD false = b_ from by rw [hb_]; rfl]); refine (openLeads1_ gs gb (kk : Int) A0_1 c0_1 l0_1 y b_ W' ((blk_cell (blk_below (blk_put BS.out 0 _ rfl) hW') 0).trans rfl) ((blk_cell (blk_below (blk_far BK5.out hnc _) hW') 1).trans rfl) (Kd.C_below HR1.out (below_step (below_set BW5.out GS.out) hW')) hb_).mono ?_; rintro e w'' ⟨rfl, hb2⟩; exact ⟨rfl, below_step hW' hb2⟩)); rw [ANY.out]; rintro e w7 ⟨rfl, hb7⟩; clear hcs hfs hcz0 hcz1 hcz2 hcz3 hcz4; have BK7 := Aside0.mk (bb_ (blk_far BK5.out hnc _) hb7); have BS7 := Aside0.mk (bb_ (blk_put (cs' := #[.int .i64 (kk : Int)]) BS.out 0 _ rfl) hb7); have BW7 := Aside0.mk (below_step (below_set BW5.out GS.out) hb7); have HO7 := Aside0.mk (Kd.R_mono (ok' := fun _ => True) (Kd.R_below (Kd.R_far (p := ⟨gs, 0, none⟩) HO5.out (fun k hk => hk) (.int .i64 (kk : Int))) hb7) (fun _ _ => trivial)); clear hb7; have hcs : w7.cell? ⟨gs, 0, none⟩ = some (.int .i64 (kk : Int)) := (blk_cell BS7.out 0).trans rfl))
       go_roundg (l0_2.length - (kk + 1))
       case measure => have := HG.out; omega
       case rel => exact ⟨kk + 1, acc, by omega, by omega, by go_num, HA', HO7, BK7, BW7⟩
    ·
     rw [if_neg hz] at hA
     cases hA
   ·
    have hltz : ¬ (kk : Int) < (l0_2.length : Int) := by omega
    have hA := HA.out
    rw [List.drop_of_length_le (by omega)] at hA
    simp only [leadsF_, Option.some.injEq] at hA
    subst hA
    go_wp2
    go_ret2
    exact ⟨_, rr_, HO.out, BW.out⟩
def laws_eqIntS.l0 : Nat → List Int → List Int → Int → Option (Bool)
 | 0, _, _, _ => none
 | k + 1, x0, x1, x5 => if x5 < (x0.length : Int) then (if 0 ≤ x5 then (if x5 < (x1.length : Int) then (if (rd x0 x5) = (rd x1 x5) then (laws_eqIntS.l0 k x0 x1 (wrap64 (x5 + 1))) else (some false)) else (none)) else (none)) else (some true)
def laws_eqIntS.f (k : Nat) (l0 : List Int) (l1 : List Int) : Option (Bool) := if (l0.length : Int) = (l1.length : Int) then (laws_eqIntS.l0 k l0 l1 0) else (some false)
set_option maxHeartbeats 8000000 in
set_option maxRecDepth 100000 in
theorem laws_eqIntS.calls (k : Nat) (A0 : Option Addr) (c0 : Nat) (l0 : List Int) (A1 : Option Addr) (c1 : Nat) (l1 : List Int) (r : Bool) (w : World) (hr0 : Kd.C (Kd.int .i64) w A0 l0.length l0) (hc0 : l0.length ≤ c0) (hr1 : Kd.C (Kd.int .i64) w A1 l1.length l1) (hc1 : l1.length ≤ c1) (h : laws_eqIntS.f k l0 l1 = some r) :
  Calls Try.prog 45 #[.slice A0 l0.length c0, .slice A1 l1.length c1] w fun e w' => e = .returned (.bool r) ∧ Drawn0 w w' := by
 have HR0 := Aside0.mk hr0
 have HC0 := Aside0.mk hc0
 clear hr0 hc0
 have HR1 := Aside0.mk hr1
 have HC1 := Aside0.mk hc1
 clear hr1 hc1
 have H : (if (l0.length : Int) = (l1.length : Int) then (laws_eqIntS.l0 k l0 l1 0) else (some false)) = some r := h
 clear h
 by_cases c3 : (l0.length : Int) = (l1.length : Int)
 ·
  rw [if_pos c3] at H
  have c3b0 : ((l0.length : Int) == (l1.length : Int)) = true := beq_iff_eq.mpr c3
  have c3b1 : ((l0.length : Int) != (l1.length : Int)) = false := bne_eq_false_iff_eq.mpr c3
  have c3b2 : (l0.length == l1.length) = true := by first | simpa using c3 | (simp at c3 ⊢; omega)
  clear c3
  have H' := Aside0.mk H
  clear H
  go_enter Try.func45, Try.ntmps45
  go_wp2
  repeat (go_quiet (fail); try go_wp2)
  go_loopg [5] k (fun kq v5 w' => ∃ (x5_1 : Int), v5 = .int .i64 x5_1 ∧ Aside0 (laws_eqIntS.l0 kq l0 l1 x5_1 = some r) ∧ Aside0 (kq ≤ k) ∧ Drawn0 w w')
  case atStart => exact ⟨(0), (by first | rfl | (simp; done) | (simp [*]; done)), H', ⟨Nat.le_refl _⟩, by repeat (first | exact Drawn0.refl _ | apply Drawn0.step)⟩
  case round =>
   clear H'
   try clear c1
   try clear p2
   try clear c3
   try clear c3b0
   try clear c3b1
   try clear c3b2
   obtain ⟨x5_1, rfl, HA, HK1, ⟨m1, rfl⟩⟩ := hrel
   cases gk with
   | zero => exact absurd HA.out (by simp [laws_eqIntS.l0])
   | succ k1 =>
    have H := HA.out
    clear HA
    simp only [laws_eqIntS.l0] at H
    by_cases c4 : x5_1 < (l0.length : Int)
    ·
     rw [if_pos c4] at H
     have c4b0 : decide (x5_1 < (l0.length : Int)) = true := decide_eq_true c4
     clear c4
     by_cases c5 : 0 ≤ x5_1
     ·
      rw [if_pos c5] at H
      have c5b0 : decide (0 ≤ x5_1) = true := decide_eq_true c5
      clear c5
      by_cases c6 : x5_1 < (l1.length : Int)
      ·
       rw [if_pos c6] at H
       have c6b0 : decide (x5_1 < (l1.length : Int)) = true := decide_eq_true c6
       clear c6
       by_cases c7 : (rd l0 x5_1) = (rd l1 x5_1)
       ·
        rw [if_pos c7] at H
        have c7b0 : ((rd l0 x5_1) == (rd l1 x5_1)) = true := beq_iff_eq.mpr c7; have c7b1 : ((rd l0 x5_1) != (rd l1 x5_1)) = false := bne_eq_false_iff_eq.mpr c7; clear c7; have H' := Aside0.mk H; clear H; have p1281 : 0 ≤ (x5_1 : Int) := dt_; have q1281 : x5_1 < (l0.length : Int) := dt_; obtain ⟨ad1281, e1281, hx1281_0⟩ := Kd.at_int HR0.out x5_1 p1281 q1281
        cases e1281
        replace p1281 := eq_true p1281; replace q1281 := eq_true q1281; have p1282 : 0 ≤ (x5_1 : Int) := dt_; have q1282 : x5_1 < (l1.length : Int) := dt_; obtain ⟨ad1282, e1282, hx1282_0⟩ := Kd.at_int HR1.out x5_1 p1282 q1282
        cases e1282
        replace p1282 := eq_true p1282; replace q1282 := eq_true q1282
        go_wp2
        repeat (go_quiet (fail); try go_wp2)
        go_roundg k1
        case measure => have := HK1.out; omega
        case rel => exact ⟨(wrap64 (x5_1 + 1)), (by first | rfl | (simp; done) | (simp [*]; done)), H', ⟨by have := HK1.out; omega⟩, by repeat (first | exact Drawn0.refl _ | apply Drawn0.step)⟩
       ·
        rw [if_neg c7] at H
        have c7b0 : ((rd l0 x5_1) == (rd l1 x5_1)) = false := beq_eq_false_iff_ne.mpr c7; have c7b1 : ((rd l0 x5_1) != (rd l1 x5_1)) = true := bne_iff_ne.mpr c7; obtain rfl := Option.some.inj H; have p1281 : 0 ≤ (x5_1 : Int) := dt_; have q1281 : x5_1 < (l0.length : Int) := dt_; obtain ⟨ad1281, e1281, hx1281_0⟩ := Kd.at_int HR0.out x5_1 p1281 q1281
        cases e1281
        replace p1281 := eq_true p1281; replace q1281 := eq_true q1281; have p1282 : 0 ≤ (x5_1 : Int) := dt_; have q1282 : x5_1 < (l1.length : Int) := dt_; obtain ⟨ad1282, e1282, hx1282_0⟩ := Kd.at_int HR1.out x5_1 p1282 q1282
        cases e1282
        replace p1282 := eq_true p1282; replace q1282 := eq_true q1282
        go_wp2
        repeat (go_quiet (fail); try go_wp2)
        go_ret
        exact ⟨by first | rfl | (simp; done) | (simp [*]; done), by repeat (first | exact Drawn0.refl _ | apply Drawn0.step)⟩
      ·
       rw [if_neg c6] at H
       exact absurd H (by simp)
     ·
      rw [if_neg c5] at H
      exact absurd H (by simp)
    ·
     rw [if_neg c4] at H
     have c4b0 : decide (x5_1 < (l0.length : Int)) = false := decide_eq_false c4
     clear c4
     obtain rfl := Option.some.inj H
     go_wp2
     repeat (go_quiet (fail); try go_wp2)
     go_ret
     exact ⟨by first | rfl | (simp; done) | (simp [*]; done), by repeat (first | exact Drawn0.refl _ | apply Drawn0.step)⟩
 ·
  rw [if_neg c3] at H
  have c3b0 : ((l0.length : Int) == (l1.length : Int)) = false := beq_eq_false_iff_ne.mpr c3
  have c3b1 : ((l0.length : Int) != (l1.length : Int)) = true := bne_iff_ne.mpr c3
  have c3b2 : (l0.length == l1.length) = false := by first | simpa using c3 | (simp at c3 ⊢; omega)
  obtain rfl := Option.some.inj H
  go_enter Try.func45, Try.ntmps45
  go_wp2
  repeat (go_quiet (fail); try go_wp2)
  go_ret
  exact ⟨by first | rfl | (simp; done) | (simp [*]; done), by repeat (first | exact Drawn0.refl _ | apply Drawn0.step)⟩
def laws_markIntS.l0 : Nat → List Int → Int → Int → Option (Int × List Int)
 | 0, _, _, _ => none
 | k + 1, x0, x1, x5 => if x5 < (x0.length : Int) then (if 0 ≤ x5 then (laws_markIntS.l0 k (x0.set (x5 : Int).toNat x1) (wrap64 (x1 + 1)) (wrap64 (x5 + 1))) else (none)) else (some (x1, x0))
def laws_markIntS.f (k : Nat) (l0 : List Int) (a1 : Int) : Option (Int × List Int) := laws_markIntS.l0 k l0 a1 0
set_option maxHeartbeats 8000000 in
set_option maxRecDepth 100000 in
theorem laws_markIntS.calls (k : Nat) (P0_ : Nat → Prop) (u9000_ : Value) (l0 : List Int) (a1 : Int) (r1 : Int) (r2 : List Int) (w0 w : World) (hB : Below w0.heap.size w0 w) (ho0 : Kd.R (Kd.int .i64) 3 w w0.heap.size P0_ u9000_ l0) (h : laws_markIntS.f k l0 a1 = some (r1, r2)) :
  Calls Try.prog 46 #[u9000_, .int .i64 a1] w fun e w' => e = .returned (.int .i64 r1) ∧ Kd.R (Kd.int .i64) 3 w' w0.heap.size (fun k_ => (P0_ k_ ∨ w.heap.size ≤ k_)) u9000_ r2 ∧ Below w0.heap.size w0 w' ∧ Kept w w' (fun k_ => P0_ k_) := by
 have HO0 := Aside0.mk (show Kd.R (Kd.int .i64) 3 w w0.heap.size (fun k_ => (P0_ k_ ∨ w.heap.size ≤ k_)) u9000_ l0 from Kd.R_mono ho0 (fun k_ hk => (.inl hk)))
 have HK := Aside0.mk (Kept.refl w (fun k_ => P0_ k_))
 have HW0 := Aside0.mk hB.size
 have HB := Aside0.mk hB
 clear hB
 have H : (laws_markIntS.l0 k l0 a1 0) = some (r1, r2) := h
 clear h
 have H' := Aside0.mk H
 clear H
 go_enter Try.func46, Try.ntmps46
 go_wp2
 go_loopg [1, 5] k (fun kq v1 v5 w' => ∃ (x0_1 : List Int) (x1_1 : Int) (x5_1 : Int), v1 = .int .i64 x1_1 ∧ v5 = .int .i64 x5_1 ∧ Aside0 (laws_markIntS.l0 kq x0_1 x1_1 x5_1 = some (r1, r2)) ∧ Aside0 (kq ≤ k) ∧ Aside0 (Kd.R (Kd.int .i64) 3 w' w0.heap.size (fun k_ => (P0_ k_ ∨ w.heap.size ≤ k_)) u9000_ x0_1) ∧ Aside0 (Kept w w' (fun k_ => P0_ k_)) ∧ Aside0 (Below w0.heap.size w0 w'))
 case atStart => exact ⟨(l0), (a1), (0), (by first | rfl | (simp; done) | (simp [*]; done)), (by first | rfl | (simp; done) | (simp [*]; done)), H', ⟨Nat.le_refl _⟩, ⟨kr_ HO0.out⟩, ⟨kt_ HK.out⟩, ⟨lb0_ HB.out⟩⟩
 case round =>
  clear H'
  try clear p2
  obtain ⟨x0_1, x1_1, x5_1, rfl, rfl, HA, HK1, HO_0, HK, HB⟩ := hrel
  cases gk with
  | zero => exact absurd HA.out (by simp [laws_markIntS.l0])
  | succ k1 =>
   have H := HA.out
   clear HA
   simp only [laws_markIntS.l0] at H
   by_cases c3 : x5_1 < (x0_1.length : Int)
   ·
    rw [if_pos c3] at H
    have c3b0 : decide (x5_1 < (x0_1.length : Int)) = true := decide_eq_true c3
    clear c3
    by_cases c4 : 0 ≤ x5_1
    ·
     rw [if_pos c4] at H
     have c4b0 : decide (0 ≤ x5_1) = true := decide_eq_true c4
     clear c4
     obtain ⟨y1283, hy1283⟩ : ∃ y_ : List Int, y_ = (x0_1.set (x5_1 : Int).toNat x1_1) := ⟨_, rfl⟩
     replace H : (laws_markIntS.l0 k1 y1283 (wrap64 (x1_1 + 1)) (wrap64 (x5_1 + 1))) = some (r1, r2) := by first | (rw [hy1283]; with_reducible exact H) | (have H2_ := (Option.bind_some _ _).symm.trans H; rw [hy1283]; with_reducible exact H2_) | (have H2_ := (Option.bind_some _ _).symm.trans H; with_reducible exact H2_) | with_reducible exact H | (rw [hy1283]; exact H) | exact H
     have Ny1283 := Aside0.mk hy1283
     clear hy1283
     have H' := Aside0.mk H
     clear H
     obtain ⟨Ao6, co6, eo6⟩ := Kd.R_slice HO_0.out
     subst eo6
     have p5 : 0 ≤ (x5_1 : Int) := dt_
     have q5 : (x5_1 : Int) < ((x0_1.length : Int) : Int) := dt_
     obtain ⟨go5, co5, eo5, gb5, gl5, cl5, HG5⟩ := Kd.R_form HO_0.out (by omega)
     (first | cases eo5 | (injection eo5 with ea_ en_ ec_; (first | subst ea_ | (injection ea_ with ea_; subst ea_)); subst ec_; clear en_))
     have GB5 := Aside0.mk gb5
     have GG5 := Aside0.mk HG5
     clear gb5 gl5 HG5
     have HMgo5 := Aside0.mk (show (P0_ go5 ∨ w.heap.size ≤ go5) from (HO_0.out.1 _ rfl))
     obtain ⟨hx5_0, hf5_0⟩ := Kd.R_celln 0 HO_0.out (x5_1 : Int) p5 q5
     replace p5 := eq_true p5
     replace q5 := eq_true q5
     have HP7 := Kd.R_putg HO_0.out (x5_1 : Int) x1_1
     go_wp2_with (first | ((with_reducible refine gate_store (t := 3) (p := 15) rfl ?_); refine store_event (t := 3) (p := 15) (v := ?vo_w8) (w1 := (wr.setCell ⟨go5, (x5_1 : Int).toNat, none⟩ (.int .i64 x1_1))) ?hg ?ho ?hn ?hr ?_; (case ho => rfl); (case hg => rfl); (case hn => rfl); (case hr => first | (go_simp; done) | (go_simp; rfl)); intro w8 hw; have hg : wr.grownBy w8 (some go5) := (by rw [hw]; exact HP7.2); have hp_ : Kd.R (Kd.int .i64) 3 w8 w0.heap.size (fun k_ => (P0_ k_ ∨ w.heap.size ≤ k_)) (.slice (some ⟨go5, 0, none⟩) x0_1.length co6) y1283 := (by rw [hw, Ny1283.out]; exact HP7.1); clear HP7; replace HB := Aside0.mk ((by rw [hw]; exact below_set (HB.out) GB5.out : Below w0.heap.size w0 w8)); replace HK := Aside0.mk (Kept.of_grown (S := (fun k_ => P0_ k_)) hg (kt_ HK.out) (fun k_ e_ => (HO_0.out.1 k_ e_))); replace HO_0 := Aside0.mk (hp_); clear hg hw hp_))
     go_roundg k1
     case measure => have := HK1.out; omega
     case rel => exact ⟨(y1283), (wrap64 (x1_1 + 1)), (wrap64 (x5_1 + 1)), (by first | rfl | (simp; done) | (simp [*]; done)), (by first | rfl | (simp; done) | (simp [*]; done)), H', ⟨by have := HK1.out; omega⟩, ⟨by (with_reducible repeat (first | apply Kd.R_alloc | apply Kd.R_drewN | apply Kd.R_drew)); first | exact HO_0.out | (rw [Ny1283.out]; exact (Kd.R_putg (Kd.R_drewN HO_0.out _) _ _).1) | (rw [Ny1283.out]; exact (Kd.R_putg HO_0.out _ _).1)⟩, ⟨kt_ HK.out⟩, ⟨by repeat (first | (with_reducible first | exact HB.out | apply below_alloc | apply pw_below_drewN | apply below_drew1) | exact HB.out | (first | exact below_set (pw_below_drewN HB.out _) GB5.out | exact below_set HB.out GB5.out))⟩⟩
    ·
     rw [if_neg c4] at H
     exact absurd H (by simp)
   ·
    rw [if_neg c3] at H
    have c3b0 : decide (x5_1 < (x0_1.length : Int)) = false := decide_eq_false c3
    clear c3
    simp only [Option.some.injEq, Prod.mk.injEq] at H
    obtain ⟨rfl, rfl⟩ := H
    obtain ⟨Ao9, co9, eo9⟩ := Kd.R_slice HO_0.out
    subst eo9
    go_wp2
    go_ret
    exact ⟨rr_, kr_ HO_0.out, lb0_ HB.out, kt_ HK.out⟩
def laws_heldIntS.l0 : Nat → List Int → Int → Int → Option (Int)
 | 0, _, _, _ => none
 | k + 1, x0, x1, x5 => if x5 < (x0.length : Int) then (if 0 ≤ x5 then (if (rd x0 x5) = x1 then (laws_heldIntS.l0 k x0 (wrap64 (x1 + 1)) (wrap64 (x5 + 1))) else (some (-1))) else (none)) else (some x1)
def laws_heldIntS.f (k : Nat) (l0 : List Int) (a1 : Int) : Option (Int) := laws_heldIntS.l0 k l0 a1 0
set_option maxHeartbeats 8000000 in
set_option maxRecDepth 100000 in
theorem laws_heldIntS.calls (k : Nat) (A0 : Option Addr) (c0 : Nat) (l0 : List Int) (a1 : Int) (r : Int) (w : World) (hr0 : Kd.C (Kd.int .i64) w A0 l0.length l0) (hc0 : l0.length ≤ c0) (h : laws_heldIntS.f k l0 a1 = some r) :
  Calls Try.prog 47 #[.slice A0 l0.length c0, .int .i64 a1] w fun e w' => e = .returned (.int .i64 r) ∧ Drawn0 w w' := by
 have HR0 := Aside0.mk hr0
 have HC0 := Aside0.mk hc0
 clear hr0 hc0
 have H : (laws_heldIntS.l0 k l0 a1 0) = some r := h
 clear h
 have H' := Aside0.mk H
 clear H
 go_enter Try.func47, Try.ntmps47
 go_wp2
 go_loopg [1, 5] k (fun kq v1 v5 w' => ∃ (x1_1 : Int) (x5_1 : Int), v1 = .int .i64 x1_1 ∧ v5 = .int .i64 x5_1 ∧ Aside0 (laws_heldIntS.l0 kq l0 x1_1 x5_1 = some r) ∧ Aside0 (kq ≤ k) ∧ Drawn0 w w')
 case atStart => exact ⟨(a1), (0), (by first | rfl | (simp; done) | (simp [*]; done)), (by first | rfl | (simp; done) | (simp [*]; done)), H', ⟨Nat.le_refl _⟩, by repeat (first | exact Drawn0.refl _ | apply Drawn0.step)⟩
 case round =>
  clear H'
  try clear p2
  obtain ⟨x1_1, x5_1, rfl, rfl, HA, HK1, ⟨m1, rfl⟩⟩ := hrel
  cases gk with
  | zero => exact absurd HA.out (by simp [laws_heldIntS.l0])
  | succ k1 =>
   have H := HA.out
   clear HA
   simp only [laws_heldIntS.l0] at H
   by_cases c3 : x5_1 < (l0.length : Int)
   ·
    rw [if_pos c3] at H
    have c3b0 : decide (x5_1 < (l0.length : Int)) = true := decide_eq_true c3
    clear c3
    by_cases c4 : 0 ≤ x5_1
    ·
     rw [if_pos c4] at H
     have c4b0 : decide (0 ≤ x5_1) = true := decide_eq_true c4
     clear c4
     by_cases c5 : (rd l0 x5_1) = x1_1
     ·
      rw [if_pos c5] at H
      have c5b0 : ((rd l0 x5_1) == x1_1) = true := beq_iff_eq.mpr c5
      have c5b1 : ((rd l0 x5_1) != x1_1) = false := bne_eq_false_iff_eq.mpr c5
      clear c5
      have H' := Aside0.mk H
      clear H
      have p1284 : 0 ≤ (x5_1 : Int) := dt_
      have q1284 : x5_1 < (l0.length : Int) := dt_
      obtain ⟨ad1284, e1284, hx1284_0⟩ := Kd.at_int HR0.out x5_1 p1284 q1284
      cases e1284
      replace p1284 := eq_true p1284
      replace q1284 := eq_true q1284
      go_wp2
      go_roundg k1
      case measure => have := HK1.out; omega
      case rel => exact ⟨(wrap64 (x1_1 + 1)), (wrap64 (x5_1 + 1)), (by first | rfl | (simp; done) | (simp [*]; done)), (by first | rfl | (simp; done) | (simp [*]; done)), H', ⟨by have := HK1.out; omega⟩, by repeat (first | exact Drawn0.refl _ | apply Drawn0.step)⟩
     ·
      rw [if_neg c5] at H
      have c5b0 : ((rd l0 x5_1) == x1_1) = false := beq_eq_false_iff_ne.mpr c5
      have c5b1 : ((rd l0 x5_1) != x1_1) = true := bne_iff_ne.mpr c5
      obtain rfl := Option.some.inj H
      have p1284 : 0 ≤ (x5_1 : Int) := dt_
      have q1284 : x5_1 < (l0.length : Int) := dt_
      obtain ⟨ad1284, e1284, hx1284_0⟩ := Kd.at_int HR0.out x5_1 p1284 q1284
      cases e1284
      replace p1284 := eq_true p1284
      replace q1284 := eq_true q1284
      go_wp2
      go_ret
      exact ⟨by first | rfl | (simp; done) | (simp [*]; done), by repeat (first | exact Drawn0.refl _ | apply Drawn0.step)⟩
    ·
     rw [if_neg c4] at H
     exact absurd H (by simp)
   ·
    rw [if_neg c3] at H
    have c3b0 : decide (x5_1 < (l0.length : Int)) = false := decide_eq_false c3
    clear c3
    obtain rfl := Option.some.inj H
    go_wp2
    go_ret
    exact ⟨by first | rfl | (simp; done) | (simp [*]; done), by repeat (first | exact Drawn0.refl _ | apply Drawn0.step)⟩
mutual
def laws_FnExactOpenLeads.j0 : Nat → List Int → Bool → List Int → Bool → Bool → List (S65) → List Bool → List Bool → Int → Int → List (S37) → List Bool → List Bool → Int → Int → Option (Bool)
 | 0, _, _, _, _, _, _, _, _, _, _, _, _, _, _, _ => none
 | k + 1, x4, x5, x7, x8, x40, x1286000, x1286001, x1286002, x1286003, x1286004, x1314000, x1314001, x1314002, x1314003, x1314004 => if x40 = true then (none) else ((laws_toExploration.f k x1286000 x1286001 x1286002 x1286003 x1286004).bind fun bt1319 => ((laws_eqExploration.f k x1314000 x1314001 x1314002 x1314003 x1314004 bt1319.1 bt1319.2.1 bt1319.2.2.1 bt1319.2.2.2.1 bt1319.2.2.2.2).bind fun t1330 => (if t1330 = true then ((laws_markExploration.f k x1314000 x1314001 x1314002 x1314003 x1314004 1).bind fun bt1331 => (if bt1331.1 < 0 then (laws_FnExactOpenLeads.j1 k x4 x5 x7 true x1286000 x1286001 x1286002 x1286003 x1286004) else ((laws_eqIntS.f k x7 x4).bind fun t1335 => (if t1335 = true then (laws_FnExactOpenLeads.j1 k x4 x5 x7 (x8 != x5) x1286000 x1286001 x1286002 x1286003 x1286004) else (laws_FnExactOpenLeads.j1 k x4 x5 x7 true x1286000 x1286001 x1286002 x1286003 x1286004))))) else (none))))
def laws_FnExactOpenLeads.j1 : Nat → List Int → Bool → List Int → Bool → List (S65) → List Bool → List Bool → Int → Int → Option (Bool)
 | 0, _, _, _, _, _, _, _, _, _ => none
 | k + 1, x4, x5, x7, x61, x1286000, x1286001, x1286002, x1286003, x1286004 => if x61 = true then (none) else ((laws_markIntS.f k x7 1).bind fun bt1336 => ((laws_heldIntS.f k bt1336.2 1).bind fun t1338 => (if t1338 < 0 then (none) else (if t1338 = bt1336.1 then ((laws_toExploration.f k x1286000 x1286001 x1286002 x1286003 x1286004).bind fun bt1339 => ((impl_OpenLeads.f k bt1339.1 bt1339.2.1 bt1339.2.2.1 bt1339.2.2.2.1 bt1339.2.2.2.2).bind fun bt1350 => ((laws_eqIntS.f k bt1350.1 x4).bind fun t1354 => (if t1354 = true then (laws_FnExactOpenLeads.j2 k bt1336.2 bt1336.1 (bt1350.2 != x5)) else (laws_FnExactOpenLeads.j2 k bt1336.2 bt1336.1 true))))) else (none)))))
def laws_FnExactOpenLeads.j2 : Nat → List Int → Int → Bool → Option (Bool)
 | 0, _, _, _ => none
 | k + 1, x7, x10, x87 => if x87 = true then (none) else ((laws_heldIntS.f k x7 1).bind fun t1355 => (if t1355 < 0 then (none) else (if t1355 = x10 then (some true) else (none))))
end
def laws_FnExactOpenLeads.f (k : Nat) (l0_0 : List (S65)) (l0_1 : List Bool) (l0_2 : List Bool) (a0_3 : Int) (a0_4 : Int) : Option (Bool) := (laws_szExploration.f l0_0 l0_1 l0_2 a0_3 a0_4 1048576).bind fun t1286 => (if t1286 < 0 then (some true) else ((laws_toExploration.f k l0_0 l0_1 l0_2 a0_3 a0_4).bind fun bt1287 => ((spec_OpenLeads.f k bt1287.1 bt1287.2.1 bt1287.2.2.1 bt1287.2.2.2.1 bt1287.2.2.2.2).bind fun bt1298 => ((laws_toExploration.f k l0_0 l0_1 l0_2 a0_3 a0_4).bind fun bt1302 => ((impl_OpenLeads.f k bt1302.1 bt1302.2.1 bt1302.2.2.1 bt1302.2.2.2.1 bt1302.2.2.2.2).bind fun bt1314 => ((laws_eqIntS.f k bt1314.1 bt1298.1).bind fun t1318 => (if t1318 = true then (laws_FnExactOpenLeads.j0 k bt1298.1 bt1298.2 bt1314.1 bt1314.2 (bt1314.2 != bt1298.2) l0_0 l0_1 l0_2 a0_3 a0_4 bt1302.1 bt1302.2.1 bt1302.2.2.1 bt1302.2.2.2.1 bt1302.2.2.2.2) else (laws_FnExactOpenLeads.j0 k bt1298.1 bt1298.2 bt1314.1 bt1314.2 true l0_0 l0_1 l0_2 a0_3 a0_4 bt1302.1 bt1302.2.1 bt1302.2.2.1 bt1302.2.2.2.1 bt1302.2.2.2.2))))))))
set_option maxHeartbeats 64000000 in
set_option maxRecDepth 100000 in
theorem laws_FnExactOpenLeads.calls (k : Nat) (A0_0 : Option Addr) (c0_0 : Nat) (l0_0 : List (S65)) (A0_1 : Option Addr) (c0_1 : Nat) (l0_1 : List Bool) (A0_2 : Option Addr) (c0_2 : Nat) (l0_2 : List Bool) (a0_3 : Int) (a0_4 : Int) (r : Bool) (w : World) (hr0_0 : Kd.C k65 w A0_0 l0_0.length l0_0) (hc0_0 : l0_0.length ≤ c0_0) (hr0_1 : Kd.C Kd.bool w A0_1 l0_1.length l0_1) (hc0_1 : l0_1.length ≤ c0_1) (hr0_2 : Kd.C Kd.bool w A0_2 l0_2.length l0_2) (hc0_2 : l0_2.length ≤ c0_2) (h : laws_FnExactOpenLeads.f k l0_0 l0_1 l0_2 a0_3 a0_4 = some r) :
  Calls Try.prog 9 #[.agg #[.slice A0_0 l0_0.length c0_0, .slice A0_1 l0_1.length c0_1, .slice A0_2 l0_2.length c0_2, .int .i64 a0_3, .int .i64 a0_4]] w fun e w' => e = .returned (.bool r) ∧ Below w.heap.size w w' := by
 have hu25 := Try.underlying25
 have hu30 := Try.underlying30
 have HR0_0 := Aside0.mk hr0_0
 have HC0_0 := Aside0.mk hc0_0
 clear hr0_0 hc0_0
 have HR0_1 := Aside0.mk hr0_1
 have HC0_1 := Aside0.mk hc0_1
 clear hr0_1 hc0_1
 have HR0_2 := Aside0.mk hr0_2
 have HC0_2 := Aside0.mk hc0_2
 clear hr0_2 hc0_2
 have HB := Aside0.mk (Below.refl w.heap.size w)
 have H : ((laws_szExploration.f l0_0 l0_1 l0_2 a0_3 a0_4 1048576).bind fun t1286 => (if t1286 < 0 then (some true) else ((laws_toExploration.f k l0_0 l0_1 l0_2 a0_3 a0_4).bind fun bt1287 => ((spec_OpenLeads.f k bt1287.1 bt1287.2.1 bt1287.2.2.1 bt1287.2.2.2.1 bt1287.2.2.2.2).bind fun bt1298 => ((laws_toExploration.f k l0_0 l0_1 l0_2 a0_3 a0_4).bind fun bt1302 => ((impl_OpenLeads.f k bt1302.1 bt1302.2.1 bt1302.2.2.1 bt1302.2.2.2.1 bt1302.2.2.2.2).bind fun bt1314 => ((laws_eqIntS.f k bt1314.1 bt1298.1).bind fun t1318 => (if t1318 = true then (laws_FnExactOpenLeads.j0 k bt1298.1 bt1298.2 bt1314.1 bt1314.2 (bt1314.2 != bt1298.2) l0_0 l0_1 l0_2 a0_3 a0_4 bt1302.1 bt1302.2.1 bt1302.2.2.1 bt1302.2.2.2.1 bt1302.2.2.2.2) else (laws_FnExactOpenLeads.j0 k bt1298.1 bt1298.2 bt1314.1 bt1314.2 true l0_0 l0_1 l0_2 a0_3 a0_4 bt1302.1 bt1302.2.1 bt1302.2.2.1 bt1302.2.2.2.1 bt1302.2.2.2.2))))))))) = some r := h
 clear h
 replace H := Option.bind_eq_some_iff.mp H
 obtain ⟨t1286, A20, H⟩ := H
 replace H : (if t1286 < 0 then (some true) else ((laws_toExploration.f k l0_0 l0_1 l0_2 a0_3 a0_4).bind fun bt1287 => ((spec_OpenLeads.f k bt1287.1 bt1287.2.1 bt1287.2.2.1 bt1287.2.2.2.1 bt1287.2.2.2.2).bind fun bt1298 => ((laws_toExploration.f k l0_0 l0_1 l0_2 a0_3 a0_4).bind fun bt1302 => ((impl_OpenLeads.f k bt1302.1 bt1302.2.1 bt1302.2.2.1 bt1302.2.2.2.1 bt1302.2.2.2.2).bind fun bt1314 => ((laws_eqIntS.f k bt1314.1 bt1298.1).bind fun t1318 => (if t1318 = true then (laws_FnExactOpenLeads.j0 k bt1298.1 bt1298.2 bt1314.1 bt1314.2 (bt1314.2 != bt1298.2) l0_0 l0_1 l0_2 a0_3 a0_4 bt1302.1 bt1302.2.1 bt1302.2.2.1 bt1302.2.2.2.1 bt1302.2.2.2.2) else (laws_FnExactOpenLeads.j0 k bt1298.1 bt1298.2 bt1314.1 bt1314.2 true l0_0 l0_1 l0_2 a0_3 a0_4 bt1302.1 bt1302.2.1 bt1302.2.2.1 bt1302.2.2.2.1 bt1302.2.2.2.2)))))))) = some r := H
 have A2 := Aside0.mk A20
 clear A20
 by_cases c3 : t1286 < 0
 ·
  rw [if_pos c3] at H
  have c3b0 : decide (t1286 < 0) = true := decide_eq_true c3
  clear c3
  obtain rfl := Option.some.inj H
  go_enter Try.func9, Try.ntmps9
  go_wp2_with (first | ((with_reducible refine gate_dst (N := 1) rfl ?_); refine box_event ?hg (N := 1) ?hd (cs := #[.slice A0_0 l0_0.length c0_0, .slice A0_1 l0_1.length c0_1, .slice A0_2 l0_2.length c0_2, .int .i64 a0_3, .int .i64 a0_4]) (t := 25) ?hr ?_; (case hd => rfl); (case hg => rfl); (case hr => first | (go_simp; done) | (go_simp; rfl)); intro gb1285 hg w4 hbox hb; have BK1285 := Aside0.mk (hbox); have GW1285 := Aside0.mk ((bz_ hg (lb0_ HB.out))); have GE1285 := Aside0.mk ((bz_ hg (lb0_ HB.out))); replace HB := Aside0.mk (below_step (lb0_ HB.out) hb); clear hb hbox hg; obtain ⟨hcz5_0, hcz5_1, hcz5_2, hcz5_3, hcz5_4⟩ := cz5_ BK1285.out; obtain ⟨hfz5_0, hfz5_1, hfz5_2, hfz5_3, hfz5_4⟩ := fz5_ BK1285.out) | ((with_reducible refine gate_callee (f := 15) rfl ?_); refine ga_ (some 16) Try.func15 #[.agg #[.slice A0_0 l0_0.length c0_0, .slice A0_1 l0_1.length c0_1, .slice A0_2 l0_2.length c0_2, .int .i64 a0_3, .int .i64 a0_4], .int .i64 1048576] ?_; (with_reducible refine (laws_szExploration.calls _ _ l0_0 _ _ l0_1 _ _ l0_2 a0_3 a0_4 1048576 t1286 _ ?side1 ?side2 ?side3 ?side4 ?side5 ?side6 A2.out).mono ?_); (case side1 => exact kc_ (Kd.C_below HR0_0.out HB.out)); (case side2 => exact HC0_0.out); (case side3 => exact kc_ (Kd.C_below HR0_1.out HB.out)); (case side4 => exact HC0_1.out); (case side5 => exact kc_ (Kd.C_below HR0_2.out HB.out)); (case side6 => exact HC0_2.out); rintro e w6 ⟨rfl, hb⟩; refine ⟨_, rfl, ?_⟩; replace BK1285 := Aside0.mk (bb_ (bk_ BK1285.out) hb); replace HB := Aside0.mk (below_step (lb1_ HB.out GE1285.out) hb); (try clear hb); (try clear hb2); (try clear hk); (try clear hi)))
  go_ret
  exact ⟨rr_, lb1_ HB.out GE1285.out⟩
 ·
  rw [if_neg c3] at H
  have c3b0 : decide (t1286 < 0) = false := decide_eq_false c3
  clear c3
  replace H := Option.bind_eq_some_iff.mp H
  obtain ⟨⟨t1287, t1290, t1293, t1296, t1297⟩, A70, H⟩ := H
  replace H : ((spec_OpenLeads.f k t1287 t1290 t1293 t1296 t1297).bind fun bt1298 => ((laws_toExploration.f k l0_0 l0_1 l0_2 a0_3 a0_4).bind fun bt1302 => ((impl_OpenLeads.f k bt1302.1 bt1302.2.1 bt1302.2.2.1 bt1302.2.2.2.1 bt1302.2.2.2.2).bind fun bt1314 => ((laws_eqIntS.f k bt1314.1 bt1298.1).bind fun t1318 => (if t1318 = true then (laws_FnExactOpenLeads.j0 k bt1298.1 bt1298.2 bt1314.1 bt1314.2 (bt1314.2 != bt1298.2) l0_0 l0_1 l0_2 a0_3 a0_4 bt1302.1 bt1302.2.1 bt1302.2.2.1 bt1302.2.2.2.1 bt1302.2.2.2.2) else (laws_FnExactOpenLeads.j0 k bt1298.1 bt1298.2 bt1314.1 bt1314.2 true l0_0 l0_1 l0_2 a0_3 a0_4 bt1302.1 bt1302.2.1 bt1302.2.2.1 bt1302.2.2.2.1 bt1302.2.2.2.2)))))) = some r := H
  have A7 := Aside0.mk A70
  clear A70
  replace H := Option.bind_eq_some_iff.mp H
  obtain ⟨⟨t1298, t1301⟩, A80, H⟩ := H
  replace H : ((laws_toExploration.f k l0_0 l0_1 l0_2 a0_3 a0_4).bind fun bt1302 => ((impl_OpenLeads.f k bt1302.1 bt1302.2.1 bt1302.2.2.1 bt1302.2.2.2.1 bt1302.2.2.2.2).bind fun bt1314 => ((laws_eqIntS.f k bt1314.1 t1298).bind fun t1318 => (if t1318 = true then (laws_FnExactOpenLeads.j0 k t1298 t1301 bt1314.1 bt1314.2 (bt1314.2 != t1301) l0_0 l0_1 l0_2 a0_3 a0_4 bt1302.1 bt1302.2.1 bt1302.2.2.1 bt1302.2.2.2.1 bt1302.2.2.2.2) else (laws_FnExactOpenLeads.j0 k t1298 t1301 bt1314.1 bt1314.2 true l0_0 l0_1 l0_2 a0_3 a0_4 bt1302.1 bt1302.2.1 bt1302.2.2.1 bt1302.2.2.2.1 bt1302.2.2.2.2))))) = some r := H
  have A8 := Aside0.mk A80
  clear A80
  replace H := Option.bind_eq_some_iff.mp H
  obtain ⟨⟨t1302, t1305, t1308, t1311, t1312⟩, A90, H⟩ := H
  replace H : ((impl_OpenLeads.f k t1302 t1305 t1308 t1311 t1312).bind fun bt1314 => ((laws_eqIntS.f k bt1314.1 t1298).bind fun t1318 => (if t1318 = true then (laws_FnExactOpenLeads.j0 k t1298 t1301 bt1314.1 bt1314.2 (bt1314.2 != t1301) l0_0 l0_1 l0_2 a0_3 a0_4 t1302 t1305 t1308 t1311 t1312) else (laws_FnExactOpenLeads.j0 k t1298 t1301 bt1314.1 bt1314.2 true l0_0 l0_1 l0_2 a0_3 a0_4 t1302 t1305 t1308 t1311 t1312)))) = some r := H
  have A9 := Aside0.mk A90
  clear A90
  replace H := Option.bind_eq_some_iff.mp H
  obtain ⟨⟨t1314, t1317⟩, A100, H⟩ := H
  replace H : ((laws_eqIntS.f k t1314 t1298).bind fun t1318 => (if t1318 = true then (laws_FnExactOpenLeads.j0 k t1298 t1301 t1314 t1317 (t1317 != t1301) l0_0 l0_1 l0_2 a0_3 a0_4 t1302 t1305 t1308 t1311 t1312) else (laws_FnExactOpenLeads.j0 k t1298 t1301 t1314 t1317 true l0_0 l0_1 l0_2 a0_3 a0_4 t1302 t1305 t1308 t1311 t1312))) = some r := H
  have A10 := Aside0.mk A100
  clear A100
  have HC11 := Aside0.mk H
  clear H
  go_enter Try.func9, Try.ntmps9
  go_upto_region 8 with (first | ((with_reducible refine gate_dst (N := 1) rfl ?_); refine box_event ?hg (N := 1) ?hd (cs := #[.slice A0_0 l0_0.length c0_0, .slice A0_1 l0_1.length c0_1, .slice A0_2 l0_2.length c0_2, .int .i64 a0_3, .int .i64 a0_4]) (t := 25) ?hr ?_; (case hd => rfl); (case hg => rfl); (case hr => first | (go_simp; done) | (go_simp; rfl)); intro gb1285 hg w12 hbox hb; have BK1285 := Aside0.mk (hbox); have GW1285 := Aside0.mk ((bz_ hg (lb0_ HB.out))); have GE1285 := Aside0.mk ((bz_ hg (lb0_ HB.out))); replace HB := Aside0.mk (below_step (lb0_ HB.out) hb); clear hb hbox hg; obtain ⟨hcz13_0, hcz13_1, hcz13_2, hcz13_3, hcz13_4⟩ := cz5_ BK1285.out; obtain ⟨hfz13_0, hfz13_1, hfz13_2, hfz13_3, hfz13_4⟩ := fz5_ BK1285.out) | ((with_reducible refine gate_callee (f := 15) rfl ?_); refine ga_ (some 16) Try.func15 #[.agg #[.slice A0_0 l0_0.length c0_0, .slice A0_1 l0_1.length c0_1, .slice A0_2 l0_2.length c0_2, .int .i64 a0_3, .int .i64 a0_4], .int .i64 1048576] ?_; (with_reducible refine (laws_szExploration.calls _ _ l0_0 _ _ l0_1 _ _ l0_2 a0_3 a0_4 1048576 t1286 _ ?side1 ?side2 ?side3 ?side4 ?side5 ?side6 A2.out).mono ?_); (case side1 => exact kc_ (Kd.C_below HR0_0.out HB.out)); (case side2 => exact HC0_0.out); (case side3 => exact kc_ (Kd.C_below HR0_1.out HB.out)); (case side4 => exact HC0_1.out); (case side5 => exact kc_ (Kd.C_below HR0_2.out HB.out)); (case side6 => exact HC0_2.out); rintro e w14 ⟨rfl, hb⟩; refine ⟨_, rfl, ?_⟩; replace BK1285 := Aside0.mk (bb_ (bk_ BK1285.out) hb); replace HB := Aside0.mk (below_step (lb1_ HB.out GE1285.out) hb); (try clear hb); (try clear hb2); (try clear hk); (try clear hi); obtain ⟨hcz15_0, hcz15_1, hcz15_2, hcz15_3, hcz15_4⟩ := cz5_ BK1285.out; obtain ⟨hfz15_0, hfz15_1, hfz15_2, hfz15_3, hfz15_4⟩ := fz5_ BK1285.out) | ((with_reducible refine gate_callee (f := 17) rfl ?_); refine ga_ (some 21) Try.func17 #[.agg #[.slice A0_0 l0_0.length c0_0, .slice A0_1 l0_1.length c0_1, .slice A0_2 l0_2.length c0_2, .int .i64 a0_3, .int .i64 a0_4]] ?_; (with_reducible refine (laws_toExploration.calls k _ _ l0_0 _ _ l0_1 _ _ l0_2 a0_3 a0_4 t1287 t1290 t1293 t1296 t1297 _ ?side1 ?side2 ?side3 ?side4 ?side5 ?side6 A7.out).mono ?_); (case side1 => exact kc_ (Kd.C_below HR0_0.out HB.out)); (case side2 => exact HC0_0.out); (case side3 => exact kc_ (Kd.C_below HR0_1.out HB.out)); (case side4 => exact HC0_1.out); (case side5 => exact kc_ (Kd.C_below HR0_2.out HB.out)); (case side6 => exact HC0_2.out); rintro e w16 ⟨v1288, v1291, v1294, rfl, ho0, ho1, ho2, hb⟩; refine ⟨_, rfl, ?_⟩; have HO1289 := Aside0.mk (Kd.R_lower ho0 (below_size (lb1_ HB.out GE1285.out))); have HO1292 := Aside0.mk (Kd.R_lower ho1 (below_size (lb1_ HB.out GE1285.out))); have HO1295 := Aside0.mk (Kd.R_lower ho2 (below_size (lb1_ HB.out GE1285.out))); replace BK1285 := Aside0.mk (bb_ (bk_ BK1285.out) hb); replace HB := Aside0.mk (below_step (lb1_ HB.out GE1285.out) hb); (try clear hb); (try clear hb2); (try clear hk); (try clear hi); (try clear ho0); (try clear ho1); (try clear ho2); obtain ⟨Ao17, co17, eo17⟩ := Kd.R_slice HO1289.out; subst eo17; obtain ⟨Ao18, co18, eo18⟩ := Kd.R_slice HO1292.out; subst eo18; obtain ⟨Ao19, co19, eo19⟩ := Kd.R_slice HO1295.out; subst eo19) | ((with_reducible refine gate_callee (f := 43) rfl ?_); refine ga_ (some 22) Try.func43 #[.agg #[.slice Ao17 t1287.length co17, .slice Ao18 t1290.length co18, .slice Ao19 t1293.length co19, .int .i64 t1296, .int .i64 t1297]] ?_; (with_reducible refine (spec_OpenLeads.calls k _ _ t1287 _ _ t1290 _ _ t1293 t1296 t1297 t1298 t1301 _ ?side1 ?side2 ?side3 ?side4 ?side5 ?side6 A8.out).mono ?_); (case side1 => exact kc_ (Kd.R_reads' HO1289.out).2.2); (case side2 => exact (Kd.R_reads' HO1289.out).2.1); (case side3 => exact kc_ (Kd.R_reads' HO1292.out).2.2); (case side4 => exact (Kd.R_reads' HO1292.out).2.1); (case side5 => exact kc_ (Kd.R_reads' HO1295.out).2.2); (case side6 => exact (Kd.R_reads' HO1295.out).2.1); rintro e w20 ⟨v1299, rfl, ho0, hb⟩; refine ⟨_, rfl, ?_⟩; replace HO1289 := Aside0.mk (Kd.R_below (kr_ HO1289.out) hb); replace HO1292 := Aside0.mk (Kd.R_below (kr_ HO1292.out) hb); replace HO1295 := Aside0.mk (Kd.R_below (kr_ HO1295.out) hb); have HO1300 := Aside0.mk (Kd.R_lower ho0 (below_size (lb1_ HB.out GE1285.out))); replace BK1285 := Aside0.mk (bb_ (bk_ BK1285.out) hb); replace HB := Aside0.mk (below_step (lb1_ HB.out GE1285.out) hb); (try clear hb); (try clear hb2); (try clear hk); (try clear hi); (try clear ho0); obtain ⟨hcz21_0, hcz21_1, hcz21_2, hcz21_3, hcz21_4⟩ := cz5_ BK1285.out; obtain ⟨hfz21_0, hfz21_1, hfz21_2, hfz21_3, hfz21_4⟩ := fz5_ BK1285.out) | ((with_reducible refine gate_callee (f := 17) rfl ?_); refine ga_ (some 26) Try.func17 #[.agg #[.slice A0_0 l0_0.length c0_0, .slice A0_1 l0_1.length c0_1, .slice A0_2 l0_2.length c0_2, .int .i64 a0_3, .int .i64 a0_4]] ?_; (with_reducible refine (laws_toExploration.calls k _ _ l0_0 _ _ l0_1 _ _ l0_2 a0_3 a0_4 t1302 t1305 t1308 t1311 t1312 _ ?side1 ?side2 ?side3 ?side4 ?side5 ?side6 A9.out).mono ?_); (case side1 => exact kc_ (Kd.C_below HR0_0.out HB.out)); (case side2 => exact HC0_0.out); (case side3 => exact kc_ (Kd.C_below HR0_1.out HB.out)); (case side4 => exact HC0_1.out); (case side5 => exact kc_ (Kd.C_below HR0_2.out HB.out)); (case side6 => exact HC0_2.out); rintro e w22 ⟨v1303, v1306, v1309, rfl, ho0, ho1, ho2, hb⟩; refine ⟨_, rfl, ?_⟩; replace HO1300 := Aside0.mk (Kd.R_below (kr_ HO1300.out) hb); have HO1304 := Aside0.mk (Kd.R_lower (Kd.R_new' ho0 (Kd.R_lt (kr_ HO1289.out))) (below_size (lb1_ HB.out GE1285.out))); replace HO1289 := Aside0.mk (Kd.R_elder' (kr_ HO1289.out) (Kd.R_base ho0) hb); have HO1307 := Aside0.mk (Kd.R_lower (Kd.R_new' (Kd.R_new' ho1 (Kd.R_lt (kr_ HO1292.out))) (Kd.R_lt (kr_ HO1295.out))) (below_size (lb1_ HB.out GE1285.out))); have HO1310 := Aside0.mk (Kd.R_lower (Kd.R_new' (Kd.R_new' ho2 (Kd.R_lt (kr_ HO1292.out))) (Kd.R_lt (kr_ HO1295.out))) (below_size (lb1_ HB.out GE1285.out))); replace HO1292 := Aside0.mk (Kd.R_mono (Kd.R_told (Kd.R_told (Kd.R_old (kr_ HO1292.out) hb) (Kd.R_base ho1)) (Kd.R_base ho2)) (fun _ h_ => h_.1)); replace HO1295 := Aside0.mk (Kd.R_mono (Kd.R_told (Kd.R_told (Kd.R_old (kr_ HO1295.out) hb) (Kd.R_base ho1)) (Kd.R_base ho2)) (fun _ h_ => h_.1)); replace BK1285 := Aside0.mk (bb_ (bk_ BK1285.out) hb); replace HB := Aside0.mk (below_step (lb1_ HB.out GE1285.out) hb); (try clear hb); (try clear hb2); (try clear hk); (try clear hi); (try clear ho0); (try clear ho1); (try clear ho2)) | ((with_reducible refine gate_dst (N := 6) rfl ?_); refine box_event ?hg (N := 6) ?hd (cs := #[.slice none 0 0, .slice none 0 0, .slice none 0 0, .int .i64 0, .int .i64 0]) (t := 30) ?hr ?_; (case hd => rfl); (case hg => rfl); (case hr => first | (go_simp; done) | (go_simp; rfl)); intro gb1313 hg w23 hbox hb; replace HO1289 := Aside0.mk (Kd.R_below (kr_ HO1289.out) hb); replace HO1292 := Aside0.mk (Kd.R_below (kr_ HO1292.out) hb); replace HO1295 := Aside0.mk (Kd.R_below (kr_ HO1295.out) hb); replace HO1300 := Aside0.mk (Kd.R_below (kr_ HO1300.out) hb); replace HO1304 := Aside0.mk (Kd.R_below (kr_ HO1304.out) hb); replace HO1307 := Aside0.mk (Kd.R_below (kr_ HO1307.out) hb); replace HO1310 := Aside0.mk (Kd.R_below (kr_ HO1310.out) hb); have BK1313 := Aside0.mk (hbox); have GW1313 := Aside0.mk ((bz_ hg (lb1_ HB.out GE1285.out))); have GE1313 := Aside0.mk ((bz_ hg (lb1_ HB.out GE1285.out))); replace HB := Aside0.mk (below_step (lb1_ HB.out GE1285.out) hb); have NB1285_1313 := Aside0.mk (nl_ hg BK1285.out); have NB1313_1285 := Aside0.mk (ng_ hg BK1285.out); replace BK1285 := Aside0.mk (bb_ (bk_ BK1285.out) hb); clear hb hbox hg; obtain ⟨Ao24, co24, eo24⟩ := Kd.R_slice HO1304.out; subst eo24; have hnb25 := NB1313_1285.out; have hnc25 := NB1285_1313.out; obtain ⟨hcz26_0, hcz26_1, hcz26_2, hcz26_3, hcz26_4⟩ := cz5_ BK1313.out; obtain ⟨hfz26_0, hfz26_1, hfz26_2, hfz26_3, hfz26_4⟩ := fz5_ BK1313.out; obtain ⟨Ao27, co27, eo27⟩ := Kd.R_slice HO1307.out; subst eo27; obtain ⟨Ao28, co28, eo28⟩ := Kd.R_slice HO1310.out; subst eo28) | ((with_reducible refine gate_callee (f := 44) rfl ?_); refine ga_ (some 29) Try.func44 #[.agg #[.slice Ao24 t1302.length co24, .slice Ao27 t1305.length co27, .slice Ao28 t1308.length co28, .int .i64 t1311, .int .i64 t1312]] ?_; (with_reducible refine (impl_OpenLeads.calls k _ _ t1302 _ _ t1305 _ _ t1308 t1311 t1312 t1314 t1317 _ ?side1 ?side2 ?side3 ?side4 ?side5 ?side6 A10.out).mono ?_); (case side1 => refine (Kd.R_reads' (e := 37) (base := w.heap.size) (ok := fun k_ => (True ∧ some k_ ≠ (.slice Ao17 t1287.length co17 : Value).ownBlock)) (n := t1302.length) (c := co24) ?_).2.2; exact (kg_ HO1304.out BK1313.out)); (case side2 => exact (Kd.R_reads' HO1304.out).2.1); (case side3 => refine (Kd.R_reads' (e := 4) (base := w.heap.size) (ok := fun k_ => ((some k_ ≠ (.slice Ao28 t1308.length co28 : Value).ownBlock ∧ some k_ ≠ (.slice Ao18 t1290.length co18 : Value).ownBlock) ∧ some k_ ≠ (.slice Ao19 t1293.length co19 : Value).ownBlock)) (n := t1305.length) (c := co27) ?_).2.2; exact (kg_ HO1307.out BK1313.out)); (case side4 => exact (Kd.R_reads' HO1307.out).2.1); (case side5 => refine (Kd.R_reads' (e := 4) (base := w.heap.size) (ok := fun k_ => ((some k_ ≠ (.slice Ao27 t1305.length co27 : Value).ownBlock ∧ some k_ ≠ (.slice Ao18 t1290.length co18 : Value).ownBlock) ∧ some k_ ≠ (.slice Ao19 t1293.length co19 : Value).ownBlock)) (n := t1308.length) (c := co28) ?_).2.2; exact (kg_ HO1310.out BK1313.out)); (case side6 => exact (Kd.R_reads' HO1310.out).2.1); rintro e w29 ⟨v1315, rfl, ho0, hb⟩; refine ⟨_, rfl, ?_⟩; replace HO1289 := Aside0.mk (Kd.R_below (kg_ HO1289.out BK1313.out) hb); replace HO1292 := Aside0.mk (Kd.R_below (kg_ HO1292.out BK1313.out) hb); replace HO1295 := Aside0.mk (Kd.R_below (kg_ HO1295.out BK1313.out) hb); replace HO1304 := Aside0.mk (Kd.R_below (kg_ HO1304.out BK1313.out) hb); replace HO1307 := Aside0.mk (Kd.R_below (kg_ HO1307.out BK1313.out) hb); replace HO1310 := Aside0.mk (Kd.R_below (kg_ HO1310.out BK1313.out) hb); have HO1316 := Aside0.mk (Kd.R_lower (Kd.R_new' ho0 (Kd.R_lt (kg_ HO1300.out BK1313.out))) (below_size (lb2_ HB.out GE1285.out GE1313.out))); replace HO1300 := Aside0.mk (Kd.R_elder' (kg_ HO1300.out BK1313.out) (Kd.R_base ho0) hb); replace BK1285 := Aside0.mk (blk_below (g := gb1285) (o := .cells #[.slice A0_0 l0_0.length c0_0, .slice A0_1 l0_1.length c0_1, .slice A0_2 l0_2.length c0_2, .int .i64 a0_3, .int .i64 a0_4] 25 (0, 0)) (by (with_reducible repeat (first | refine blk_drewN ?_ _ | refine blk_drew ?_ | refine blk_alloc ?_ _)); exact (f5_ BK1285.out NB1285_1313.out _ _ _ _ _)) hb); replace BK1313 := Aside0.mk (blk_below (g := gb1313) (o := .cells #[.slice Ao24 t1302.length co24, .slice Ao27 t1305.length co27, .slice Ao28 t1308.length co28, .int .i64 t1311, .int .i64 t1312] 30 (0, 0)) (by (with_reducible repeat (first | refine blk_drewN ?_ _ | refine blk_drew ?_ | refine blk_alloc ?_ _)); exact (p5_ BK1313.out _ _ _ _ _)) hb); replace HB := Aside0.mk (below_step (lb2_ HB.out GE1285.out GE1313.out) hb); (try clear hb); (try clear hb2); (try clear hk); (try clear hi); (try clear ho0)))
  (try simp only [Act.put, List.setIfInBounds_toArray, List.set_cons_zero, List.set_cons_succ])
  go_cut [40] (fun v40 wc => ∃ (kq : Nat) (x40_10 : Bool), v40 = .bool x40_10 ∧ Aside0 (laws_FnExactOpenLeads.j0 kq t1298 t1301 t1314 t1317 x40_10 l0_0 l0_1 l0_2 a0_3 a0_4 t1302 t1305 t1308 t1311 t1312 = some r) ∧ Aside0 (kq ≤ k) ∧ Aside0 (Kd.R (Kd.int .i64) 3 wc w.heap.size (fun k_ => some k_ ≠ (v1315 : Value).ownBlock) v1299 t1298) ∧ Aside0 (Kd.R (Kd.int .i64) 3 wc w.heap.size (fun k_ => some k_ ≠ (v1299 : Value).ownBlock) v1315 t1314) ∧ Aside0 (Kd.R k37 37 wc w.heap.size (fun _ => True) (.slice Ao24 t1302.length co24) t1302) ∧ Aside0 (Kd.R Kd.bool 4 wc w.heap.size (fun k_ => some k_ ≠ ((.slice Ao28 t1308.length co28) : Value).ownBlock) (.slice Ao27 t1305.length co27) t1305) ∧ Aside0 (Kd.R Kd.bool 4 wc w.heap.size (fun k_ => some k_ ≠ ((.slice Ao27 t1305.length co27) : Value).ownBlock) (.slice Ao28 t1308.length co28) t1308) ∧ Aside0 (wc.heap[gb1285]? = some (.cells #[(.slice A0_0 l0_0.length c0_0), (.slice A0_1 l0_1.length c0_1), (.slice A0_2 l0_2.length c0_2), .int .i64 a0_3, .int .i64 a0_4] 25 (0, 0))) ∧ Aside0 (wc.heap[gb1313]? = some (.cells #[(.slice Ao24 t1302.length co24), (.slice Ao27 t1305.length co27), (.slice Ao28 t1308.length co28), .int .i64 t1311, .int .i64 t1312] 30 (0, 0))) ∧ Aside0 (Below w.heap.size w wc))
  case first =>
   have H := HC11.out
   clear HC11
   replace H := Option.bind_eq_some_iff.mp H
   obtain ⟨t1318, A300, H⟩ := H
   replace H : (if t1318 = true then (laws_FnExactOpenLeads.j0 k t1298 t1301 t1314 t1317 (t1317 != t1301) l0_0 l0_1 l0_2 a0_3 a0_4 t1302 t1305 t1308 t1311 t1312) else (laws_FnExactOpenLeads.j0 k t1298 t1301 t1314 t1317 true l0_0 l0_1 l0_2 a0_3 a0_4 t1302 t1305 t1308 t1311 t1312)) = some r := H
   have A30 := Aside0.mk A300
   clear A300
   by_cases c31 : t1318 = true
   ·
    subst c31
    have H1 : (laws_FnExactOpenLeads.j0 k t1298 t1301 t1314 t1317 (t1317 != t1301) l0_0 l0_1 l0_2 a0_3 a0_4 t1302 t1305 t1308 t1311 t1312) = some r := by rw [if_pos rfl] at H; exact H
    clear H
    have H := H1
    clear H1
    have H' := Aside0.mk H
    clear H
    obtain ⟨Ao32, co32, eo32⟩ := Kd.R_slice HO1316.out
    subst eo32
    obtain ⟨Ao33, co33, eo33⟩ := Kd.R_slice HO1300.out
    subst eo33
    go_wp2_with (first | ((with_reducible refine gate_callee (f := 45) rfl ?_); refine ga_ (some 34) Try.func45 #[.slice Ao32 t1314.length co32, .slice Ao33 t1298.length co33] ?_; (with_reducible refine (laws_eqIntS.calls k _ _ t1314 _ _ t1298 true _ ?side1 ?side2 ?side3 ?side4 A30.out).mono ?_); (case side1 => exact kc_ (Kd.R_reads' HO1316.out).2.2); (case side2 => exact (Kd.R_reads' HO1316.out).2.1); (case side3 => exact kc_ (Kd.R_reads' HO1300.out).2.2); (case side4 => exact (Kd.R_reads' HO1300.out).2.1); rintro e w' ⟨rfl, ⟨nd, rfl⟩⟩; refine ⟨_, rfl, ?_⟩))
    go_meet
    case rel => exact ⟨_, ((t1317 != t1301)), (by first | rfl | (simp; done) | (simp [*]; done)), H', ⟨by first | omega | exact Nat.le_refl _⟩, ⟨krm_ HO1300.out (fun _ hk => hk.2)⟩, ⟨krm_ HO1316.out (fun _ hk => hk.2)⟩, ⟨krm_ HO1304.out (fun _ hk => trivial)⟩, ⟨krm_ HO1307.out (fun _ hk => hk.1.1)⟩, ⟨krm_ HO1310.out (fun _ hk => hk.1.1)⟩, ⟨bk_ BK1285.out⟩, ⟨bk_ BK1313.out⟩, ⟨lb2_ HB.out GE1285.out GE1313.out⟩⟩
   ·
    replace c31 := Bool.eq_false_iff.mpr c31
    subst c31
    have H1 : (laws_FnExactOpenLeads.j0 k t1298 t1301 t1314 t1317 true l0_0 l0_1 l0_2 a0_3 a0_4 t1302 t1305 t1308 t1311 t1312) = some r := by rw [if_neg (show ¬ (false = true) by decide)] at H; exact H
    clear H
    have H := H1
    clear H1
    have H' := Aside0.mk H
    clear H
    obtain ⟨Ao34, co34, eo34⟩ := Kd.R_slice HO1316.out
    subst eo34
    obtain ⟨Ao35, co35, eo35⟩ := Kd.R_slice HO1300.out
    subst eo35
    go_wp2_with (first | ((with_reducible refine gate_callee (f := 45) rfl ?_); refine ga_ (some 34) Try.func45 #[.slice Ao34 t1314.length co34, .slice Ao35 t1298.length co35] ?_; (with_reducible refine (laws_eqIntS.calls k _ _ t1314 _ _ t1298 false _ ?side1 ?side2 ?side3 ?side4 A30.out).mono ?_); (case side1 => exact kc_ (Kd.R_reads' HO1316.out).2.2); (case side2 => exact (Kd.R_reads' HO1316.out).2.1); (case side3 => exact kc_ (Kd.R_reads' HO1300.out).2.2); (case side4 => exact (Kd.R_reads' HO1300.out).2.1); rintro e w' ⟨rfl, ⟨nd, rfl⟩⟩; refine ⟨_, rfl, ?_⟩))
    go_meet
    case rel => exact ⟨_, (true), (by first | rfl | (simp; done) | (simp [*]; done)), H', ⟨by first | omega | exact Nat.le_refl _⟩, ⟨krm_ HO1300.out (fun _ hk => hk.2)⟩, ⟨krm_ HO1316.out (fun _ hk => hk.2)⟩, ⟨krm_ HO1304.out (fun _ hk => trivial)⟩, ⟨krm_ HO1307.out (fun _ hk => hk.1.1)⟩, ⟨krm_ HO1310.out (fun _ hk => hk.1.1)⟩, ⟨bk_ BK1285.out⟩, ⟨bk_ BK1313.out⟩, ⟨lb2_ HB.out GE1285.out GE1313.out⟩⟩
  case rest =>
   clear HC11
   try clear c1
   try clear c2
   try clear p2
   try clear c3
   try clear c3b0
   try clear c4
   try clear c9
   try clear c15
   try clear c17
   try clear c25
   try clear c31
   try clear hcz13_0 hcz13_1 hcz13_2 hcz13_3 hcz13_4
   try clear hcz15_0 hcz15_1 hcz15_2 hcz15_3 hcz15_4
   try clear hcz21_0 hcz21_1 hcz21_2 hcz21_3 hcz21_4
   try clear hcz26_0 hcz26_1 hcz26_2 hcz26_3 hcz26_4
   try clear hcz5_0 hcz5_1 hcz5_2 hcz5_3 hcz5_4
   try clear hfz13_0 hfz13_1 hfz13_2 hfz13_3 hfz13_4
   try clear hfz15_0 hfz15_1 hfz15_2 hfz15_3 hfz15_4
   try clear hfz21_0 hfz21_1 hfz21_2 hfz21_3 hfz21_4
   try clear hfz26_0 hfz26_1 hfz26_2 hfz26_3 hfz26_4
   try clear hfz5_0 hfz5_1 hfz5_2 hfz5_3 hfz5_4
   obtain ⟨kq, x40_10, rfl, HA, HJ10, HO_4, HO_7, HO_1314000, HO_1314001, HO_1314002, BK1285, BK1313, HB⟩ := hcut
   cases kq with
   | zero => exact absurd HA.out (by simp [laws_FnExactOpenLeads.j0])
   | succ kj10 =>
    have H := HA.out
    clear HA
    simp only [laws_FnExactOpenLeads.j0] at H
    by_cases c36 : x40_10 = true
    ·
     subst c36
     have H1 : (none) = some r := by rw [if_pos rfl] at H; exact H
     clear H
     have H := H1
     clear H1
     exact absurd H (by simp)
    ·
     replace c36 := Bool.eq_false_iff.mpr c36
     subst c36
     have H1 : ((laws_toExploration.f kj10 l0_0 l0_1 l0_2 a0_3 a0_4).bind fun bt1319 => ((laws_eqExploration.f kj10 t1302 t1305 t1308 t1311 t1312 bt1319.1 bt1319.2.1 bt1319.2.2.1 bt1319.2.2.2.1 bt1319.2.2.2.2).bind fun t1330 => (if t1330 = true then ((laws_markExploration.f kj10 t1302 t1305 t1308 t1311 t1312 1).bind fun bt1331 => (if bt1331.1 < 0 then (laws_FnExactOpenLeads.j1 kj10 t1298 t1301 t1314 true l0_0 l0_1 l0_2 a0_3 a0_4) else ((laws_eqIntS.f kj10 t1314 t1298).bind fun t1335 => (if t1335 = true then (laws_FnExactOpenLeads.j1 kj10 t1298 t1301 t1314 (t1317 != t1301) l0_0 l0_1 l0_2 a0_3 a0_4) else (laws_FnExactOpenLeads.j1 kj10 t1298 t1301 t1314 true l0_0 l0_1 l0_2 a0_3 a0_4))))) else (none)))) = some r := by rw [if_neg (show ¬ (false = true) by decide)] at H; exact H
     clear H
     have H := H1
     clear H1
     replace H := Option.bind_eq_some_iff.mp H
     obtain ⟨⟨t1319, t1322, t1325, t1328, t1329⟩, A370, H⟩ := H
     replace H : ((laws_eqExploration.f kj10 t1302 t1305 t1308 t1311 t1312 t1319 t1322 t1325 t1328 t1329).bind fun t1330 => (if t1330 = true then ((laws_markExploration.f kj10 t1302 t1305 t1308 t1311 t1312 1).bind fun bt1331 => (if bt1331.1 < 0 then (laws_FnExactOpenLeads.j1 kj10 t1298 t1301 t1314 true l0_0 l0_1 l0_2 a0_3 a0_4) else ((laws_eqIntS.f kj10 t1314 t1298).bind fun t1335 => (if t1335 = true then (laws_FnExactOpenLeads.j1 kj10 t1298 t1301 t1314 (t1317 != t1301) l0_0 l0_1 l0_2 a0_3 a0_4) else (laws_FnExactOpenLeads.j1 kj10 t1298 t1301 t1314 true l0_0 l0_1 l0_2 a0_3 a0_4))))) else (none))) = some r := H
     have A37 := Aside0.mk A370
     clear A370
     replace H := Option.bind_eq_some_iff.mp H
     obtain ⟨t1330, A380, H⟩ := H
     replace H : (if t1330 = true then ((laws_markExploration.f kj10 t1302 t1305 t1308 t1311 t1312 1).bind fun bt1331 => (if bt1331.1 < 0 then (laws_FnExactOpenLeads.j1 kj10 t1298 t1301 t1314 true l0_0 l0_1 l0_2 a0_3 a0_4) else ((laws_eqIntS.f kj10 t1314 t1298).bind fun t1335 => (if t1335 = true then (laws_FnExactOpenLeads.j1 kj10 t1298 t1301 t1314 (t1317 != t1301) l0_0 l0_1 l0_2 a0_3 a0_4) else (laws_FnExactOpenLeads.j1 kj10 t1298 t1301 t1314 true l0_0 l0_1 l0_2 a0_3 a0_4))))) else (none)) = some r := H
     have A38 := Aside0.mk A380
     clear A380
     by_cases c39 : t1330 = true
     ·
      subst c39
      have H1 : ((laws_markExploration.f kj10 t1302 t1305 t1308 t1311 t1312 1).bind fun bt1331 => (if bt1331.1 < 0 then (laws_FnExactOpenLeads.j1 kj10 t1298 t1301 t1314 true l0_0 l0_1 l0_2 a0_3 a0_4) else ((laws_eqIntS.f kj10 t1314 t1298).bind fun t1335 => (if t1335 = true then (laws_FnExactOpenLeads.j1 kj10 t1298 t1301 t1314 (t1317 != t1301) l0_0 l0_1 l0_2 a0_3 a0_4) else (laws_FnExactOpenLeads.j1 kj10 t1298 t1301 t1314 true l0_0 l0_1 l0_2 a0_3 a0_4))))) = some r := by rw [if_pos rfl] at H; exact H
      clear H
      have H := H1
      clear H1
      replace H := Option.bind_eq_some_iff.mp H
      obtain ⟨⟨t1331, t1332, t1333, t1334⟩, A400, H⟩ := H
      replace H : (if t1331 < 0 then (laws_FnExactOpenLeads.j1 kj10 t1298 t1301 t1314 true l0_0 l0_1 l0_2 a0_3 a0_4) else ((laws_eqIntS.f kj10 t1314 t1298).bind fun t1335 => (if t1335 = true then (laws_FnExactOpenLeads.j1 kj10 t1298 t1301 t1314 (t1317 != t1301) l0_0 l0_1 l0_2 a0_3 a0_4) else (laws_FnExactOpenLeads.j1 kj10 t1298 t1301 t1314 true l0_0 l0_1 l0_2 a0_3 a0_4)))) = some r := H
      have A40 := Aside0.mk A400
      clear A400
      have HC41 := Aside0.mk H
      clear H
      try go_wp2
      replace HO_4 := Aside0.mk (Kd.R_drew HO_4.out)
      replace HO_7 := Aside0.mk (Kd.R_drew HO_7.out)
      replace HO_1314000 := Aside0.mk (Kd.R_drew HO_1314000.out)
      replace HO_1314001 := Aside0.mk (Kd.R_drew HO_1314001.out)
      replace HO_1314002 := Aside0.mk (Kd.R_drew HO_1314002.out)
      replace BK1285 := Aside0.mk (blk_drew BK1285.out)
      replace BK1313 := Aside0.mk (blk_drew BK1313.out)
      replace HB := Aside0.mk (below_drew1 HB.out)
      refine start_ (n := 5) (S := fun w' => w'.cell? ⟨gb1313, 0, none⟩ = some (.slice Ao24 t1302.length co24) ∧ w'.cell? ⟨gb1313, 1, none⟩ = some (.slice Ao27 t1305.length co27) ∧ w'.cell? ⟨gb1313, 2, none⟩ = some (.slice Ao28 t1308.length co28) ∧ w'.cell? ⟨gb1313, 3, none⟩ = some (.int .i64 t1311) ∧ w'.cell? ⟨gb1313, 4, none⟩ = some (.int .i64 t1312) ∧ w'.cell? ⟨gb1285, 0, none⟩ = some (.slice A0_0 l0_0.length c0_0) ∧ w'.cell? ⟨gb1285, 1, none⟩ = some (.slice A0_1 l0_1.length c0_1) ∧ w'.cell? ⟨gb1285, 2, none⟩ = some (.slice A0_2 l0_2.length c0_2) ∧ w'.cell? ⟨gb1285, 3, none⟩ = some (.int .i64 a0_3) ∧ w'.cell? ⟨gb1285, 4, none⟩ = some (.int .i64 a0_4)) (ds := []) #[false, false, false, false, false] (by kernel_rfl) rfl rfl ⟨(blk_cell BK1313.out 0).trans rfl, (blk_cell BK1313.out 1).trans rfl, (blk_cell BK1313.out 2).trans rfl, (blk_cell BK1313.out 3).trans rfl, (blk_cell BK1313.out 4).trans rfl, (blk_cell BK1285.out 0).trans rfl, (blk_cell BK1285.out 1).trans rfl, (blk_cell BK1285.out 2).trans rfl, (blk_cell BK1285.out 3).trans rfl, (blk_cell BK1285.out 4).trans rfl⟩ (fun hHeld => ?_)
      generalize wc.drew = w42 at HO_4 HO_7 HO_1314000 HO_1314001 HO_1314002 BK1285 BK1313 HB hHeld ⊢
      refine take_ (i := 0) (N := some 41) (v := ?_) (a' := ?_) #[true, false, false, false, false] rfl rfl (by kernel_rfl) (fun _ _ _ h => h) (Or.inl ⟨by rfl, ?_⟩) hHeld ?_ ?_
      rotate_left
      ·
       rintro w' ⟨s0, s1, s2, s3, s4, s5, s6, s7, s8, s9⟩
       go_simp
       with_reducible rfl
      rotate_left
      ·
       simp only [Act.put, List.setIfInBounds_toArray, List.set_cons_zero, List.set_cons_succ, i64_w, i32_w]
       rfl
      refine take_ (i := 1) (N := some 42) (v := ?_) (a' := ?_) #[true, true, false, false, false] rfl rfl (by kernel_rfl) (fun _ _ _ h => h) (Or.inl ⟨by rfl, ?_⟩) hHeld ?_ ?_
      rotate_left
      ·
       rintro w' ⟨s0, s1, s2, s3, s4, s5, s6, s7, s8, s9⟩
       go_simp
       with_reducible rfl
      rotate_left
      ·
       simp only [Act.put, List.setIfInBounds_toArray, List.set_cons_zero, List.set_cons_succ, i64_w, i32_w]
       rfl
      refine one_ (i := 2) (N := some 43) #[true, true, true, false, false] rfl rfl (by kernel_rfl) (by decide) (fun K hK => ?_)
      refine gs_ Try.func17 #[.agg #[.slice A0_0 l0_0.length c0_0, .slice A0_1 l0_1.length c0_1, .slice A0_2 l0_2.length c0_2, .int .i64 a0_3, .int .i64 a0_4]] ?_
      with_reducible refine (laws_toExploration.calls kj10 _ _ l0_0 _ _ l0_1 _ _ l0_2 a0_3 a0_4 t1319 t1322 t1325 t1328 t1329 _ ?side1 ?side2 ?side3 ?side4 ?side5 ?side6 A37.out).mono ?_
      (case side1 => exact kc_ (Kd.C_below HR0_0.out HB.out))
      (case side2 => exact HC0_0.out)
      (case side3 => exact kc_ (Kd.C_below HR0_1.out HB.out))
      (case side4 => exact HC0_1.out)
      (case side5 => exact kc_ (Kd.C_below HR0_2.out HB.out))
      (case side6 => exact HC0_2.out)
      rintro e w43 ⟨v1320, v1323, v1326, rfl, ho0, ho1, ho2, hb⟩
      refine ⟨_, rfl, ?_⟩
      replace HO_4 := Aside0.mk (Kd.R_below (kr_ HO_4.out) hb)
      replace HO_7 := Aside0.mk (Kd.R_below (kr_ HO_7.out) hb)
      have HO1321 := Aside0.mk (Kd.R_lower (Kd.R_new' ho0 (Kd.R_lt (kr_ HO_1314000.out))) (below_size (lb2_ HB.out GE1285.out GE1313.out)))
      replace HO_1314000 := Aside0.mk (Kd.R_elder' (kr_ HO_1314000.out) (Kd.R_base ho0) hb)
      have HO1324 := Aside0.mk (Kd.R_lower (Kd.R_new' (Kd.R_new' ho1 (Kd.R_lt (kr_ HO_1314001.out))) (Kd.R_lt (kr_ HO_1314002.out))) (below_size (lb2_ HB.out GE1285.out GE1313.out)))
      have HO1327 := Aside0.mk (Kd.R_lower (Kd.R_new' (Kd.R_new' ho2 (Kd.R_lt (kr_ HO_1314001.out))) (Kd.R_lt (kr_ HO_1314002.out))) (below_size (lb2_ HB.out GE1285.out GE1313.out)))
      replace HO_1314001 := Aside0.mk (Kd.R_mono (Kd.R_told (Kd.R_told (Kd.R_old (kr_ HO_1314001.out) hb) (Kd.R_base ho1)) (Kd.R_base ho2)) (fun _ h_ => h_.1))
      replace HO_1314002 := Aside0.mk (Kd.R_mono (Kd.R_told (Kd.R_told (Kd.R_old (kr_ HO_1314002.out) hb) (Kd.R_base ho1)) (Kd.R_base ho2)) (fun _ h_ => h_.1))
      replace BK1285 := Aside0.mk (bb_ (bk_ BK1285.out) hb)
      replace BK1313 := Aside0.mk (bb_ (bk_ BK1313.out) hb)
      replace HB := Aside0.mk (below_step (lb2_ HB.out GE1285.out GE1313.out) hb)
      (try clear hb)
      (try clear hb2)
      (try clear hk)
      (try clear hi)
      (try clear ho0)
      (try clear ho1)
      (try clear ho2)
      obtain ⟨Ao44, co44, eo44⟩ := Kd.R_slice HO1321.out
      (first | subst eo44 | (injection eo44 with f1_ f2_ f3_; have f4_ := f1_.symm; have f5_ := f3_.symm; clear f1_ f2_ f3_; subst f4_; subst f5_))
      obtain ⟨Ao45, co45, eo45⟩ := Kd.R_slice HO1324.out
      (first | subst eo45 | (injection eo45 with f1_ f2_ f3_; have f4_ := f1_.symm; have f5_ := f3_.symm; clear f1_ f2_ f3_; subst f4_; subst f5_))
      obtain ⟨Ao46, co46, eo46⟩ := Kd.R_slice HO1327.out
      (first | subst eo46 | (injection eo46 with f1_ f2_ f3_; have f4_ := f1_.symm; have f5_ := f3_.symm; clear f1_ f2_ f3_; subst f4_; subst f5_))
      refine hK.out _ _ ⟨(blk_cell BK1313.out 0).trans rfl, (blk_cell BK1313.out 1).trans rfl, (blk_cell BK1313.out 2).trans rfl, (blk_cell BK1313.out 3).trans rfl, (blk_cell BK1313.out 4).trans rfl, (blk_cell BK1285.out 0).trans rfl, (blk_cell BK1285.out 1).trans rfl, (blk_cell BK1285.out 2).trans rfl, (blk_cell BK1285.out 3).trans rfl, (blk_cell BK1285.out 4).trans rfl⟩ (fun hHeld => ?_)
      clear hK K
      refine na_ ?_
      refine one_ (i := 3) (N := some 44) #[true, true, true, true, false] rfl rfl (by kernel_rfl) (by decide) (fun K hK => ?_)
      refine gs_ Try.func19 #[.agg #[.slice Ao24 t1302.length co24, .slice Ao27 t1305.length co27, .slice Ao28 t1308.length co28, .int .i64 t1311, .int .i64 t1312], .agg #[.slice Ao44 t1319.length co44, .slice Ao45 t1322.length co45, .slice Ao46 t1325.length co46, .int .i64 t1328, .int .i64 t1329]] ?_
      with_reducible refine (laws_eqExploration.calls kj10 _ _ t1302 _ _ t1305 _ _ t1308 t1311 t1312 _ _ t1319 _ _ t1322 _ _ t1325 t1328 t1329 true _ ?side1 ?side2 ?side3 ?side4 ?side5 ?side6 ?side7 ?side8 ?side9 ?side10 ?side11 ?side12 A38.out).mono ?_
      (case side1 => exact kc_ (Kd.R_reads' HO_1314000.out).2.2)
      (case side2 => exact (Kd.R_reads' HO_1314000.out).2.1)
      (case side3 => exact kc_ (Kd.R_reads' HO_1314001.out).2.2)
      (case side4 => exact (Kd.R_reads' HO_1314001.out).2.1)
      (case side5 => exact kc_ (Kd.R_reads' HO_1314002.out).2.2)
      (case side6 => exact (Kd.R_reads' HO_1314002.out).2.1)
      (case side7 => exact kc_ (Kd.R_reads' HO1321.out).2.2)
      (case side8 => exact (Kd.R_reads' HO1321.out).2.1)
      (case side9 => exact kc_ (Kd.R_reads' HO1324.out).2.2)
      (case side10 => exact (Kd.R_reads' HO1324.out).2.1)
      (case side11 => exact kc_ (Kd.R_reads' HO1327.out).2.2)
      (case side12 => exact (Kd.R_reads' HO1327.out).2.1)
      rintro e w47 ⟨rfl, hb⟩
      refine ⟨_, rfl, ?_⟩
      replace HO_4 := Aside0.mk (Kd.R_below (kr_ HO_4.out) hb)
      replace HO_7 := Aside0.mk (Kd.R_below (kr_ HO_7.out) hb)
      replace HO_1314000 := Aside0.mk (Kd.R_below (kr_ HO_1314000.out) hb)
      replace HO_1314001 := Aside0.mk (Kd.R_below (kr_ HO_1314001.out) hb)
      replace HO_1314002 := Aside0.mk (Kd.R_below (kr_ HO_1314002.out) hb)
      replace HO1321 := Aside0.mk (Kd.R_below (kr_ HO1321.out) hb)
      replace HO1324 := Aside0.mk (Kd.R_below (kr_ HO1324.out) hb)
      replace HO1327 := Aside0.mk (Kd.R_below (kr_ HO1327.out) hb)
      replace BK1285 := Aside0.mk (bb_ (bk_ BK1285.out) hb)
      replace BK1313 := Aside0.mk (bb_ (bk_ BK1313.out) hb)
      replace HB := Aside0.mk (below_step (lb2_ HB.out GE1285.out GE1313.out) hb)
      (try clear hb)
      (try clear hb2)
      (try clear hk)
      (try clear hi)
      refine hK.out _ _ ⟨(blk_cell BK1313.out 0).trans rfl, (blk_cell BK1313.out 1).trans rfl, (blk_cell BK1313.out 2).trans rfl, (blk_cell BK1313.out 3).trans rfl, (blk_cell BK1313.out 4).trans rfl, (blk_cell BK1285.out 0).trans rfl, (blk_cell BK1285.out 1).trans rfl, (blk_cell BK1285.out 2).trans rfl, (blk_cell BK1285.out 3).trans rfl, (blk_cell BK1285.out 4).trans rfl⟩ (fun hHeld => ?_)
      clear hK K
      refine na_ ?_
      refine pure_ (i := 4) (N := some 45) (v := ?_) (a' := ?_) #[true, true, true, true, true] rfl rfl (by kernel_rfl) (fun _ _ _ h => h) (Or.inl ⟨by rfl, ?_⟩) ?_ ?_
      rotate_left
      ·
       intro w'
       go_simp
       with_reducible rfl
      rotate_left
      ·
       simp only [Act.put, List.setIfInBounds_toArray, List.set_cons_zero, List.set_cons_succ, i64_w, i32_w]
       rfl
      refine done_ (by kernel_rfl) ?_
      have hnb48 := NB1313_1285.out
      have hnc48 := NB1285_1313.out
      obtain ⟨hcz49_0, hcz49_1, hcz49_2, hcz49_3, hcz49_4⟩ := cz5_ BK1313.out
      obtain ⟨hfz49_0, hfz49_1, hfz49_2, hfz49_3, hfz49_4⟩ := fz5_ BK1313.out
      go_upto_region 14 with (first | ((with_reducible refine gate_callee (f := 41) rfl ?_); refine ga_ (some 48) Try.func41 #[.agg #[.slice Ao24 t1302.length co24, .slice Ao27 t1305.length co27, .slice Ao28 t1308.length co28, .int .i64 t1311, .int .i64 t1312], .int .i64 1] ?_; (with_reducible refine (laws_markExploration.calls kj10 (fun k_ => some k_ = (.slice Ao24 t1302.length co24 : Value).ownBlock) (.slice Ao24 t1302.length co24) t1302 (fun k_ => some k_ = (.slice Ao27 t1305.length co27 : Value).ownBlock) (.slice Ao27 t1305.length co27) t1305 (fun k_ => some k_ = (.slice Ao28 t1308.length co28 : Value).ownBlock) (.slice Ao28 t1308.length co28) t1308 t1311 t1312 1 t1331 t1332 t1333 t1334 w _ ?side1 ?side2 ?side3 ?side4 ?side5 ?side6 A40.out).mono ?_); (case side1 => exact lb2_ HB.out GE1285.out GE1313.out); (case side2 => exact Kd.R_tight rfl HO_1314000.out); (case side3 => exact Kd.R_tight rfl HO_1314001.out); (case side4 => exact fun k_ e_ => (HO_1314001.out.1 k_ e_.symm).1.1); (case side5 => exact Kd.R_tight rfl HO_1314002.out); (case side6 => exact fun k_ e_ => (HO_1314002.out.1 k_ e_.symm).1.1); rintro e w50 ⟨rfl, hy0, hy1, hy2, hb, hkp⟩; refine ⟨_, rfl, ?_⟩; replace HO_4 := Aside0.mk (Kd.R_mono (ok' := fun k_ => some k_ ≠ (v1315 : Value).ownBlock) (Kd.R_keptB ((Kd.R_apart' (Kd.R_apart' (Kd.R_apart' HO_4.out (Kd.R_typed HO_1314000.out) (by decide)) (Kd.R_typed HO_1314001.out) (by decide)) (Kd.R_typed HO_1314002.out) (by decide))) hkp (fun k_ hk_ hs_ => Or.elim hs_ (fun e_ => (hk_.1.1.2) e_) (fun e_ => Or.elim e_ (fun e_ => (hk_.1.2) e_) (fun e_ => (hk_.2) e_)))) (fun k_ hk_ => hk_.1.1.1.1)); replace HO_7 := Aside0.mk (Kd.R_mono (ok' := fun k_ => some k_ ≠ (v1299 : Value).ownBlock) (Kd.R_keptB ((Kd.R_apart' (Kd.R_apart' (Kd.R_apart' HO_7.out (Kd.R_typed HO_1314000.out) (by decide)) (Kd.R_typed HO_1314001.out) (by decide)) (Kd.R_typed HO_1314002.out) (by decide))) hkp (fun k_ hk_ hs_ => Or.elim hs_ (fun e_ => (hk_.1.1.2) e_) (fun e_ => Or.elim e_ (fun e_ => (hk_.1.2) e_) (fun e_ => (hk_.2) e_)))) (fun k_ hk_ => hk_.1.1.1.1)); replace BK1285 := Aside0.mk (blk_kept (bk_ BK1285.out) hkp (fun hs_ => Or.elim hs_ (fun e_ => (fun e_ => (Kd.R_ne HO_1314000.out BK1285.out (by decide)) e_) e_) (fun e_ => Or.elim e_ (fun e_ => (fun e_ => (Kd.R_ne HO_1314001.out BK1285.out (by decide)) e_) e_) (fun e_ => (fun e_ => (Kd.R_ne HO_1314002.out BK1285.out (by decide)) e_) e_)))); replace BK1313 := Aside0.mk (blk_kept (bk_ BK1313.out) hkp (fun hs_ => Or.elim hs_ (fun e_ => (fun e_ => (Kd.R_ne HO_1314000.out BK1313.out (by decide)) e_) e_) (fun e_ => Or.elim e_ (fun e_ => (fun e_ => (Kd.R_ne HO_1314001.out BK1313.out (by decide)) e_) e_) (fun e_ => (fun e_ => (Kd.R_ne HO_1314002.out BK1313.out (by decide)) e_) e_)))); replace HO1321 := Aside0.mk (Kd.R_mono (ok' := fun k_ => some k_ ≠ (.slice Ao24 t1302.length co24 : Value).ownBlock) (Kd.R_keptB ((Kd.R_apart' (Kd.R_apart' HO1321.out (Kd.R_typed HO_1314001.out) (by decide)) (Kd.R_typed HO_1314002.out) (by decide))) hkp (fun k_ hk_ hs_ => Or.elim hs_ (fun e_ => (hk_.1.1.2) e_) (fun e_ => Or.elim e_ (fun e_ => (hk_.1.2) e_) (fun e_ => (hk_.2) e_)))) (fun k_ hk_ => hk_.1.1.1.2)); replace HO_1314001 := Aside0.mk (Kd.R_reok rfl hy1 (fun k_ e_ => HO_1314001.out.1 k_ e_)); replace HO_1314002 := Aside0.mk (Kd.R_reok rfl hy2 (fun k_ e_ => HO_1314002.out.1 k_ e_)); replace HO1324 := Aside0.mk (Kd.R_mono (ok' := fun k_ => some k_ ≠ (.slice Ao27 t1305.length co27 : Value).ownBlock ∧ some k_ ≠ (.slice Ao28 t1308.length co28 : Value).ownBlock ∧ some k_ ≠ (.slice Ao46 t1325.length co46 : Value).ownBlock) (Kd.R_keptB ((Kd.R_apart' HO1324.out (Kd.R_typed HO_1314000.out) (by decide))) hkp (fun k_ hk_ hs_ => Or.elim hs_ (fun e_ => (hk_.2) e_) (fun e_ => Or.elim e_ (fun e_ => (hk_.1.1.2) e_) (fun e_ => (hk_.1.2) e_)))) (fun k_ hk_ => ⟨hk_.1.1.1.2, hk_.1.1.2, hk_.1.1.1.1⟩)); replace HO1327 := Aside0.mk (Kd.R_mono (ok' := fun k_ => some k_ ≠ (.slice Ao27 t1305.length co27 : Value).ownBlock ∧ some k_ ≠ (.slice Ao28 t1308.length co28 : Value).ownBlock ∧ some k_ ≠ (.slice Ao45 t1322.length co45 : Value).ownBlock) (Kd.R_keptB ((Kd.R_apart' HO1327.out (Kd.R_typed HO_1314000.out) (by decide))) hkp (fun k_ hk_ hs_ => Or.elim hs_ (fun e_ => (hk_.2) e_) (fun e_ => Or.elim e_ (fun e_ => (hk_.1.1.2) e_) (fun e_ => (hk_.1.2) e_)))) (fun k_ hk_ => ⟨hk_.1.1.1.2, hk_.1.1.2, hk_.1.1.1.1⟩)); replace HO_1314000 := Aside0.mk (Kd.R_reok rfl hy0 (fun k_ e_ => HO_1314000.out.1 k_ e_)); replace HB := Aside0.mk (hb); (try clear hb); (try clear hkp); (try clear hy0); (try clear hy1); (try clear hy2)))
      (try simp only [Act.put, List.setIfInBounds_toArray, List.set_cons_zero, List.set_cons_succ])
      go_cut [61] (fun v61 wc => ∃ (kq : Nat) (x61_40 : Bool), v61 = .bool x61_40 ∧ Aside0 (laws_FnExactOpenLeads.j1 kq t1298 t1301 t1314 x61_40 l0_0 l0_1 l0_2 a0_3 a0_4 = some r) ∧ Aside0 (kq ≤ kj10) ∧ Aside0 (Kd.R (Kd.int .i64) 3 wc w.heap.size (fun k_ => some k_ ≠ (v1315 : Value).ownBlock) v1299 t1298) ∧ Aside0 (Kd.R (Kd.int .i64) 3 wc w.heap.size (fun k_ => some k_ ≠ (v1299 : Value).ownBlock) v1315 t1314) ∧ Aside0 (Kd.R k37 37 wc w.heap.size (fun _ => True) (.slice Ao24 t1302.length co24) t1332) ∧ Aside0 (Kd.R Kd.bool 4 wc w.heap.size (fun k_ => some k_ ≠ ((.slice Ao28 t1308.length co28) : Value).ownBlock) (.slice Ao27 t1305.length co27) t1333) ∧ Aside0 (Kd.R Kd.bool 4 wc w.heap.size (fun k_ => some k_ ≠ ((.slice Ao27 t1305.length co27) : Value).ownBlock) (.slice Ao28 t1308.length co28) t1334) ∧ Aside0 (wc.heap[gb1285]? = some (.cells #[(.slice A0_0 l0_0.length c0_0), (.slice A0_1 l0_1.length c0_1), (.slice A0_2 l0_2.length c0_2), .int .i64 a0_3, .int .i64 a0_4] 25 (0, 0))) ∧ Aside0 (wc.heap[gb1313]? = some (.cells #[(.slice Ao24 t1302.length co24), (.slice Ao27 t1305.length co27), (.slice Ao28 t1308.length co28), .int .i64 t1311, .int .i64 t1312] 30 (0, 0))) ∧ Aside0 (Below w.heap.size w wc))
      case first =>
       have H := HC41.out
       clear HC41
       by_cases c51 : t1331 < 0
       ·
        rw [if_pos c51] at H
        have c51b0 : decide (t1331 < 0) = true := decide_eq_true c51; clear c51
        (first | rw [c51b0] | (simp only [i64_w, i32_w]; rw [c51b0]) | skip)
        have H' := Aside0.mk H; clear H
        go_wp2
        go_meet
        case rel => exact ⟨_, (true), (by first | rfl | (simp; done) | (simp [*]; done)), H', ⟨by have := HJ10.out; first | omega | exact Nat.le_refl _⟩, ⟨kr_ HO_4.out⟩, ⟨kr_ HO_7.out⟩, ⟨krm_ HO_1314000.out (fun _ hk => trivial)⟩, ⟨krm_ HO_1314001.out (fun _ hk => hk.1.1)⟩, ⟨krm_ HO_1314002.out (fun _ hk => hk.1.1)⟩, ⟨bk_ BK1285.out⟩, ⟨bk_ BK1313.out⟩, ⟨lb2_ HB.out GE1285.out GE1313.out⟩⟩
       ·
        rw [if_neg c51] at H
        have c51b0 : decide (t1331 < 0) = false := decide_eq_false c51; clear c51
        (first | rw [c51b0] | (simp only [i64_w, i32_w]; rw [c51b0]) | skip)
        replace H := Option.bind_eq_some_iff.mp H; obtain ⟨t1335, A520, H⟩ := H; replace H : (if t1335 = true then (laws_FnExactOpenLeads.j1 kj10 t1298 t1301 t1314 (t1317 != t1301) l0_0 l0_1 l0_2 a0_3 a0_4) else (laws_FnExactOpenLeads.j1 kj10 t1298 t1301 t1314 true l0_0 l0_1 l0_2 a0_3 a0_4)) = some r := H; have A52 := Aside0.mk A520; clear A520
        by_cases c53 : t1335 = true
        ·
         subst c53
         have H1 : (laws_FnExactOpenLeads.j1 kj10 t1298 t1301 t1314 (t1317 != t1301) l0_0 l0_1 l0_2 a0_3 a0_4) = some r := by rw [if_pos rfl] at H; exact H
         clear H; have H := H1; clear H1; have H' := Aside0.mk H; clear H; obtain ⟨Ao54, co54, eo54⟩ := Kd.R_slice HO_7.out; subst eo54; obtain ⟨Ao55, co55, eo55⟩ := Kd.R_slice HO_4.out; subst eo55
         go_wp2_with (first | (go_at_call 45; (with_reducible refine (laws_eqIntS.calls kj10 _ _ t1314 _ _ t1298 true _ ?side1 ?side2 ?side3 ?side4 A52.out).mono ?_); (case side1 => exact kc_ (Kd.R_reads' HO_7.out).2.2); (case side2 => exact (Kd.R_reads' HO_7.out).2.1); (case side3 => exact kc_ (Kd.R_reads' HO_4.out).2.2); (case side4 => exact (Kd.R_reads' HO_4.out).2.1); rintro e w' ⟨rfl, ⟨nd, rfl⟩⟩))
         go_meet
         case rel => exact ⟨_, ((t1317 != t1301)), (by first | rfl | (simp; done) | (simp [*]; done)), H', ⟨by have := HJ10.out; first | omega | exact Nat.le_refl _⟩, ⟨kr_ HO_4.out⟩, ⟨kr_ HO_7.out⟩, ⟨krm_ HO_1314000.out (fun _ hk => trivial)⟩, ⟨krm_ HO_1314001.out (fun _ hk => hk.1.1)⟩, ⟨krm_ HO_1314002.out (fun _ hk => hk.1.1)⟩, ⟨bk_ BK1285.out⟩, ⟨bk_ BK1313.out⟩, ⟨lb2_ HB.out GE1285.out GE1313.out⟩⟩
        ·
         replace c53 := Bool.eq_false_iff.mpr c53; subst c53
         have H1 : (laws_FnExactOpenLeads.j1 kj10 t1298 t1301 t1314 true l0_0 l0_1 l0_2 a0_3 a0_4) = some r := by rw [if_neg (show ¬ (false = true) by decide)] at H; exact H
         clear H; have H := H1; clear H1; have H' := Aside0.mk H; clear H; obtain ⟨Ao56, co56, eo56⟩ := Kd.R_slice HO_7.out; subst eo56; obtain ⟨Ao57, co57, eo57⟩ := Kd.R_slice HO_4.out; subst eo57
         go_wp2_with (first | (go_at_call 45; (with_reducible refine (laws_eqIntS.calls kj10 _ _ t1314 _ _ t1298 false _ ?side1 ?side2 ?side3 ?side4 A52.out).mono ?_); (case side1 => exact kc_ (Kd.R_reads' HO_7.out).2.2); (case side2 => exact (Kd.R_reads' HO_7.out).2.1); (case side3 => exact kc_ (Kd.R_reads' HO_4.out).2.2); (case side4 => exact (Kd.R_reads' HO_4.out).2.1); rintro e w' ⟨rfl, ⟨nd, rfl⟩⟩))
         go_meet
         case rel => exact ⟨_, (true), (by first | rfl | (simp; done) | (simp [*]; done)), H', ⟨by have := HJ10.out; first | omega | exact Nat.le_refl _⟩, ⟨kr_ HO_4.out⟩, ⟨kr_ HO_7.out⟩, ⟨krm_ HO_1314000.out (fun _ hk => trivial)⟩, ⟨krm_ HO_1314001.out (fun _ hk => hk.1.1)⟩, ⟨krm_ HO_1314002.out (fun _ hk => hk.1.1)⟩, ⟨bk_ BK1285.out⟩, ⟨bk_ BK1313.out⟩, ⟨lb2_ HB.out GE1285.out GE1313.out⟩⟩
      case rest =>
       clear HC41
       try clear c1
       try clear c2
       try clear p2
       try clear c3
       try clear c3b0
       try clear c4
       try clear c5
       try clear c9
       try clear c15
       try clear c17
       try clear c19
       try clear c25
       try clear c31
       try clear c36
       try clear c39
       try clear c41
       try clear c43
       try clear c44
       try clear c45
       try clear c48
       try clear c51
       try clear c51b0
       try clear c53
       try clear hcz13_0 hcz13_1 hcz13_2 hcz13_3 hcz13_4
       try clear hcz15_0 hcz15_1 hcz15_2 hcz15_3 hcz15_4
       try clear hcz21_0 hcz21_1 hcz21_2 hcz21_3 hcz21_4
       try clear hcz26_0 hcz26_1 hcz26_2 hcz26_3 hcz26_4
       try clear hcz49_0 hcz49_1 hcz49_2 hcz49_3 hcz49_4
       try clear hcz5_0 hcz5_1 hcz5_2 hcz5_3 hcz5_4
       try clear hfz13_0 hfz13_1 hfz13_2 hfz13_3 hfz13_4
       try clear hfz15_0 hfz15_1 hfz15_2 hfz15_3 hfz15_4
       try clear hfz21_0 hfz21_1 hfz21_2 hfz21_3 hfz21_4
       try clear hfz26_0 hfz26_1 hfz26_2 hfz26_3 hfz26_4
       try clear hfz49_0 hfz49_1 hfz49_2 hfz49_3 hfz49_4
       try clear hfz5_0 hfz5_1 hfz5_2 hfz5_3 hfz5_4
       try clear p2
       obtain ⟨kq, x61_40, rfl, HA, HJ40, HO_4, HO_7, HO_1314000, HO_1314001, HO_1314002, BK1285, BK1313, HB⟩ := hcut
       have hl1314000_40 := (Kd.R_reads' HO_1314000.out).1
       rw [hl1314000_40] at HO_1314000
       (try simp only [hl1314000_40])
       (try simp only [hl1314000_40] at BK1285)
       (try simp only [hl1314000_40] at BK1313)
       (try simp only [hl1314000_40] at HO_4)
       (try simp only [hl1314000_40] at HO_7)
       (try simp only [hl1314000_40] at HO_1314001)
       (try simp only [hl1314000_40] at HO_1314002)
       have hl1314001_40 := (Kd.R_reads' HO_1314001.out).1
       rw [hl1314001_40] at HO_1314001
       (try simp only [hl1314001_40])
       (try simp only [hl1314001_40] at BK1285)
       (try simp only [hl1314001_40] at BK1313)
       (try simp only [hl1314001_40] at HO_4)
       (try simp only [hl1314001_40] at HO_7)
       (try simp only [hl1314001_40] at HO_1314000)
       (try simp only [hl1314001_40] at HO_1314002)
       have hl1314002_40 := (Kd.R_reads' HO_1314002.out).1
       rw [hl1314002_40] at HO_1314002
       (try simp only [hl1314002_40])
       (try simp only [hl1314002_40] at BK1285)
       (try simp only [hl1314002_40] at BK1313)
       (try simp only [hl1314002_40] at HO_4)
       (try simp only [hl1314002_40] at HO_7)
       (try simp only [hl1314002_40] at HO_1314000)
       (try simp only [hl1314002_40] at HO_1314001)
       cases kq with
       | zero => exact absurd HA.out (by simp [laws_FnExactOpenLeads.j1])
       | succ kj40 =>
        have H := HA.out; clear HA; simp only [laws_FnExactOpenLeads.j1] at H
        by_cases c58 : x61_40 = true
        ·
         subst c58
         have H1 : (none) = some r := by rw [if_pos rfl] at H; exact H
         clear H; have H := H1; clear H1; exact absurd H (by simp)
        ·
         replace c58 := Bool.eq_false_iff.mpr c58; subst c58
         have H1 : ((laws_markIntS.f kj40 t1314 1).bind fun bt1336 => ((laws_heldIntS.f kj40 bt1336.2 1).bind fun t1338 => (if t1338 < 0 then (none) else (if t1338 = bt1336.1 then ((laws_toExploration.f kj40 l0_0 l0_1 l0_2 a0_3 a0_4).bind fun bt1339 => ((impl_OpenLeads.f kj40 bt1339.1 bt1339.2.1 bt1339.2.2.1 bt1339.2.2.2.1 bt1339.2.2.2.2).bind fun bt1350 => ((laws_eqIntS.f kj40 bt1350.1 t1298).bind fun t1354 => (if t1354 = true then (laws_FnExactOpenLeads.j2 kj40 bt1336.2 bt1336.1 (bt1350.2 != t1301)) else (laws_FnExactOpenLeads.j2 kj40 bt1336.2 bt1336.1 true))))) else (none))))) = some r := by rw [if_neg (show ¬ (false = true) by decide)] at H; exact H
         clear H; have H := H1; clear H1; replace H := Option.bind_eq_some_iff.mp H; obtain ⟨⟨t1336, t1337⟩, A590, H⟩ := H; replace H : ((laws_heldIntS.f kj40 t1337 1).bind fun t1338 => (if t1338 < 0 then (none) else (if t1338 = t1336 then ((laws_toExploration.f kj40 l0_0 l0_1 l0_2 a0_3 a0_4).bind fun bt1339 => ((impl_OpenLeads.f kj40 bt1339.1 bt1339.2.1 bt1339.2.2.1 bt1339.2.2.2.1 bt1339.2.2.2.2).bind fun bt1350 => ((laws_eqIntS.f kj40 bt1350.1 t1298).bind fun t1354 => (if t1354 = true then (laws_FnExactOpenLeads.j2 kj40 t1337 t1336 (bt1350.2 != t1301)) else (laws_FnExactOpenLeads.j2 kj40 t1337 t1336 true))))) else (none)))) = some r := H; have A59 := Aside0.mk A590; clear A590; replace H := Option.bind_eq_some_iff.mp H; obtain ⟨t1338, A600, H⟩ := H; replace H : (if t1338 < 0 then (none) else (if t1338 = t1336 then ((laws_toExploration.f kj40 l0_0 l0_1 l0_2 a0_3 a0_4).bind fun bt1339 => ((impl_OpenLeads.f kj40 bt1339.1 bt1339.2.1 bt1339.2.2.1 bt1339.2.2.2.1 bt1339.2.2.2.2).bind fun bt1350 => ((laws_eqIntS.f kj40 bt1350.1 t1298).bind fun t1354 => (if t1354 = true then (laws_FnExactOpenLeads.j2 kj40 t1337 t1336 (bt1350.2 != t1301)) else (laws_FnExactOpenLeads.j2 kj40 t1337 t1336 true))))) else (none))) = some r := H; have A60 := Aside0.mk A600; clear A600
         by_cases c61 : t1338 < 0
         ·
          rw [if_pos c61] at H
          exact absurd H (by simp)
         ·
          rw [if_neg c61] at H
          have c61b0 : decide (t1338 < 0) = false := decide_eq_false c61; clear c61
          by_cases c62 : t1338 = t1336
          ·
           rw [if_pos c62] at H
           have c62b0 : (t1338 == t1336) = true := beq_iff_eq.mpr c62; have c62b1 : (t1338 != t1336) = false := bne_eq_false_iff_eq.mpr c62; clear c62; replace H := Option.bind_eq_some_iff.mp H; obtain ⟨⟨t1339, t1342, t1345, t1348, t1349⟩, A630, H⟩ := H; replace H : ((impl_OpenLeads.f kj40 t1339 t1342 t1345 t1348 t1349).bind fun bt1350 => ((laws_eqIntS.f kj40 bt1350.1 t1298).bind fun t1354 => (if t1354 = true then (laws_FnExactOpenLeads.j2 kj40 t1337 t1336 (bt1350.2 != t1301)) else (laws_FnExactOpenLeads.j2 kj40 t1337 t1336 true)))) = some r := H; have A63 := Aside0.mk A630; clear A630; replace H := Option.bind_eq_some_iff.mp H; obtain ⟨⟨t1350, t1353⟩, A640, H⟩ := H; replace H : ((laws_eqIntS.f kj40 t1350 t1298).bind fun t1354 => (if t1354 = true then (laws_FnExactOpenLeads.j2 kj40 t1337 t1336 (t1353 != t1301)) else (laws_FnExactOpenLeads.j2 kj40 t1337 t1336 true))) = some r := H; have A64 := Aside0.mk A640; clear A640; have HC65 := Aside0.mk H; clear H; obtain ⟨Ao66, co66, eo66⟩ := Kd.R_slice HO_7.out; subst eo66
           go_upto_region 25 with (first | ((with_reducible refine gate_callee (f := 46) rfl ?_); refine ga_ (some 64) Try.func46 #[.slice Ao66 t1314.length co66, .int .i64 1] ?_; (with_reducible refine (laws_markIntS.calls kj40 (fun k_ => some k_ = (.slice Ao66 t1314.length co66 : Value).ownBlock) (.slice Ao66 t1314.length co66) t1314 1 t1336 t1337 w _ ?side1 ?side2 A59.out).mono ?_); (case side1 => exact lb2_ HB.out GE1285.out GE1313.out); (case side2 => exact Kd.R_tight rfl HO_7.out); rintro e w67 ⟨rfl, hy0, hb, hkp⟩; refine ⟨_, rfl, ?_⟩; replace HO_4 := Aside0.mk (Kd.R_mono (ok' := fun k_ => some k_ ≠ (.slice Ao66 t1314.length co66 : Value).ownBlock) (Kd.R_keptB (HO_4.out) hkp (fun k_ hk_ hs_ => (hk_) hs_)) (fun k_ hk_ => hk_.1)); replace HO_1314000 := Aside0.mk (Kd.R_mono (ok' := fun k_ => True) (Kd.R_keptB ((Kd.R_apart' HO_1314000.out (Kd.R_typed HO_7.out) (by decide))) hkp (fun k_ hk_ hs_ => (hk_.2) hs_)) (fun k_ hk_ => trivial)); replace HO_1314001 := Aside0.mk (Kd.R_mono (ok' := fun k_ => some k_ ≠ (.slice Ao28 t1334.length co28 : Value).ownBlock) (Kd.R_keptB ((Kd.R_apart' HO_1314001.out (Kd.R_typed HO_7.out) (by decide))) hkp (fun k_ hk_ hs_ => (hk_.2) hs_)) (fun k_ hk_ => hk_.1.1)); replace HO_1314002 := Aside0.mk (Kd.R_mono (ok' := fun k_ => some k_ ≠ (.slice Ao27 t1333.length co27 : Value).ownBlock) (Kd.R_keptB ((Kd.R_apart' HO_1314002.out (Kd.R_typed HO_7.out) (by decide))) hkp (fun k_ hk_ hs_ => (hk_.2) hs_)) (fun k_ hk_ => hk_.1.1)); replace BK1285 := Aside0.mk (blk_kept (bk_ BK1285.out) hkp (fun hs_ => (fun e_ => (Kd.R_ne HO_7.out BK1285.out (by decide)) e_) hs_)); replace BK1313 := Aside0.mk (blk_kept (bk_ BK1313.out) hkp (fun hs_ => (fun e_ => (Kd.R_ne HO_7.out BK1313.out (by decide)) e_) hs_)); replace HO_7 := Aside0.mk (Kd.R_reok rfl hy0 (fun k_ e_ => HO_7.out.1 k_ e_)); replace HB := Aside0.mk (hb); (try clear hb); (try clear hkp); (try clear hy0)) | ((with_reducible refine gate_callee (f := 47) rfl ?_); refine goesL_ (some 67) rfl rfl Try.func47 (by kernel_rfl) rfl #[.slice Ao66 t1337.length co66, .int .i64 1] rfl (by (try simp only [List.map_toArray, List.map_cons, List.map_nil]); first | done | (rw [show t1337.length = t1314.length from (Kd.R_reads' HO_7.out).1.symm] <;> rfl) | rfl | (simp only [List.length_drop, List.length_take]; rfl)) ?_; (with_reducible refine (laws_heldIntS.calls kj40 _ _ t1337 1 t1338 _ ?side1 ?side2 A60.out).mono ?_); (case side1 => exact kc_ (Kd.R_reads' HO_7.out).2.2); (case side2 => rw [show t1337.length = t1314.length from (Kd.R_reads' HO_7.out).1.symm]; exact (Kd.R_reads' HO_7.out).2.1); rintro e w' ⟨rfl, ⟨nd, rfl⟩⟩; refine ⟨_, rfl, ?_⟩; have hnb68 := NB1285_1313.out; have hnc68 := NB1313_1285.out; obtain ⟨hcz69_0, hcz69_1, hcz69_2, hcz69_3, hcz69_4⟩ := cz5_ BK1285.out; obtain ⟨hfz69_0, hfz69_1, hfz69_2, hfz69_3, hfz69_4⟩ := fz5_ BK1285.out) | ((with_reducible refine gate_callee (f := 17) rfl ?_); refine ga_ (some 75) Try.func17 #[.agg #[.slice A0_0 l0_0.length c0_0, .slice A0_1 l0_1.length c0_1, .slice A0_2 l0_2.length c0_2, .int .i64 a0_3, .int .i64 a0_4]] ?_; (with_reducible refine (laws_toExploration.calls kj40 _ _ l0_0 _ _ l0_1 _ _ l0_2 a0_3 a0_4 t1339 t1342 t1345 t1348 t1349 _ ?side1 ?side2 ?side3 ?side4 ?side5 ?side6 A63.out).mono ?_); (case side1 => exact kc_ (Kd.C_below HR0_0.out (lb2_ HB.out GE1285.out GE1313.out))); (case side2 => exact HC0_0.out); (case side3 => exact kc_ (Kd.C_below HR0_1.out (lb2_ HB.out GE1285.out GE1313.out))); (case side4 => exact HC0_1.out); (case side5 => exact kc_ (Kd.C_below HR0_2.out (lb2_ HB.out GE1285.out GE1313.out))); (case side6 => exact HC0_2.out); rintro e w70 ⟨v1340, v1343, v1346, rfl, ho0, ho1, ho2, hb⟩; refine ⟨_, rfl, ?_⟩; replace HO_4 := Aside0.mk (Kd.R_below (kr_ HO_4.out) hb); replace HO_7 := Aside0.mk (Kd.R_below (kr_ HO_7.out) hb); have HO1341 := Aside0.mk (Kd.R_lower (Kd.R_new' ho0 (Kd.R_lt (kr_ HO_1314000.out))) (below_size (lb2_ HB.out GE1285.out GE1313.out))); replace HO_1314000 := Aside0.mk (Kd.R_elder' (kr_ HO_1314000.out) (Kd.R_base ho0) hb); have HO1344 := Aside0.mk (Kd.R_lower (Kd.R_new' (Kd.R_new' ho1 (Kd.R_lt (kr_ HO_1314001.out))) (Kd.R_lt (kr_ HO_1314002.out))) (below_size (lb2_ HB.out GE1285.out GE1313.out))); have HO1347 := Aside0.mk (Kd.R_lower (Kd.R_new' (Kd.R_new' ho2 (Kd.R_lt (kr_ HO_1314001.out))) (Kd.R_lt (kr_ HO_1314002.out))) (below_size (lb2_ HB.out GE1285.out GE1313.out))); replace HO_1314001 := Aside0.mk (Kd.R_mono (Kd.R_told (Kd.R_told (Kd.R_old (kr_ HO_1314001.out) hb) (Kd.R_base ho1)) (Kd.R_base ho2)) (fun _ h_ => h_.1)); replace HO_1314002 := Aside0.mk (Kd.R_mono (Kd.R_told (Kd.R_told (Kd.R_old (kr_ HO_1314002.out) hb) (Kd.R_base ho1)) (Kd.R_base ho2)) (fun _ h_ => h_.1)); replace BK1285 := Aside0.mk (bb_ (bk_ BK1285.out) hb); replace BK1313 := Aside0.mk (bb_ (bk_ BK1313.out) hb); replace HB := Aside0.mk (below_step (lb2_ HB.out GE1285.out GE1313.out) hb); (try clear hb); (try clear hb2); (try clear hk); (try clear hi); (try clear ho0); (try clear ho1); (try clear ho2); obtain ⟨Ao71, co71, eo71⟩ := Kd.R_slice HO1341.out; subst eo71; obtain ⟨Ao72, co72, eo72⟩ := Kd.R_slice HO1344.out; subst eo72; obtain ⟨Ao73, co73, eo73⟩ := Kd.R_slice HO1347.out; subst eo73) | ((with_reducible refine gate_callee (f := 44) rfl ?_); refine ga_ (some 76) Try.func44 #[.agg #[.slice Ao71 t1339.length co71, .slice Ao72 t1342.length co72, .slice Ao73 t1345.length co73, .int .i64 t1348, .int .i64 t1349]] ?_; (with_reducible refine (impl_OpenLeads.calls kj40 _ _ t1339 _ _ t1342 _ _ t1345 t1348 t1349 t1350 t1353 _ ?side1 ?side2 ?side3 ?side4 ?side5 ?side6 A64.out).mono ?_); (case side1 => exact kc_ (Kd.R_reads' HO1341.out).2.2); (case side2 => exact (Kd.R_reads' HO1341.out).2.1); (case side3 => exact kc_ (Kd.R_reads' HO1344.out).2.2); (case side4 => exact (Kd.R_reads' HO1344.out).2.1); (case side5 => exact kc_ (Kd.R_reads' HO1347.out).2.2); (case side6 => exact (Kd.R_reads' HO1347.out).2.1); rintro e w74 ⟨v1351, rfl, ho0, hb⟩; refine ⟨_, rfl, ?_⟩; replace HO_1314000 := Aside0.mk (Kd.R_below (kr_ HO_1314000.out) hb); replace HO_1314001 := Aside0.mk (Kd.R_below (kr_ HO_1314001.out) hb); replace HO_1314002 := Aside0.mk (Kd.R_below (kr_ HO_1314002.out) hb); replace HO1341 := Aside0.mk (Kd.R_below (kr_ HO1341.out) hb); replace HO1344 := Aside0.mk (Kd.R_below (kr_ HO1344.out) hb); replace HO1347 := Aside0.mk (Kd.R_below (kr_ HO1347.out) hb); have HO1352 := Aside0.mk (Kd.R_lower (Kd.R_new' (Kd.R_new' ho0 (Kd.R_lt (kr_ HO_4.out))) (Kd.R_lt (kr_ HO_7.out))) (below_size (lb2_ HB.out GE1285.out GE1313.out))); replace HO_4 := Aside0.mk (Kd.R_elder' (kr_ HO_4.out) (Kd.R_base ho0) hb); replace HO_7 := Aside0.mk (Kd.R_elder' (kr_ HO_7.out) (Kd.R_base ho0) hb); replace BK1285 := Aside0.mk (bb_ (bk_ BK1285.out) hb); replace BK1313 := Aside0.mk (bb_ (bk_ BK1313.out) hb); replace HB := Aside0.mk (below_step (lb2_ HB.out GE1285.out GE1313.out) hb); (try clear hb); (try clear hb2); (try clear hk); (try clear hi); (try clear ho0)))
           (try simp only [Act.put, List.setIfInBounds_toArray, List.set_cons_zero, List.set_cons_succ])
           go_cut [87] (fun v87 wc => ∃ (kq : Nat) (x87_64 : Bool), v87 = .bool x87_64 ∧ Aside0 (laws_FnExactOpenLeads.j2 kq t1337 t1336 x87_64 = some r) ∧ Aside0 (kq ≤ kj40) ∧ Aside0 (Kd.R (Kd.int .i64) 3 wc w.heap.size (fun _ => True) (.slice Ao66 t1314.length co66) t1337) ∧ Aside0 (Kd.R k37 37 wc w.heap.size (fun _ => True) (.slice Ao24 t1332.length co24) t1332) ∧ Aside0 (Kd.R Kd.bool 4 wc w.heap.size (fun k_ => some k_ ≠ ((.slice Ao28 t1334.length co28) : Value).ownBlock) (.slice Ao27 t1333.length co27) t1333) ∧ Aside0 (Kd.R Kd.bool 4 wc w.heap.size (fun k_ => some k_ ≠ ((.slice Ao27 t1333.length co27) : Value).ownBlock) (.slice Ao28 t1334.length co28) t1334) ∧ Aside0 (wc.heap[gb1285]? = some (.cells #[(.slice A0_0 l0_0.length c0_0), (.slice A0_1 l0_1.length c0_1), (.slice A0_2 l0_2.length c0_2), .int .i64 a0_3, .int .i64 a0_4] 25 (0, 0))) ∧ Aside0 (wc.heap[gb1313]? = some (.cells #[(.slice Ao24 t1332.length co24), (.slice Ao27 t1333.length co27), (.slice Ao28 t1334.length co28), .int .i64 t1311, .int .i64 t1312] 30 (0, 0))) ∧ Aside0 (Below w.heap.size w wc))
           case first =>
            have H := HC65.out; clear HC65; replace H := Option.bind_eq_some_iff.mp H; obtain ⟨t1354, A750, H⟩ := H; replace H : (if t1354 = true then (laws_FnExactOpenLeads.j2 kj40 t1337 t1336 (t1353 != t1301)) else (laws_FnExactOpenLeads.j2 kj40 t1337 t1336 true)) = some r := H; have A75 := Aside0.mk A750; clear A750
            by_cases c76 : t1354 = true
            ·
             subst c76
             have H1 : (laws_FnExactOpenLeads.j2 kj40 t1337 t1336 (t1353 != t1301)) = some r := by rw [if_pos rfl] at H; exact H
             clear H; have H := H1; clear H1; have H' := Aside0.mk H; clear H; obtain ⟨Ao77, co77, eo77⟩ := Kd.R_slice HO1352.out; subst eo77; obtain ⟨Ao78, co78, eo78⟩ := Kd.R_slice HO_4.out; subst eo78
             go_wp2_with (first | ((with_reducible refine gate_callee (f := 45) rfl ?_); refine ga_ (some 81) Try.func45 #[.slice Ao77 t1350.length co77, .slice Ao78 t1298.length co78] ?_; (with_reducible refine (laws_eqIntS.calls kj40 _ _ t1350 _ _ t1298 true _ ?side1 ?side2 ?side3 ?side4 A75.out).mono ?_); (case side1 => exact kc_ (Kd.R_reads' HO1352.out).2.2); (case side2 => exact (Kd.R_reads' HO1352.out).2.1); (case side3 => exact kc_ (Kd.R_reads' HO_4.out).2.2); (case side4 => exact (Kd.R_reads' HO_4.out).2.1); rintro e w' ⟨rfl, ⟨nd, rfl⟩⟩; refine ⟨_, rfl, ?_⟩))
             go_meet
             case rel => exact ⟨_, ((t1353 != t1301)), (by first | rfl | (simp; done) | (simp [*]; done)), H', ⟨by have := HJ10.out; have := HJ40.out; first | omega | exact Nat.le_refl _⟩, ⟨by (try simp only [hl1314000_40]); (try simp only [hl1314001_40]); (try simp only [hl1314002_40]); (with_reducible repeat (first | apply Kd.R_alloc | apply Kd.R_drewN | apply Kd.R_drew)); exact Kd.R_mono HO_7.out (fun _ hk => trivial)⟩, ⟨by (try simp only [hl1314000_40]); (try simp only [hl1314001_40]); (try simp only [hl1314002_40]); (with_reducible repeat (first | apply Kd.R_alloc | apply Kd.R_drewN | apply Kd.R_drew)); exact Kd.R_mono HO_1314000.out (fun _ hk => trivial)⟩, ⟨by (try simp only [hl1314000_40]); (try simp only [hl1314001_40]); (try simp only [hl1314002_40]); (with_reducible repeat (first | apply Kd.R_alloc | apply Kd.R_drewN | apply Kd.R_drew)); exact Kd.R_mono HO_1314001.out (fun _ hk => hk.1.1)⟩, ⟨by (try simp only [hl1314000_40]); (try simp only [hl1314001_40]); (try simp only [hl1314002_40]); (with_reducible repeat (first | apply Kd.R_alloc | apply Kd.R_drewN | apply Kd.R_drew)); exact Kd.R_mono HO_1314002.out (fun _ hk => hk.1.1)⟩, ⟨by (try simp only [hl1314000_40]); (try simp only [hl1314001_40]); (try simp only [hl1314002_40]); (with_reducible repeat (first | refine blk_drewN ?_ _ | refine blk_drew ?_ | refine blk_alloc ?_ _)); exact BK1285.out⟩, ⟨by (try simp only [hl1314000_40]); (try simp only [hl1314001_40]); (try simp only [hl1314002_40]); (with_reducible repeat (first | refine blk_drewN ?_ _ | refine blk_drew ?_ | refine blk_alloc ?_ _)); exact BK1313.out⟩, ⟨lb2_ HB.out GE1285.out GE1313.out⟩⟩
            ·
             replace c76 := Bool.eq_false_iff.mpr c76; subst c76
             have H1 : (laws_FnExactOpenLeads.j2 kj40 t1337 t1336 true) = some r := by rw [if_neg (show ¬ (false = true) by decide)] at H; exact H
             clear H; have H := H1; clear H1; have H' := Aside0.mk H; clear H; obtain ⟨Ao79, co79, eo79⟩ := Kd.R_slice HO1352.out; subst eo79; obtain ⟨Ao80, co80, eo80⟩ := Kd.R_slice HO_4.out; subst eo80
             go_wp2_with (first | ((with_reducible refine gate_callee (f := 45) rfl ?_); refine ga_ (some 81) Try.func45 #[.slice Ao79 t1350.length co79, .slice Ao80 t1298.length co80] ?_; (with_reducible refine (laws_eqIntS.calls kj40 _ _ t1350 _ _ t1298 false _ ?side1 ?side2 ?side3 ?side4 A75.out).mono ?_); (case side1 => exact kc_ (Kd.R_reads' HO1352.out).2.2); (case side2 => exact (Kd.R_reads' HO1352.out).2.1); (case side3 => exact kc_ (Kd.R_reads' HO_4.out).2.2); (case side4 => exact (Kd.R_reads' HO_4.out).2.1); rintro e w' ⟨rfl, ⟨nd, rfl⟩⟩; refine ⟨_, rfl, ?_⟩))
             go_meet
             case rel => exact ⟨_, (true), (by first | rfl | (simp; done) | (simp [*]; done)), H', ⟨by have := HJ10.out; have := HJ40.out; first | omega | exact Nat.le_refl _⟩, ⟨by (try simp only [hl1314000_40]); (try simp only [hl1314001_40]); (try simp only [hl1314002_40]); (with_reducible repeat (first | apply Kd.R_alloc | apply Kd.R_drewN | apply Kd.R_drew)); exact Kd.R_mono HO_7.out (fun _ hk => trivial)⟩, ⟨by (try simp only [hl1314000_40]); (try simp only [hl1314001_40]); (try simp only [hl1314002_40]); (with_reducible repeat (first | apply Kd.R_alloc | apply Kd.R_drewN | apply Kd.R_drew)); exact Kd.R_mono HO_1314000.out (fun _ hk => trivial)⟩, ⟨by (try simp only [hl1314000_40]); (try simp only [hl1314001_40]); (try simp only [hl1314002_40]); (with_reducible repeat (first | apply Kd.R_alloc | apply Kd.R_drewN | apply Kd.R_drew)); exact Kd.R_mono HO_1314001.out (fun _ hk => hk.1.1)⟩, ⟨by (try simp only [hl1314000_40]); (try simp only [hl1314001_40]); (try simp only [hl1314002_40]); (with_reducible repeat (first | apply Kd.R_alloc | apply Kd.R_drewN | apply Kd.R_drew)); exact Kd.R_mono HO_1314002.out (fun _ hk => hk.1.1)⟩, ⟨by (try simp only [hl1314000_40]); (try simp only [hl1314001_40]); (try simp only [hl1314002_40]); (with_reducible repeat (first | refine blk_drewN ?_ _ | refine blk_drew ?_ | refine blk_alloc ?_ _)); exact BK1285.out⟩, ⟨by (try simp only [hl1314000_40]); (try simp only [hl1314001_40]); (try simp only [hl1314002_40]); (with_reducible repeat (first | refine blk_drewN ?_ _ | refine blk_drew ?_ | refine blk_alloc ?_ _)); exact BK1313.out⟩, ⟨lb2_ HB.out GE1285.out GE1313.out⟩⟩
           case rest =>
            clear HC65
            try clear c1
            try clear c2
            try clear p2
            try clear c3
            try clear c3b0
            try clear c4
            try clear c5
            try clear c6
            try clear c7
            try clear c9
            try clear c15
            try clear c17
            try clear c19
            try clear c25
            try clear c31
            try clear c36
            try clear c39
            try clear c41
            try clear c43
            try clear c44
            try clear c45
            try clear c46
            try clear c47
            try clear c48
            try clear c51
            try clear c51b0
            try clear c53
            try clear c58
            try clear c61
            try clear c61b0
            try clear c62
            try clear c62b0
            try clear c62b1
            try clear c68
            try clear c76
            try clear hcz13_0 hcz13_1 hcz13_2 hcz13_3 hcz13_4
            try clear hcz15_0 hcz15_1 hcz15_2 hcz15_3 hcz15_4
            try clear hcz21_0 hcz21_1 hcz21_2 hcz21_3 hcz21_4
            try clear hcz26_0 hcz26_1 hcz26_2 hcz26_3 hcz26_4
            try clear hcz49_0 hcz49_1 hcz49_2 hcz49_3 hcz49_4
            try clear hcz5_0 hcz5_1 hcz5_2 hcz5_3 hcz5_4
            try clear hcz69_0 hcz69_1 hcz69_2 hcz69_3 hcz69_4
            try clear hfz13_0 hfz13_1 hfz13_2 hfz13_3 hfz13_4
            try clear hfz15_0 hfz15_1 hfz15_2 hfz15_3 hfz15_4
            try clear hfz21_0 hfz21_1 hfz21_2 hfz21_3 hfz21_4
            try clear hfz26_0 hfz26_1 hfz26_2 hfz26_3 hfz26_4
            try clear hfz49_0 hfz49_1 hfz49_2 hfz49_3 hfz49_4
            try clear hfz5_0 hfz5_1 hfz5_2 hfz5_3 hfz5_4
            try clear hfz69_0 hfz69_1 hfz69_2 hfz69_3 hfz69_4
            try clear p2
            obtain ⟨kq, x87_64, rfl, HA, HJ64, HO_7, HO_1314000, HO_1314001, HO_1314002, BK1285, BK1313, HB⟩ := hcut; have hl7_64 := (Kd.R_reads' HO_7.out).1
            rw [hl7_64] at HO_7
            (try simp only [hl7_64]); (try simp only [hl7_64] at BK1285); (try simp only [hl7_64] at BK1313); (try simp only [hl7_64] at HO_1314000); (try simp only [hl7_64] at HO_1314001); (try simp only [hl7_64] at HO_1314002)
            cases kq with
            | zero => exact absurd HA.out (by simp [laws_FnExactOpenLeads.j2])
            | succ kj64 =>
             have H := HA.out; clear HA; simp only [laws_FnExactOpenLeads.j2] at H
             by_cases c81 : x87_64 = true
             ·
              subst c81
              have H1 : (none) = some r := by rw [if_pos rfl] at H; exact H
              clear H; have H := H1; clear H1; exact absurd H (by simp)
             ·
              replace c81 := Bool.eq_false_iff.mpr c81; subst c81
              have H1 : ((laws_heldIntS.f kj64 t1337 1).bind fun t1355 => (if t1355 < 0 then (none) else (if t1355 = t1336 then (some true) else (none)))) = some r := by rw [if_neg (show ¬ (false = true) by decide)] at H; exact H
              clear H; have H := H1; clear H1; replace H := Option.bind_eq_some_iff.mp H; obtain ⟨t1355, A820, H⟩ := H; replace H : (if t1355 < 0 then (none) else (if t1355 = t1336 then (some true) else (none))) = some r := H; have A82 := Aside0.mk A820; clear A820
              by_cases c83 : t1355 < 0
              ·
               rw [if_pos c83] at H
               exact absurd H (by simp)
              ·
               rw [if_neg c83] at H
               have c83b0 : decide (t1355 < 0) = false := decide_eq_false c83; clear c83
               by_cases c84 : t1355 = t1336
               ·
                rw [if_pos c84] at H
                have c84b0 : (t1355 == t1336) = true := beq_iff_eq.mpr c84; have c84b1 : (t1355 != t1336) = false := bne_eq_false_iff_eq.mpr c84; clear c84; obtain rfl := Option.some.inj H
                go_wp2_with (first | ((with_reducible refine gate_callee (f := 47) rfl ?_); refine ga_ (some 90) Try.func47 #[.slice Ao66 t1337.length co66, .int .i64 1] ?_; (with_reducible refine (laws_heldIntS.calls kj64 _ _ t1337 1 t1355 _ ?side1 ?side2 A82.out).mono ?_); (case side1 => exact kc_ (Kd.R_reads' HO_7.out).2.2); (case side2 => exact (Kd.R_reads' HO_7.out).2.1); rintro e w' ⟨rfl, ⟨nd, rfl⟩⟩; refine ⟨_, rfl, ?_⟩))
                go_ret
                exact ⟨rr_, lb2_ HB.out GE1285.out GE1313.out⟩
               ·
                rw [if_neg c84] at H
                exact absurd H (by simp)
          ·
           rw [if_neg c62] at H
           exact absurd H (by simp)
     ·
      replace c39 := Bool.eq_false_iff.mpr c39
      subst c39
      have H1 : (none) = some r := by rw [if_neg (show ¬ (false = true) by decide)] at H; exact H
      clear H
      have H := H1
      clear H1
      exact absurd H (by simp)
end Go.Proofs.Ythmjimboajmhmaa.Pr

namespace Go.Proofs.YthmjimboajmhmaaW.Opens
open Go.ChangeShapes Go.WideShapes Go.RowKit
open Go.Deep (open_slice choose_lt)
open Go.Proofs.YthmjimboajmhmaaW.PrintWords
set_option linter.unusedVariables false
set_option linter.unusedSimpArgs false
def Opn {α : Type} (P : Program) (t : TypeId) (d : Kd α) (wf : α → Prop) : Prop :=
 P.cellsOf t = d.sz ∧ ∀ (H : Type) (enc : TypeId × Value → H) (W : World) (fuel : Nat) (cs : List Value) (x : DataW H × List MemPlace),
  DataW.trod enc P W 0 (fun _ => true) true fuel t cs = some x → (∀ n ∈ x.1.weights P t, n ≤ reachBytes) → ∃ y, d.K W y cs ∧ wf y
theorem Opn.int {P : Program} {t : TypeId} {k : IntKind} (hc : P.cellsOf t = 1) (ht : P.underlying t = some (.int k)) : Opn P t (Kd.int k) (fun n => (Lit.int k n).wf = true) :=
 ⟨hc, fun H enc W fuel cs x h _ => by
  obtain ⟨m, rfl, rfl, hw⟩ := DataW.trod_int ht h
  exact ⟨m, rfl, hw⟩⟩
theorem Opn.bool {P : Program} {t : TypeId} (hc : P.cellsOf t = 1) (ht : P.underlying t = some .bool) : Opn P t Kd.bool (fun _ => True) :=
 ⟨hc, fun H enc W fuel cs x h _ => by
  obtain ⟨m, rfl, rfl⟩ := DataW.trod_bool ht h
  exact ⟨m, rfl, trivial⟩⟩
theorem weightsAll_mem {H : Type} {P : Program} {e : TypeId} : ∀ {l : List (DataW H)} {d : DataW H}, d ∈ l → ∀ n ∈ d.weights P e, n ∈ DataW.weightsAll P e l
 | _ :: r, d, h, n, hn => by
  simp only [DataW.weightsAll, List.mem_append]
  rcases List.mem_cons.1 h with rfl | h
  ·
   exact .inl hn
  ·
   exact .inr (weightsAll_mem h n hn)
theorem Opn.slice {α : Type} (z : α) {P : Program} {t e : TypeId} {d : Kd α} {wf : α → Prop} {B : Nat} (hc : P.cellsOf t = 1) (ht : P.underlying t = some (.slice e)) (hB : P.bytesOf e = B) (h : Opn P e d wf) :
  Opn P t (Kd.slice e d) (fun xs => xs.length ≤ maxLen ∧ xs.length * B ≤ 140737488351232 ∧ ∀ y ∈ xs, wf y) :=
 ⟨hc, fun H enc W fuel cs x hf hw => by
  haveI : Inhabited α := ⟨z⟩
  rcases open_slice ht hf with ⟨rfl, rfl⟩ | ⟨a, len, cap, m, n, D, Pl, rfl, _, hl, hm, hmm, rfl, each⟩
  ·
   exact ⟨[], ⟨none, 0, rfl, Nat.le_refl _, rfl, by simp, fun h => absurd h (Nat.lt_irrefl 0)⟩, by simp, by simp, by simp⟩
  ·
   rw [if_pos rfl] at hmm
   subst hmm
   have hw0 : ∀ n ∈ DataW.weights P t (DataW.slice (H := H) ((List.range len).map D) ((List.range (m - len)).map fun j => D (len + j))), n ≤ reachBytes := hw
   have hww : ∀ i, i < len → ∀ n ∈ (D i).weights P e, n ≤ reachBytes := by
    intro i hi n hn
    refine hw0 n ?_
    simp only [DataW.weights, ht, List.mem_cons, List.mem_append]
    exact .inr (.inl (weightsAll_mem (List.mem_map.2 ⟨i, List.mem_range.2 hi, rfl⟩) n hn))
   have hB2 : len * B ≤ 140737488351232 := by
    have := hw0 ((len + (m - len)) * B) (by simp [DataW.weights, ht, hB])
    refine Nat.le_trans (Nat.mul_le_mul_right _ (by omega)) this
   have hx : ∀ i, i < len → ∃ y, ∃ c : List Value, c.length = d.sz ∧ d.K W y c ∧ wf y ∧ ∀ j u, c[j]? = some u → W.cell? (a.add (i * d.sz + j)) = some u := by
    intro i hi
    obtain ⟨cs', h1, h2⟩ := each i (by omega)
    obtain ⟨y, hy, hwy⟩ := h.2 H enc W n cs' _ h2 (hww i hi)
    obtain ⟨_, hlen, hcell⟩ := World.cells?_some h1
    rw [h.1] at hlen hcell
    refine ⟨y, cs', hlen, hy, hwy, fun j u hu => ?_⟩
    have hj : j < d.sz := by
     have := (List.getElem?_eq_some_iff.1 hu).1
     omega
    have := hcell j hj
    rw [add_add] at this
    exact this.trans hu
   obtain ⟨f, hf'⟩ := choose_lt hx
   refine ⟨(List.range len).map f, ⟨some a, m, by simp, by simpa using hl, by simp, by simp only [maxLen] at hm; simp; omega, fun _ => ⟨a, rfl, fun j p hj => ?_⟩⟩, ?_, ?_, ?_⟩
   ·
    rw [List.getElem?_map] at hj
    have hj' : j < len := by
     by_cases hjl : j < len
     ·
      exact hjl
     ·
      rw [List.getElem?_eq_none (by simp; omega)] at hj
      cases hj
    rw [List.getElem?_range hj'] at hj
    obtain rfl := Option.some.inj hj
    obtain ⟨c, h1, h2, _, h3⟩ := hf' j hj'
    exact ⟨c, h1, h2, h3⟩
   ·
    simp; omega
   ·
    simpa using hB2
   ·
    intro y hy
    obtain ⟨i, hi, rfl⟩ := List.mem_map.1 hy
    obtain ⟨c, _, _, h2, _⟩ := hf' i (List.mem_range.1 hi)
    exact h2⟩
def FOpn {α : Type} (P : Program) (fs : List Field) (off : Nat) (d : Kd α) (wf : α → Prop) : Prop :=
 ∀ (H : Type) (enc : TypeId × Value → H) (W : World) (fuel : Nat) (cs : List Value) (xs : List (DataW H × List MemPlace)),
  xs.length = fs.length → (∀ (i : Nat) (f : Field), fs[i]? = some f → DataW.trod enc P W 0 (fun _ => true) true fuel f.type ((cs.drop f.offset).take (P.cellsOf f.type)) = xs[i]?) →
  (∀ n ∈ DataW.weightsEach P (fs.map (·.type)) (xs.map (·.1)), n ≤ reachBytes) → ∃ y, d.K W y ((cs.drop off).take d.sz) ∧ wf y
theorem FOpn.one {α : Type} {P : Program} {f : Field} {off : Nat} {d : Kd α} {wf : α → Prop} (ho : f.offset = off) (h : Opn P f.type d wf) : FOpn P [f] off d wf := by
 intro H enc W fuel cs xs hl hx hw
 match xs, hl with
 | [x], _ =>
  have h0 := hx 0 f rfl
  rw [ho, h.1] at h0
  exact h.2 H enc W fuel _ x h0 (fun n hn => hw n (by simp only [List.map, DataW.weightsEach, List.mem_append]; exact .inl hn))
theorem FOpn.cons {α β : Type} {P : Program} {f : Field} {fs : List Field} {off : Nat} {d : Kd α} {d' : Kd β} {wf : α → Prop} {wf' : β → Prop} (ho : f.offset = off) (h : Opn P f.type d wf) (h' : FOpn P fs (off + d.sz) d' wf') :
  FOpn P (f :: fs) off (Kd.pair d d') (fun x => wf x.1 ∧ wf' x.2) := by
 intro H enc W fuel cs xs hl hx hw
 match xs, hl with
 | x :: xs, hl =>
  have h0 := hx 0 f rfl
  rw [ho, h.1] at h0
  have hw' : ∀ n ∈ x.1.weights P f.type ++ DataW.weightsEach P (fs.map (·.type)) (xs.map (·.1)), n ≤ reachBytes := hw
  obtain ⟨y, hy, hwy⟩ := h.2 H enc W fuel _ x h0 (fun n hn => hw' n (List.mem_append_left _ hn))
  obtain ⟨y', hy', hwy'⟩ := h' H enc W fuel cs xs (by simpa using hl) (fun i f' hf' => hx (i + 1) f' (by simpa using hf')) (fun n hn => hw' n (List.mem_append_right _ hn))
  refine ⟨(y, y'), ⟨_, _, ?_, hy, hy'⟩, hwy, hwy'⟩
  show (cs.drop off).take (d.sz + d'.sz) = _
  rw [List.take_add, List.drop_drop]
theorem Opn.struct {α β : Type} {P : Program} {t : TypeId} {fs : Array Field} {d : Kd α} {wf : α → Prop} (f : β → α) (g : α → β) (hfg : ∀ x, f (g x) = x) (hc : P.cellsOf t = d.sz) (ht : P.underlying t = some (.struct fs)) (h : FOpn P fs.toList 0 d wf) :
  Opn P t (Kd.iso d f) (fun x => wf (f x)) :=
 ⟨hc, fun H enc W fuel cs x hf hw => by
  obtain ⟨xs, n, rfl, rfl, hl, hxs, each⟩ := DataW.trod_struct ht hf
  obtain ⟨y, hy, hwy⟩ := h H enc W n cs xs (by simpa using hxs) (fun i f' hf' => each i f' (by simpa using hf')) (fun n hn => hw n (by simp only [DataW.weights, ht]; exact hn))
  rw [List.drop_zero, List.take_of_length_le (by rw [hl, hc]; exact Nat.le_refl _)] at hy
  exact ⟨g y, (by rw [← hfg y] at hy; exact hy), (by rw [← hfg y] at hwy; exact hwy)⟩⟩
theorem par_weights {H : Type} {P : Program} {ts : List TypeId} {ds : List (DataW H)} {j : Nat} {t : TypeId} {d : DataW H} (h : (DataW.weightsEach P ts ds).all (· ≤ reachBytes) = true) (ht : ts[j]? = some t) (hd : ds[j]? = some d) :
  ∀ n ∈ d.weights P t, n ≤ reachBytes := fun n hn => of_decide_eq_true (List.all_eq_true.1 h n (DataW.weights_mem_each ht hd n hn))
theorem par_struct {α : Type} {H : Type} {enc : TypeId × Value → H} {P : Program} {W : World} {r : Reach} {b0 : Nat} {t : TypeId} {fs : Array Field} {d : Kd α} {wf : α → Prop} {v : Value} {D : DataW H} {ps : List MemPlace}
  (ht : P.underlying t = some (.struct fs)) (ho : Opn P t d wf) (hv : Value.okWide P W r b0 t v) (hd : DataW.Trod enc P W 0 (fun _ => true) true t v D ps) (hw : ∀ n ∈ D.weights P t, n ≤ reachBytes) :
  ∃ (cs : List Value) (x : α), v = .agg cs.toArray ∧ d.K W x cs ∧ wf x := by
 obtain ⟨cs, rfl, _⟩ := okWide_struct ht hv
 obtain ⟨fuel, hf⟩ := hd
 obtain ⟨y, hy, hwy⟩ := ho.2 H enc W fuel _ _ hf hw
 exact ⟨cs.toList, y, by simp, hy, hwy⟩
end Go.Proofs.YthmjimboajmhmaaW.Opens

namespace Go.Proofs.Ythmjimboajmhmaa.Pr
open Go.RowKit Go.Proofs.YthmjimboajmhmaaW.PrintWords Go.Proofs.YthmjimboajmhmaaW.PrintLast Go.Proofs.YthmjimboajmhmaaW.Opens
set_option linter.unusedVariables false
structure S25 where
 f0 : (List S65)
 f1 : (List Bool)
 f2 : (List Bool)
 f3 : Int
 f4 : Int
def k25 : Kd S25 := Kd.iso (Kd.pair (Kd.slice 65 k65) (Kd.pair (Kd.slice 4 Kd.bool) (Kd.pair (Kd.slice 4 Kd.bool) (Kd.pair (Kd.int .i64) (Kd.int .i64))))) (fun x : S25 => (x.f0, x.f1, x.f2, x.f3, x.f4))
def wf65 (x : S65) : Prop := (Lit.int .i64 x.f0).wf = true ∧ (Lit.int .i64 x.f1).wf = true ∧ (Lit.int .i64 x.f2).wf = true ∧ (Lit.int .i64 x.f3).wf = true ∧ (Lit.int .i64 x.f4).wf = true
theorem opn65 : Opn Try.prog 65 k65 wf65 := Opn.struct (fun x : S65 => (x.f0, x.f1, x.f2, x.f3, x.f4)) (fun p => ⟨p.1, p.2.1, p.2.2.1, p.2.2.2.1, p.2.2.2.2⟩) (fun _ => rfl) (by kernel_rfl) Try.underlying65 (FOpn.cons rfl (Opn.int (by kernel_rfl) Try.underlying3) (FOpn.cons rfl (Opn.int (by kernel_rfl) Try.underlying3) (FOpn.cons rfl (Opn.int (by kernel_rfl) Try.underlying3) (FOpn.cons rfl (Opn.int (by kernel_rfl) Try.underlying3) (FOpn.one rfl (Opn.int (by kernel_rfl) Try.underlying3))))))
def wfL65 (l : List S65) : Prop := l.length ≤ maxLen ∧ l.length * 40 ≤ 140737488351232 ∧ ∀ y ∈ l, wf65 y
theorem opnL22 : Opn Try.prog 22 (Kd.slice 65 k65) wfL65 := Opn.slice z65 (by kernel_rfl) Try.underlying22 (by kernel_rfl) opn65
def wfL4 (l : List Bool) : Prop := l.length ≤ maxLen ∧ l.length * 1 ≤ 140737488351232 ∧ ∀ y ∈ l, True
theorem opnL23 : Opn Try.prog 23 (Kd.slice 4 Kd.bool) wfL4 := Opn.slice false (by kernel_rfl) Try.underlying23 (by kernel_rfl) (Opn.bool (by kernel_rfl) Try.underlying4)
def wf25 (x : S25) : Prop := wfL65 x.f0 ∧ wfL4 x.f1 ∧ wfL4 x.f2 ∧ (Lit.int .i64 x.f3).wf = true ∧ (Lit.int .i64 x.f4).wf = true
theorem opn25 : Opn Try.prog 25 k25 wf25 := Opn.struct (fun x : S25 => (x.f0, x.f1, x.f2, x.f3, x.f4)) (fun p => ⟨p.1, p.2.1, p.2.2.1, p.2.2.2.1, p.2.2.2.2⟩) (fun _ => rfl) (by kernel_rfl) Try.underlying25 (FOpn.cons rfl opnL22 (FOpn.cons rfl opnL23 (FOpn.cons rfl opnL23 (FOpn.cons rfl (Opn.int (by kernel_rfl) Try.underlying3) (FOpn.one rfl (Opn.int (by kernel_rfl) Try.underlying3))))))
theorem kq25_open {w : World} {x : S25} {cs : List Value} (h : k25.K w x cs) : ∃ (A0 : Option Addr) (c0 : Nat) (A1 : Option Addr) (c1 : Nat) (A2 : Option Addr) (c2 : Nat), cs = [.slice A0 x.f0.length c0, .slice A1 x.f1.length c1, .slice A2 x.f2.length c2, .int .i64 x.f3, .int .i64 x.f4] ∧ x.f0.length ≤ c0 ∧ Kd.C k65 w A0 x.f0.length x.f0 ∧ x.f1.length ≤ c1 ∧ Kd.C Kd.bool w A1 x.f1.length x.f1 ∧ x.f2.length ≤ c2 ∧ Kd.C Kd.bool w A2 x.f2.length x.f2 := by
 obtain ⟨_, _, rfl, ⟨A0, c0, rfl, hl0, hC0⟩, ⟨_, _, rfl, ⟨A1, c1, rfl, hl1, hC1⟩, ⟨_, _, rfl, ⟨A2, c2, rfl, hl2, hC2⟩, ⟨_, _, rfl, rfl, rfl⟩⟩⟩⟩ := h
 exact ⟨A0, c0, A1, c1, A2, c2, rfl, hl0, hC0, hl1, hC1, hl2, hC2⟩
def FnExactOpenLeads.Pure : Prop := ∀ (x0 : S25), wf25 x0 → ∃ k, laws_FnExactOpenLeads.f k x0.f0 x0.f1 x0.f2 x0.f3 x0.f4 = some true
end Go.Proofs.Ythmjimboajmhmaa.Pr

namespace Go.Proofs.Ythmjimboajmhmaa.Pr.Pure
open Go.RowKit Go.Proofs.YthmjimboajmhmaaW.PrintWords Go.Proofs.YthmjimboajmhmaaW.PrintLast Go.Proofs.YthmjimboajmhmaaW.PrintMore
set_option linter.unusedVariables false
set_option linter.unusedSimpArgs false
def FAR : Int := 1073741824
structure Arc where
 a : Int
 b : Int
 t : Int
def step1 (D : List Int) (a b t : Int) : List Int := if rd D a + t < rd D b then D.set b.toNat (rd D a + t) else D
def rnd (A : List Arc) (D : List Int) : List Int := A.foldl (fun D e => step1 D e.a e.b e.t) D
def it (A : List Arc) : Nat → List Int → List Int
 | 0, D => D
 | k + 1, D => rnd A (it A k D)
def In8 (i : Int) : Prop := 0 ≤ i ∧ i < 8
def OkA (A : List Arc) : Prop := ∀ e, e ∈ A → In8 e.a ∧ In8 e.b ∧ 1 ≤ e.t ∧ e.t ≤ 500
theorem rd_set {D : List Int} (hl : D.length = 8) {b i : Int} (hb : In8 b) (hi : In8 i) (x : Int) : rd (D.set b.toNat x) i = if i = b then x else rd D i := by
 unfold rd
 obtain ⟨hb0, hb1⟩ := hb
 obtain ⟨hi0, hi1⟩ := hi
 rw [List.getD_eq_getElem?_getD, List.getD_eq_getElem?_getD]
 by_cases e : i = b
 ·
  subst e
  rw [if_pos rfl, List.getElem?_set_self (by omega)]
  rfl
 ·
  rw [if_neg e, List.getElem?_set_ne (by omega)]
theorem len_step1 (D : List Int) (a b t : Int) : (step1 D a b t).length = D.length := by
 unfold step1
 split
 ·
  rw [List.length_set]
 ·
  rfl
theorem len_rnd (A : List Arc) : ∀ D : List Int, (rnd A D).length = D.length := by
 induction A with
 | nil => intro D; rfl
 | cons e A ih =>
  intro D
  show (rnd A (step1 D e.a e.b e.t)).length = _
  rw [ih, len_step1]
theorem rd_step1 {D : List Int} (hl : D.length = 8) {a b i : Int} (hb : In8 b) (hi : In8 i) (t : Int) : rd (step1 D a b t) i = if i = b ∧ rd D a + t < rd D b then rd D a + t else rd D i := by
 unfold step1
 by_cases h : rd D a + t < rd D b
 ·
  rw [if_pos h, rd_set hl hb hi]
  by_cases e : i = b
  ·
   rw [if_pos e, if_pos ⟨e, h⟩]
  ·
   rw [if_neg e, if_neg (fun z => e z.1)]
 ·
  rw [if_neg h, if_neg (fun z => h z.2)]
theorem step1_le {D : List Int} (hl : D.length = 8) {a b i : Int} (hb : In8 b) (hi : In8 i) (t : Int) : rd (step1 D a b t) i ≤ rd D i := by
 rw [rd_step1 hl hb hi]
 split
 ·
  rename_i h
  obtain ⟨rfl, h⟩ := h
  omega
 ·
  omega
theorem rnd_le (A : List Arc) (hA : OkA A) : ∀ (D : List Int), D.length = 8 → ∀ i, In8 i → rd (rnd A D) i ≤ rd D i := by
 induction A with
 | nil => intro D _ i _; exact Int.le_refl _
 | cons e A ih =>
  intro D hl i hi
  have h1 := ih (fun x hx => hA x (List.mem_cons_of_mem _ hx)) (step1 D e.a e.b e.t) (by rw [len_step1, hl]) i hi
  have h2 := step1_le (a := e.a) (t := e.t) hl (hA e List.mem_cons_self).2.1 hi
  exact Int.le_trans h1 h2
theorem rnd_arc (A : List Arc) (hA : OkA A) : ∀ (D : List Int), D.length = 8 → ∀ e, e ∈ A → rd (rnd A D) e.b ≤ rd D e.a + e.t := by
 induction A with
 | nil => intro D _ e he; cases he
 | cons x A ih =>
  intro D hl e he
  have hA' : OkA A := fun x hx => hA x (List.mem_cons_of_mem _ hx)
  have hx := hA x List.mem_cons_self
  have hl' : (step1 D x.a x.b x.t).length = 8 := by rw [len_step1, hl]
  show rd (rnd A (step1 D x.a x.b x.t)) e.b ≤ _
  rcases List.mem_cons.1 he with rfl | he'
  ·
   have h1 := rnd_le A hA' _ hl' e.b hx.2.1
   rw [rd_step1 hl hx.2.1 hx.2.1] at h1
   split at h1
   ·
    exact h1
   ·
    rename_i h
    have : ¬ (rd D e.a + e.t < rd D e.b) := fun z => h ⟨rfl, z⟩
    omega
  ·
   have h1 := ih hA' _ hl' e he'
   have h2 := step1_le (a := x.a) (t := x.t) hl hx.2.1 (hA e he).1
   omega
structure Inv (A : List Arc) (D : List Int) : Prop where
 len : D.length = 8
 lo : ∀ i, In8 i → 0 ≤ rd D i
 hi : ∀ i, In8 i → rd D i ≤ FAR
 zero : rd D 0 = 0
 tight : ∀ v, In8 v → v ≠ 0 → rd D v < FAR → ∃ e, e ∈ A ∧ e.b = v ∧ rd D e.a + e.t ≤ rd D v
theorem step_inv {A : List Arc} (hA : OkA A) {D : List Int} (h : Inv A D) {e : Arc} (he : e ∈ A) : Inv A (step1 D e.a e.b e.t) := by
 obtain ⟨ha, hb, ht, ht'⟩ := hA e he
 have hz : In8 0 := ⟨by omega, by omega⟩
 have la := h.lo e.a ha
 have hle := fun i hi => step1_le (a := e.a) (t := e.t) h.len hb (i := i) hi
 refine ⟨by rw [len_step1, h.len], fun i hi => ?_, fun i hi => Int.le_trans (hle i hi) (h.hi i hi), ?_, fun v hv hv0 hf => ?_⟩
 ·
  rw [rd_step1 h.len hb hi]
  split
  ·
   omega
  ·
   exact h.lo i hi
 ·
  rw [rd_step1 h.len hb hz]
  split
  ·
   rename_i z
   obtain ⟨z1, z2⟩ := z
   rw [← z1, h.zero] at z2
   omega
  ·
   exact h.zero
 ·
  by_cases hc : v = e.b ∧ rd D e.a + e.t < rd D e.b
  ·
   refine ⟨e, he, hc.1.symm, ?_⟩
   have := hle e.a ha
   have h2 := rd_step1 (a := e.a) (t := e.t) h.len hb hv
   rw [if_pos hc] at h2
   omega
  ·
   have h2 := rd_step1 (a := e.a) (t := e.t) h.len hb hv
   rw [if_neg hc] at h2
   rw [h2] at hf ⊢
   obtain ⟨x, hx, hxb, hxl⟩ := h.tight v hv hv0 hf
   exact ⟨x, hx, hxb, by have := hle x.a (hA x hx).1; omega⟩
theorem rnd_inv' {A : List Arc} (hA : OkA A) (B : List Arc) : (∀ e, e ∈ B → e ∈ A) → ∀ D, Inv A D → Inv A (rnd B D) := by
 induction B with
 | nil => intro _ D h; exact h
 | cons e B ih =>
  intro hB D h
  exact ih (fun x hx => hB x (List.mem_cons_of_mem _ hx)) _ (step_inv hA h (hB e List.mem_cons_self))
theorem rnd_inv {A : List Arc} (hA : OkA A) {D : List Int} (h : Inv A D) : Inv A (rnd A D) := rnd_inv' hA A (fun _ he => he) D h
theorem it_inv {A : List Arc} (hA : OkA A) {D : List Int} (h : Inv A D) : ∀ k, Inv A (it A k D)
 | 0 => h
 | k + 1 => rnd_inv hA (it_inv hA h k)
theorem cases8 {i : Int} (h : In8 i) : i = 0 ∨ i = 1 ∨ i = 2 ∨ i = 3 ∨ i = 4 ∨ i = 5 ∨ i = 6 ∨ i = 7 := by
 obtain ⟨h1, h2⟩ := h
 omega
theorem ext8 {D E : List Int} (hD : D.length = 8) (hE : E.length = 8) (h : ∀ i, In8 i → rd D i = rd E i) : D = E := by
 apply List.ext_getElem (by omega)
 intro i h1 h2
 have := h (i : Int) ⟨by omega, by omega⟩
 unfold rd at this
 rw [Int.toNat_natCast, List.getD_eq_getElem?_getD, List.getD_eq_getElem?_getD, List.getElem?_eq_getElem h1, List.getElem?_eq_getElem h2] at this
 exact this
def sum8 (D : List Int) : Int := rd D 0 + rd D 1 + rd D 2 + rd D 3 + rd D 4 + rd D 5 + rd D 6 + rd D 7
theorem le_or {D E : List Int} (hD : D.length = 8) (hE : E.length = 8) (h : ∀ i, In8 i → rd E i ≤ rd D i) : E = D ∨ sum8 E < sum8 D := by
 by_cases hq : ∀ i, In8 i → rd E i = rd D i
 ·
  exact .inl (ext8 hE hD hq)
 ·
  right
  obtain ⟨i, hi⟩ := Classical.not_forall.1 hq
  obtain ⟨hi8, hne⟩ := Classical.not_imp.1 hi
  have hlt : rd E i < rd D i := by have := h i hi8; omega
  have h0 := h 0 ⟨by omega, by omega⟩
  have h1 := h 1 ⟨by omega, by omega⟩
  have h2 := h 2 ⟨by omega, by omega⟩
  have h3 := h 3 ⟨by omega, by omega⟩
  have h4 := h 4 ⟨by omega, by omega⟩
  have h5 := h 5 ⟨by omega, by omega⟩
  have h6 := h 6 ⟨by omega, by omega⟩
  have h7 := h 7 ⟨by omega, by omega⟩
  unfold sum8
  rcases cases8 hi8 with rfl | rfl | rfl | rfl | rfl | rfl | rfl | rfl <;> omega
theorem sum8_nonneg {A : List Arc} {D : List Int} (h : Inv A D) : 0 ≤ sum8 D := by
 have h0 := h.lo 0 ⟨by omega, by omega⟩
 have h1 := h.lo 1 ⟨by omega, by omega⟩
 have h2 := h.lo 2 ⟨by omega, by omega⟩
 have h3 := h.lo 3 ⟨by omega, by omega⟩
 have h4 := h.lo 4 ⟨by omega, by omega⟩
 have h5 := h.lo 5 ⟨by omega, by omega⟩
 have h6 := h.lo 6 ⟨by omega, by omega⟩
 have h7 := h.lo 7 ⟨by omega, by omega⟩
 unfold sum8
 omega
theorem it_succ (A : List Arc) : ∀ (k : Nat) (D : List Int), it A (k + 1) D = it A k (rnd A D)
 | 0, D => rfl
 | k + 1, D => by
  show rnd A (it A (k + 1) D) = rnd A (it A k (rnd A D))
  rw [it_succ A k D]
theorem exists_fix {A : List Arc} (hA : OkA A) (n : Nat) : ∀ D, Inv A D → sum8 D ≤ n → ∃ N, rnd A (it A N D) = it A N D := by
 induction n with
 | zero =>
  intro D h hs
  rcases le_or h.len (by rw [len_rnd, h.len]) (rnd_le A hA D h.len) with e | e
  ·
   exact ⟨0, e⟩
  ·
   have := sum8_nonneg (rnd_inv hA h)
   omega
 | succ n ih =>
  intro D h hs
  rcases le_or h.len (by rw [len_rnd, h.len]) (rnd_le A hA D h.len) with e | e
  ·
   exact ⟨0, e⟩
  ·
   obtain ⟨N, hN⟩ := ih (rnd A D) (rnd_inv hA h) (by omega)
   refine ⟨N + 1, ?_⟩
   rw [it_succ]
   exact hN
theorem it_fix {A : List Arc} {D : List Int} (h : rnd A D = D) : ∀ k, it A k D = D
 | 0 => rfl
 | k + 1 => by
  show rnd A (it A k D) = D
  rw [it_fix h k, h]
theorem it_add (A : List Arc) (D : List Int) (j : Nat) : ∀ k, it A (j + k) D = it A k (it A j D)
 | 0 => rfl
 | k + 1 => by
  show rnd A (it A (j + k) D) = rnd A (it A k (it A j D))
  rw [it_add A D j k]
theorem it_anti {A : List Arc} (hA : OkA A) {D : List Int} (h : Inv A D) (j : Nat) : ∀ k i, In8 i → rd (it A (j + k) D) i ≤ rd (it A j D) i
 | 0, i, hi => Int.le_refl _
 | k + 1, i, hi => Int.le_trans (rnd_le A hA _ (it_inv hA h (j + k)).len i hi) (it_anti hA h j k i hi)
def cnt (d : List Int) (i v : Int) : Nat := if rd d i < rd d v then 1 else 0
theorem cnt_mono (d : List Int) {u v : Int} (h : rd d u < rd d v) (i : Int) : cnt d i u ≤ cnt d i v := by
 unfold cnt
 split <;> split <;> omega
theorem cnt_le (d : List Int) (i v : Int) : cnt d i v ≤ 1 := by
 unfold cnt
 split <;> omega
theorem cnt_self (d : List Int) (v : Int) : cnt d v v = 0 := by
 unfold cnt
 rw [if_neg (by omega)]
theorem cnt_yes (d : List Int) {u v : Int} (h : rd d u < rd d v) : cnt d u v = 1 := by
 unfold cnt
 rw [if_pos h]
def rank (d : List Int) (v : Int) : Nat := cnt d 0 v + cnt d 1 v + cnt d 2 v + cnt d 3 v + cnt d 4 v + cnt d 5 v + cnt d 6 v + cnt d 7 v
theorem rank_lt (d : List Int) {u v : Int} (hu : In8 u) (h : rd d u < rd d v) : rank d u < rank d v := by
 have m := cnt_mono d h
 have m0 := m 0
 have m1 := m 1
 have m2 := m 2
 have m3 := m 3
 have m4 := m 4
 have m5 := m 5
 have m6 := m 6
 have m7 := m 7
 have s := cnt_self d u
 have y := cnt_yes d h
 clear m h
 unfold rank
 rcases cases8 hu with rfl | rfl | rfl | rfl | rfl | rfl | rfl | rfl <;> omega
theorem rank_le (d : List Int) {v : Int} (hv : In8 v) : rank d v ≤ 7 := by
 have m := fun i => cnt_le d i v
 have m0 := m 0
 have m1 := m 1
 have m2 := m 2
 have m3 := m 3
 have m4 := m 4
 have m5 := m 5
 have m6 := m 6
 have m7 := m 7
 have s := cnt_self d v
 clear m
 unfold rank
 rcases cases8 hv with rfl | rfl | rfl | rfl | rfl | rfl | rfl | rfl <;> omega
def D0 : List Int := [0, FAR, FAR, FAR, FAR, FAR, FAR, FAR]
theorem D0_far {v : Int} (hv : In8 v) (h0 : v ≠ 0) : rd D0 v = FAR := by
 rcases cases8 hv with rfl | rfl | rfl | rfl | rfl | rfl | rfl | rfl
 ·
  exact absurd rfl h0
 all_goals rfl
theorem D0_inv (A : List Arc) : Inv A D0 := by
 refine ⟨rfl, fun i hi => ?_, fun i hi => ?_, rfl, fun v hv h0 hf => ?_⟩
 ·
  by_cases h : i = 0
  ·
   rw [h]; decide
  ·
   rw [D0_far hi h]; decide
 ·
  by_cases h : i = 0
  ·
   rw [h]; decide
  ·
   rw [D0_far hi h]; decide
 ·
  rw [D0_far hv h0] at hf
  omega
theorem it_rank {A : List Arc} (hA : OkA A) {d : List Int} (hd : Inv A d) (hle : ∀ k i, In8 i → rd d i ≤ rd (it A k D0) i) : ∀ (k : Nat) (v : Int), In8 v → rank d v ≤ k → rd (it A k D0) v = rd d v := by
 intro k
 induction k with
 | zero =>
  intro v hv hr
  by_cases h0 : v = 0
  ·
   rw [h0, hd.zero]; rfl
  ·
   show rd D0 v = _
   rw [D0_far hv h0]
   have h1 := hd.hi v hv
   by_cases hf : rd d v < FAR
   ·
    obtain ⟨e, he, rfl, hl⟩ := hd.tight v hv h0 hf
    obtain ⟨ha, hb, ht, _⟩ := hA e he
    have := rank_lt d ha (show rd d e.a < rd d e.b by omega)
    omega
   ·
    omega
 | succ k ih =>
  intro v hv hr
  have h1 := hle (k + 1) v hv
  have h2 := (it_inv hA (D0_inv A) (k + 1)).hi v hv
  by_cases h0 : v = 0
  ·
   rw [h0, hd.zero, (it_inv hA (D0_inv A) (k + 1)).zero]
  ·
   by_cases hf : rd d v < FAR
   ·
    obtain ⟨e, he, rfl, hl⟩ := hd.tight v hv h0 hf
    obtain ⟨ha, hb, ht, _⟩ := hA e he
    have h3 := rank_lt d ha (show rd d e.a < rd d e.b by omega)
    have h4 := ih e.a ha (by omega)
    have h5 := rnd_arc A hA _ (it_inv hA (D0_inv A) k).len e he
    have h6 : rd (it A (k + 1) D0) e.b ≤ rd (it A k D0) e.a + e.t := h5
    omega
   ·
    have := hd.hi v hv
    omega
theorem fix7 {A : List Arc} (hA : OkA A) : rnd A (it A 7 D0) = it A 7 D0 := by
 obtain ⟨N, hN⟩ := exists_fix hA (sum8 D0).toNat D0 (D0_inv A) (by have := sum8_nonneg (D0_inv A); omega)
 have hi := it_inv hA (D0_inv A) N
 have hle : ∀ k i, In8 i → rd (it A N D0) i ≤ rd (it A k D0) i := by
  intro k i hi8
  rcases Nat.le_total k N with h | h
  ·
   have := it_anti hA (D0_inv A) k (N - k) i hi8
   rwa [show k + (N - k) = N by omega] at this
  ·
   have := it_add A D0 N (k - N)
   rw [show N + (k - N) = k by omega, it_fix hN] at this
   rw [this]
   exact Int.le_refl _
 have e : it A 7 D0 = it A N D0 := ext8 (it_inv hA (D0_inv A) 7).len hi.len (fun i h8 => it_rank hA hi hle 7 i h8 (rank_le _ h8))
 rw [e, hN]
def dec (x : Int) : Int := if x = FAR then -1 else x
def Bd (c : Int) (D : List Int) : Prop := ∀ i, In8 i → rd D i = FAR ∨ rd D i ≤ c
theorem Bd.mono {c c' : Int} {D : List Int} (h : Bd c D) (hc : c ≤ c') : Bd c' D := fun i hi => by
 rcases h i hi with h | h
 ·
  exact .inl h
 ·
  exact .inr (by omega)
theorem step_bd {c : Int} {D : List Int} (hl : D.length = 8) (h : Bd c D) {a b t : Int} (ha : In8 a) (hb : In8 b) (ht : t ≤ 500) (hh : ∀ i, In8 i → rd D i ≤ FAR) (ht0 : 0 ≤ t) : Bd (c + 500) (step1 D a b t) := fun i hi => by
 rw [rd_step1 hl hb hi]
 split
 ·
  rename_i z
  rcases h a ha with e | e
  ·
   have := hh b hb
   omega
  ·
   exact .inr (by omega)
 ·
  rcases h i hi with e | e
  ·
   exact .inl e
  ·
   exact .inr (by omega)
theorem rd_map {D : List Int} (hl : D.length = 8) {i : Int} (hi : In8 i) : rd (D.map dec) i = dec (rd D i) := by
 obtain ⟨h0, h1⟩ := hi
 unfold rd
 rw [List.getD_eq_getElem?_getD, List.getD_eq_getElem?_getD, List.getElem?_map, List.getElem?_eq_getElem (by omega)]
 rfl
theorem dec_nonneg {x : Int} (h : 0 ≤ x) (h' : x ≤ FAR) : dec x ≥ 0 ↔ x < FAR := by
 unfold dec
 split <;> omega
theorem map_set_dec (D : List Int) (n : Nat) (x : Int) (hx : x ≠ FAR) : (D.map dec).set n x = (D.set n x).map dec := by
 rw [List.map_set]
 congr 1
 unfold dec
 rw [if_neg hx]
theorem cond_dec {c : Int} {D : List Int} (hl : D.length = 8) (hlo : ∀ i, In8 i → 0 ≤ rd D i) (hhi : ∀ i, In8 i → rd D i ≤ FAR) (hb : Bd c D) (hc : c + 500 < FAR) {a b t : Int} (ha : In8 a) (hb8 : In8 b) (ht : 1 ≤ t) (ht' : t ≤ 500) :
  (rd (D.map dec) a ≥ 0 ↔ rd D a < FAR) ∧ (rd D a < FAR → rd (D.map dec) a = rd D a ∧ (rd (D.map dec) b < 0 ∨ rd D a + t < rd (D.map dec) b ↔ rd D a + t < rd D b) ∧ rd D a + t < FAR) ∧ (¬ rd D a < FAR → ¬ rd D a + t < rd D b) := by
 rw [rd_map hl ha, rd_map hl hb8]
 have a0 := hlo a ha
 have a1 := hhi a ha
 have b0 := hlo b hb8
 have b1 := hhi b hb8
 have a2 := hb a ha
 unfold FAR at *
 refine ⟨dec_nonneg a0 a1, fun h => ⟨?_, ?_, ?_⟩, fun h => by omega⟩
 ·
  unfold dec FAR
  rw [if_neg (by omega)]
 ·
  unfold dec FAR
  split <;> omega
 ·
  omega
theorem relax_comm {D : List Int} (hl : D.length = 8) {a b t : Int} (ha : In8 a) (hb : In8 b) (ht : 1 ≤ t) : step1 (step1 D b a t) a b t = step1 (step1 D a b t) b a t := by
 apply ext8 (by rw [len_step1, len_step1, hl]) (by rw [len_step1, len_step1, hl])
 intro i hi
 have l1 : (step1 D b a t).length = 8 := by rw [len_step1, hl]
 have l2 : (step1 D a b t).length = 8 := by rw [len_step1, hl]
 rw [rd_step1 l1 hb hi, rd_step1 l2 ha hi, rd_step1 hl ha ha, rd_step1 hl ha hb, rd_step1 hl ha hi, rd_step1 hl hb hb, rd_step1 hl hb ha, rd_step1 hl hb hi]
 by_cases e : a = b
 ·
  subst e
  simp only [true_and]
 ·
  have e' : ¬ b = a := fun h => e h.symm
  simp only [e, e', false_and, if_false, true_and]
  by_cases c1 : rd D b + t < rd D a
  ·
   simp only [c1, if_true, and_true]
   have c2 : ¬ rd D a + t < rd D b := by omega
   have c3 : ¬ rd D b + t + t < rd D b := by omega
   simp only [c2, c3, and_false, if_false, c1, and_true]
  ·
   by_cases c2 : rd D a + t < rd D b
   ·
    have c3 : ¬ rd D a + t + t < rd D a := by omega
    simp only [c1, c2, c3, and_false, and_true, if_false, if_true]
   ·
    simp only [c1, c2, and_false, if_false]
end Go.Proofs.Ythmjimboajmhmaa.Pr.Pure

