/-
What is proved: parts of the law FnLabelBoxes: what the functions that it reaches compute, and the plain law.
Conditions: those of each theorem.
-/
import Derived.ArgAppend
import Derived.Below
import Derived.BigQuiet
import Derived.Deep.AppendLies
import Derived.Deep.CutBlock
import Derived.Deep.DeepCutAuto
import Derived.Deep.Draws
import Derived.Deep.LoopGhost
import Derived.Deep.OwnRows
import Derived.Deep.QuietTactic
import Derived.Deep.RegionHeld3
import Derived.Deep.RegionLaw
import Derived.KernelRfl
import Derived.Laws.BitsLemmas
import Derived.Laws.BytesArg
import Derived.Laws.CopyOwn
import Derived.Laws.Cover1
import Derived.Laws.IdiomCopy
import Derived.Laws.IdiomStrings
import Derived.Laws.MakeOwn
import Derived.Laws.OwnMore
import Derived.Laws.Rows
import Derived.Laws.Slices
import Derived.Lib.AppendStr
import Derived.Lib.ConvBytes
import Derived.Maps.AppendAt
import Derived.OrdersHeld
import Derived.OwnWalk
import Derived.RowKit
import Derived.RowKit3
import Derived.Shelf.Abstract
import Derived.Shelf.Strings.SlTrimAscii
import Derived.Shelf.Strings.Trim
import Derived.StillTailTactics
import Derived.Tactics
import Derived.Test.YtjkcfpmonpkhhaaDoorProg
import Derived.WalkKit
import Derived.WideLaws
import Derived.Test.YtjkcfpmonpkhhaaDoorCFnLabelBoxes0
namespace Go.Proofs
open Go.Shelf
def Tryd.lays160_ren : Go.Shelf.Ren := ⟨fun | 160 => 109 | 232 => 111 | 231 => 110 | 227 => 112 | 234 => 114 | 233 => 113 | 236 => 116 | 235 => 115 | 228 => 117 | 271 => 120 | 151 => 119 | 197 => 118 | 120 => 123 | 152 => 122 | 260 => 121 | 137 => 124 | 119 => 125 | 224 => 126 | 225 => 127 | 217 => 128 | 266 => 129 | n => n, fun | 9 => 9 | 4 => 4 | 3 => 3 | 5 => 5 | 117 => 115 | 116 => 114 | 0 => 0 | 124 => 118 | 21 => 21 | 105 => 120 | 46 => 88 | 119 => 124 | 139 => 127 | 138 => 126 | n => n, fun | 3 => 0 | 4 => 1 | n => n⟩
theorem Tryd.lays160 : Go.Proofs.Lays.n160 Tryd.prog Tryd.lays160_ren := {
 mixed := by kernel_rfl
 f119 := Tryd.func125.trans (congrArg some (by kernel_rfl))
 f120 := Tryd.func123.trans (congrArg some (by kernel_rfl))
 f137 := Tryd.func124.trans (congrArg some (by kernel_rfl))
 f151 := Tryd.func119.trans (congrArg some (by kernel_rfl))
 f152 := Tryd.func122.trans (congrArg some (by kernel_rfl))
 f160 := Tryd.func109.trans (congrArg some (by kernel_rfl))
 f197 := Tryd.func118.trans (congrArg some (by kernel_rfl))
 f217 := Tryd.func128.trans (congrArg some (by kernel_rfl))
 f224 := Tryd.func126.trans (congrArg some (by kernel_rfl))
 f225 := Tryd.func127.trans (congrArg some (by kernel_rfl))
 f227 := Tryd.func112.trans (congrArg some (by kernel_rfl))
 f228 := Tryd.func117.trans (congrArg some (by kernel_rfl))
 f231 := Tryd.func110.trans (congrArg some (by kernel_rfl))
 f232 := Tryd.func111.trans (congrArg some (by kernel_rfl))
 f233 := Tryd.func113.trans (congrArg some (by kernel_rfl))
 f234 := Tryd.func114.trans (congrArg some (by kernel_rfl))
 f235 := Tryd.func115.trans (congrArg some (by kernel_rfl))
 f236 := Tryd.func116.trans (congrArg some (by kernel_rfl))
 f260 := Tryd.func121.trans (congrArg some (by kernel_rfl))
 f266 := Tryd.func129.trans (congrArg some (by kernel_rfl))
 f271 := Tryd.func120.trans (congrArg some (by kernel_rfl))
 t0 := Tryd.underlying0
 a0 := Tryd.isAgg0
 z0 := Tryd.sizeOf0
 v0 := Tryd.zeroValue0
 t3 := Tryd.underlying3
 a3 := Tryd.isAgg3
 z3 := Tryd.sizeOf3
 v3 := Tryd.zeroValue3
 t4 := Tryd.underlying4
 a4 := Tryd.isAgg4
 z4 := Tryd.sizeOf4
 v4 := Tryd.zeroValue4
 t5 := Tryd.underlying5
 a5 := Tryd.isAgg5
 z5 := Tryd.sizeOf5
 v5 := Tryd.zeroValue5
 t9 := Tryd.underlying9
 a9 := Tryd.isAgg9
 z9 := Tryd.sizeOf9
 v9 := Tryd.zeroValue9
 t21 := Tryd.underlying21
 a21 := Tryd.isAgg21
 z21 := Tryd.sizeOf21
 v21 := Tryd.zeroValue21
 t46 := Tryd.underlying88
 a46 := Tryd.isAgg88
 z46 := Tryd.sizeOf88
 v46 := Tryd.zeroValue88
 t105 := Tryd.underlying120
 a105 := Tryd.isAgg120
 z105 := Tryd.sizeOf120
 v105 := Tryd.zeroValue120
 t116 := Tryd.underlying114
 a116 := Tryd.isAgg114
 z116 := Tryd.sizeOf114
 t117 := Tryd.underlying115
 a117 := Tryd.isAgg115
 z117 := Tryd.sizeOf115
 v117 := Tryd.zeroValue115
 t119 := Tryd.underlying124
 a119 := Tryd.isAgg124
 z119 := Tryd.sizeOf124
 t124 := Tryd.underlying118
 a124 := Tryd.isAgg118
 z124 := Tryd.sizeOf118
 v124 := Tryd.zeroValue118
 t138 := Tryd.underlying126
 a138 := Tryd.isAgg126
 z138 := Tryd.sizeOf126
 v138 := Tryd.zeroValue126
 t139 := Tryd.underlying127
 a139 := Tryd.isAgg127
 z139 := Tryd.sizeOf127
 v139 := Tryd.zeroValue127
 g3 := by kernel_rfl
 g4 := by kernel_rfl }
end Go.Proofs

namespace Go.Proofs.YtjkcfpmonpkhhaaDoor.Pr
open Go.RowKit Go.Proofs.YtjkcfpmonpkhhaaDoorW.PrintWords Go.Proofs.YtjkcfpmonpkhhaaDoorW.PrintLast Go.Proofs.YtjkcfpmonpkhhaaDoorW.PrintMore
attribute [local go_sem] max2_int min2_int max_two min_two max_three min_three max_four min_four   -- for this text's walks alone
set_option linter.unusedVariables false
set_option linter.unusedSimpArgs false
def errW : Option Int → Value
 | none => .nilIface
 | some c => .iface 0 (.int .i64 c)
theorem errW_none : errW none = .nilIface := rfl
theorem errW_some (c : Int) : errW (some c) = .iface 0 (.int .i64 c) := rfl
theorem info3 : (Tryd.prog.info? 3).map (fun i => (i.zero, i.size, i.bytes)) = some (some (.int .i64 0), 1, 8) := by kernel_rfl
theorem info26 : (Tryd.prog.info? 26).map (fun i => (i.zero, i.size, i.bytes)) = some (some (.agg #[(.int .i64 0), (.int .i64 0), (.int .i64 0), (.int .i64 0)]), 4, 32) := by kernel_rfl
theorem info29 : (Tryd.prog.info? 29).map (fun i => (i.zero, i.size, i.bytes)) = some (some (.agg #[(.string ⟨#[]⟩), (.int .i64 0), (.int .i64 0)]), 3, 32) := by kernel_rfl
structure S29 where
 f0 : ByteArray
 f1 : Int
 f2 : Int
def z29 : S29 := ⟨(⟨#[]⟩ : ByteArray), (0 : Int), (0 : Int)⟩
def k29 : Kd S29 := Kd.iso (Kd.pair Kd.string (Kd.pair (Kd.int .i64) (Kd.int .i64))) (fun x : S29 => (x.f0, x.f1, x.f2))
theorem k29_heap : Kd.Heap k29 := Kd.heap_iso _ (Kd.heap_pair Kd.heap_string (Kd.heap_pair (Kd.heap_int .i64) (Kd.heap_int .i64)))
theorem k29_open {w : World} {x : S29} {cs : List Value} (h : k29.K w x cs) : cs = [.string x.f0, .int .i64 x.f1, .int .i64 x.f2] := by
 obtain ⟨_, _, rfl, rfl, ⟨_, _, rfl, rfl, rfl⟩⟩ := h
 exact rfl
theorem k29_mkM (w : World) (base : Nat) (ok : Nat → Prop) (x : S29)  : k29.M w base ok x [.string x.f0, .int .i64 x.f1, .int .i64 x.f2] := ⟨[.string x.f0], [.int .i64 x.f1, .int .i64 x.f2], rfl, rfl, ⟨[.int .i64 x.f1], [.int .i64 x.f2], rfl, rfl, rfl⟩⟩
def rd_T29 (xs : List S29) (i : Int) : S29 := xs.getD i.toNat z29
theorem at_T29 {w : World} {A : Option Addr} {n : Nat} {xs : List S29} (h : Kd.C k29 w A n xs) (i : Int) (h0 : 0 ≤ i) (h1 : i < n) : ∃ ad , A = some ad ∧ w.cell? (ad.add (i.toNat * 3)) = some (.string (rd_T29 xs i).f0) ∧ w.cell? ⟨(ad.add (i.toNat * 3)).block, (ad.add (i.toNat * 3)).off + 1, none⟩ = some (.int .i64 (rd_T29 xs i).f1) ∧ w.cell? ⟨(ad.add (i.toNat * 3)).block, (ad.add (i.toNat * 3)).off + 2, none⟩ = some (.int .i64 (rd_T29 xs i).f2) := by
 obtain ⟨ad, c, e, _, hK, hc0⟩ := Kd.C_get h z29 i h0 h1
 have hc : ∀ j u, c[j]? = some u → w.cell? (ad.add (i.toNat * 3 + j)) = some u := hc0
 obtain rfl := k29_open hK
 exact ⟨ad, e, hc 0 _ rfl, by rw [← add_field _ _ 1 (by omega)]; exact hc 1 _ rfl, by rw [← add_field _ _ 2 (by omega)]; exact hc 2 _ rfl⟩
structure S26 where
 f0 : Int
 f1 : Int
 f2 : Int
 f3 : Int
def z26 : S26 := ⟨(0 : Int), (0 : Int), (0 : Int), (0 : Int)⟩
def k26 : Kd S26 := Kd.iso (Kd.pair (Kd.int .i64) (Kd.pair (Kd.int .i64) (Kd.pair (Kd.int .i64) (Kd.int .i64)))) (fun x : S26 => (x.f0, x.f1, x.f2, x.f3))
theorem k26_open {w : World} {x : S26} {cs : List Value} (h : k26.K w x cs) : cs = [.int .i64 x.f0, .int .i64 x.f1, .int .i64 x.f2, .int .i64 x.f3] := by
 obtain ⟨_, _, rfl, rfl, ⟨_, _, rfl, rfl, ⟨_, _, rfl, rfl, rfl⟩⟩⟩ := h
 exact rfl
theorem k26_mk (w : World) (x : S26)  : k26.K w x [.int .i64 x.f0, .int .i64 x.f1, .int .i64 x.f2, .int .i64 x.f3] := ⟨[.int .i64 x.f0], [.int .i64 x.f1, .int .i64 x.f2, .int .i64 x.f3], rfl, rfl, ⟨[.int .i64 x.f1], [.int .i64 x.f2, .int .i64 x.f3], rfl, rfl, ⟨[.int .i64 x.f2], [.int .i64 x.f3], rfl, rfl, rfl⟩⟩⟩
theorem k26_mkM (w : World) (base : Nat) (ok : Nat → Prop) (x : S26)  : k26.M w base ok x [.int .i64 x.f0, .int .i64 x.f1, .int .i64 x.f2, .int .i64 x.f3] := ⟨[.int .i64 x.f0], [.int .i64 x.f1, .int .i64 x.f2, .int .i64 x.f3], rfl, rfl, ⟨[.int .i64 x.f1], [.int .i64 x.f2, .int .i64 x.f3], rfl, rfl, ⟨[.int .i64 x.f2], [.int .i64 x.f3], rfl, rfl, rfl⟩⟩⟩
def rd_T26 (xs : List S26) (i : Int) : S26 := xs.getD i.toNat z26
theorem at_T26 {w : World} {A : Option Addr} {n : Nat} {xs : List S26} (h : Kd.C k26 w A n xs) (i : Int) (h0 : 0 ≤ i) (h1 : i < n) : ∃ ad , A = some ad ∧ w.cell? (ad.add (i.toNat * 4)) = some (.int .i64 (rd_T26 xs i).f0) ∧ w.cell? ⟨(ad.add (i.toNat * 4)).block, (ad.add (i.toNat * 4)).off + 1, none⟩ = some (.int .i64 (rd_T26 xs i).f1) ∧ w.cell? ⟨(ad.add (i.toNat * 4)).block, (ad.add (i.toNat * 4)).off + 2, none⟩ = some (.int .i64 (rd_T26 xs i).f2) ∧ w.cell? ⟨(ad.add (i.toNat * 4)).block, (ad.add (i.toNat * 4)).off + 3, none⟩ = some (.int .i64 (rd_T26 xs i).f3) := by
 obtain ⟨ad, c, e, _, hK, hc0⟩ := Kd.C_get h z26 i h0 h1
 have hc : ∀ j u, c[j]? = some u → w.cell? (ad.add (i.toNat * 4 + j)) = some u := hc0
 obtain rfl := k26_open hK
 exact ⟨ad, e, hc 0 _ rfl, by rw [← add_field _ _ 1 (by omega)]; exact hc 1 _ rfl, by rw [← add_field _ _ 2 (by omega)]; exact hc 2 _ rfl, by rw [← add_field _ _ 3 (by omega)]; exact hc 3 _ rfl⟩
theorem eqA26 (d : Nat) (w : World) (x0 y0 : Int) (x1 y1 : Int) (x2 y2 : Int) (x3 y3 : Int) :
  (Op.equalIn (d + 2) 26 (.agg #[.int .i64 x0, .int .i64 x1, .int .i64 x2, .int .i64 x3]) (.agg #[.int .i64 y0, .int .i64 y1, .int .i64 y2, .int .i64 y3])).run Tryd.prog w = .ok (x0 == y0 && (x1 == y1 && (x2 == y2 && (x3 == y3)))) w := by
 refine eqA_of Tryd.underlying26 (by kernel_rfl) ?_
 refine eqf_cons (by rfl) (by go_simp; rfl) (by go_simp; rfl) (by go_simp) ?_
 refine eqf_cons (by rfl) (by go_simp; rfl) (by go_simp; rfl) (by go_simp) ?_
 refine eqf_cons (by rfl) (by go_simp; rfl) (by go_simp; rfl) (by go_simp) ?_
 exact eqf_last (by rfl) (by go_simp; rfl) (by go_simp; rfl) (by go_simp)
def spec_l1In.f (a0 : Int) (a1 : Int) (a2 : Int) : Option (Bool) := if a0 ≥ a1 then (some (decide (a0 ≤ a2))) else (some false)
set_option maxHeartbeats 8000000 in
set_option maxRecDepth 100000 in
theorem spec_l1In.calls (a0 : Int) (a1 : Int) (a2 : Int) (r : Bool) (w : World) (h : spec_l1In.f a0 a1 a2 = some r) :
  Calls Tryd.prog 71 #[.int .i64 a0, .int .i64 a1, .int .i64 a2] w fun e w' => e = .returned (.bool r) ∧ Drawn0 w w' := by
 have H : (if a0 ≥ a1 then (some (decide (a0 ≤ a2))) else (some false)) = some r := h
 clear h
 by_cases c4 : a0 ≥ a1
 ·
  rw [if_pos c4] at H
  have c4b0 : decide (a1 ≤ a0) = true := decide_eq_true c4
  clear c4
  obtain rfl := Option.some.inj H
  go_enter Tryd.func71, Tryd.ntmps71
  go_wp2
  go_ret
  exact ⟨by first | rfl | (simp; done) | (simp [*]; done), by repeat (first | exact Drawn0.refl _ | apply Drawn0.step)⟩
 ·
  rw [if_neg c4] at H
  have c4b0 : decide (a1 ≤ a0) = false := decide_eq_false c4
  clear c4
  obtain rfl := Option.some.inj H
  go_enter Tryd.func71, Tryd.ntmps71
  go_wp2
  go_ret
  exact ⟨by first | rfl | (simp; done) | (simp [*]; done), by repeat (first | exact Drawn0.refl _ | apply Drawn0.step)⟩
end Go.Proofs.YtjkcfpmonpkhhaaDoor.Pr

namespace Go.Proofs.YtjkcfpmonpkhhaaDoor.Pr
open Go.RowKit Go.Proofs.YtjkcfpmonpkhhaaDoorW.PrintWords Go.Proofs.YtjkcfpmonpkhhaaDoorW.PrintLast Go.Proofs.YtjkcfpmonpkhhaaDoorW.PrintMore
set_option linter.unusedVariables false
set_option linter.unusedSimpArgs false
section
variable {P : Program} {md : Region.Mode} {ops : Array Oper} {Q : Exit → Act → World → Prop} {S : World → Prop} {ds : List Nat} {T : Bool × List (List Nat × List Nat)}
theorem pz_ {fuel : Nat} {l : Array Bool} {a : Act} {w : World} {oi : Oper} {v : Value} {a' : Act} (HT : Aside0 (rtab md ops = T)) (i : Nat) (N : Option Tmp) (l' : Array Bool) (h : wpAnyLast P md ops Q S ds fuel l' a' w)
  (hi : ops[i]? = some oi := by exact rfl) (hN : oi.dst = N := by exact rfl) (hc : anyT T l.toList l'.toList i = true := by kernel_rfl) (hQ : ∀ c a w, Q (.panic c) (a.put oi.dst v) w → Q (.panic c) a w := by exact fun _ _ _ h => h)
  (hy : Yields P ops oi v a := by exact Or.inl ⟨by rfl, by intro w'; go_simp; with_reducible rfl⟩) (ha : a.put N v = a' := by simp only [Act.put, List.setIfInBounds_toArray, List.set_cons_zero, List.set_cons_succ, i64_w, i32_w]; rfl) :
  wpAnyLast P md ops Q S ds (fuel + 1) l a w := pure_ l' hi hN (any_of HT.out hc) hQ hy ha h
theorem ga_ {rest : List Oper} {oi : Oper} {a : Act} {w : World} {f : FuncId} {fn : Func} {ar : Array Operand} {ts : Array TypeId} (N : Option Tmp) (hf : P.funcs[f]? = some fn) (args : Array Value) (h : Calls P f args w fun e w' => ∃ v, e = .returned v ∧ wpList P ops Q rest (a.put N v) w')
  (hd : oi.dst = N := by exact rfl) (hg : oi.guard = none := by exact rfl) (hname : (fn.name == "runtime.NumGoroutine") = false := by kernel_rfl) (hb : fn.body.isSome = true := by exact rfl) (hop : oi.op = .call { callee := .value (.func f), args := ar, argTypes := ts } := by exact rfl)
  (hargs : ar.map a.eval = args := by (try simp only [List.map_toArray, List.map_cons, List.map_nil]); first | done | rfl | (simp only [List.length_drop, List.length_take]; rfl)) : wpList P ops Q (oi :: rest) a w := goesL_ N hd hg hf hname hb args hop hargs h
end
theorem lb0_ {n : Nat} {w w0 w1 : World} (HB : Below n w w0) (h : Below n w w0 → Below n w w1 := by intro HB_; repeat (first | (with_reducible first | exact HB_ | apply below_alloc | apply pw_below_drewN | apply below_drew1) | exact HB_)) : Below n w w1 := h HB
theorem lb1_ {n : Nat} {w w0 w1 : World} {A : Prop} (HB : Below n w w0) (G : A) (h : Below n w w0 → A → Below n w w1 := by intro HB_ G_; repeat (first | (with_reducible first | exact HB_ | apply below_alloc | apply pw_below_drewN | apply below_drew1 | refine below_set ?_ G_) | exact HB_)) : Below n w w1 := h HB G
theorem lb2_ {n : Nat} {w w0 w1 : World} {A B : Prop} (HB : Below n w w0) (G : A) (H : B) (h : Below n w w0 → A → B → Below n w w1 := by intro HB_ G_ H_; repeat (first | (with_reducible first | exact HB_ | apply below_alloc | apply pw_below_drewN | apply below_drew1 | refine below_set ?_ G_ | refine below_set ?_ H_) | exact HB_)) : Below n w w1 := h HB G H
theorem rr_ {α : Sort _} {a b : α} (h : a = b := by first | rfl | (simp [errW_none, errW_some] <;> rfl) | (simp [*, errW_none, errW_some] <;> rfl)) : a = b := h
theorem kr_ {α : Type} {d : Kd α} {e base : Nat} {w w1 : World} {ok : Nat → Prop} {v : Value} {xs : List α} (h : d.R e w base ok v xs) (hh : d.R e w base ok v xs → d.R e w1 base ok v xs := by intro h_; (with_reducible repeat (first | apply Kd.R_alloc | apply Kd.R_drewN | apply Kd.R_drew)); exact h_) : d.R e w1 base ok v xs := hh h
theorem kc_ {α : Type} {d : Kd α} {w w1 : World} {A : Option Addr} {n : Nat} {xs : List α} (h : d.C w A n xs) (hh : d.C w A n xs → d.C w1 A n xs := by intro h_; repeat (first | exact h_ | (with_reducible refine Kd.C_alloc ?_ _) | (with_reducible refine Kd.C_drewN ?_ _) | (with_reducible refine Kd.C_drew ?_))) : d.C w1 A n xs := hh h
theorem bk_ {w w1 : World} {g : Nat} {o : Obj} (h : w.heap[g]? = some o) (hh : w.heap[g]? = some o → w1.heap[g]? = some o := by intro h_; (with_reducible repeat (first | refine blk_drewN ?_ _ | refine blk_drew ?_ | refine blk_alloc ?_ _)); exact h_) : w1.heap[g]? = some o := hh h
theorem dt_ {p : Prop} [inst : Decidable p] (h : decide p = true := by first | (with_reducible assumption) | assumption) : p := of_decide_eq_true h
theorem bc_ {w w0 : World} {a : Addr} {v : Value} (hb : Below w.heap.size w w0) (h : w.cell? a = some v) : w0.cell? a = some v := (hb.cell (World.block_lt_of_cell? w _ h)).trans h
section
variable {P : Program} {md : Region.Mode} {ops : Array Oper} {Q : Exit → Act → World → Prop} {S : World → Prop} {ds : List Nat}
theorem na_ {fuel : Nat} {l : Array Bool} {a a' : Act} {w : World} (h : wpAnyLast P md ops Q S ds fuel l a' w) (ha : a = a' := by show Act.put _ (some _) _ = _; simp only [Act.put, List.setIfInBounds_toArray, List.set_cons_zero, List.set_cons_succ, i64_w, i32_w]; rfl) : wpAnyLast P md ops Q S ds fuel l a w := norm_ ha h
theorem nb_ {fuel : Nat} {l : Array Bool} {a a' : Act} {w : World} (h : wpAnyLast P md ops Q S ds fuel l a' w) (ha : a = a' := by simp only [putAll, Act.put, List.setIfInBounds_toArray, List.set_cons_zero, List.set_cons_succ]; rfl) : wpAnyLast P md ops Q S ds fuel l a w := norm_ ha h
end
theorem bz_ {w W : World} {g : Nat} (hg : g = W.heap.size) (h : Below w.heap.size w W) : w.heap.size ≤ g := by rw [hg]; exact h.size
theorem lb3_ {n : Nat} {w w0 w1 : World} {A B C : Prop} (HB : Below n w w0) (G : A) (H : B) (I : C) (h : Below n w w0 → A → B → C → Below n w w1 := by intro HB_ G_ H_ I_; repeat (first | (with_reducible first | exact HB_ | apply below_alloc | apply pw_below_drewN | apply below_drew1 | refine below_set ?_ G_ | refine below_set ?_ H_ | refine below_set ?_ I_) | exact HB_)) : Below n w w1 := h HB G H I
theorem kb0_ {w w0 w1 : World} {g : Nat} {row : Option Nat} (h : KeepBut w w0 g row) (hh : KeepBut w w0 g row → KeepBut w w1 g row := by intro h_; repeat (first | (with_reducible first | exact h_ | apply KeepBut.set_ | apply keep_drewN | apply keep_drew | apply keep_alloc) | exact h_)) : KeepBut w w1 g row := hh h
theorem kb1_ {w w0 w1 : World} {g : Nat} {row : Option Nat} {A : Prop} (h : KeepBut w w0 g row) (G : A) (hh : KeepBut w w0 g row → A → KeepBut w w1 g row := by intro h_ G_; repeat (first | (with_reducible first | exact h_ | apply KeepBut.set_ | apply keep_drewN | apply keep_drew | apply keep_alloc | refine keep_far ?_ G_ _) | exact h_)) : KeepBut w w1 g row := hh h G
theorem kb2_ {w w0 w1 : World} {g : Nat} {row : Option Nat} {A B : Prop} (h : KeepBut w w0 g row) (G : A) (H : B) (hh : KeepBut w w0 g row → A → B → KeepBut w w1 g row := by intro h_ G_ H_; repeat (first | (with_reducible first | exact h_ | apply KeepBut.set_ | apply keep_drewN | apply keep_drew | apply keep_alloc | refine keep_far ?_ G_ _ | refine keep_far ?_ H_ _) | exact h_)) : KeepBut w w1 g row := hh h G H
theorem kt_ {w w0 w1 : World} {S : Nat → Prop} (h : Kept w w0 S) (hh : Kept w w0 S → Kept w w1 S := by intro h_; repeat (first | (with_reducible first | exact h_ | apply Kept.alloc | apply Kept.drewN | apply Kept.drew) | exact h_)) : Kept w w1 S := hh h
theorem krm_ {α : Type} {d : Kd α} {e base : Nat} {w w1 : World} {ok ok' : Nat → Prop} {v : Value} {xs : List α} (h : d.R e w base ok v xs) (hm : ∀ k, ok k → ok' k) (hh : d.R e w base ok v xs → d.R e w1 base ok v xs := by intro h_; (with_reducible repeat (first | apply Kd.R_alloc | apply Kd.R_drewN | apply Kd.R_drew)); exact h_) : d.R e w1 base ok' v xs := Kd.R_mono (hh h) hm
theorem bb_ {w1 w2 : World} {g : Nat} {o : Obj} (h : w1.heap[g]? = some o) (hb : Below w1.heap.size w1 w2) : w2.heap[g]? = some o := blk_below h hb
theorem ry_ {α : Type} {d : Kd α} {e base : Nat} {w : World} {ok : Nat → Prop} {v : Value} {xs ys : List α} (he : ys = xs) (h : d.R e w base ok v xs) : d.R e w base ok v ys := by rw [he]; exact h
section
variable {P : Program} {ops : Array Oper} {Q : Exit → Act → World → Prop}
theorem gs_ {oi : Oper} {N : Option Tmp} {a : Act} {w : World} {K : Act → World → Prop} {f : FuncId} {fn : Func} {ar : Array Operand} {ts : Array TypeId} (hf : P.funcs[f]? = some fn) (args : Array Value) (h : Calls P f args w fun e w' => ∃ v, e = .returned v ∧ K (a.put N v) w')
  (hname : (fn.name == "runtime.NumGoroutine") = false := by kernel_rfl) (hb : fn.body.isSome = true := by exact rfl) (hw : Region.wanted oi (yielded ops a.tmps) = true := by rfl) (hN : oi.dst = N := by exact rfl) (hop : oi.op = .call { callee := .value (.func f), args := ar, argTypes := ts } := by exact rfl)
  (hargs : ar.map a.eval = args := by (try simp only [List.map_toArray, List.map_cons, List.map_nil]); first | done | rfl | (simp only [List.length_drop, List.length_take]; rfl)) : if Region.wanted oi (yielded ops a.tmps) = true then Oper.wp P oi a w K Q else K (a.put N undef) w := goes_ hf hname hb args hw hN hop hargs h
end
theorem cz3_ {w : World} {g : Nat} {t : TypeId} {a0 a1 a2 : Value} (h : w.heap[g]? = some (.cells #[a0, a1, a2] t (0, 0))) : w.cell? ⟨g, 0, none⟩ = some a0 ∧ w.cell? ⟨g, 1, none⟩ = some a1 ∧ w.cell? ⟨g, 2, none⟩ = some a2 := ⟨(blk_cell h 0).trans rfl, (blk_cell h 1).trans rfl, (blk_cell h 2).trans rfl⟩
theorem fz3_ {w : World} {g : Nat} {t : TypeId} {a0 a1 a2 : Value} (h : w.heap[g]? = some (.cells #[a0, a1, a2] t (0, 0))) : w.frozen? ⟨g, 0, none⟩ = false ∧ w.frozen? ⟨g, 1, none⟩ = false ∧ w.frozen? ⟨g, 2, none⟩ = false := ⟨blk_frozen h 0, blk_frozen h 1, blk_frozen h 2⟩
theorem cz4_ {w : World} {g : Nat} {t : TypeId} {a0 a1 a2 a3 : Value} (h : w.heap[g]? = some (.cells #[a0, a1, a2, a3] t (0, 0))) : w.cell? ⟨g, 0, none⟩ = some a0 ∧ w.cell? ⟨g, 1, none⟩ = some a1 ∧ w.cell? ⟨g, 2, none⟩ = some a2 ∧ w.cell? ⟨g, 3, none⟩ = some a3 := ⟨(blk_cell h 0).trans rfl, (blk_cell h 1).trans rfl, (blk_cell h 2).trans rfl, (blk_cell h 3).trans rfl⟩
theorem fz4_ {w : World} {g : Nat} {t : TypeId} {a0 a1 a2 a3 : Value} (h : w.heap[g]? = some (.cells #[a0, a1, a2, a3] t (0, 0))) : w.frozen? ⟨g, 0, none⟩ = false ∧ w.frozen? ⟨g, 1, none⟩ = false ∧ w.frozen? ⟨g, 2, none⟩ = false ∧ w.frozen? ⟨g, 3, none⟩ = false := ⟨blk_frozen h 0, blk_frozen h 1, blk_frozen h 2, blk_frozen h 3⟩
abbrev tT : Bool := true
abbrev fF : Bool := false
section
variable {P : Program} {md : Region.Mode} {ops : Array Oper} {Q : Exit → Act → World → Prop} {S : World → Prop} {ds : List Nat} {T : Bool × List (List Nat × List Nat)} {B : List Nat}
theorem tk_ {fuel : Nat} {l : Array Bool} {a : Act} {w : World} {oi : Oper} {v : Value} {a' : Act} (HT : Aside0 (rtab md ops = T)) (HW : Aside0 (waitsOk T.2 B = true)) (hS : S w) (i : Nat) (N : Option Tmp) (l' : Array Bool) (h : wpAnyLast P md ops Q S ds fuel l' a' w)
  (hi : ops[i]? = some oi := by exact rfl) (hN : oi.dst = N := by exact rfl) (hc : takeW T B ds l.toList l'.toList i = true := by kernel_rfl) (hQ : ∀ c a w, Q (.panic c) (a.put oi.dst v) w → Q (.panic c) a w := by exact fun _ _ _ h => h)
  (hy : YieldsIf P ops S oi v a := by exact Or.inl ⟨by rfl, by intro w' hs; (repeat (obtain ⟨s_, hs⟩ := hs)); go_simp; with_reducible rfl⟩) (ha : a.put N v = a' := by simp only [Act.put, List.setIfInBounds_toArray, List.set_cons_zero, List.set_cons_succ, i64_w, i32_w]; rfl) :
  wpAnyLast P md ops Q S ds (fuel + 1) l a w := take_ l' hi hN (take_ofW HT.out HW.out hc) hQ hy hS ha h
theorem pu_ {fuel : Nat} {l : Array Bool} {a : Act} {w : World} {oi : Oper} {a' : Act} (HT : Aside0 (rtab md ops = T)) (i : Nat) (N : Option Tmp) (l' : Array Bool) (h : wpAnyLast P md ops Q S ds fuel l' a' w)
  (hi : ops[i]? = some oi := by exact rfl) (hN : oi.dst = N := by exact rfl) (hc : anyT T l.toList l'.toList i = true := by kernel_rfl) (hQ : ∀ c a w, Q (.panic c) (a.put oi.dst undef) w → Q (.panic c) a w := by exact fun _ _ _ h => h)
  (hy : Yields P ops oi undef a := by exact Or.inr ⟨by rfl, rfl⟩) (ha : a.put N undef = a' := by simp only [Act.put, List.setIfInBounds_toArray, List.set_cons_zero, List.set_cons_succ, i64_w, i32_w]; rfl) :
  wpAnyLast P md ops Q S ds (fuel + 1) l a w := pure_ l' hi hN (any_of HT.out hc) hQ hy ha h
end
theorem nl_ {w W : World} {g g' : Nat} {o : Obj} (hg : g' = W.heap.size) (h : w.heap[g]? = some o) (hh : w.heap[g]? = some o → W.heap[g]? = some o := by intro h_; (with_reducible repeat (first | refine blk_drewN ?_ _ | refine blk_drew ?_ | refine blk_alloc ?_ _)); exact h_) : g ≠ g' := by rw [hg]; exact Nat.ne_of_lt (blk_lt (hh h))
theorem ng_ {w W : World} {g g' : Nat} {o : Obj} (hg : g' = W.heap.size) (h : w.heap[g]? = some o) (hh : w.heap[g]? = some o → W.heap[g]? = some o := by intro h_; (with_reducible repeat (first | refine blk_drewN ?_ _ | refine blk_drew ?_ | refine blk_alloc ?_ _)); exact h_) : g' ≠ g := by rw [hg]; exact Nat.ne_of_gt (blk_lt (hh h))
theorem p3_ {w : World} {g : Nat} {t : TypeId} {b0 b1 b2 : Value} (h : w.heap[g]? = some (.cells #[b0, b1, b2] t (0, 0))) (a0 a1 a2 : Value) : (((w.setCell ⟨g, 0, none⟩ a0).setCell ⟨g, 1, none⟩ a1).setCell ⟨g, 2, none⟩ a2).heap[g]? = some (.cells #[a0, a1, a2] t (0, 0)) := (blk_put (cs := #[a0, a1, b2]) (blk_put (cs := #[a0, b1, b2]) (blk_put (cs := #[b0, b1, b2]) h 0 _ rfl) 1 _ rfl) 2 _ rfl)
theorem f3_ {w : World} {g g' : Nat} {t : TypeId} {cs : Array Value} {j0 j1 j2 : Nat} (h : w.heap[g]? = some (.cells cs t (0, 0))) (hne : g ≠ g') (a0 a1 a2 : Value) : (((w.setCell ⟨g', j0, none⟩ a0).setCell ⟨g', j1, none⟩ a1).setCell ⟨g', j2, none⟩ a2).heap[g]? = some (.cells cs t (0, 0)) := (blk_far (p := ⟨g', j2, none⟩) (blk_far (p := ⟨g', j1, none⟩) (blk_far (p := ⟨g', j0, none⟩) h hne _) hne _) hne _)
theorem p4_ {w : World} {g : Nat} {t : TypeId} {b0 b1 b2 b3 : Value} (h : w.heap[g]? = some (.cells #[b0, b1, b2, b3] t (0, 0))) (a0 a1 a2 a3 : Value) : ((((w.setCell ⟨g, 0, none⟩ a0).setCell ⟨g, 1, none⟩ a1).setCell ⟨g, 2, none⟩ a2).setCell ⟨g, 3, none⟩ a3).heap[g]? = some (.cells #[a0, a1, a2, a3] t (0, 0)) := (blk_put (cs := #[a0, a1, a2, b3]) (blk_put (cs := #[a0, a1, b2, b3]) (blk_put (cs := #[a0, b1, b2, b3]) (blk_put (cs := #[b0, b1, b2, b3]) h 0 _ rfl) 1 _ rfl) 2 _ rfl) 3 _ rfl)
theorem f4_ {w : World} {g g' : Nat} {t : TypeId} {cs : Array Value} {j0 j1 j2 j3 : Nat} (h : w.heap[g]? = some (.cells cs t (0, 0))) (hne : g ≠ g') (a0 a1 a2 a3 : Value) : ((((w.setCell ⟨g', j0, none⟩ a0).setCell ⟨g', j1, none⟩ a1).setCell ⟨g', j2, none⟩ a2).setCell ⟨g', j3, none⟩ a3).heap[g]? = some (.cells cs t (0, 0)) := (blk_far (p := ⟨g', j3, none⟩) (blk_far (p := ⟨g', j2, none⟩) (blk_far (p := ⟨g', j1, none⟩) (blk_far (p := ⟨g', j0, none⟩) h hne _) hne _) hne _) hne _)
theorem r4_ {α : Type} {d : Kd α} {e base : Nat} {ok : Nat → Prop} {w : World} {g : Nat} {t : TypeId} {v : Value} {xs : List α} {cs : Array Value} (h : d.R e w base ok v xs) (hb : w.heap[g]? = some (.cells cs t (0, 0))) (ht : ∀ q, q ∈ e :: d.E → q ≠ t) (a0 a1 a2 a3 : Value) : d.R e ((((w.setCell ⟨g, 0, none⟩ a0).setCell ⟨g, 1, none⟩ a1).setCell ⟨g, 2, none⟩ a2).setCell ⟨g, 3, none⟩ a3) base ok v xs := Kd.R_mono (Kd.R_far (p := ⟨g, 3, none⟩) (Kd.R_far (p := ⟨g, 2, none⟩) (Kd.R_far (p := ⟨g, 1, none⟩) (Kd.R_far (p := ⟨g, 0, none⟩) (Kd.R_types h hb ht) (fun _ hk => hk.2) _) (fun _ hk => hk.2) _) (fun _ hk => hk.2) _) (fun _ hk => hk.2) _) (fun _ hk => hk.1)
end Go.Proofs.YtjkcfpmonpkhhaaDoor.Pr

namespace Go.Proofs.YtjkcfpmonpkhhaaDoor.Pr
open Go.RowKit Go.Proofs.YtjkcfpmonpkhhaaDoorW.PrintWords Go.Proofs.YtjkcfpmonpkhhaaDoorW.PrintLast Go.Proofs.YtjkcfpmonpkhhaaDoorW.PrintMore
attribute [local go_sem] max2_int min2_int max_two min_two max_three min_three max_four min_four   -- for this text's walks alone
set_option linter.unusedVariables false
set_option linter.unusedSimpArgs false
def spec_l2Word.l0 : Nat → ByteArray → Int → Option (Bool)
 | 0, _, _ => none
 | k + 1, x0, x3 => if x3 < (x0.size : Int) then (if 0 ≤ x3 then (if (bt x0 x3) < 97 then (some false) else (if (bt x0 x3) > 122 then (some false) else (spec_l2Word.l0 k x0 (wrap64 (x3 + 1))))) else (none)) else ((spec_l1In.f (x0.size : Int) 1 10).bind fun t102 => (some t102))
def spec_l2Word.f (k : Nat) (a0 : ByteArray) : Option (Bool) := spec_l2Word.l0 k a0 0
set_option maxHeartbeats 8000000 in
set_option maxRecDepth 100000 in
theorem spec_l2Word.calls (k : Nat) (a0 : ByteArray) (r : Bool) (w : World) (h : spec_l2Word.f k a0 = some r) :
  Calls Tryd.prog 94 #[.string a0] w fun e w' => e = .returned (.bool r) ∧ Drawn0 w w' := by
 have H : (spec_l2Word.l0 k a0 0) = some r := h
 clear h
 have H' := Aside0.mk H
 clear H
 go_enter Tryd.func94, Tryd.ntmps94
 go_wp2
 go_loopg [3] k (fun kq v3 w' => ∃ (x3_1 : Int), v3 = .int .i64 x3_1 ∧ Aside0 (spec_l2Word.l0 kq a0 x3_1 = some r) ∧ Aside0 (kq ≤ k) ∧ Drawn0 w w')
 case atStart => exact ⟨(0), (by first | rfl | (simp; done) | (simp [*]; done)), H', ⟨Nat.le_refl _⟩, by repeat (first | exact Drawn0.refl _ | apply Drawn0.step)⟩
 case round =>
  clear H'
  obtain ⟨x3_1, rfl, HA, HK1, ⟨m1, rfl⟩⟩ := hrel
  cases gk with
  | zero => exact absurd HA.out (by simp [spec_l2Word.l0])
  | succ k1 =>
   have H := HA.out
   clear HA
   simp only [spec_l2Word.l0] at H
   by_cases c2 : x3_1 < (a0.size : Int)
   ·
    rw [if_pos c2] at H
    have c2b0 : decide (x3_1 < (a0.size : Int)) = true := decide_eq_true c2
    clear c2
    by_cases c3 : 0 ≤ x3_1
    ·
     rw [if_pos c3] at H
     have c3b0 : decide (0 ≤ x3_1) = true := decide_eq_true c3
     clear c3
     by_cases c5 : (bt a0 x3_1) < 97
     ·
      rw [if_pos c5] at H
      have c5b0 : decide ((bt a0 x3_1) < 97) = true := decide_eq_true c5
      clear c5
      obtain rfl := Option.some.inj H
      have p4 : 0 ≤ (x3_1 : Int) := dt_
      have q4 : x3_1 < (a0.size : Int) := dt_
      have hx4 := bt_at a0 x3_1
      replace p4 := eq_true p4
      replace q4 := eq_true q4
      go_wp2
      go_ret
      exact ⟨by first | rfl | (simp; done) | (simp [*]; done), by repeat (first | exact Drawn0.refl _ | apply Drawn0.step)⟩
     ·
      rw [if_neg c5] at H
      have c5b0 : decide ((bt a0 x3_1) < 97) = false := decide_eq_false c5
      clear c5
      by_cases c7 : (bt a0 x3_1) > 122
      ·
       rw [if_pos c7] at H
       have c7b0 : decide (122 < (bt a0 x3_1)) = true := decide_eq_true c7
       clear c7
       obtain rfl := Option.some.inj H
       have p4 : 0 ≤ (x3_1 : Int) := dt_
       have q4 : x3_1 < (a0.size : Int) := dt_
       have hx4 := bt_at a0 x3_1
       replace p4 := eq_true p4
       replace q4 := eq_true q4
       have p6 : 0 ≤ (x3_1 : Int) := dt_
       have q6 : x3_1 < (a0.size : Int) := dt_
       have hx6 := bt_at a0 x3_1
       replace p6 := eq_true p6
       replace q6 := eq_true q6
       go_wp2
       go_ret
       exact ⟨by first | rfl | (simp; done) | (simp [*]; done), by repeat (first | exact Drawn0.refl _ | apply Drawn0.step)⟩
      ·
       rw [if_neg c7] at H
       have c7b0 : decide (122 < (bt a0 x3_1)) = false := decide_eq_false c7
       clear c7
       have H' := Aside0.mk H
       clear H
       have p4 : 0 ≤ (x3_1 : Int) := dt_
       have q4 : x3_1 < (a0.size : Int) := dt_
       have hx4 := bt_at a0 x3_1
       replace p4 := eq_true p4
       replace q4 := eq_true q4
       have p6 : 0 ≤ (x3_1 : Int) := dt_
       have q6 : x3_1 < (a0.size : Int) := dt_
       have hx6 := bt_at a0 x3_1
       replace p6 := eq_true p6
       replace q6 := eq_true q6
       go_wp2
       go_roundg k1
       case measure => have := HK1.out; omega
       case rel => exact ⟨(wrap64 (x3_1 + 1)), (by first | rfl | (simp; done) | (simp [*]; done)), H', ⟨by have := HK1.out; omega⟩, by repeat (first | exact Drawn0.refl _ | apply Drawn0.step)⟩
    ·
     rw [if_neg c3] at H
     exact absurd H (by simp)
   ·
    rw [if_neg c2] at H
    have c2b0 : decide (x3_1 < (a0.size : Int)) = false := decide_eq_false c2
    clear c2
    replace H := Option.bind_eq_some_iff.mp H
    obtain ⟨t102, A80, H⟩ := H
    replace H : (some t102) = some r := H
    have A8 := Aside0.mk A80
    clear A80
    obtain rfl := Option.some.inj H
    go_wp2_with (first | ((with_reducible refine gate_callee (f := 71) rfl ?_); refine ga_ (some 22) Tryd.func71 #[.int .i64 (a0.size : Int), .int .i64 1, .int .i64 10] ?_; (with_reducible refine (spec_l1In.calls (a0.size : Int) 1 10 t102 _ A8.out).mono ?_); rintro e w' ⟨rfl, ⟨nd, rfl⟩⟩; refine ⟨_, rfl, ?_⟩))
    go_ret
    exact ⟨by first | rfl | (simp; done) | (simp [*]; done), by repeat (first | exact Drawn0.refl _ | apply Drawn0.step)⟩
def spec_l24One.f (k : Nat) (a0_0 : ByteArray) (a0_1 : Int) (a0_2 : Int) : Option (Bool) := (spec_l2Word.f k a0_0).bind fun t104 => (if t104 = true then ((spec_l1In.f a0_1 0 99).bind fun t105 => (if t105 = true then ((spec_l1In.f a0_2 0 99).bind fun t106 => (some t106)) else (some false))) else (some false))
set_option maxHeartbeats 8000000 in
set_option maxRecDepth 100000 in
theorem spec_l24One.calls (k : Nat) (a0_0 : ByteArray) (a0_1 : Int) (a0_2 : Int) (r : Bool) (w : World) (h : spec_l24One.f k a0_0 a0_1 a0_2 = some r) :
  Calls Tryd.prog 54 #[.agg #[.string a0_0, .int .i64 a0_1, .int .i64 a0_2]] w fun e w' => e = .returned (.bool r) ∧ Below w.heap.size w w' := by
 have hu29 := Tryd.underlying29
 have HB := Aside0.mk (Below.refl w.heap.size w)
 have H : ((spec_l2Word.f k a0_0).bind fun t104 => (if t104 = true then ((spec_l1In.f a0_1 0 99).bind fun t105 => (if t105 = true then ((spec_l1In.f a0_2 0 99).bind fun t106 => (some t106)) else (some false))) else (some false))) = some r := h
 clear h
 replace H := Option.bind_eq_some_iff.mp H
 obtain ⟨t104, A20, H⟩ := H
 replace H : (if t104 = true then ((spec_l1In.f a0_1 0 99).bind fun t105 => (if t105 = true then ((spec_l1In.f a0_2 0 99).bind fun t106 => (some t106)) else (some false))) else (some false)) = some r := H
 have A2 := Aside0.mk A20
 clear A20
 by_cases c3 : t104 = true
 ·
  subst c3
  have H1 : ((spec_l1In.f a0_1 0 99).bind fun t105 => (if t105 = true then ((spec_l1In.f a0_2 0 99).bind fun t106 => (some t106)) else (some false))) = some r := by rw [if_pos rfl] at H; exact H
  clear H
  have H := H1
  clear H1
  replace H := Option.bind_eq_some_iff.mp H
  obtain ⟨t105, A40, H⟩ := H
  replace H : (if t105 = true then ((spec_l1In.f a0_2 0 99).bind fun t106 => (some t106)) else (some false)) = some r := H
  have A4 := Aside0.mk A40
  clear A40
  by_cases c5 : t105 = true
  ·
   subst c5
   have H1 : ((spec_l1In.f a0_2 0 99).bind fun t106 => (some t106)) = some r := by rw [if_pos rfl] at H; exact H
   clear H
   have H := H1
   clear H1
   replace H := Option.bind_eq_some_iff.mp H
   obtain ⟨t106, A60, H⟩ := H
   replace H : (some t106) = some r := H
   have A6 := Aside0.mk A60
   clear A60
   obtain rfl := Option.some.inj H
   go_enter Tryd.func54, Tryd.ntmps54
   go_wp2_with (first | ((with_reducible refine gate_dst (N := 1) rfl ?_); refine box_event ?hg (N := 1) ?hd (cs := #[.string a0_0, .int .i64 a0_1, .int .i64 a0_2]) (t := 29) ?hr ?_; (case hd => rfl); (case hg => rfl); (case hr => first | (go_simp; done) | (go_simp; rfl)); intro gb103 hg w7 hbox hb; have BK103 := Aside0.mk (hbox); have GW103 := Aside0.mk ((bz_ hg (lb0_ HB.out))); have GE103 := Aside0.mk ((bz_ hg (lb0_ HB.out))); replace HB := Aside0.mk (below_step (lb0_ HB.out) hb); clear hb hbox hg; obtain ⟨hcz8_0, hcz8_1, hcz8_2⟩ := cz3_ BK103.out; obtain ⟨hfz8_0, hfz8_1, hfz8_2⟩ := fz3_ BK103.out) | ((with_reducible refine gate_callee (f := 94) rfl ?_); refine ga_ (some 5) Tryd.func94 #[.string a0_0] ?_; (with_reducible refine (spec_l2Word.calls k a0_0 true _ A2.out).mono ?_); rintro e w' ⟨rfl, ⟨nd, rfl⟩⟩; refine ⟨_, rfl, ?_⟩) | (go_at_call 71; (with_reducible refine (spec_l1In.calls a0_1 0 99 true _ A4.out).mono ?_); rintro e w' ⟨rfl, ⟨nd, rfl⟩⟩) | (go_at_call 71; (with_reducible refine (spec_l1In.calls a0_2 0 99 t106 _ A6.out).mono ?_); rintro e w' ⟨rfl, ⟨nd, rfl⟩⟩))
   go_ret
   exact ⟨rr_, lb1_ HB.out GE103.out⟩
  ·
   replace c5 := Bool.eq_false_iff.mpr c5
   subst c5
   have H1 : (some false) = some r := by rw [if_neg (show ¬ (false = true) by decide)] at H; exact H
   clear H
   have H := H1
   clear H1
   obtain rfl := Option.some.inj H
   go_enter Tryd.func54, Tryd.ntmps54
   go_wp2_with (first | ((with_reducible refine gate_dst (N := 1) rfl ?_); refine box_event ?hg (N := 1) ?hd (cs := #[.string a0_0, .int .i64 a0_1, .int .i64 a0_2]) (t := 29) ?hr ?_; (case hd => rfl); (case hg => rfl); (case hr => first | (go_simp; done) | (go_simp; rfl)); intro gb103 hg w9 hbox hb; have BK103 := Aside0.mk (hbox); have GW103 := Aside0.mk ((bz_ hg (lb0_ HB.out))); have GE103 := Aside0.mk ((bz_ hg (lb0_ HB.out))); replace HB := Aside0.mk (below_step (lb0_ HB.out) hb); clear hb hbox hg; obtain ⟨hcz10_0, hcz10_1, hcz10_2⟩ := cz3_ BK103.out; obtain ⟨hfz10_0, hfz10_1, hfz10_2⟩ := fz3_ BK103.out) | ((with_reducible refine gate_callee (f := 94) rfl ?_); refine ga_ (some 5) Tryd.func94 #[.string a0_0] ?_; (with_reducible refine (spec_l2Word.calls k a0_0 true _ A2.out).mono ?_); rintro e w' ⟨rfl, ⟨nd, rfl⟩⟩; refine ⟨_, rfl, ?_⟩) | (go_at_call 71; (with_reducible refine (spec_l1In.calls a0_1 0 99 false _ A4.out).mono ?_); rintro e w' ⟨rfl, ⟨nd, rfl⟩⟩))
   go_ret
   exact ⟨rr_, lb1_ HB.out GE103.out⟩
 ·
  replace c3 := Bool.eq_false_iff.mpr c3
  subst c3
  have H1 : (some false) = some r := by rw [if_neg (show ¬ (false = true) by decide)] at H; exact H
  clear H
  have H := H1
  clear H1
  obtain rfl := Option.some.inj H
  go_enter Tryd.func54, Tryd.ntmps54
  go_wp2_with (first | ((with_reducible refine gate_dst (N := 1) rfl ?_); refine box_event ?hg (N := 1) ?hd (cs := #[.string a0_0, .int .i64 a0_1, .int .i64 a0_2]) (t := 29) ?hr ?_; (case hd => rfl); (case hg => rfl); (case hr => first | (go_simp; done) | (go_simp; rfl)); intro gb103 hg w11 hbox hb; have BK103 := Aside0.mk (hbox); have GW103 := Aside0.mk ((bz_ hg (lb0_ HB.out))); have GE103 := Aside0.mk ((bz_ hg (lb0_ HB.out))); replace HB := Aside0.mk (below_step (lb0_ HB.out) hb); clear hb hbox hg; obtain ⟨hcz12_0, hcz12_1, hcz12_2⟩ := cz3_ BK103.out; obtain ⟨hfz12_0, hfz12_1, hfz12_2⟩ := fz3_ BK103.out) | ((with_reducible refine gate_callee (f := 94) rfl ?_); refine ga_ (some 5) Tryd.func94 #[.string a0_0] ?_; (with_reducible refine (spec_l2Word.calls k a0_0 false _ A2.out).mono ?_); rintro e w' ⟨rfl, ⟨nd, rfl⟩⟩; refine ⟨_, rfl, ?_⟩))
  go_ret
  exact ⟨rr_, lb1_ HB.out GE103.out⟩
def spec_l24Way.f (a0 : Int) : Option (Bool) := (spec_l1In.f a0 0 3).bind fun t107 => (some t107)
set_option maxHeartbeats 8000000 in
set_option maxRecDepth 100000 in
theorem spec_l24Way.calls (a0 : Int) (r : Bool) (w : World) (h : spec_l24Way.f a0 = some r) :
  Calls Tryd.prog 55 #[.int .i64 a0] w fun e w' => e = .returned (.bool r) ∧ Drawn0 w w' := by
 have H : ((spec_l1In.f a0 0 3).bind fun t107 => (some t107)) = some r := h
 clear h
 replace H := Option.bind_eq_some_iff.mp H
 obtain ⟨t107, A20, H⟩ := H
 replace H : (some t107) = some r := H
 have A2 := Aside0.mk A20
 clear A20
 obtain rfl := Option.some.inj H
 go_enter Tryd.func55, Tryd.ntmps55
 go_wp2_with (first | ((with_reducible refine gate_callee (f := 71) rfl ?_); refine ga_ (some 4) Tryd.func71 #[.int .i64 a0, .int .i64 0, .int .i64 3] ?_; (with_reducible refine (spec_l1In.calls a0 0 3 t107 _ A2.out).mono ?_); rintro e w' ⟨rfl, ⟨nd, rfl⟩⟩; refine ⟨_, rfl, ?_⟩))
 go_ret
 exact ⟨by first | rfl | (simp; done) | (simp [*]; done), by repeat (first | exact Drawn0.refl _ | apply Drawn0.step)⟩
def spec_l24Box.f (a0_0 : ByteArray) (a0_1 : Int) (a0_2 : Int) (a1 : Int) : Option (Int × Int × Int × Int) :=
 some ((if a1 ≥ 2 then wrap64 (a0_1 - (a0_0.size : Int)) else wrap64 (a0_1 + 1)), (if Int.tmod a1 2 = 1 then wrap64 (a0_2 - 2) else wrap64 (a0_2 + 1)), (a0_0.size : Int), 2)
set_option maxHeartbeats 4000000 in
set_option maxRecDepth 100000 in
theorem spec_l24Box.calls (a0_0 : ByteArray) (a0_1 : Int) (a0_2 : Int) (a1 : Int) (r1 : Int) (r2 : Int) (r3 : Int) (r4 : Int) (w : World) (h : spec_l24Box.f a0_0 a0_1 a0_2 a1 = some (r1, r2, r3, r4)) :
  Calls Tryd.prog 56 #[.agg #[.string a0_0, .int .i64 a0_1, .int .i64 a0_2], .int .i64 a1] w fun e w' => e = .returned (.agg #[.int .i64 r1, .int .i64 r2, .int .i64 r3, .int .i64 r4]) ∧ Below w.heap.size w w' := by
 unfold spec_l24Box.f at h
 simp only [Option.some.injEq, Prod.mk.injEq] at h
 obtain ⟨h1, h2, rfl, rfl⟩ := h
 by_cases c3 : a1 ≥ 2
 ·
  rw [if_pos c3] at h1
  have b3 : decide (2 ≤ a1) = true := decide_eq_true c3
  clear c3
  by_cases c4 : Int.tmod a1 2 = 1
  ·
   rw [if_pos c4] at h2
   have b4 : (Int.tmod a1 2 == 1) = true := beq_iff_eq.mpr c4
   clear c4
   subst h1
   subst h2
   go_enter Tryd.func56, Tryd.ntmps56
   go_wp2_with fail
   exact bodyPost_ret (v := .agg #[.int .i64 (wrap64 (a0_1 - (a0_0.size : Int))), .int .i64 (wrap64 (a0_2 - 2)), .int .i64 (a0_0.size : Int), .int .i64 2]) (by simp [results, Tryd.results56, go_sem]) rfl ⟨rfl, below_alloc (below_alloc (below_alloc (Below.refl _ w) _) _) _⟩
  ·
   rw [if_neg c4] at h2
   have b4 : (Int.tmod a1 2 == 1) = false := beq_eq_false_iff_ne.mpr c4
   clear c4
   subst h1
   subst h2
   go_enter Tryd.func56, Tryd.ntmps56
   go_wp2_with fail
   exact bodyPost_ret (v := .agg #[.int .i64 (wrap64 (a0_1 - (a0_0.size : Int))), .int .i64 (wrap64 (a0_2 + 1)), .int .i64 (a0_0.size : Int), .int .i64 2]) (by simp [results, Tryd.results56, go_sem]) rfl ⟨rfl, below_alloc (below_alloc (below_alloc (Below.refl _ w) _) _) _⟩
 ·
  rw [if_neg c3] at h1
  have b3 : decide (2 ≤ a1) = false := decide_eq_false c3
  clear c3
  by_cases c4 : Int.tmod a1 2 = 1
  ·
   rw [if_pos c4] at h2
   have b4 : (Int.tmod a1 2 == 1) = true := beq_iff_eq.mpr c4
   clear c4
   subst h1
   subst h2
   go_enter Tryd.func56, Tryd.ntmps56
   go_wp2_with fail
   exact bodyPost_ret (v := .agg #[.int .i64 (wrap64 (a0_1 + 1)), .int .i64 (wrap64 (a0_2 - 2)), .int .i64 (a0_0.size : Int), .int .i64 2]) (by simp [results, Tryd.results56, go_sem]) rfl ⟨rfl, below_alloc (below_alloc (below_alloc (Below.refl _ w) _) _) _⟩
  ·
   rw [if_neg c4] at h2
   have b4 : (Int.tmod a1 2 == 1) = false := beq_eq_false_iff_ne.mpr c4
   clear c4
   subst h1
   subst h2
   go_enter Tryd.func56, Tryd.ntmps56
   go_wp2_with fail
   exact bodyPost_ret (v := .agg #[.int .i64 (wrap64 (a0_1 + 1)), .int .i64 (wrap64 (a0_2 + 1)), .int .i64 (a0_0.size : Int), .int .i64 2]) (by simp [results, Tryd.results56, go_sem]) rfl ⟨rfl, below_alloc (below_alloc (below_alloc (Below.refl _ w) _) _) _⟩
def spec_BoxFor.f (k : Nat) (a0_0 : ByteArray) (a0_1 : Int) (a0_2 : Int) (a1 : Int) : Option (Int × Int × Int × Int × Bool) := (spec_l24One.f k a0_0 a0_1 a0_2).bind fun t110 => (if t110 = true then ((spec_l24Way.f a1).bind fun t111 => (if t111 = true then ((spec_l24Box.f a0_0 a0_1 a0_2 a1).bind fun bt112 => (some (bt112.1, bt112.2.1, bt112.2.2.1, bt112.2.2.2, true))) else (some (0, 0, 0, 0, false)))) else (some (0, 0, 0, 0, false)))
set_option maxHeartbeats 8000000 in
set_option maxRecDepth 100000 in
theorem spec_BoxFor.calls (k : Nat) (a0_0 : ByteArray) (a0_1 : Int) (a0_2 : Int) (a1 : Int) (r1 : Int) (r2 : Int) (r3 : Int) (r4 : Int) (r5 : Bool) (w : World) (h : spec_BoxFor.f k a0_0 a0_1 a0_2 a1 = some (r1, r2, r3, r4, r5)) :
  Calls Tryd.prog 14 #[.agg #[.string a0_0, .int .i64 a0_1, .int .i64 a0_2], .int .i64 a1] w fun e w' => e = .returned (.tuple #[.agg #[.int .i64 r1, .int .i64 r2, .int .i64 r3, .int .i64 r4], .bool r5]) ∧ Below w.heap.size w w' := by
 have hu29 := Tryd.underlying29
 have hu26 := Tryd.underlying26
 have HB := Aside0.mk (Below.refl w.heap.size w)
 have H : ((spec_l24One.f k a0_0 a0_1 a0_2).bind fun t110 => (if t110 = true then ((spec_l24Way.f a1).bind fun t111 => (if t111 = true then ((spec_l24Box.f a0_0 a0_1 a0_2 a1).bind fun bt112 => (some (bt112.1, bt112.2.1, bt112.2.2.1, bt112.2.2.2, true))) else (some (0, 0, 0, 0, false)))) else (some (0, 0, 0, 0, false)))) = some (r1, r2, r3, r4, r5) := h
 clear h
 replace H := Option.bind_eq_some_iff.mp H
 obtain ⟨t110, A30, H⟩ := H
 replace H : (if t110 = true then ((spec_l24Way.f a1).bind fun t111 => (if t111 = true then ((spec_l24Box.f a0_0 a0_1 a0_2 a1).bind fun bt112 => (some (bt112.1, bt112.2.1, bt112.2.2.1, bt112.2.2.2, true))) else (some (0, 0, 0, 0, false)))) else (some (0, 0, 0, 0, false))) = some (r1, r2, r3, r4, r5) := H
 have A3 := Aside0.mk A30
 clear A30
 by_cases c4 : t110 = true
 ·
  subst c4
  have H1 : ((spec_l24Way.f a1).bind fun t111 => (if t111 = true then ((spec_l24Box.f a0_0 a0_1 a0_2 a1).bind fun bt112 => (some (bt112.1, bt112.2.1, bt112.2.2.1, bt112.2.2.2, true))) else (some (0, 0, 0, 0, false)))) = some (r1, r2, r3, r4, r5) := by rw [if_pos rfl] at H; exact H
  clear H
  have H := H1
  clear H1
  replace H := Option.bind_eq_some_iff.mp H
  obtain ⟨t111, A50, H⟩ := H
  replace H : (if t111 = true then ((spec_l24Box.f a0_0 a0_1 a0_2 a1).bind fun bt112 => (some (bt112.1, bt112.2.1, bt112.2.2.1, bt112.2.2.2, true))) else (some (0, 0, 0, 0, false))) = some (r1, r2, r3, r4, r5) := H
  have A5 := Aside0.mk A50
  clear A50
  by_cases c6 : t111 = true
  ·
   subst c6
   have H1 : ((spec_l24Box.f a0_0 a0_1 a0_2 a1).bind fun bt112 => (some (bt112.1, bt112.2.1, bt112.2.2.1, bt112.2.2.2, true))) = some (r1, r2, r3, r4, r5) := by rw [if_pos rfl] at H; exact H
   clear H
   have H := H1
   clear H1
   replace H := Option.bind_eq_some_iff.mp H
   obtain ⟨⟨t112, t113, t114, t115⟩, A70, H⟩ := H
   replace H : (some (t112, t113, t114, t115, true)) = some (r1, r2, r3, r4, r5) := H
   have A7 := Aside0.mk A70
   clear A70
   simp only [Option.some.injEq, Prod.mk.injEq] at H
   obtain ⟨rfl, rfl, rfl, rfl, rfl⟩ := H
   go_enter Tryd.func14, Tryd.ntmps14
   go_wp2_with (first | ((with_reducible refine gate_dst (N := 2) rfl ?_); refine box_event ?hg (N := 2) ?hd (cs := #[.string a0_0, .int .i64 a0_1, .int .i64 a0_2]) (t := 29) ?hr ?_; (case hd => rfl); (case hg => rfl); (case hr => first | (go_simp; done) | (go_simp; rfl)); intro gb108 hg w8 hbox hb; have BK108 := Aside0.mk (hbox); have GW108 := Aside0.mk ((bz_ hg (lb0_ HB.out))); have GE108 := Aside0.mk ((bz_ hg (lb0_ HB.out))); replace HB := Aside0.mk (below_step (lb0_ HB.out) hb); clear hb hbox hg) | ((with_reducible refine gate_dst (N := 4) rfl ?_); refine box_event ?hg (N := 4) ?hd (cs := #[.int .i64 0, .int .i64 0, .int .i64 0, .int .i64 0]) (t := 26) ?hr ?_; (case hd => rfl); (case hg => rfl); (case hr => first | (go_simp; done) | (go_simp; rfl)); intro gb109 hg w9 hbox hb; have BK109 := Aside0.mk (hbox); have GW109 := Aside0.mk ((bz_ hg (lb1_ HB.out GE108.out))); have GE109 := Aside0.mk ((bz_ hg (lb1_ HB.out GE108.out))); replace HB := Aside0.mk (below_step (lb1_ HB.out GE108.out) hb); have NB108_109 := Aside0.mk (nl_ hg BK108.out); have NB109_108 := Aside0.mk (ng_ hg BK108.out); replace BK108 := Aside0.mk (bb_ (bk_ BK108.out) hb); clear hb hbox hg; have hnb10 := NB108_109.out; have hnc10 := NB109_108.out; obtain ⟨hcz11_0, hcz11_1, hcz11_2⟩ := cz3_ BK108.out; obtain ⟨hfz11_0, hfz11_1, hfz11_2⟩ := fz3_ BK108.out) | ((with_reducible refine gate_callee (f := 54) rfl ?_); refine ga_ (some 7) Tryd.func54 #[.agg #[.string a0_0, .int .i64 a0_1, .int .i64 a0_2]] ?_; (with_reducible refine (spec_l24One.calls k a0_0 a0_1 a0_2 true _ A3.out).mono ?_); rintro e w12 ⟨rfl, hb⟩; refine ⟨_, rfl, ?_⟩; replace BK108 := Aside0.mk (bb_ (bk_ BK108.out) hb); replace BK109 := Aside0.mk (bb_ (bk_ BK109.out) hb); replace HB := Aside0.mk (below_step (lb2_ HB.out GE108.out GE109.out) hb); (try clear hb); (try clear hb2); (try clear hk); (try clear hi)) | (go_at_call 55; (with_reducible refine (spec_l24Way.calls a1 true _ A5.out).mono ?_); rintro e w' ⟨rfl, ⟨nd, rfl⟩⟩; (try (rw [drewN_self w12]; generalize hq_ : World.drewN w12 _ = w12; have n0_ : Aside0 (w12.heap[gb108]? = some (.cells #[.string a0_0, .int .i64 a0_1, .int .i64 a0_2] 29 (0, 0))) := ⟨by rw [← hq_]; exact (bk_ BK108.out)⟩; have n1_ : Aside0 (w12.heap[gb109]? = some (.cells #[.int .i64 0, .int .i64 0, .int .i64 0, .int .i64 0] 26 (0, 0))) := ⟨by rw [← hq_]; exact (bk_ BK109.out)⟩; have n2_ : Aside0 (Below w.heap.size w w12) := ⟨by rw [← hq_]; exact (lb2_ HB.out GE108.out GE109.out)⟩; clear BK108 BK109 HB hq_; have BK108 := n0_; have BK109 := n1_; have HB := n2_; clear n0_ n1_ n2_)); obtain ⟨hcz13_0, hcz13_1, hcz13_2⟩ := cz3_ BK108.out; obtain ⟨hfz13_0, hfz13_1, hfz13_2⟩ := fz3_ BK108.out) | ((with_reducible refine gate_callee (f := 56) rfl ?_); refine ga_ (some 17) Tryd.func56 #[.agg #[.string a0_0, .int .i64 a0_1, .int .i64 a0_2], .int .i64 a1] ?_; (with_reducible refine (spec_l24Box.calls a0_0 a0_1 a0_2 a1 t112 t113 t114 t115 _ A7.out).mono ?_); rintro e w14 ⟨rfl, hb⟩; refine ⟨_, rfl, ?_⟩; replace BK108 := Aside0.mk (bb_ (bk_ BK108.out) hb); replace BK109 := Aside0.mk (bb_ (bk_ BK109.out) hb); replace HB := Aside0.mk (below_step (lb2_ HB.out GE108.out GE109.out) hb); (try clear hb); (try clear hb2); (try clear hk); (try clear hi); obtain ⟨hcz15_0, hcz15_1, hcz15_2, hcz15_3⟩ := cz4_ BK109.out; obtain ⟨hfz15_0, hfz15_1, hfz15_2, hfz15_3⟩ := fz4_ BK109.out))
   refine bodyPost_ret (results_ct rfl _ _ gb109 26 #[.int .i64 t112, .int .i64 t113, .int .i64 t114, .int .i64 t115] (0, 0) _ rfl (by (with_reducible repeat (first | refine blk_drewN ?_ _ | refine blk_drew ?_ | refine blk_alloc ?_ _)); refine blk_put (cs := #[.int .i64 t112, .int .i64 t113, .int .i64 t114, .int .i64 0]) ?_ 3 _ rfl; (with_reducible repeat (first | refine blk_drewN ?_ _ | refine blk_drew ?_ | refine blk_alloc ?_ _)); refine blk_put (cs := #[.int .i64 t112, .int .i64 t113, .int .i64 0, .int .i64 0]) ?_ 2 _ rfl; (with_reducible repeat (first | refine blk_drewN ?_ _ | refine blk_drew ?_ | refine blk_alloc ?_ _)); refine blk_put (cs := #[.int .i64 t112, .int .i64 0, .int .i64 0, .int .i64 0]) ?_ 1 _ rfl; (with_reducible repeat (first | refine blk_drewN ?_ _ | refine blk_drew ?_ | refine blk_alloc ?_ _)); refine blk_put (cs := #[.int .i64 0, .int .i64 0, .int .i64 0, .int .i64 0]) ?_ 0 _ rfl; (with_reducible repeat (first | refine blk_drewN ?_ _ | refine blk_drew ?_ | refine blk_alloc ?_ _)); exact BK109.out) Tryd.underlying26 rfl (by kernel_rfl)) rfl ?_
   exact ⟨rr_, lb2_ HB.out GE108.out GE109.out⟩
  ·
   replace c6 := Bool.eq_false_iff.mpr c6
   subst c6
   have H1 : (some (0, 0, 0, 0, false)) = some (r1, r2, r3, r4, r5) := by rw [if_neg (show ¬ (false = true) by decide)] at H; exact H
   clear H
   have H := H1
   clear H1
   simp only [Option.some.injEq, Prod.mk.injEq] at H
   obtain ⟨rfl, rfl, rfl, rfl, rfl⟩ := H
   go_enter Tryd.func14, Tryd.ntmps14
   go_wp2_with (first | ((with_reducible refine gate_dst (N := 2) rfl ?_); refine box_event ?hg (N := 2) ?hd (cs := #[.string a0_0, .int .i64 a0_1, .int .i64 a0_2]) (t := 29) ?hr ?_; (case hd => rfl); (case hg => rfl); (case hr => first | (go_simp; done) | (go_simp; rfl)); intro gb108 hg w16 hbox hb; have BK108 := Aside0.mk (hbox); have GW108 := Aside0.mk ((bz_ hg (lb0_ HB.out))); have GE108 := Aside0.mk ((bz_ hg (lb0_ HB.out))); replace HB := Aside0.mk (below_step (lb0_ HB.out) hb); clear hb hbox hg) | ((with_reducible refine gate_dst (N := 4) rfl ?_); refine box_event ?hg (N := 4) ?hd (cs := #[.int .i64 0, .int .i64 0, .int .i64 0, .int .i64 0]) (t := 26) ?hr ?_; (case hd => rfl); (case hg => rfl); (case hr => first | (go_simp; done) | (go_simp; rfl)); intro gb109 hg w17 hbox hb; have BK109 := Aside0.mk (hbox); have GW109 := Aside0.mk ((bz_ hg (lb1_ HB.out GE108.out))); have GE109 := Aside0.mk ((bz_ hg (lb1_ HB.out GE108.out))); replace HB := Aside0.mk (below_step (lb1_ HB.out GE108.out) hb); have NB108_109 := Aside0.mk (nl_ hg BK108.out); have NB109_108 := Aside0.mk (ng_ hg BK108.out); replace BK108 := Aside0.mk (bb_ (bk_ BK108.out) hb); clear hb hbox hg; have hnb18 := NB108_109.out; have hnc18 := NB109_108.out; obtain ⟨hcz19_0, hcz19_1, hcz19_2⟩ := cz3_ BK108.out; obtain ⟨hfz19_0, hfz19_1, hfz19_2⟩ := fz3_ BK108.out) | ((with_reducible refine gate_callee (f := 54) rfl ?_); refine ga_ (some 7) Tryd.func54 #[.agg #[.string a0_0, .int .i64 a0_1, .int .i64 a0_2]] ?_; (with_reducible refine (spec_l24One.calls k a0_0 a0_1 a0_2 true _ A3.out).mono ?_); rintro e w20 ⟨rfl, hb⟩; refine ⟨_, rfl, ?_⟩; replace BK108 := Aside0.mk (bb_ (bk_ BK108.out) hb); replace BK109 := Aside0.mk (bb_ (bk_ BK109.out) hb); replace HB := Aside0.mk (below_step (lb2_ HB.out GE108.out GE109.out) hb); (try clear hb); (try clear hb2); (try clear hk); (try clear hi)) | (go_at_call 55; (with_reducible refine (spec_l24Way.calls a1 false _ A5.out).mono ?_); rintro e w' ⟨rfl, ⟨nd, rfl⟩⟩; (try (rw [drewN_self w20]; generalize hq_ : World.drewN w20 _ = w20; have n0_ : Aside0 (w20.heap[gb108]? = some (.cells #[.string a0_0, .int .i64 a0_1, .int .i64 a0_2] 29 (0, 0))) := ⟨by rw [← hq_]; exact (bk_ BK108.out)⟩; have n1_ : Aside0 (w20.heap[gb109]? = some (.cells #[.int .i64 0, .int .i64 0, .int .i64 0, .int .i64 0] 26 (0, 0))) := ⟨by rw [← hq_]; exact (bk_ BK109.out)⟩; have n2_ : Aside0 (Below w.heap.size w w20) := ⟨by rw [← hq_]; exact (lb2_ HB.out GE108.out GE109.out)⟩; clear BK108 BK109 HB hq_; have BK108 := n0_; have BK109 := n1_; have HB := n2_; clear n0_ n1_ n2_)); obtain ⟨hcz21_0, hcz21_1, hcz21_2, hcz21_3⟩ := cz4_ BK109.out; obtain ⟨hfz21_0, hfz21_1, hfz21_2, hfz21_3⟩ := fz4_ BK109.out))
   refine bodyPost_ret (results_ct rfl _ _ gb109 26 #[.int .i64 0, .int .i64 0, .int .i64 0, .int .i64 0] (0, 0) _ rfl (by (with_reducible repeat (first | refine blk_drewN ?_ _ | refine blk_drew ?_ | refine blk_alloc ?_ _)); refine blk_put (cs := #[.int .i64 0, .int .i64 0, .int .i64 0, .int .i64 0]) ?_ 3 _ rfl; (with_reducible repeat (first | refine blk_drewN ?_ _ | refine blk_drew ?_ | refine blk_alloc ?_ _)); refine blk_put (cs := #[.int .i64 0, .int .i64 0, .int .i64 0, .int .i64 0]) ?_ 2 _ rfl; (with_reducible repeat (first | refine blk_drewN ?_ _ | refine blk_drew ?_ | refine blk_alloc ?_ _)); refine blk_put (cs := #[.int .i64 0, .int .i64 0, .int .i64 0, .int .i64 0]) ?_ 1 _ rfl; (with_reducible repeat (first | refine blk_drewN ?_ _ | refine blk_drew ?_ | refine blk_alloc ?_ _)); refine blk_put (cs := #[.int .i64 0, .int .i64 0, .int .i64 0, .int .i64 0]) ?_ 0 _ rfl; (with_reducible repeat (first | refine blk_drewN ?_ _ | refine blk_drew ?_ | refine blk_alloc ?_ _)); exact BK109.out) Tryd.underlying26 rfl (by kernel_rfl)) rfl ?_
   exact ⟨rr_, lb2_ HB.out GE108.out GE109.out⟩
 ·
  replace c4 := Bool.eq_false_iff.mpr c4
  subst c4
  have H1 : (some (0, 0, 0, 0, false)) = some (r1, r2, r3, r4, r5) := by rw [if_neg (show ¬ (false = true) by decide)] at H; exact H
  clear H
  have H := H1
  clear H1
  simp only [Option.some.injEq, Prod.mk.injEq] at H
  obtain ⟨rfl, rfl, rfl, rfl, rfl⟩ := H
  go_enter Tryd.func14, Tryd.ntmps14
  go_wp2_with (first | ((with_reducible refine gate_dst (N := 2) rfl ?_); refine box_event ?hg (N := 2) ?hd (cs := #[.string a0_0, .int .i64 a0_1, .int .i64 a0_2]) (t := 29) ?hr ?_; (case hd => rfl); (case hg => rfl); (case hr => first | (go_simp; done) | (go_simp; rfl)); intro gb108 hg w22 hbox hb; have BK108 := Aside0.mk (hbox); have GW108 := Aside0.mk ((bz_ hg (lb0_ HB.out))); have GE108 := Aside0.mk ((bz_ hg (lb0_ HB.out))); replace HB := Aside0.mk (below_step (lb0_ HB.out) hb); clear hb hbox hg) | ((with_reducible refine gate_dst (N := 4) rfl ?_); refine box_event ?hg (N := 4) ?hd (cs := #[.int .i64 0, .int .i64 0, .int .i64 0, .int .i64 0]) (t := 26) ?hr ?_; (case hd => rfl); (case hg => rfl); (case hr => first | (go_simp; done) | (go_simp; rfl)); intro gb109 hg w23 hbox hb; have BK109 := Aside0.mk (hbox); have GW109 := Aside0.mk ((bz_ hg (lb1_ HB.out GE108.out))); have GE109 := Aside0.mk ((bz_ hg (lb1_ HB.out GE108.out))); replace HB := Aside0.mk (below_step (lb1_ HB.out GE108.out) hb); have NB108_109 := Aside0.mk (nl_ hg BK108.out); have NB109_108 := Aside0.mk (ng_ hg BK108.out); replace BK108 := Aside0.mk (bb_ (bk_ BK108.out) hb); clear hb hbox hg; have hnb24 := NB108_109.out; have hnc24 := NB109_108.out; obtain ⟨hcz25_0, hcz25_1, hcz25_2⟩ := cz3_ BK108.out; obtain ⟨hfz25_0, hfz25_1, hfz25_2⟩ := fz3_ BK108.out) | ((with_reducible refine gate_callee (f := 54) rfl ?_); refine ga_ (some 7) Tryd.func54 #[.agg #[.string a0_0, .int .i64 a0_1, .int .i64 a0_2]] ?_; (with_reducible refine (spec_l24One.calls k a0_0 a0_1 a0_2 false _ A3.out).mono ?_); rintro e w26 ⟨rfl, hb⟩; refine ⟨_, rfl, ?_⟩; replace BK108 := Aside0.mk (bb_ (bk_ BK108.out) hb); replace BK109 := Aside0.mk (bb_ (bk_ BK109.out) hb); replace HB := Aside0.mk (below_step (lb2_ HB.out GE108.out GE109.out) hb); (try clear hb); (try clear hb2); (try clear hk); (try clear hi); obtain ⟨hcz27_0, hcz27_1, hcz27_2, hcz27_3⟩ := cz4_ BK109.out; obtain ⟨hfz27_0, hfz27_1, hfz27_2, hfz27_3⟩ := fz4_ BK109.out))
  refine bodyPost_ret (results_ct rfl _ _ gb109 26 #[.int .i64 0, .int .i64 0, .int .i64 0, .int .i64 0] (0, 0) _ rfl (by (with_reducible repeat (first | refine blk_drewN ?_ _ | refine blk_drew ?_ | refine blk_alloc ?_ _)); refine blk_put (cs := #[.int .i64 0, .int .i64 0, .int .i64 0, .int .i64 0]) ?_ 3 _ rfl; (with_reducible repeat (first | refine blk_drewN ?_ _ | refine blk_drew ?_ | refine blk_alloc ?_ _)); refine blk_put (cs := #[.int .i64 0, .int .i64 0, .int .i64 0, .int .i64 0]) ?_ 2 _ rfl; (with_reducible repeat (first | refine blk_drewN ?_ _ | refine blk_drew ?_ | refine blk_alloc ?_ _)); refine blk_put (cs := #[.int .i64 0, .int .i64 0, .int .i64 0, .int .i64 0]) ?_ 1 _ rfl; (with_reducible repeat (first | refine blk_drewN ?_ _ | refine blk_drew ?_ | refine blk_alloc ?_ _)); refine blk_put (cs := #[.int .i64 0, .int .i64 0, .int .i64 0, .int .i64 0]) ?_ 0 _ rfl; (with_reducible repeat (first | refine blk_drewN ?_ _ | refine blk_drew ?_ | refine blk_alloc ?_ _)); exact BK109.out) Tryd.underlying26 rfl (by kernel_rfl)) rfl ?_
  exact ⟨rr_, lb2_ HB.out GE108.out GE109.out⟩
def impl_within.f (a0 : Int) (a1 : Int) (a2 : Int) : Option (Bool) := if a0 ≥ a1 then (some (decide (a0 ≤ a2))) else (some false)
set_option maxHeartbeats 8000000 in
set_option maxRecDepth 100000 in
theorem impl_within.calls (a0 : Int) (a1 : Int) (a2 : Int) (r : Bool) (w : World) (h : impl_within.f a0 a1 a2 = some r) :
  Calls Tryd.prog 73 #[.int .i64 a0, .int .i64 a1, .int .i64 a2] w fun e w' => e = .returned (.bool r) ∧ Drawn0 w w' := by
 have H : (if a0 ≥ a1 then (some (decide (a0 ≤ a2))) else (some false)) = some r := h
 clear h
 by_cases c4 : a0 ≥ a1
 ·
  rw [if_pos c4] at H
  have c4b0 : decide (a1 ≤ a0) = true := decide_eq_true c4
  clear c4
  obtain rfl := Option.some.inj H
  go_enter Tryd.func73, Tryd.ntmps73
  go_wp2
  go_ret
  exact ⟨by first | rfl | (simp; done) | (simp [*]; done), by repeat (first | exact Drawn0.refl _ | apply Drawn0.step)⟩
 ·
  rw [if_neg c4] at H
  have c4b0 : decide (a1 ≤ a0) = false := decide_eq_false c4
  clear c4
  obtain rfl := Option.some.inj H
  go_enter Tryd.func73, Tryd.ntmps73
  go_wp2
  go_ret
  exact ⟨by first | rfl | (simp; done) | (simp [*]; done), by repeat (first | exact Drawn0.refl _ | apply Drawn0.step)⟩
def strings_Trim.f (a0 : ByteArray) (a1 : ByteArray) : Option ByteArray := if a0.size ≤ 9223372036854775807 then (if a1.size < 1000 then (if a1.data.toList.all (fun b => decide (b.toNat < 128)) = true then some ⟨(Lib.trimS a0.data.toList a1.data.toList).toArray⟩ else none) else none) else none
theorem strings_Trim.calls (a0 : ByteArray) (a1 : ByteArray) (r : ByteArray) (w : World) (h : strings_Trim.f a0 a1 = some r) :
  Calls Tryd.prog 109 #[.string a0, .string a1] w fun e w' => e = .returned (.string r) ∧ Below w.heap.size w w' := by
 unfold strings_Trim.f at h
 by_cases h0 : a0.size ≤ 9223372036854775807
 ·
  rw [if_pos h0] at h
  by_cases h1 : a1.size < 1000
  ·
   rw [if_pos h1] at h
   by_cases h2 : a1.data.toList.all (fun b => decide (b.toNat < 128)) = true
   ·
    rw [if_pos h2] at h
    obtain rfl := Option.some.inj h
    exact Any.strings_Trim_laid Tryd.lays160 (by kernel_rfl) a0 a1 w h0 (by omega) (ascii_of_all h2)
   ·
    rw [if_neg h2] at h
    cases h
  ·
   rw [if_neg h1] at h
   cases h
 ·
  rw [if_neg h0] at h
  cases h
def impl_isWord.f (a0 : ByteArray) : Option (Bool) := if (a0.size : Int) ≥ 1 then (if (a0.size : Int) ≤ 10 then ((strings_Trim.f a0 (⟨#[97, 98, 99, 100, 101, 102, 103, 104, 105, 106, 107, 108, 109, 110, 111, 112, 113, 114, 115, 116, 117, 118, 119, 120, 121, 122]⟩ : ByteArray)).bind fun t120 => (some (t120.toList == ([] : List UInt8)))) else (some false)) else (some false)
set_option maxHeartbeats 8000000 in
set_option maxRecDepth 100000 in
theorem impl_isWord.calls (a0 : ByteArray) (r : Bool) (w : World) (h : impl_isWord.f a0 = some r) :
  Calls Tryd.prog 95 #[.string a0] w fun e w' => e = .returned (.bool r) ∧ Below w.heap.size w w' := by
 have HB := Aside0.mk (Below.refl w.heap.size w)
 have H : (if (a0.size : Int) ≥ 1 then (if (a0.size : Int) ≤ 10 then ((strings_Trim.f a0 (⟨#[97, 98, 99, 100, 101, 102, 103, 104, 105, 106, 107, 108, 109, 110, 111, 112, 113, 114, 115, 116, 117, 118, 119, 120, 121, 122]⟩ : ByteArray)).bind fun t120 => (some (t120.toList == ([] : List UInt8)))) else (some false)) else (some false)) = some r := h
 clear h
 by_cases c2 : (a0.size : Int) ≥ 1
 ·
  rw [if_pos c2] at H
  have c2b0 : decide (1 ≤ (a0.size : Int)) = true := decide_eq_true c2
  have c2b1 : decide (1 ≤ a0.size) = true := decide_eq_true (by omega)
  clear c2
  by_cases c3 : (a0.size : Int) ≤ 10
  ·
   rw [if_pos c3] at H
   have c3b0 : decide ((a0.size : Int) ≤ 10) = true := decide_eq_true c3
   have c3b1 : decide (a0.size ≤ 10) = true := decide_eq_true (by omega)
   clear c3
   replace H := Option.bind_eq_some_iff.mp H
   obtain ⟨t120, A40, H⟩ := H
   replace H : (some (t120.toList == ([] : List UInt8))) = some r := H
   have A4 := Aside0.mk A40
   clear A40
   obtain rfl := Option.some.inj H
   go_enter Tryd.func95, Tryd.ntmps95
   go_wp2_with (first | (go_at_call 109; (with_reducible refine (strings_Trim.calls a0 (⟨#[97, 98, 99, 100, 101, 102, 103, 104, 105, 106, 107, 108, 109, 110, 111, 112, 113, 114, 115, 116, 117, 118, 119, 120, 121, 122]⟩ : ByteArray) t120 _ A4.out).mono ?_); rintro e w5 ⟨rfl, hb⟩; replace HB := Aside0.mk (below_step (lb0_ HB.out) hb); (try clear hb); (try clear hb2); (try clear hk); (try clear hi)))
   go_ret
   exact ⟨rr_, lb0_ HB.out⟩
  ·
   rw [if_neg c3] at H
   have c3b0 : decide ((a0.size : Int) ≤ 10) = false := decide_eq_false c3
   have c3b1 : decide (a0.size ≤ 10) = false := decide_eq_false (by omega)
   clear c3
   obtain rfl := Option.some.inj H
   go_enter Tryd.func95, Tryd.ntmps95
   go_wp2
   go_ret
   exact ⟨rr_, lb0_ HB.out⟩
 ·
  rw [if_neg c2] at H
  have c2b0 : decide (1 ≤ (a0.size : Int)) = false := decide_eq_false c2
  have c2b1 : decide (1 ≤ a0.size) = false := decide_eq_false (by omega)
  clear c2
  obtain rfl := Option.some.inj H
  go_enter Tryd.func95, Tryd.ntmps95
  go_wp2
  go_ret
  exact ⟨rr_, lb0_ HB.out⟩
def impl_isLabel.f (a0_0 : ByteArray) (a0_1 : Int) (a0_2 : Int) : Option (Bool) := (impl_isWord.f a0_0).bind fun t122 => (if t122 = true then ((impl_within.f a0_1 0 99).bind fun t123 => (if t123 = true then ((impl_within.f a0_2 0 99).bind fun t124 => (some t124)) else (some false))) else (some false))
set_option maxHeartbeats 8000000 in
set_option maxRecDepth 100000 in
theorem impl_isLabel.calls (a0_0 : ByteArray) (a0_1 : Int) (a0_2 : Int) (r : Bool) (w : World) (h : impl_isLabel.f a0_0 a0_1 a0_2 = some r) :
  Calls Tryd.prog 57 #[.agg #[.string a0_0, .int .i64 a0_1, .int .i64 a0_2]] w fun e w' => e = .returned (.bool r) ∧ Below w.heap.size w w' := by
 have hu29 := Tryd.underlying29
 have HB := Aside0.mk (Below.refl w.heap.size w)
 have H : ((impl_isWord.f a0_0).bind fun t122 => (if t122 = true then ((impl_within.f a0_1 0 99).bind fun t123 => (if t123 = true then ((impl_within.f a0_2 0 99).bind fun t124 => (some t124)) else (some false))) else (some false))) = some r := h
 clear h
 replace H := Option.bind_eq_some_iff.mp H
 obtain ⟨t122, A20, H⟩ := H
 replace H : (if t122 = true then ((impl_within.f a0_1 0 99).bind fun t123 => (if t123 = true then ((impl_within.f a0_2 0 99).bind fun t124 => (some t124)) else (some false))) else (some false)) = some r := H
 have A2 := Aside0.mk A20
 clear A20
 by_cases c3 : t122 = true
 ·
  subst c3
  have H1 : ((impl_within.f a0_1 0 99).bind fun t123 => (if t123 = true then ((impl_within.f a0_2 0 99).bind fun t124 => (some t124)) else (some false))) = some r := by rw [if_pos rfl] at H; exact H
  clear H
  have H := H1
  clear H1
  replace H := Option.bind_eq_some_iff.mp H
  obtain ⟨t123, A40, H⟩ := H
  replace H : (if t123 = true then ((impl_within.f a0_2 0 99).bind fun t124 => (some t124)) else (some false)) = some r := H
  have A4 := Aside0.mk A40
  clear A40
  by_cases c5 : t123 = true
  ·
   subst c5
   have H1 : ((impl_within.f a0_2 0 99).bind fun t124 => (some t124)) = some r := by rw [if_pos rfl] at H; exact H
   clear H
   have H := H1
   clear H1
   replace H := Option.bind_eq_some_iff.mp H
   obtain ⟨t124, A60, H⟩ := H
   replace H : (some t124) = some r := H
   have A6 := Aside0.mk A60
   clear A60
   obtain rfl := Option.some.inj H
   go_enter Tryd.func57, Tryd.ntmps57
   go_wp2_with (first | ((with_reducible refine gate_dst (N := 1) rfl ?_); refine box_event ?hg (N := 1) ?hd (cs := #[.string a0_0, .int .i64 a0_1, .int .i64 a0_2]) (t := 29) ?hr ?_; (case hd => rfl); (case hg => rfl); (case hr => first | (go_simp; done) | (go_simp; rfl)); intro gb121 hg w7 hbox hb; have BK121 := Aside0.mk (hbox); have GW121 := Aside0.mk ((bz_ hg (lb0_ HB.out))); have GE121 := Aside0.mk ((bz_ hg (lb0_ HB.out))); replace HB := Aside0.mk (below_step (lb0_ HB.out) hb); clear hb hbox hg; obtain ⟨hcz8_0, hcz8_1, hcz8_2⟩ := cz3_ BK121.out; obtain ⟨hfz8_0, hfz8_1, hfz8_2⟩ := fz3_ BK121.out) | ((with_reducible refine gate_callee (f := 95) rfl ?_); refine ga_ (some 5) Tryd.func95 #[.string a0_0] ?_; (with_reducible refine (impl_isWord.calls a0_0 true _ A2.out).mono ?_); rintro e w9 ⟨rfl, hb⟩; refine ⟨_, rfl, ?_⟩; replace BK121 := Aside0.mk (bb_ (bk_ BK121.out) hb); replace HB := Aside0.mk (below_step (lb1_ HB.out GE121.out) hb); (try clear hb); (try clear hb2); (try clear hk); (try clear hi); obtain ⟨hcz10_0, hcz10_1, hcz10_2⟩ := cz3_ BK121.out; obtain ⟨hfz10_0, hfz10_1, hfz10_2⟩ := fz3_ BK121.out) | (go_at_call 73; (with_reducible refine (impl_within.calls a0_1 0 99 true _ A4.out).mono ?_); rintro e w' ⟨rfl, ⟨nd, rfl⟩⟩) | (go_at_call 73; (with_reducible refine (impl_within.calls a0_2 0 99 t124 _ A6.out).mono ?_); rintro e w' ⟨rfl, ⟨nd, rfl⟩⟩))
   go_ret
   exact ⟨rr_, lb1_ HB.out GE121.out⟩
  ·
   replace c5 := Bool.eq_false_iff.mpr c5
   subst c5
   have H1 : (some false) = some r := by rw [if_neg (show ¬ (false = true) by decide)] at H; exact H
   clear H
   have H := H1
   clear H1
   obtain rfl := Option.some.inj H
   go_enter Tryd.func57, Tryd.ntmps57
   go_wp2_with (first | ((with_reducible refine gate_dst (N := 1) rfl ?_); refine box_event ?hg (N := 1) ?hd (cs := #[.string a0_0, .int .i64 a0_1, .int .i64 a0_2]) (t := 29) ?hr ?_; (case hd => rfl); (case hg => rfl); (case hr => first | (go_simp; done) | (go_simp; rfl)); intro gb121 hg w11 hbox hb; have BK121 := Aside0.mk (hbox); have GW121 := Aside0.mk ((bz_ hg (lb0_ HB.out))); have GE121 := Aside0.mk ((bz_ hg (lb0_ HB.out))); replace HB := Aside0.mk (below_step (lb0_ HB.out) hb); clear hb hbox hg; obtain ⟨hcz12_0, hcz12_1, hcz12_2⟩ := cz3_ BK121.out; obtain ⟨hfz12_0, hfz12_1, hfz12_2⟩ := fz3_ BK121.out) | ((with_reducible refine gate_callee (f := 95) rfl ?_); refine ga_ (some 5) Tryd.func95 #[.string a0_0] ?_; (with_reducible refine (impl_isWord.calls a0_0 true _ A2.out).mono ?_); rintro e w13 ⟨rfl, hb⟩; refine ⟨_, rfl, ?_⟩; replace BK121 := Aside0.mk (bb_ (bk_ BK121.out) hb); replace HB := Aside0.mk (below_step (lb1_ HB.out GE121.out) hb); (try clear hb); (try clear hb2); (try clear hk); (try clear hi); obtain ⟨hcz14_0, hcz14_1, hcz14_2⟩ := cz3_ BK121.out; obtain ⟨hfz14_0, hfz14_1, hfz14_2⟩ := fz3_ BK121.out) | (go_at_call 73; (with_reducible refine (impl_within.calls a0_1 0 99 false _ A4.out).mono ?_); rintro e w' ⟨rfl, ⟨nd, rfl⟩⟩))
   go_ret
   exact ⟨rr_, lb1_ HB.out GE121.out⟩
 ·
  replace c3 := Bool.eq_false_iff.mpr c3
  subst c3
  have H1 : (some false) = some r := by rw [if_neg (show ¬ (false = true) by decide)] at H; exact H
  clear H
  have H := H1
  clear H1
  obtain rfl := Option.some.inj H
  go_enter Tryd.func57, Tryd.ntmps57
  go_wp2_with (first | ((with_reducible refine gate_dst (N := 1) rfl ?_); refine box_event ?hg (N := 1) ?hd (cs := #[.string a0_0, .int .i64 a0_1, .int .i64 a0_2]) (t := 29) ?hr ?_; (case hd => rfl); (case hg => rfl); (case hr => first | (go_simp; done) | (go_simp; rfl)); intro gb121 hg w15 hbox hb; have BK121 := Aside0.mk (hbox); have GW121 := Aside0.mk ((bz_ hg (lb0_ HB.out))); have GE121 := Aside0.mk ((bz_ hg (lb0_ HB.out))); replace HB := Aside0.mk (below_step (lb0_ HB.out) hb); clear hb hbox hg; obtain ⟨hcz16_0, hcz16_1, hcz16_2⟩ := cz3_ BK121.out; obtain ⟨hfz16_0, hfz16_1, hfz16_2⟩ := fz3_ BK121.out) | ((with_reducible refine gate_callee (f := 95) rfl ?_); refine ga_ (some 5) Tryd.func95 #[.string a0_0] ?_; (with_reducible refine (impl_isWord.calls a0_0 false _ A2.out).mono ?_); rintro e w17 ⟨rfl, hb⟩; refine ⟨_, rfl, ?_⟩; replace BK121 := Aside0.mk (bb_ (bk_ BK121.out) hb); replace HB := Aside0.mk (below_step (lb1_ HB.out GE121.out) hb); (try clear hb); (try clear hb2); (try clear hk); (try clear hi)))
  go_ret
  exact ⟨rr_, lb1_ HB.out GE121.out⟩
def impl_isPlace.f (a0 : Int) : Option (Bool) := (impl_within.f a0 0 3).bind fun t125 => (some t125)
set_option maxHeartbeats 8000000 in
set_option maxRecDepth 100000 in
theorem impl_isPlace.calls (a0 : Int) (r : Bool) (w : World) (h : impl_isPlace.f a0 = some r) :
  Calls Tryd.prog 58 #[.int .i64 a0] w fun e w' => e = .returned (.bool r) ∧ Drawn0 w w' := by
 have H : ((impl_within.f a0 0 3).bind fun t125 => (some t125)) = some r := h
 clear h
 replace H := Option.bind_eq_some_iff.mp H
 obtain ⟨t125, A20, H⟩ := H
 replace H : (some t125) = some r := H
 have A2 := Aside0.mk A20
 clear A20
 obtain rfl := Option.some.inj H
 go_enter Tryd.func58, Tryd.ntmps58
 go_wp2_with (first | ((with_reducible refine gate_callee (f := 73) rfl ?_); refine ga_ (some 4) Tryd.func73 #[.int .i64 a0, .int .i64 0, .int .i64 3] ?_; (with_reducible refine (impl_within.calls a0 0 3 t125 _ A2.out).mono ?_); rintro e w' ⟨rfl, ⟨nd, rfl⟩⟩; refine ⟨_, rfl, ?_⟩))
 go_ret
 exact ⟨by first | rfl | (simp; done) | (simp [*]; done), by repeat (first | exact Drawn0.refl _ | apply Drawn0.step)⟩
def impl_boxFor.f (a0_0 : ByteArray) (a0_1 : Int) (a0_2 : Int) (a1 : Int) : Option (Int × Int × Int × Int) :=
 some ((if a1 ≥ 2 then wrap64 (a0_1 - (a0_0.size : Int)) else wrap64 (a0_1 + 1)), (if Int.tmod a1 2 = 1 then wrap64 (a0_2 - 2) else wrap64 (a0_2 + 1)), (a0_0.size : Int), 2)
set_option maxHeartbeats 4000000 in
set_option maxRecDepth 100000 in
theorem impl_boxFor.calls (a0_0 : ByteArray) (a0_1 : Int) (a0_2 : Int) (a1 : Int) (r1 : Int) (r2 : Int) (r3 : Int) (r4 : Int) (w : World) (h : impl_boxFor.f a0_0 a0_1 a0_2 a1 = some (r1, r2, r3, r4)) :
  Calls Tryd.prog 59 #[.agg #[.string a0_0, .int .i64 a0_1, .int .i64 a0_2], .int .i64 a1] w fun e w' => e = .returned (.agg #[.int .i64 r1, .int .i64 r2, .int .i64 r3, .int .i64 r4]) ∧ Below w.heap.size w w' := by
 unfold impl_boxFor.f at h
 simp only [Option.some.injEq, Prod.mk.injEq] at h
 obtain ⟨h1, h2, rfl, rfl⟩ := h
 by_cases c3 : a1 ≥ 2
 ·
  rw [if_pos c3] at h1
  have b3 : decide (2 ≤ a1) = true := decide_eq_true c3
  clear c3
  by_cases c4 : Int.tmod a1 2 = 1
  ·
   rw [if_pos c4] at h2
   have b4 : (Int.tmod a1 2 == 1) = true := beq_iff_eq.mpr c4
   clear c4
   subst h1
   subst h2
   go_enter Tryd.func59, Tryd.ntmps59
   go_wp2_with fail
   exact bodyPost_ret (v := .agg #[.int .i64 (wrap64 (a0_1 - (a0_0.size : Int))), .int .i64 (wrap64 (a0_2 - 2)), .int .i64 (a0_0.size : Int), .int .i64 2]) (by simp [results, Tryd.results59, go_sem]) rfl ⟨rfl, below_alloc (below_alloc (below_alloc (Below.refl _ w) _) _) _⟩
  ·
   rw [if_neg c4] at h2
   have b4 : (Int.tmod a1 2 == 1) = false := beq_eq_false_iff_ne.mpr c4
   clear c4
   subst h1
   subst h2
   go_enter Tryd.func59, Tryd.ntmps59
   go_wp2_with fail
   exact bodyPost_ret (v := .agg #[.int .i64 (wrap64 (a0_1 - (a0_0.size : Int))), .int .i64 (wrap64 (a0_2 + 1)), .int .i64 (a0_0.size : Int), .int .i64 2]) (by simp [results, Tryd.results59, go_sem]) rfl ⟨rfl, below_alloc (below_alloc (below_alloc (Below.refl _ w) _) _) _⟩
 ·
  rw [if_neg c3] at h1
  have b3 : decide (2 ≤ a1) = false := decide_eq_false c3
  clear c3
  by_cases c4 : Int.tmod a1 2 = 1
  ·
   rw [if_pos c4] at h2
   have b4 : (Int.tmod a1 2 == 1) = true := beq_iff_eq.mpr c4
   clear c4
   subst h1
   subst h2
   go_enter Tryd.func59, Tryd.ntmps59
   go_wp2_with fail
   exact bodyPost_ret (v := .agg #[.int .i64 (wrap64 (a0_1 + 1)), .int .i64 (wrap64 (a0_2 - 2)), .int .i64 (a0_0.size : Int), .int .i64 2]) (by simp [results, Tryd.results59, go_sem]) rfl ⟨rfl, below_alloc (below_alloc (below_alloc (Below.refl _ w) _) _) _⟩
  ·
   rw [if_neg c4] at h2
   have b4 : (Int.tmod a1 2 == 1) = false := beq_eq_false_iff_ne.mpr c4
   clear c4
   subst h1
   subst h2
   go_enter Tryd.func59, Tryd.ntmps59
   go_wp2_with fail
   exact bodyPost_ret (v := .agg #[.int .i64 (wrap64 (a0_1 + 1)), .int .i64 (wrap64 (a0_2 + 1)), .int .i64 (a0_0.size : Int), .int .i64 2]) (by simp [results, Tryd.results59, go_sem]) rfl ⟨rfl, below_alloc (below_alloc (below_alloc (Below.refl _ w) _) _) _⟩
def impl_BoxFor.f (a0_0 : ByteArray) (a0_1 : Int) (a0_2 : Int) (a1 : Int) : Option (Int × Int × Int × Int × Bool) := (impl_isLabel.f a0_0 a0_1 a0_2).bind fun t128 => (if t128 = true then ((impl_isPlace.f a1).bind fun t129 => (if t129 = true then ((impl_boxFor.f a0_0 a0_1 a0_2 a1).bind fun bt130 => (some (bt130.1, bt130.2.1, bt130.2.2.1, bt130.2.2.2, true))) else (some (0, 0, 0, 0, false)))) else (some (0, 0, 0, 0, false)))
set_option maxHeartbeats 8000000 in
set_option maxRecDepth 100000 in
theorem impl_BoxFor.calls (a0_0 : ByteArray) (a0_1 : Int) (a0_2 : Int) (a1 : Int) (r1 : Int) (r2 : Int) (r3 : Int) (r4 : Int) (r5 : Bool) (w : World) (h : impl_BoxFor.f a0_0 a0_1 a0_2 a1 = some (r1, r2, r3, r4, r5)) :
  Calls Tryd.prog 16 #[.agg #[.string a0_0, .int .i64 a0_1, .int .i64 a0_2], .int .i64 a1] w fun e w' => e = .returned (.tuple #[.agg #[.int .i64 r1, .int .i64 r2, .int .i64 r3, .int .i64 r4], .bool r5]) ∧ Below w.heap.size w w' := by
 have hu29 := Tryd.underlying29
 have hu26 := Tryd.underlying26
 have HB := Aside0.mk (Below.refl w.heap.size w)
 have H : ((impl_isLabel.f a0_0 a0_1 a0_2).bind fun t128 => (if t128 = true then ((impl_isPlace.f a1).bind fun t129 => (if t129 = true then ((impl_boxFor.f a0_0 a0_1 a0_2 a1).bind fun bt130 => (some (bt130.1, bt130.2.1, bt130.2.2.1, bt130.2.2.2, true))) else (some (0, 0, 0, 0, false)))) else (some (0, 0, 0, 0, false)))) = some (r1, r2, r3, r4, r5) := h
 clear h
 replace H := Option.bind_eq_some_iff.mp H
 obtain ⟨t128, A30, H⟩ := H
 replace H : (if t128 = true then ((impl_isPlace.f a1).bind fun t129 => (if t129 = true then ((impl_boxFor.f a0_0 a0_1 a0_2 a1).bind fun bt130 => (some (bt130.1, bt130.2.1, bt130.2.2.1, bt130.2.2.2, true))) else (some (0, 0, 0, 0, false)))) else (some (0, 0, 0, 0, false))) = some (r1, r2, r3, r4, r5) := H
 have A3 := Aside0.mk A30
 clear A30
 by_cases c4 : t128 = true
 ·
  subst c4
  have H1 : ((impl_isPlace.f a1).bind fun t129 => (if t129 = true then ((impl_boxFor.f a0_0 a0_1 a0_2 a1).bind fun bt130 => (some (bt130.1, bt130.2.1, bt130.2.2.1, bt130.2.2.2, true))) else (some (0, 0, 0, 0, false)))) = some (r1, r2, r3, r4, r5) := by rw [if_pos rfl] at H; exact H
  clear H
  have H := H1
  clear H1
  replace H := Option.bind_eq_some_iff.mp H
  obtain ⟨t129, A50, H⟩ := H
  replace H : (if t129 = true then ((impl_boxFor.f a0_0 a0_1 a0_2 a1).bind fun bt130 => (some (bt130.1, bt130.2.1, bt130.2.2.1, bt130.2.2.2, true))) else (some (0, 0, 0, 0, false))) = some (r1, r2, r3, r4, r5) := H
  have A5 := Aside0.mk A50
  clear A50
  by_cases c6 : t129 = true
  ·
   subst c6
   have H1 : ((impl_boxFor.f a0_0 a0_1 a0_2 a1).bind fun bt130 => (some (bt130.1, bt130.2.1, bt130.2.2.1, bt130.2.2.2, true))) = some (r1, r2, r3, r4, r5) := by rw [if_pos rfl] at H; exact H
   clear H
   have H := H1
   clear H1
   replace H := Option.bind_eq_some_iff.mp H
   obtain ⟨⟨t130, t131, t132, t133⟩, A70, H⟩ := H
   replace H : (some (t130, t131, t132, t133, true)) = some (r1, r2, r3, r4, r5) := H
   have A7 := Aside0.mk A70
   clear A70
   simp only [Option.some.injEq, Prod.mk.injEq] at H
   obtain ⟨rfl, rfl, rfl, rfl, rfl⟩ := H
   go_enter Tryd.func16, Tryd.ntmps16
   go_wp2_with (first | ((with_reducible refine gate_dst (N := 2) rfl ?_); refine box_event ?hg (N := 2) ?hd (cs := #[.string a0_0, .int .i64 a0_1, .int .i64 a0_2]) (t := 29) ?hr ?_; (case hd => rfl); (case hg => rfl); (case hr => first | (go_simp; done) | (go_simp; rfl)); intro gb126 hg w8 hbox hb; have BK126 := Aside0.mk (hbox); have GW126 := Aside0.mk ((bz_ hg (lb0_ HB.out))); have GE126 := Aside0.mk ((bz_ hg (lb0_ HB.out))); replace HB := Aside0.mk (below_step (lb0_ HB.out) hb); clear hb hbox hg) | ((with_reducible refine gate_dst (N := 4) rfl ?_); refine box_event ?hg (N := 4) ?hd (cs := #[.int .i64 0, .int .i64 0, .int .i64 0, .int .i64 0]) (t := 26) ?hr ?_; (case hd => rfl); (case hg => rfl); (case hr => first | (go_simp; done) | (go_simp; rfl)); intro gb127 hg w9 hbox hb; have BK127 := Aside0.mk (hbox); have GW127 := Aside0.mk ((bz_ hg (lb1_ HB.out GE126.out))); have GE127 := Aside0.mk ((bz_ hg (lb1_ HB.out GE126.out))); replace HB := Aside0.mk (below_step (lb1_ HB.out GE126.out) hb); have NB126_127 := Aside0.mk (nl_ hg BK126.out); have NB127_126 := Aside0.mk (ng_ hg BK126.out); replace BK126 := Aside0.mk (bb_ (bk_ BK126.out) hb); clear hb hbox hg; have hnb10 := NB126_127.out; have hnc10 := NB127_126.out; obtain ⟨hcz11_0, hcz11_1, hcz11_2⟩ := cz3_ BK126.out; obtain ⟨hfz11_0, hfz11_1, hfz11_2⟩ := fz3_ BK126.out) | ((with_reducible refine gate_callee (f := 57) rfl ?_); refine ga_ (some 7) Tryd.func57 #[.agg #[.string a0_0, .int .i64 a0_1, .int .i64 a0_2]] ?_; (with_reducible refine (impl_isLabel.calls a0_0 a0_1 a0_2 true _ A3.out).mono ?_); rintro e w12 ⟨rfl, hb⟩; refine ⟨_, rfl, ?_⟩; replace BK126 := Aside0.mk (bb_ (bk_ BK126.out) hb); replace BK127 := Aside0.mk (bb_ (bk_ BK127.out) hb); replace HB := Aside0.mk (below_step (lb2_ HB.out GE126.out GE127.out) hb); (try clear hb); (try clear hb2); (try clear hk); (try clear hi)) | (go_at_call 58; (with_reducible refine (impl_isPlace.calls a1 true _ A5.out).mono ?_); rintro e w' ⟨rfl, ⟨nd, rfl⟩⟩; (try (rw [drewN_self w12]; generalize hq_ : World.drewN w12 _ = w12; have n0_ : Aside0 (w12.heap[gb126]? = some (.cells #[.string a0_0, .int .i64 a0_1, .int .i64 a0_2] 29 (0, 0))) := ⟨by rw [← hq_]; exact (bk_ BK126.out)⟩; have n1_ : Aside0 (w12.heap[gb127]? = some (.cells #[.int .i64 0, .int .i64 0, .int .i64 0, .int .i64 0] 26 (0, 0))) := ⟨by rw [← hq_]; exact (bk_ BK127.out)⟩; have n2_ : Aside0 (Below w.heap.size w w12) := ⟨by rw [← hq_]; exact (lb2_ HB.out GE126.out GE127.out)⟩; clear BK126 BK127 HB hq_; have BK126 := n0_; have BK127 := n1_; have HB := n2_; clear n0_ n1_ n2_)); obtain ⟨hcz13_0, hcz13_1, hcz13_2⟩ := cz3_ BK126.out; obtain ⟨hfz13_0, hfz13_1, hfz13_2⟩ := fz3_ BK126.out) | ((with_reducible refine gate_callee (f := 59) rfl ?_); refine ga_ (some 17) Tryd.func59 #[.agg #[.string a0_0, .int .i64 a0_1, .int .i64 a0_2], .int .i64 a1] ?_; (with_reducible refine (impl_boxFor.calls a0_0 a0_1 a0_2 a1 t130 t131 t132 t133 _ A7.out).mono ?_); rintro e w14 ⟨rfl, hb⟩; refine ⟨_, rfl, ?_⟩; replace BK126 := Aside0.mk (bb_ (bk_ BK126.out) hb); replace BK127 := Aside0.mk (bb_ (bk_ BK127.out) hb); replace HB := Aside0.mk (below_step (lb2_ HB.out GE126.out GE127.out) hb); (try clear hb); (try clear hb2); (try clear hk); (try clear hi); obtain ⟨hcz15_0, hcz15_1, hcz15_2, hcz15_3⟩ := cz4_ BK127.out; obtain ⟨hfz15_0, hfz15_1, hfz15_2, hfz15_3⟩ := fz4_ BK127.out))
   refine bodyPost_ret (results_ct rfl _ _ gb127 26 #[.int .i64 t130, .int .i64 t131, .int .i64 t132, .int .i64 t133] (0, 0) _ rfl (by (with_reducible repeat (first | refine blk_drewN ?_ _ | refine blk_drew ?_ | refine blk_alloc ?_ _)); refine blk_put (cs := #[.int .i64 t130, .int .i64 t131, .int .i64 t132, .int .i64 0]) ?_ 3 _ rfl; (with_reducible repeat (first | refine blk_drewN ?_ _ | refine blk_drew ?_ | refine blk_alloc ?_ _)); refine blk_put (cs := #[.int .i64 t130, .int .i64 t131, .int .i64 0, .int .i64 0]) ?_ 2 _ rfl; (with_reducible repeat (first | refine blk_drewN ?_ _ | refine blk_drew ?_ | refine blk_alloc ?_ _)); refine blk_put (cs := #[.int .i64 t130, .int .i64 0, .int .i64 0, .int .i64 0]) ?_ 1 _ rfl; (with_reducible repeat (first | refine blk_drewN ?_ _ | refine blk_drew ?_ | refine blk_alloc ?_ _)); refine blk_put (cs := #[.int .i64 0, .int .i64 0, .int .i64 0, .int .i64 0]) ?_ 0 _ rfl; (with_reducible repeat (first | refine blk_drewN ?_ _ | refine blk_drew ?_ | refine blk_alloc ?_ _)); exact BK127.out) Tryd.underlying26 rfl (by kernel_rfl)) rfl ?_
   exact ⟨rr_, lb2_ HB.out GE126.out GE127.out⟩
  ·
   replace c6 := Bool.eq_false_iff.mpr c6
   subst c6
   have H1 : (some (0, 0, 0, 0, false)) = some (r1, r2, r3, r4, r5) := by rw [if_neg (show ¬ (false = true) by decide)] at H; exact H
   clear H
   have H := H1
   clear H1
   simp only [Option.some.injEq, Prod.mk.injEq] at H
   obtain ⟨rfl, rfl, rfl, rfl, rfl⟩ := H
   go_enter Tryd.func16, Tryd.ntmps16
   go_wp2_with (first | ((with_reducible refine gate_dst (N := 2) rfl ?_); refine box_event ?hg (N := 2) ?hd (cs := #[.string a0_0, .int .i64 a0_1, .int .i64 a0_2]) (t := 29) ?hr ?_; (case hd => rfl); (case hg => rfl); (case hr => first | (go_simp; done) | (go_simp; rfl)); intro gb126 hg w16 hbox hb; have BK126 := Aside0.mk (hbox); have GW126 := Aside0.mk ((bz_ hg (lb0_ HB.out))); have GE126 := Aside0.mk ((bz_ hg (lb0_ HB.out))); replace HB := Aside0.mk (below_step (lb0_ HB.out) hb); clear hb hbox hg) | ((with_reducible refine gate_dst (N := 4) rfl ?_); refine box_event ?hg (N := 4) ?hd (cs := #[.int .i64 0, .int .i64 0, .int .i64 0, .int .i64 0]) (t := 26) ?hr ?_; (case hd => rfl); (case hg => rfl); (case hr => first | (go_simp; done) | (go_simp; rfl)); intro gb127 hg w17 hbox hb; have BK127 := Aside0.mk (hbox); have GW127 := Aside0.mk ((bz_ hg (lb1_ HB.out GE126.out))); have GE127 := Aside0.mk ((bz_ hg (lb1_ HB.out GE126.out))); replace HB := Aside0.mk (below_step (lb1_ HB.out GE126.out) hb); have NB126_127 := Aside0.mk (nl_ hg BK126.out); have NB127_126 := Aside0.mk (ng_ hg BK126.out); replace BK126 := Aside0.mk (bb_ (bk_ BK126.out) hb); clear hb hbox hg; have hnb18 := NB126_127.out; have hnc18 := NB127_126.out; obtain ⟨hcz19_0, hcz19_1, hcz19_2⟩ := cz3_ BK126.out; obtain ⟨hfz19_0, hfz19_1, hfz19_2⟩ := fz3_ BK126.out) | ((with_reducible refine gate_callee (f := 57) rfl ?_); refine ga_ (some 7) Tryd.func57 #[.agg #[.string a0_0, .int .i64 a0_1, .int .i64 a0_2]] ?_; (with_reducible refine (impl_isLabel.calls a0_0 a0_1 a0_2 true _ A3.out).mono ?_); rintro e w20 ⟨rfl, hb⟩; refine ⟨_, rfl, ?_⟩; replace BK126 := Aside0.mk (bb_ (bk_ BK126.out) hb); replace BK127 := Aside0.mk (bb_ (bk_ BK127.out) hb); replace HB := Aside0.mk (below_step (lb2_ HB.out GE126.out GE127.out) hb); (try clear hb); (try clear hb2); (try clear hk); (try clear hi)) | (go_at_call 58; (with_reducible refine (impl_isPlace.calls a1 false _ A5.out).mono ?_); rintro e w' ⟨rfl, ⟨nd, rfl⟩⟩; (try (rw [drewN_self w20]; generalize hq_ : World.drewN w20 _ = w20; have n0_ : Aside0 (w20.heap[gb126]? = some (.cells #[.string a0_0, .int .i64 a0_1, .int .i64 a0_2] 29 (0, 0))) := ⟨by rw [← hq_]; exact (bk_ BK126.out)⟩; have n1_ : Aside0 (w20.heap[gb127]? = some (.cells #[.int .i64 0, .int .i64 0, .int .i64 0, .int .i64 0] 26 (0, 0))) := ⟨by rw [← hq_]; exact (bk_ BK127.out)⟩; have n2_ : Aside0 (Below w.heap.size w w20) := ⟨by rw [← hq_]; exact (lb2_ HB.out GE126.out GE127.out)⟩; clear BK126 BK127 HB hq_; have BK126 := n0_; have BK127 := n1_; have HB := n2_; clear n0_ n1_ n2_)); obtain ⟨hcz21_0, hcz21_1, hcz21_2, hcz21_3⟩ := cz4_ BK127.out; obtain ⟨hfz21_0, hfz21_1, hfz21_2, hfz21_3⟩ := fz4_ BK127.out))
   refine bodyPost_ret (results_ct rfl _ _ gb127 26 #[.int .i64 0, .int .i64 0, .int .i64 0, .int .i64 0] (0, 0) _ rfl (by (with_reducible repeat (first | refine blk_drewN ?_ _ | refine blk_drew ?_ | refine blk_alloc ?_ _)); refine blk_put (cs := #[.int .i64 0, .int .i64 0, .int .i64 0, .int .i64 0]) ?_ 3 _ rfl; (with_reducible repeat (first | refine blk_drewN ?_ _ | refine blk_drew ?_ | refine blk_alloc ?_ _)); refine blk_put (cs := #[.int .i64 0, .int .i64 0, .int .i64 0, .int .i64 0]) ?_ 2 _ rfl; (with_reducible repeat (first | refine blk_drewN ?_ _ | refine blk_drew ?_ | refine blk_alloc ?_ _)); refine blk_put (cs := #[.int .i64 0, .int .i64 0, .int .i64 0, .int .i64 0]) ?_ 1 _ rfl; (with_reducible repeat (first | refine blk_drewN ?_ _ | refine blk_drew ?_ | refine blk_alloc ?_ _)); refine blk_put (cs := #[.int .i64 0, .int .i64 0, .int .i64 0, .int .i64 0]) ?_ 0 _ rfl; (with_reducible repeat (first | refine blk_drewN ?_ _ | refine blk_drew ?_ | refine blk_alloc ?_ _)); exact BK127.out) Tryd.underlying26 rfl (by kernel_rfl)) rfl ?_
   exact ⟨rr_, lb2_ HB.out GE126.out GE127.out⟩
 ·
  replace c4 := Bool.eq_false_iff.mpr c4
  subst c4
  have H1 : (some (0, 0, 0, 0, false)) = some (r1, r2, r3, r4, r5) := by rw [if_neg (show ¬ (false = true) by decide)] at H; exact H
  clear H
  have H := H1
  clear H1
  simp only [Option.some.injEq, Prod.mk.injEq] at H
  obtain ⟨rfl, rfl, rfl, rfl, rfl⟩ := H
  go_enter Tryd.func16, Tryd.ntmps16
  go_wp2_with (first | ((with_reducible refine gate_dst (N := 2) rfl ?_); refine box_event ?hg (N := 2) ?hd (cs := #[.string a0_0, .int .i64 a0_1, .int .i64 a0_2]) (t := 29) ?hr ?_; (case hd => rfl); (case hg => rfl); (case hr => first | (go_simp; done) | (go_simp; rfl)); intro gb126 hg w22 hbox hb; have BK126 := Aside0.mk (hbox); have GW126 := Aside0.mk ((bz_ hg (lb0_ HB.out))); have GE126 := Aside0.mk ((bz_ hg (lb0_ HB.out))); replace HB := Aside0.mk (below_step (lb0_ HB.out) hb); clear hb hbox hg) | ((with_reducible refine gate_dst (N := 4) rfl ?_); refine box_event ?hg (N := 4) ?hd (cs := #[.int .i64 0, .int .i64 0, .int .i64 0, .int .i64 0]) (t := 26) ?hr ?_; (case hd => rfl); (case hg => rfl); (case hr => first | (go_simp; done) | (go_simp; rfl)); intro gb127 hg w23 hbox hb; have BK127 := Aside0.mk (hbox); have GW127 := Aside0.mk ((bz_ hg (lb1_ HB.out GE126.out))); have GE127 := Aside0.mk ((bz_ hg (lb1_ HB.out GE126.out))); replace HB := Aside0.mk (below_step (lb1_ HB.out GE126.out) hb); have NB126_127 := Aside0.mk (nl_ hg BK126.out); have NB127_126 := Aside0.mk (ng_ hg BK126.out); replace BK126 := Aside0.mk (bb_ (bk_ BK126.out) hb); clear hb hbox hg; have hnb24 := NB126_127.out; have hnc24 := NB127_126.out; obtain ⟨hcz25_0, hcz25_1, hcz25_2⟩ := cz3_ BK126.out; obtain ⟨hfz25_0, hfz25_1, hfz25_2⟩ := fz3_ BK126.out) | ((with_reducible refine gate_callee (f := 57) rfl ?_); refine ga_ (some 7) Tryd.func57 #[.agg #[.string a0_0, .int .i64 a0_1, .int .i64 a0_2]] ?_; (with_reducible refine (impl_isLabel.calls a0_0 a0_1 a0_2 false _ A3.out).mono ?_); rintro e w26 ⟨rfl, hb⟩; refine ⟨_, rfl, ?_⟩; replace BK126 := Aside0.mk (bb_ (bk_ BK126.out) hb); replace BK127 := Aside0.mk (bb_ (bk_ BK127.out) hb); replace HB := Aside0.mk (below_step (lb2_ HB.out GE126.out GE127.out) hb); (try clear hb); (try clear hb2); (try clear hk); (try clear hi); obtain ⟨hcz27_0, hcz27_1, hcz27_2, hcz27_3⟩ := cz4_ BK127.out; obtain ⟨hfz27_0, hfz27_1, hfz27_2, hfz27_3⟩ := fz4_ BK127.out))
  refine bodyPost_ret (results_ct rfl _ _ gb127 26 #[.int .i64 0, .int .i64 0, .int .i64 0, .int .i64 0] (0, 0) _ rfl (by (with_reducible repeat (first | refine blk_drewN ?_ _ | refine blk_drew ?_ | refine blk_alloc ?_ _)); refine blk_put (cs := #[.int .i64 0, .int .i64 0, .int .i64 0, .int .i64 0]) ?_ 3 _ rfl; (with_reducible repeat (first | refine blk_drewN ?_ _ | refine blk_drew ?_ | refine blk_alloc ?_ _)); refine blk_put (cs := #[.int .i64 0, .int .i64 0, .int .i64 0, .int .i64 0]) ?_ 2 _ rfl; (with_reducible repeat (first | refine blk_drewN ?_ _ | refine blk_drew ?_ | refine blk_alloc ?_ _)); refine blk_put (cs := #[.int .i64 0, .int .i64 0, .int .i64 0, .int .i64 0]) ?_ 1 _ rfl; (with_reducible repeat (first | refine blk_drewN ?_ _ | refine blk_drew ?_ | refine blk_alloc ?_ _)); refine blk_put (cs := #[.int .i64 0, .int .i64 0, .int .i64 0, .int .i64 0]) ?_ 0 _ rfl; (with_reducible repeat (first | refine blk_drewN ?_ _ | refine blk_drew ?_ | refine blk_alloc ?_ _)); exact BK127.out) Tryd.underlying26 rfl (by kernel_rfl)) rfl ?_
  exact ⟨rr_, lb2_ HB.out GE126.out GE127.out⟩
def spec_l24Good.l0 : Nat → List (S29) → Int → Option (Bool)
 | 0, _, _ => none
 | k + 1, x0, x3 => if x3 < (x0.length : Int) then (if 0 ≤ x3 then ((spec_l24One.f k ((rd_T29 x0 x3).f0) ((rd_T29 x0 x3).f1) ((rd_T29 x0 x3).f2)).bind fun t160 => (if t160 = true then (spec_l24Good.l0 k x0 (wrap64 (x3 + 1))) else (some false))) else (none)) else (some (decide ((x0.length : Int) ≤ 6)))
def spec_l24Good.f (k : Nat) (l0 : List (S29)) : Option (Bool) := spec_l24Good.l0 k l0 0
set_option maxHeartbeats 8000000 in
set_option maxRecDepth 100000 in
theorem spec_l24Good.calls (k : Nat) (A0 : Option Addr) (c0 : Nat) (l0 : List (S29)) (r : Bool) (w : World) (hr0 : Kd.C k29 w A0 l0.length l0) (hc0 : l0.length ≤ c0) (h : spec_l24Good.f k l0 = some r) :
  Calls Tryd.prog 60 #[.slice A0 l0.length c0] w fun e w' => e = .returned (.bool r) ∧ Below w.heap.size w w' := by
 have hu29 := Tryd.underlying29
 have HR0 := Aside0.mk hr0
 have HC0 := Aside0.mk hc0
 clear hr0 hc0
 have HB := Aside0.mk (Below.refl w.heap.size w)
 have H : (spec_l24Good.l0 k l0 0) = some r := h
 clear h
 have H' := Aside0.mk H
 clear H
 go_enter Tryd.func60, Tryd.ntmps60
 go_wp2
 go_loopg [3] k (fun kq v3 w' => ∃ (x3_1 : Int), v3 = .int .i64 x3_1 ∧ Aside0 (spec_l24Good.l0 kq l0 x3_1 = some r) ∧ Aside0 (kq ≤ k) ∧ Aside0 (Below w.heap.size w w'))
 case atStart => exact ⟨(0), (by first | rfl | (simp; done) | (simp [*]; done)), H', ⟨Nat.le_refl _⟩, ⟨lb0_ HB.out⟩⟩
 case round =>
  clear H'
  obtain ⟨x3_1, rfl, HA, HK1, HB⟩ := hrel
  cases gk with
  | zero => exact absurd HA.out (by simp [spec_l24Good.l0])
  | succ k1 =>
   have H := HA.out
   clear HA
   simp only [spec_l24Good.l0] at H
   by_cases c2 : x3_1 < (l0.length : Int)
   ·
    rw [if_pos c2] at H
    have c2b0 : decide (x3_1 < (l0.length : Int)) = true := decide_eq_true c2
    clear c2
    by_cases c3 : 0 ≤ x3_1
    ·
     rw [if_pos c3] at H
     have c3b0 : decide (0 ≤ x3_1) = true := decide_eq_true c3
     clear c3
     replace H := Option.bind_eq_some_iff.mp H
     obtain ⟨t160, A40, H⟩ := H
     replace H : (if t160 = true then (spec_l24Good.l0 k1 l0 (wrap64 (x3_1 + 1))) else (some false)) = some r := H
     have A4 := Aside0.mk A40
     clear A40
     by_cases c5 : t160 = true
     ·
      subst c5
      have H1 : (spec_l24Good.l0 k1 l0 (wrap64 (x3_1 + 1))) = some r := by rw [if_pos rfl] at H; exact H
      clear H
      have H := H1
      clear H1
      have H' := Aside0.mk H
      clear H
      have p159 : 0 ≤ (x3_1 : Int) := dt_
      have q159 : x3_1 < (l0.length : Int) := dt_
      obtain ⟨ad159, e159, hx159_0, hx159_1, hx159_2⟩ := at_T29 HR0.out x3_1 p159 q159
      cases e159
      replace hx159_0 := bc_ HB.out hx159_0
      replace hx159_1 := bc_ HB.out hx159_1
      replace hx159_2 := bc_ HB.out hx159_2
      replace p159 := eq_true p159
      replace q159 := eq_true q159
      go_wp2_with (first | ((with_reducible refine gate_callee (f := 54) rfl ?_); refine ga_ (some 14) Tryd.func54 #[.agg #[.string ((rd_T29 l0 x3_1).f0), .int .i64 ((rd_T29 l0 x3_1).f1), .int .i64 ((rd_T29 l0 x3_1).f2)]] ?_; (with_reducible refine (spec_l24One.calls k1 ((rd_T29 l0 x3_1).f0) ((rd_T29 l0 x3_1).f1) ((rd_T29 l0 x3_1).f2) true _ A4.out).mono ?_); rintro e w6 ⟨rfl, hb⟩; refine ⟨_, rfl, ?_⟩; replace HB := Aside0.mk (below_step (lb0_ HB.out) hb); (try clear hb); (try clear hb2); (try clear hk); (try clear hi)))
      go_roundg k1
      case measure => have := HK1.out; omega
      case rel => exact ⟨(wrap64 (x3_1 + 1)), (by first | rfl | (simp; done) | (simp [*]; done)), H', ⟨by have := HK1.out; omega⟩, ⟨lb0_ HB.out⟩⟩
     ·
      replace c5 := Bool.eq_false_iff.mpr c5
      subst c5
      have H1 : (some false) = some r := by rw [if_neg (show ¬ (false = true) by decide)] at H; exact H
      clear H
      have H := H1
      clear H1
      obtain rfl := Option.some.inj H
      have p159 : 0 ≤ (x3_1 : Int) := dt_
      have q159 : x3_1 < (l0.length : Int) := dt_
      obtain ⟨ad159, e159, hx159_0, hx159_1, hx159_2⟩ := at_T29 HR0.out x3_1 p159 q159
      cases e159
      replace hx159_0 := bc_ HB.out hx159_0
      replace hx159_1 := bc_ HB.out hx159_1
      replace hx159_2 := bc_ HB.out hx159_2
      replace p159 := eq_true p159
      replace q159 := eq_true q159
      go_wp2_with (first | ((with_reducible refine gate_callee (f := 54) rfl ?_); refine ga_ (some 14) Tryd.func54 #[.agg #[.string ((rd_T29 l0 x3_1).f0), .int .i64 ((rd_T29 l0 x3_1).f1), .int .i64 ((rd_T29 l0 x3_1).f2)]] ?_; (with_reducible refine (spec_l24One.calls k1 ((rd_T29 l0 x3_1).f0) ((rd_T29 l0 x3_1).f1) ((rd_T29 l0 x3_1).f2) false _ A4.out).mono ?_); rintro e w7 ⟨rfl, hb⟩; refine ⟨_, rfl, ?_⟩; replace HB := Aside0.mk (below_step (lb0_ HB.out) hb); (try clear hb); (try clear hb2); (try clear hk); (try clear hi)))
      go_ret
      exact ⟨rr_, lb0_ HB.out⟩
    ·
     rw [if_neg c3] at H
     exact absurd H (by simp)
   ·
    rw [if_neg c2] at H
    have c2b0 : decide (x3_1 < (l0.length : Int)) = false := decide_eq_false c2
    clear c2
    obtain rfl := Option.some.inj H
    go_wp2
    go_ret
    exact ⟨rr_, lb0_ HB.out⟩
def spec_l24Meet.f (a0_0 : Int) (a0_1 : Int) (a0_2 : Int) (a0_3 : Int) (a1_0 : Int) (a1_1 : Int) (a1_2 : Int) (a1_3 : Int) : Option (Bool) := if a0_2 = 0 then (some false) else (if a0_3 = 0 then (some false) else (if a1_2 = 0 then (some false) else (if a1_3 = 0 then (some false) else (if a0_0 < (wrap64 (a1_0 + a1_2)) then (if a1_0 < (wrap64 (a0_0 + a0_2)) then (if a0_1 < (wrap64 (a1_1 + a1_3)) then (some (decide (a1_1 < (wrap64 (a0_1 + a0_3))))) else (some false)) else (some false)) else (some false)))))
set_option maxHeartbeats 8000000 in
set_option maxRecDepth 100000 in
theorem spec_l24Meet.calls (a0_0 : Int) (a0_1 : Int) (a0_2 : Int) (a0_3 : Int) (a1_0 : Int) (a1_1 : Int) (a1_2 : Int) (a1_3 : Int) (r : Bool) (w : World) (h : spec_l24Meet.f a0_0 a0_1 a0_2 a0_3 a1_0 a1_1 a1_2 a1_3 = some r) :
  Calls Tryd.prog 92 #[.agg #[.int .i64 a0_0, .int .i64 a0_1, .int .i64 a0_2, .int .i64 a0_3], .agg #[.int .i64 a1_0, .int .i64 a1_1, .int .i64 a1_2, .int .i64 a1_3]] w fun e w' => e = .returned (.bool r) ∧ Below w.heap.size w w' := by
 have hu26 := Tryd.underlying26
 have HB := Aside0.mk (Below.refl w.heap.size w)
 have H : (if a0_2 = 0 then (some false) else (if a0_3 = 0 then (some false) else (if a1_2 = 0 then (some false) else (if a1_3 = 0 then (some false) else (if a0_0 < (wrap64 (a1_0 + a1_2)) then (if a1_0 < (wrap64 (a0_0 + a0_2)) then (if a0_1 < (wrap64 (a1_1 + a1_3)) then (some (decide (a1_1 < (wrap64 (a0_1 + a0_3))))) else (some false)) else (some false)) else (some false)))))) = some r := h
 clear h
 by_cases c3 : a0_2 = 0
 ·
  rw [if_pos c3] at H
  have c3b0 : (a0_2 == 0) = true := beq_iff_eq.mpr c3
  have c3b1 : (a0_2 != 0) = false := bne_eq_false_iff_eq.mpr c3
  clear c3
  obtain rfl := Option.some.inj H
  go_enter Tryd.func92, Tryd.ntmps92
  go_wp2_with (first | ((with_reducible refine gate_dst (N := 2) rfl ?_); refine box_event ?hg (N := 2) ?hd (cs := #[.int .i64 a0_0, .int .i64 a0_1, .int .i64 a0_2, .int .i64 a0_3]) (t := 26) ?hr ?_; (case hd => rfl); (case hg => rfl); (case hr => first | (go_simp; done) | (go_simp; rfl)); intro gb188 hg w4 hbox hb; have BK188 := Aside0.mk (hbox); have GW188 := Aside0.mk ((bz_ hg (lb0_ HB.out))); have GE188 := Aside0.mk ((bz_ hg (lb0_ HB.out))); replace HB := Aside0.mk (below_step (lb0_ HB.out) hb); clear hb hbox hg) | ((with_reducible refine gate_dst (N := 3) rfl ?_); refine box_event ?hg (N := 3) ?hd (cs := #[.int .i64 a1_0, .int .i64 a1_1, .int .i64 a1_2, .int .i64 a1_3]) (t := 26) ?hr ?_; (case hd => rfl); (case hg => rfl); (case hr => first | (go_simp; done) | (go_simp; rfl)); intro gb189 hg w5 hbox hb; have BK189 := Aside0.mk (hbox); have GW189 := Aside0.mk ((bz_ hg (lb1_ HB.out GE188.out))); have GE189 := Aside0.mk ((bz_ hg (lb1_ HB.out GE188.out))); replace HB := Aside0.mk (below_step (lb1_ HB.out GE188.out) hb); have NB188_189 := Aside0.mk (nl_ hg BK188.out); have NB189_188 := Aside0.mk (ng_ hg BK188.out); replace BK188 := Aside0.mk (bb_ (bk_ BK188.out) hb); clear hb hbox hg; have hnb6 := NB188_189.out; have hnc6 := NB189_188.out; obtain ⟨hcz7_0, hcz7_1, hcz7_2, hcz7_3⟩ := cz4_ BK188.out; obtain ⟨hfz7_0, hfz7_1, hfz7_2, hfz7_3⟩ := fz4_ BK188.out))
  go_ret
  exact ⟨rr_, lb2_ HB.out GE188.out GE189.out⟩
 ·
  rw [if_neg c3] at H
  have c3b0 : (a0_2 == 0) = false := beq_eq_false_iff_ne.mpr c3
  have c3b1 : (a0_2 != 0) = true := bne_iff_ne.mpr c3
  by_cases c8 : a0_3 = 0
  ·
   rw [if_pos c8] at H
   have c8b0 : (a0_3 == 0) = true := beq_iff_eq.mpr c8
   have c8b1 : (a0_3 != 0) = false := bne_eq_false_iff_eq.mpr c8
   clear c8
   obtain rfl := Option.some.inj H
   go_enter Tryd.func92, Tryd.ntmps92
   go_wp2_with (first | ((with_reducible refine gate_dst (N := 2) rfl ?_); refine box_event ?hg (N := 2) ?hd (cs := #[.int .i64 a0_0, .int .i64 a0_1, .int .i64 a0_2, .int .i64 a0_3]) (t := 26) ?hr ?_; (case hd => rfl); (case hg => rfl); (case hr => first | (go_simp; done) | (go_simp; rfl)); intro gb188 hg w9 hbox hb; have BK188 := Aside0.mk (hbox); have GW188 := Aside0.mk ((bz_ hg (lb0_ HB.out))); have GE188 := Aside0.mk ((bz_ hg (lb0_ HB.out))); replace HB := Aside0.mk (below_step (lb0_ HB.out) hb); clear hb hbox hg) | ((with_reducible refine gate_dst (N := 3) rfl ?_); refine box_event ?hg (N := 3) ?hd (cs := #[.int .i64 a1_0, .int .i64 a1_1, .int .i64 a1_2, .int .i64 a1_3]) (t := 26) ?hr ?_; (case hd => rfl); (case hg => rfl); (case hr => first | (go_simp; done) | (go_simp; rfl)); intro gb189 hg w10 hbox hb; have BK189 := Aside0.mk (hbox); have GW189 := Aside0.mk ((bz_ hg (lb1_ HB.out GE188.out))); have GE189 := Aside0.mk ((bz_ hg (lb1_ HB.out GE188.out))); replace HB := Aside0.mk (below_step (lb1_ HB.out GE188.out) hb); have NB188_189 := Aside0.mk (nl_ hg BK188.out); have NB189_188 := Aside0.mk (ng_ hg BK188.out); replace BK188 := Aside0.mk (bb_ (bk_ BK188.out) hb); clear hb hbox hg; have hnb11 := NB188_189.out; have hnc11 := NB189_188.out; obtain ⟨hcz12_0, hcz12_1, hcz12_2, hcz12_3⟩ := cz4_ BK188.out; obtain ⟨hfz12_0, hfz12_1, hfz12_2, hfz12_3⟩ := fz4_ BK188.out))
   go_ret
   exact ⟨rr_, lb2_ HB.out GE188.out GE189.out⟩
  ·
   rw [if_neg c8] at H
   have c8b0 : (a0_3 == 0) = false := beq_eq_false_iff_ne.mpr c8
   have c8b1 : (a0_3 != 0) = true := bne_iff_ne.mpr c8
   by_cases c13 : a1_2 = 0
   ·
    rw [if_pos c13] at H
    have c13b0 : (a1_2 == 0) = true := beq_iff_eq.mpr c13
    have c13b1 : (a1_2 != 0) = false := bne_eq_false_iff_eq.mpr c13
    clear c13
    obtain rfl := Option.some.inj H
    go_enter Tryd.func92, Tryd.ntmps92
    go_wp2_with (first | ((with_reducible refine gate_dst (N := 2) rfl ?_); refine box_event ?hg (N := 2) ?hd (cs := #[.int .i64 a0_0, .int .i64 a0_1, .int .i64 a0_2, .int .i64 a0_3]) (t := 26) ?hr ?_; (case hd => rfl); (case hg => rfl); (case hr => first | (go_simp; done) | (go_simp; rfl)); intro gb188 hg w14 hbox hb; have BK188 := Aside0.mk (hbox); have GW188 := Aside0.mk ((bz_ hg (lb0_ HB.out))); have GE188 := Aside0.mk ((bz_ hg (lb0_ HB.out))); replace HB := Aside0.mk (below_step (lb0_ HB.out) hb); clear hb hbox hg) | ((with_reducible refine gate_dst (N := 3) rfl ?_); refine box_event ?hg (N := 3) ?hd (cs := #[.int .i64 a1_0, .int .i64 a1_1, .int .i64 a1_2, .int .i64 a1_3]) (t := 26) ?hr ?_; (case hd => rfl); (case hg => rfl); (case hr => first | (go_simp; done) | (go_simp; rfl)); intro gb189 hg w15 hbox hb; have BK189 := Aside0.mk (hbox); have GW189 := Aside0.mk ((bz_ hg (lb1_ HB.out GE188.out))); have GE189 := Aside0.mk ((bz_ hg (lb1_ HB.out GE188.out))); replace HB := Aside0.mk (below_step (lb1_ HB.out GE188.out) hb); have NB188_189 := Aside0.mk (nl_ hg BK188.out); have NB189_188 := Aside0.mk (ng_ hg BK188.out); replace BK188 := Aside0.mk (bb_ (bk_ BK188.out) hb); clear hb hbox hg; have hnb16 := NB188_189.out; have hnc16 := NB189_188.out; obtain ⟨hcz17_0, hcz17_1, hcz17_2, hcz17_3⟩ := cz4_ BK188.out; obtain ⟨hfz17_0, hfz17_1, hfz17_2, hfz17_3⟩ := fz4_ BK188.out; obtain ⟨hcz18_0, hcz18_1, hcz18_2, hcz18_3⟩ := cz4_ BK189.out; obtain ⟨hfz18_0, hfz18_1, hfz18_2, hfz18_3⟩ := fz4_ BK189.out))
    go_ret
    exact ⟨rr_, lb2_ HB.out GE188.out GE189.out⟩
   ·
    rw [if_neg c13] at H
    have c13b0 : (a1_2 == 0) = false := beq_eq_false_iff_ne.mpr c13
    have c13b1 : (a1_2 != 0) = true := bne_iff_ne.mpr c13
    by_cases c19 : a1_3 = 0
    ·
     rw [if_pos c19] at H
     have c19b0 : (a1_3 == 0) = true := beq_iff_eq.mpr c19
     have c19b1 : (a1_3 != 0) = false := bne_eq_false_iff_eq.mpr c19
     clear c19
     obtain rfl := Option.some.inj H
     go_enter Tryd.func92, Tryd.ntmps92
     go_wp2_with (first | ((with_reducible refine gate_dst (N := 2) rfl ?_); refine box_event ?hg (N := 2) ?hd (cs := #[.int .i64 a0_0, .int .i64 a0_1, .int .i64 a0_2, .int .i64 a0_3]) (t := 26) ?hr ?_; (case hd => rfl); (case hg => rfl); (case hr => first | (go_simp; done) | (go_simp; rfl)); intro gb188 hg w20 hbox hb; have BK188 := Aside0.mk (hbox); have GW188 := Aside0.mk ((bz_ hg (lb0_ HB.out))); have GE188 := Aside0.mk ((bz_ hg (lb0_ HB.out))); replace HB := Aside0.mk (below_step (lb0_ HB.out) hb); clear hb hbox hg) | ((with_reducible refine gate_dst (N := 3) rfl ?_); refine box_event ?hg (N := 3) ?hd (cs := #[.int .i64 a1_0, .int .i64 a1_1, .int .i64 a1_2, .int .i64 a1_3]) (t := 26) ?hr ?_; (case hd => rfl); (case hg => rfl); (case hr => first | (go_simp; done) | (go_simp; rfl)); intro gb189 hg w21 hbox hb; have BK189 := Aside0.mk (hbox); have GW189 := Aside0.mk ((bz_ hg (lb1_ HB.out GE188.out))); have GE189 := Aside0.mk ((bz_ hg (lb1_ HB.out GE188.out))); replace HB := Aside0.mk (below_step (lb1_ HB.out GE188.out) hb); have NB188_189 := Aside0.mk (nl_ hg BK188.out); have NB189_188 := Aside0.mk (ng_ hg BK188.out); replace BK188 := Aside0.mk (bb_ (bk_ BK188.out) hb); clear hb hbox hg; have hnb22 := NB188_189.out; have hnc22 := NB189_188.out; obtain ⟨hcz23_0, hcz23_1, hcz23_2, hcz23_3⟩ := cz4_ BK188.out; obtain ⟨hfz23_0, hfz23_1, hfz23_2, hfz23_3⟩ := fz4_ BK188.out; obtain ⟨hcz24_0, hcz24_1, hcz24_2, hcz24_3⟩ := cz4_ BK189.out; obtain ⟨hfz24_0, hfz24_1, hfz24_2, hfz24_3⟩ := fz4_ BK189.out))
     go_ret
     exact ⟨rr_, lb2_ HB.out GE188.out GE189.out⟩
    ·
     rw [if_neg c19] at H
     have c19b0 : (a1_3 == 0) = false := beq_eq_false_iff_ne.mpr c19
     have c19b1 : (a1_3 != 0) = true := bne_iff_ne.mpr c19
     by_cases c25 : a0_0 < (wrap64 (a1_0 + a1_2))
     ·
      rw [if_pos c25] at H
      have c25b0 : decide (a0_0 < (wrap64 (a1_0 + a1_2))) = true := decide_eq_true c25
      clear c25
      by_cases c26 : a1_0 < (wrap64 (a0_0 + a0_2))
      ·
       rw [if_pos c26] at H
       have c26b0 : decide (a1_0 < (wrap64 (a0_0 + a0_2))) = true := decide_eq_true c26
       clear c26
       by_cases c27 : a0_1 < (wrap64 (a1_1 + a1_3))
       ·
        rw [if_pos c27] at H
        have c27b0 : decide (a0_1 < (wrap64 (a1_1 + a1_3))) = true := decide_eq_true c27; clear c27; obtain rfl := Option.some.inj H
        go_enter Tryd.func92, Tryd.ntmps92
        go_wp2_with (first | ((with_reducible refine gate_dst (N := 2) rfl ?_); refine box_event ?hg (N := 2) ?hd (cs := #[.int .i64 a0_0, .int .i64 a0_1, .int .i64 a0_2, .int .i64 a0_3]) (t := 26) ?hr ?_; (case hd => rfl); (case hg => rfl); (case hr => first | (go_simp; done) | (go_simp; rfl)); intro gb188 hg w28 hbox hb; have BK188 := Aside0.mk (hbox); have GW188 := Aside0.mk ((bz_ hg (lb0_ HB.out))); have GE188 := Aside0.mk ((bz_ hg (lb0_ HB.out))); replace HB := Aside0.mk (below_step (lb0_ HB.out) hb); clear hb hbox hg) | ((with_reducible refine gate_dst (N := 3) rfl ?_); refine box_event ?hg (N := 3) ?hd (cs := #[.int .i64 a1_0, .int .i64 a1_1, .int .i64 a1_2, .int .i64 a1_3]) (t := 26) ?hr ?_; (case hd => rfl); (case hg => rfl); (case hr => first | (go_simp; done) | (go_simp; rfl)); intro gb189 hg w29 hbox hb; have BK189 := Aside0.mk (hbox); have GW189 := Aside0.mk ((bz_ hg (lb1_ HB.out GE188.out))); have GE189 := Aside0.mk ((bz_ hg (lb1_ HB.out GE188.out))); replace HB := Aside0.mk (below_step (lb1_ HB.out GE188.out) hb); have NB188_189 := Aside0.mk (nl_ hg BK188.out); have NB189_188 := Aside0.mk (ng_ hg BK188.out); replace BK188 := Aside0.mk (bb_ (bk_ BK188.out) hb); clear hb hbox hg; have hnb30 := NB188_189.out; have hnc30 := NB189_188.out; obtain ⟨hcz31_0, hcz31_1, hcz31_2, hcz31_3⟩ := cz4_ BK188.out; obtain ⟨hfz31_0, hfz31_1, hfz31_2, hfz31_3⟩ := fz4_ BK188.out; obtain ⟨hcz32_0, hcz32_1, hcz32_2, hcz32_3⟩ := cz4_ BK189.out; obtain ⟨hfz32_0, hfz32_1, hfz32_2, hfz32_3⟩ := fz4_ BK189.out))
        go_ret
        exact ⟨rr_, lb2_ HB.out GE188.out GE189.out⟩
       ·
        rw [if_neg c27] at H
        have c27b0 : decide (a0_1 < (wrap64 (a1_1 + a1_3))) = false := decide_eq_false c27; clear c27; obtain rfl := Option.some.inj H
        go_enter Tryd.func92, Tryd.ntmps92
        go_wp2_with (first | ((with_reducible refine gate_dst (N := 2) rfl ?_); refine box_event ?hg (N := 2) ?hd (cs := #[.int .i64 a0_0, .int .i64 a0_1, .int .i64 a0_2, .int .i64 a0_3]) (t := 26) ?hr ?_; (case hd => rfl); (case hg => rfl); (case hr => first | (go_simp; done) | (go_simp; rfl)); intro gb188 hg w33 hbox hb; have BK188 := Aside0.mk (hbox); have GW188 := Aside0.mk ((bz_ hg (lb0_ HB.out))); have GE188 := Aside0.mk ((bz_ hg (lb0_ HB.out))); replace HB := Aside0.mk (below_step (lb0_ HB.out) hb); clear hb hbox hg) | ((with_reducible refine gate_dst (N := 3) rfl ?_); refine box_event ?hg (N := 3) ?hd (cs := #[.int .i64 a1_0, .int .i64 a1_1, .int .i64 a1_2, .int .i64 a1_3]) (t := 26) ?hr ?_; (case hd => rfl); (case hg => rfl); (case hr => first | (go_simp; done) | (go_simp; rfl)); intro gb189 hg w34 hbox hb; have BK189 := Aside0.mk (hbox); have GW189 := Aside0.mk ((bz_ hg (lb1_ HB.out GE188.out))); have GE189 := Aside0.mk ((bz_ hg (lb1_ HB.out GE188.out))); replace HB := Aside0.mk (below_step (lb1_ HB.out GE188.out) hb); have NB188_189 := Aside0.mk (nl_ hg BK188.out); have NB189_188 := Aside0.mk (ng_ hg BK188.out); replace BK188 := Aside0.mk (bb_ (bk_ BK188.out) hb); clear hb hbox hg; have hnb35 := NB188_189.out; have hnc35 := NB189_188.out; obtain ⟨hcz36_0, hcz36_1, hcz36_2, hcz36_3⟩ := cz4_ BK188.out; obtain ⟨hfz36_0, hfz36_1, hfz36_2, hfz36_3⟩ := fz4_ BK188.out; obtain ⟨hcz37_0, hcz37_1, hcz37_2, hcz37_3⟩ := cz4_ BK189.out; obtain ⟨hfz37_0, hfz37_1, hfz37_2, hfz37_3⟩ := fz4_ BK189.out))
        go_ret
        exact ⟨rr_, lb2_ HB.out GE188.out GE189.out⟩
      ·
       rw [if_neg c26] at H
       have c26b0 : decide (a1_0 < (wrap64 (a0_0 + a0_2))) = false := decide_eq_false c26
       clear c26
       obtain rfl := Option.some.inj H
       go_enter Tryd.func92, Tryd.ntmps92
       go_wp2_with (first | ((with_reducible refine gate_dst (N := 2) rfl ?_); refine box_event ?hg (N := 2) ?hd (cs := #[.int .i64 a0_0, .int .i64 a0_1, .int .i64 a0_2, .int .i64 a0_3]) (t := 26) ?hr ?_; (case hd => rfl); (case hg => rfl); (case hr => first | (go_simp; done) | (go_simp; rfl)); intro gb188 hg w38 hbox hb; have BK188 := Aside0.mk (hbox); have GW188 := Aside0.mk ((bz_ hg (lb0_ HB.out))); have GE188 := Aside0.mk ((bz_ hg (lb0_ HB.out))); replace HB := Aside0.mk (below_step (lb0_ HB.out) hb); clear hb hbox hg) | ((with_reducible refine gate_dst (N := 3) rfl ?_); refine box_event ?hg (N := 3) ?hd (cs := #[.int .i64 a1_0, .int .i64 a1_1, .int .i64 a1_2, .int .i64 a1_3]) (t := 26) ?hr ?_; (case hd => rfl); (case hg => rfl); (case hr => first | (go_simp; done) | (go_simp; rfl)); intro gb189 hg w39 hbox hb; have BK189 := Aside0.mk (hbox); have GW189 := Aside0.mk ((bz_ hg (lb1_ HB.out GE188.out))); have GE189 := Aside0.mk ((bz_ hg (lb1_ HB.out GE188.out))); replace HB := Aside0.mk (below_step (lb1_ HB.out GE188.out) hb); have NB188_189 := Aside0.mk (nl_ hg BK188.out); have NB189_188 := Aside0.mk (ng_ hg BK188.out); replace BK188 := Aside0.mk (bb_ (bk_ BK188.out) hb); clear hb hbox hg; have hnb40 := NB188_189.out; have hnc40 := NB189_188.out; obtain ⟨hcz41_0, hcz41_1, hcz41_2, hcz41_3⟩ := cz4_ BK188.out; obtain ⟨hfz41_0, hfz41_1, hfz41_2, hfz41_3⟩ := fz4_ BK188.out; obtain ⟨hcz42_0, hcz42_1, hcz42_2, hcz42_3⟩ := cz4_ BK189.out; obtain ⟨hfz42_0, hfz42_1, hfz42_2, hfz42_3⟩ := fz4_ BK189.out))
       go_ret
       exact ⟨rr_, lb2_ HB.out GE188.out GE189.out⟩
     ·
      rw [if_neg c25] at H
      have c25b0 : decide (a0_0 < (wrap64 (a1_0 + a1_2))) = false := decide_eq_false c25
      clear c25
      obtain rfl := Option.some.inj H
      go_enter Tryd.func92, Tryd.ntmps92
      go_wp2_with (first | ((with_reducible refine gate_dst (N := 2) rfl ?_); refine box_event ?hg (N := 2) ?hd (cs := #[.int .i64 a0_0, .int .i64 a0_1, .int .i64 a0_2, .int .i64 a0_3]) (t := 26) ?hr ?_; (case hd => rfl); (case hg => rfl); (case hr => first | (go_simp; done) | (go_simp; rfl)); intro gb188 hg w43 hbox hb; have BK188 := Aside0.mk (hbox); have GW188 := Aside0.mk ((bz_ hg (lb0_ HB.out))); have GE188 := Aside0.mk ((bz_ hg (lb0_ HB.out))); replace HB := Aside0.mk (below_step (lb0_ HB.out) hb); clear hb hbox hg) | ((with_reducible refine gate_dst (N := 3) rfl ?_); refine box_event ?hg (N := 3) ?hd (cs := #[.int .i64 a1_0, .int .i64 a1_1, .int .i64 a1_2, .int .i64 a1_3]) (t := 26) ?hr ?_; (case hd => rfl); (case hg => rfl); (case hr => first | (go_simp; done) | (go_simp; rfl)); intro gb189 hg w44 hbox hb; have BK189 := Aside0.mk (hbox); have GW189 := Aside0.mk ((bz_ hg (lb1_ HB.out GE188.out))); have GE189 := Aside0.mk ((bz_ hg (lb1_ HB.out GE188.out))); replace HB := Aside0.mk (below_step (lb1_ HB.out GE188.out) hb); have NB188_189 := Aside0.mk (nl_ hg BK188.out); have NB189_188 := Aside0.mk (ng_ hg BK188.out); replace BK188 := Aside0.mk (bb_ (bk_ BK188.out) hb); clear hb hbox hg; have hnb45 := NB188_189.out; have hnc45 := NB189_188.out; obtain ⟨hcz46_0, hcz46_1, hcz46_2, hcz46_3⟩ := cz4_ BK188.out; obtain ⟨hfz46_0, hfz46_1, hfz46_2, hfz46_3⟩ := fz4_ BK188.out; obtain ⟨hcz47_0, hcz47_1, hcz47_2, hcz47_3⟩ := cz4_ BK189.out; obtain ⟨hfz47_0, hfz47_1, hfz47_2, hfz47_3⟩ := fz4_ BK189.out))
      go_ret
      exact ⟨rr_, lb2_ HB.out GE188.out GE189.out⟩
def spec_l24Free.l0 : Nat → List (S29) → Int → Int → Int → Int → Int → Option (Bool)
 | 0, _, _, _, _, _, _ => none
 | k + 1, x0, x5, x191000, x191001, x191002, x191003 => if x5 < (x0.length : Int) then (if 0 ≤ x5 then ((spec_l24Meet.f x191000 x191001 x191002 x191003 ((rd_T29 x0 x5).f1) ((rd_T29 x0 x5).f2) 1 1).bind fun t193 => (if t193 = true then (some false) else (spec_l24Free.l0 k x0 (wrap64 (x5 + 1)) x191000 x191001 x191002 x191003))) else (none)) else (if x191000 ≥ 0 then (if x191001 ≥ 0 then (if (wrap64 (x191000 + x191002)) ≤ 100 then (some (decide ((wrap64 (x191001 + x191003)) ≤ 100))) else (some false)) else (some false)) else (some false))
def spec_l24Free.f (k : Nat) (l0 : List (S29)) (a1_0 : Int) (a1_1 : Int) (a1_2 : Int) (a1_3 : Int) : Option (Bool) := spec_l24Free.l0 k l0 0 a1_0 a1_1 a1_2 a1_3
def spec_l24Free.T4 : Bool × List (List Nat × List Nat) := (true, [([], []), ([], []), ([], []), ([1, 2], [1, 2]), ([3], [3]), ([4], [4]), ([], []), ([], []), ([6, 7], [6, 7]), ([8], [8]), ([9], [9]), ([5, 10], [5, 10]), ([0, 11], [0, 11])])
def spec_l24Free.B4 : List Nat := [0, 0, 0, 6, 14, 30, 0, 0, 192, 448, 960, 2046, 4095]
theorem spec_l24Free.tab4 : rtab .any (opsOf Tryd.f97 4) = spec_l24Free.T4 := by kernel_rfl
theorem spec_l24Free.bits4 : waitsOk spec_l24Free.T4.2 spec_l24Free.B4 = true := by kernel_rfl
abbrev spec_l24Free.mk0 : Array Bool := #[fF,fF,fF,fF,fF,fF,fF,fF,fF,fF,fF,fF,fF]
abbrev spec_l24Free.mk1 : Array Bool := #[fF,tT,fF,fF,fF,fF,fF,fF,fF,fF,fF,fF,fF]
abbrev spec_l24Free.mk2 : Array Bool := #[fF,tT,tT,fF,fF,fF,fF,fF,fF,fF,fF,fF,fF]
abbrev spec_l24Free.mk3 : Array Bool := #[fF,tT,tT,tT,fF,fF,fF,fF,fF,fF,fF,fF,fF]
abbrev spec_l24Free.mk4 : Array Bool := #[fF,tT,tT,tT,tT,fF,fF,fF,fF,fF,fF,fF,fF]
abbrev spec_l24Free.mk5 : Array Bool := #[fF,tT,tT,tT,tT,fF,tT,fF,fF,fF,fF,fF,fF]
abbrev spec_l24Free.mk6 : Array Bool := #[fF,tT,tT,tT,tT,fF,tT,tT,fF,fF,fF,fF,fF]
abbrev spec_l24Free.mk7 : Array Bool := #[fF,tT,tT,tT,tT,fF,tT,tT,tT,fF,fF,fF,fF]
abbrev spec_l24Free.mk8 : Array Bool := #[fF,tT,tT,tT,tT,fF,tT,tT,tT,tT,fF,fF,fF]
abbrev spec_l24Free.mk9 : Array Bool := #[tT,tT,tT,tT,tT,fF,tT,tT,tT,tT,fF,fF,fF]
abbrev spec_l24Free.mk10 : Array Bool := #[tT,tT,tT,tT,tT,tT,tT,tT,tT,tT,fF,fF,fF]
abbrev spec_l24Free.mk11 : Array Bool := #[tT,tT,tT,tT,tT,tT,tT,tT,tT,tT,tT,fF,fF]
abbrev spec_l24Free.mk12 : Array Bool := #[tT,tT,tT,tT,tT,tT,tT,tT,tT,tT,tT,tT,fF]
abbrev spec_l24Free.mk13 : Array Bool := #[tT,tT,tT,tT,tT,tT,tT,tT,tT,tT,tT,tT,tT]
set_option maxHeartbeats 8000000 in
set_option maxRecDepth 100000 in
theorem spec_l24Free.calls (k : Nat) (A0 : Option Addr) (c0 : Nat) (l0 : List (S29)) (a1_0 : Int) (a1_1 : Int) (a1_2 : Int) (a1_3 : Int) (r : Bool) (w : World) (hr0 : Kd.C k29 w A0 l0.length l0) (hc0 : l0.length ≤ c0) (h : spec_l24Free.f k l0 a1_0 a1_1 a1_2 a1_3 = some r) :
  Calls Tryd.prog 97 #[.slice A0 l0.length c0, .agg #[.int .i64 a1_0, .int .i64 a1_1, .int .i64 a1_2, .int .i64 a1_3]] w fun e w' => e = .returned (.bool r) ∧ Below w.heap.size w w' := by
 have hu26 := Tryd.underlying26
 have HR0 := Aside0.mk hr0
 have HC0 := Aside0.mk hc0
 clear hr0 hc0
 have HB := Aside0.mk (Below.refl w.heap.size w)
 have H : (spec_l24Free.l0 k l0 0 a1_0 a1_1 a1_2 a1_3) = some r := h
 clear h
 have H' := Aside0.mk H
 clear H
 go_enter Tryd.func97, Tryd.ntmps97
 go_wp2_with (first | ((with_reducible refine gate_dst (N := 3) rfl ?_); refine box_event ?hg (N := 3) ?hd (cs := #[.int .i64 a1_0, .int .i64 a1_1, .int .i64 a1_2, .int .i64 a1_3]) (t := 26) ?hr ?_; (case hd => rfl); (case hg => rfl); (case hr => first | (go_simp; done) | (go_simp; rfl)); intro gb190 hg w3 hbox hb; have BK190 := Aside0.mk (hbox); have GW190 := Aside0.mk ((bz_ hg (lb0_ HB.out))); have GE190 := Aside0.mk ((bz_ hg (lb0_ HB.out))); replace HB := Aside0.mk (below_step (lb0_ HB.out) hb); clear hb hbox hg))
 go_loopg [5] k (fun kq v5 w' => ∃ (x5_1 : Int), v5 = .int .i64 x5_1 ∧ Aside0 (spec_l24Free.l0 kq l0 x5_1 a1_0 a1_1 a1_2 a1_3 = some r) ∧ Aside0 (kq ≤ k) ∧ Aside0 (w'.heap[gb190]? = some (.cells #[.int .i64 a1_0, .int .i64 a1_1, .int .i64 a1_2, .int .i64 a1_3] 26 (0, 0))) ∧ Aside0 (Below w.heap.size w w'))
 case atStart => exact ⟨(0), (by first | rfl | (simp; done) | (simp [*]; done)), H', ⟨Nat.le_refl _⟩, ⟨bk_ BK190.out⟩, ⟨lb1_ HB.out GE190.out⟩⟩
 case round =>
  clear H'
  try clear p2
  obtain ⟨x5_1, rfl, HA, HK1, BK190, HB⟩ := hrel
  cases gk with
  | zero => exact absurd HA.out (by simp [spec_l24Free.l0])
  | succ k1 =>
   have H := HA.out
   clear HA
   simp only [spec_l24Free.l0] at H
   by_cases c4 : x5_1 < (l0.length : Int)
   ·
    rw [if_pos c4] at H
    have c4b0 : decide (x5_1 < (l0.length : Int)) = true := decide_eq_true c4
    clear c4
    by_cases c5 : 0 ≤ x5_1
    ·
     rw [if_pos c5] at H
     have c5b0 : decide (0 ≤ x5_1) = true := decide_eq_true c5
     clear c5
     replace H := Option.bind_eq_some_iff.mp H
     obtain ⟨t193, A60, H⟩ := H
     replace H : (if t193 = true then (some false) else (spec_l24Free.l0 k1 l0 (wrap64 (x5_1 + 1)) a1_0 a1_1 a1_2 a1_3)) = some r := H
     have A6 := Aside0.mk A60
     clear A60
     by_cases c7 : t193 = true
     ·
      subst c7
      have H1 : (some false) = some r := by rw [if_pos rfl] at H; exact H
      clear H
      have H := H1
      clear H1
      obtain rfl := Option.some.inj H
      try go_wp2
      replace BK190 := Aside0.mk (blk_drew BK190.out)
      replace HB := Aside0.mk (below_drew1 HB.out)
      have p191 : 0 ≤ (x5_1 : Int) := dt_
      have q191 : x5_1 < (l0.length : Int) := dt_
      obtain ⟨ad191, e191, hx191_0, hx191_1, hx191_2⟩ := at_T29 HR0.out x5_1 p191 q191
      have hw191_2 := hx191_2
      have hw191_1 := hx191_1
      have hw191_0 := hx191_0
      cases e191
      replace hx191_0 := bc_ HB.out hx191_0
      replace hx191_1 := bc_ HB.out hx191_1
      replace hx191_2 := bc_ HB.out hx191_2
      replace p191 := eq_true p191
      replace q191 := eq_true q191
      have p192 : 0 ≤ (x5_1 : Int) := dt_
      have q192 : x5_1 < (l0.length : Int) := dt_
      obtain ⟨ad192, e192, hx192_0, hx192_1, hx192_2⟩ := at_T29 HR0.out x5_1 p192 q192
      have hw192_2 := hx192_2
      have hw192_1 := hx192_1
      have hw192_0 := hx192_0
      obtain rfl : ad191 = ad192 := (by injection e192)
      replace hx192_0 := bc_ HB.out hx192_0
      replace hx192_1 := bc_ HB.out hx192_1
      replace hx192_2 := bc_ HB.out hx192_2
      replace p192 := eq_true p192
      replace q192 := eq_true q192
      refine start_ (n := 13) (S := fun w' => w'.cell? ⟨gb190, 0, none⟩ = some (.int .i64 a1_0) ∧ w'.cell? ⟨gb190, 1, none⟩ = some (.int .i64 a1_1) ∧ w'.cell? ⟨gb190, 2, none⟩ = some (.int .i64 a1_2) ∧ w'.cell? ⟨gb190, 3, none⟩ = some (.int .i64 a1_3) ∧ w'.cell? (ad191.add ((x5_1).toNat * 3)) = some (.string ((rd_T29 l0 x5_1).f0)) ∧ w'.cell? ⟨(ad191.add ((x5_1).toNat * 3)).block, (ad191.add ((x5_1).toNat * 3)).off + 1, none⟩ = some (.int .i64 ((rd_T29 l0 x5_1).f1)) ∧ w'.cell? ⟨(ad191.add ((x5_1).toNat * 3)).block, (ad191.add ((x5_1).toNat * 3)).off + 2, none⟩ = some (.int .i64 ((rd_T29 l0 x5_1).f2)) ∧ w'.cell? (ad191.add ((x5_1).toNat * 3)) = some (.string ((rd_T29 l0 x5_1).f0)) ∧ w'.cell? ⟨(ad191.add ((x5_1).toNat * 3)).block, (ad191.add ((x5_1).toNat * 3)).off + 1, none⟩ = some (.int .i64 ((rd_T29 l0 x5_1).f1)) ∧ w'.cell? ⟨(ad191.add ((x5_1).toNat * 3)).block, (ad191.add ((x5_1).toNat * 3)).off + 2, none⟩ = some (.int .i64 ((rd_T29 l0 x5_1).f2))) (ds := []) spec_l24Free.mk0 (by kernel_rfl) rfl rfl ⟨(blk_cell BK190.out 0).trans rfl, (blk_cell BK190.out 1).trans rfl, (blk_cell BK190.out 2).trans rfl, (blk_cell BK190.out 3).trans rfl, (bc_ HB.out hw191_0), (bc_ HB.out hw191_1), (bc_ HB.out hw191_2), (bc_ HB.out hw192_0), (bc_ HB.out hw192_1), (bc_ HB.out hw192_2)⟩ (fun hHeld => ?_); refine with_tabW spec_l24Free.tab4 spec_l24Free.bits4 (fun HT_ HW_ => ?_)
      generalize wr.drew = w8 at BK190 HB hx191_0 hx191_1 hx191_2 hx192_0 hx192_1 hx192_2 hHeld ⊢
      refine pz_ HT_ 1 (some 13) spec_l24Free.mk1 ?_
      refine pz_ HT_ 2 (some 14) spec_l24Free.mk2 ?_
      refine pz_ HT_ 3 (some 15) spec_l24Free.mk3 ?_
      refine pz_ HT_ 4 (some 16) spec_l24Free.mk4 ?_
      refine pz_ HT_ 6 (some 18) spec_l24Free.mk5 ?_
      refine pz_ HT_ 7 (some 19) spec_l24Free.mk6 ?_
      refine pz_ HT_ 8 (some 20) spec_l24Free.mk7 ?_
      refine pz_ HT_ 9 (some 21) spec_l24Free.mk8 ?_
      refine tk_ HT_ HW_ hHeld 0 (some 12) spec_l24Free.mk9 ?_
      refine tk_ HT_ HW_ hHeld 5 (some 17) spec_l24Free.mk10 ?_
      refine tk_ HT_ HW_ hHeld 10 (some 22) spec_l24Free.mk11 ?_
      refine pz_ HT_ 11 (some 23) spec_l24Free.mk12 ?_
      refine one_ (i := 12) (N := some 24) spec_l24Free.mk13 rfl rfl (one_of HT_.out (by kernel_rfl)) (by decide) (fun K hK => ?_)
      refine gs_ Tryd.func92 #[.agg #[.int .i64 a1_0, .int .i64 a1_1, .int .i64 a1_2, .int .i64 a1_3], .agg #[.int .i64 ((rd_T29 l0 x5_1).f1), .int .i64 ((rd_T29 l0 x5_1).f2), .int .i64 1, .int .i64 1]] ?_
      with_reducible refine (spec_l24Meet.calls a1_0 a1_1 a1_2 a1_3 ((rd_T29 l0 x5_1).f1) ((rd_T29 l0 x5_1).f2) 1 1 true _ A6.out).mono ?_
      rintro e w9 ⟨rfl, hb⟩
      refine ⟨_, rfl, ?_⟩
      replace BK190 := Aside0.mk (bb_ (bk_ BK190.out) hb)
      replace HB := Aside0.mk (below_step (lb1_ HB.out GE190.out) hb)
      (try clear hb)
      (try clear hb2)
      (try clear hk)
      (try clear hi)
      refine hK.out _ _ ⟨(blk_cell BK190.out 0).trans rfl, (blk_cell BK190.out 1).trans rfl, (blk_cell BK190.out 2).trans rfl, (blk_cell BK190.out 3).trans rfl, ((HB.out.cell (World.block_lt_of_cell? w _ hw191_0)).trans hw191_0), ((HB.out.cell (World.block_lt_of_cell? w _ hw191_1)).trans hw191_1), ((HB.out.cell (World.block_lt_of_cell? w _ hw191_2)).trans hw191_2), ((HB.out.cell (World.block_lt_of_cell? w _ hw192_0)).trans hw192_0), ((HB.out.cell (World.block_lt_of_cell? w _ hw192_1)).trans hw192_1), ((HB.out.cell (World.block_lt_of_cell? w _ hw192_2)).trans hw192_2)⟩ (fun hHeld => ?_)
      clear hK K
      refine na_ ?_
      refine done_ (done_of HT_.out (by kernel_rfl)) ?_
      try go_wp2
      go_ret
      exact ⟨rr_, lb1_ HB.out GE190.out⟩
     ·
      replace c7 := Bool.eq_false_iff.mpr c7
      subst c7
      have H1 : (spec_l24Free.l0 k1 l0 (wrap64 (x5_1 + 1)) a1_0 a1_1 a1_2 a1_3) = some r := by rw [if_neg (show ¬ (false = true) by decide)] at H; exact H
      clear H
      have H := H1
      clear H1
      have H' := Aside0.mk H
      clear H
      try go_wp2
      replace BK190 := Aside0.mk (blk_drew BK190.out)
      replace HB := Aside0.mk (below_drew1 HB.out)
      have p191 : 0 ≤ (x5_1 : Int) := dt_
      have q191 : x5_1 < (l0.length : Int) := dt_
      obtain ⟨ad191, e191, hx191_0, hx191_1, hx191_2⟩ := at_T29 HR0.out x5_1 p191 q191
      have hw191_2 := hx191_2
      have hw191_1 := hx191_1
      have hw191_0 := hx191_0
      cases e191
      replace hx191_0 := bc_ HB.out hx191_0
      replace hx191_1 := bc_ HB.out hx191_1
      replace hx191_2 := bc_ HB.out hx191_2
      replace p191 := eq_true p191
      replace q191 := eq_true q191
      have p192 : 0 ≤ (x5_1 : Int) := dt_
      have q192 : x5_1 < (l0.length : Int) := dt_
      obtain ⟨ad192, e192, hx192_0, hx192_1, hx192_2⟩ := at_T29 HR0.out x5_1 p192 q192
      have hw192_2 := hx192_2
      have hw192_1 := hx192_1
      have hw192_0 := hx192_0
      obtain rfl : ad191 = ad192 := (by injection e192)
      replace hx192_0 := bc_ HB.out hx192_0
      replace hx192_1 := bc_ HB.out hx192_1
      replace hx192_2 := bc_ HB.out hx192_2
      replace p192 := eq_true p192
      replace q192 := eq_true q192
      refine start_ (n := 13) (S := fun w' => w'.cell? ⟨gb190, 0, none⟩ = some (.int .i64 a1_0) ∧ w'.cell? ⟨gb190, 1, none⟩ = some (.int .i64 a1_1) ∧ w'.cell? ⟨gb190, 2, none⟩ = some (.int .i64 a1_2) ∧ w'.cell? ⟨gb190, 3, none⟩ = some (.int .i64 a1_3) ∧ w'.cell? (ad191.add ((x5_1).toNat * 3)) = some (.string ((rd_T29 l0 x5_1).f0)) ∧ w'.cell? ⟨(ad191.add ((x5_1).toNat * 3)).block, (ad191.add ((x5_1).toNat * 3)).off + 1, none⟩ = some (.int .i64 ((rd_T29 l0 x5_1).f1)) ∧ w'.cell? ⟨(ad191.add ((x5_1).toNat * 3)).block, (ad191.add ((x5_1).toNat * 3)).off + 2, none⟩ = some (.int .i64 ((rd_T29 l0 x5_1).f2)) ∧ w'.cell? (ad191.add ((x5_1).toNat * 3)) = some (.string ((rd_T29 l0 x5_1).f0)) ∧ w'.cell? ⟨(ad191.add ((x5_1).toNat * 3)).block, (ad191.add ((x5_1).toNat * 3)).off + 1, none⟩ = some (.int .i64 ((rd_T29 l0 x5_1).f1)) ∧ w'.cell? ⟨(ad191.add ((x5_1).toNat * 3)).block, (ad191.add ((x5_1).toNat * 3)).off + 2, none⟩ = some (.int .i64 ((rd_T29 l0 x5_1).f2))) (ds := []) spec_l24Free.mk0 (by kernel_rfl) rfl rfl ⟨(blk_cell BK190.out 0).trans rfl, (blk_cell BK190.out 1).trans rfl, (blk_cell BK190.out 2).trans rfl, (blk_cell BK190.out 3).trans rfl, (bc_ HB.out hw191_0), (bc_ HB.out hw191_1), (bc_ HB.out hw191_2), (bc_ HB.out hw192_0), (bc_ HB.out hw192_1), (bc_ HB.out hw192_2)⟩ (fun hHeld => ?_); refine with_tabW spec_l24Free.tab4 spec_l24Free.bits4 (fun HT_ HW_ => ?_)
      generalize wr.drew = w10 at BK190 HB hx191_0 hx191_1 hx191_2 hx192_0 hx192_1 hx192_2 hHeld ⊢
      refine pz_ HT_ 1 (some 13) spec_l24Free.mk1 ?_
      refine pz_ HT_ 2 (some 14) spec_l24Free.mk2 ?_
      refine pz_ HT_ 3 (some 15) spec_l24Free.mk3 ?_
      refine pz_ HT_ 4 (some 16) spec_l24Free.mk4 ?_
      refine pz_ HT_ 6 (some 18) spec_l24Free.mk5 ?_
      refine pz_ HT_ 7 (some 19) spec_l24Free.mk6 ?_
      refine pz_ HT_ 8 (some 20) spec_l24Free.mk7 ?_
      refine pz_ HT_ 9 (some 21) spec_l24Free.mk8 ?_
      refine tk_ HT_ HW_ hHeld 0 (some 12) spec_l24Free.mk9 ?_
      refine tk_ HT_ HW_ hHeld 5 (some 17) spec_l24Free.mk10 ?_
      refine tk_ HT_ HW_ hHeld 10 (some 22) spec_l24Free.mk11 ?_
      refine pz_ HT_ 11 (some 23) spec_l24Free.mk12 ?_
      refine one_ (i := 12) (N := some 24) spec_l24Free.mk13 rfl rfl (one_of HT_.out (by kernel_rfl)) (by decide) (fun K hK => ?_)
      refine gs_ Tryd.func92 #[.agg #[.int .i64 a1_0, .int .i64 a1_1, .int .i64 a1_2, .int .i64 a1_3], .agg #[.int .i64 ((rd_T29 l0 x5_1).f1), .int .i64 ((rd_T29 l0 x5_1).f2), .int .i64 1, .int .i64 1]] ?_
      with_reducible refine (spec_l24Meet.calls a1_0 a1_1 a1_2 a1_3 ((rd_T29 l0 x5_1).f1) ((rd_T29 l0 x5_1).f2) 1 1 false _ A6.out).mono ?_
      rintro e w11 ⟨rfl, hb⟩
      refine ⟨_, rfl, ?_⟩
      replace BK190 := Aside0.mk (bb_ (bk_ BK190.out) hb)
      replace HB := Aside0.mk (below_step (lb1_ HB.out GE190.out) hb)
      (try clear hb)
      (try clear hb2)
      (try clear hk)
      (try clear hi)
      refine hK.out _ _ ⟨(blk_cell BK190.out 0).trans rfl, (blk_cell BK190.out 1).trans rfl, (blk_cell BK190.out 2).trans rfl, (blk_cell BK190.out 3).trans rfl, ((HB.out.cell (World.block_lt_of_cell? w _ hw191_0)).trans hw191_0), ((HB.out.cell (World.block_lt_of_cell? w _ hw191_1)).trans hw191_1), ((HB.out.cell (World.block_lt_of_cell? w _ hw191_2)).trans hw191_2), ((HB.out.cell (World.block_lt_of_cell? w _ hw192_0)).trans hw192_0), ((HB.out.cell (World.block_lt_of_cell? w _ hw192_1)).trans hw192_1), ((HB.out.cell (World.block_lt_of_cell? w _ hw192_2)).trans hw192_2)⟩ (fun hHeld => ?_)
      clear hK K
      refine na_ ?_
      refine done_ (done_of HT_.out (by kernel_rfl)) ?_
      try go_wp2
      go_roundg k1
      case measure => have := HK1.out; omega
      case rel => exact ⟨(wrap64 (x5_1 + 1)), (by first | rfl | (simp; done) | (simp [*]; done)), H', ⟨by have := HK1.out; omega⟩, ⟨bk_ BK190.out⟩, ⟨lb1_ HB.out GE190.out⟩⟩
    ·
     rw [if_neg c5] at H
     exact absurd H (by simp)
   ·
    rw [if_neg c4] at H
    have c4b0 : decide (x5_1 < (l0.length : Int)) = false := decide_eq_false c4
    clear c4
    by_cases c12 : a1_0 ≥ 0
    ·
     rw [if_pos c12] at H
     have c12b0 : decide (0 ≤ a1_0) = true := decide_eq_true c12
     clear c12
     by_cases c13 : a1_1 ≥ 0
     ·
      rw [if_pos c13] at H
      have c13b0 : decide (0 ≤ a1_1) = true := decide_eq_true c13
      clear c13
      by_cases c14 : (wrap64 (a1_0 + a1_2)) ≤ 100
      ·
       rw [if_pos c14] at H
       have c14b0 : decide ((wrap64 (a1_0 + a1_2)) ≤ 100) = true := decide_eq_true c14
       clear c14
       obtain rfl := Option.some.inj H
       obtain ⟨hcz15_0, hcz15_1, hcz15_2, hcz15_3⟩ := cz4_ BK190.out
       obtain ⟨hfz15_0, hfz15_1, hfz15_2, hfz15_3⟩ := fz4_ BK190.out
       go_wp2
       go_ret
       exact ⟨rr_, lb1_ HB.out GE190.out⟩
      ·
       rw [if_neg c14] at H
       have c14b0 : decide ((wrap64 (a1_0 + a1_2)) ≤ 100) = false := decide_eq_false c14
       clear c14
       obtain rfl := Option.some.inj H
       obtain ⟨hcz16_0, hcz16_1, hcz16_2, hcz16_3⟩ := cz4_ BK190.out
       obtain ⟨hfz16_0, hfz16_1, hfz16_2, hfz16_3⟩ := fz4_ BK190.out
       go_wp2
       go_ret
       exact ⟨rr_, lb1_ HB.out GE190.out⟩
     ·
      rw [if_neg c13] at H
      have c13b0 : decide (0 ≤ a1_1) = false := decide_eq_false c13
      clear c13
      obtain rfl := Option.some.inj H
      obtain ⟨hcz17_0, hcz17_1, hcz17_2, hcz17_3⟩ := cz4_ BK190.out
      obtain ⟨hfz17_0, hfz17_1, hfz17_2, hfz17_3⟩ := fz4_ BK190.out
      go_wp2
      go_ret
      exact ⟨rr_, lb1_ HB.out GE190.out⟩
    ·
     rw [if_neg c12] at H
     have c12b0 : decide (0 ≤ a1_0) = false := decide_eq_false c12
     clear c12
     obtain rfl := Option.some.inj H
     obtain ⟨hcz18_0, hcz18_1, hcz18_2, hcz18_3⟩ := cz4_ BK190.out
     obtain ⟨hfz18_0, hfz18_1, hfz18_2, hfz18_3⟩ := fz4_ BK190.out
     go_wp2
     go_ret
     exact ⟨rr_, lb1_ HB.out GE190.out⟩
def spec_l24Ways.l0 : Nat → List (S29) → Int → List Int → Int → Option (List Int)
 | 0, _, _, _, _ => none
 | k + 1, x0, x1, x5, x6 => if x6 < 4 then (if 0 ≤ x1 then (if x1 < (x0.length : Int) then ((spec_l24Box.f ((rd_T29 x0 x1).f0) ((rd_T29 x0 x1).f1) ((rd_T29 x0 x1).f2) x6).bind fun bt267 => ((spec_l24Free.f k x0 bt267.1 bt267.2.1 bt267.2.2.1 bt267.2.2.2).bind fun t271 => (if t271 = true then (if x5.length < 17592186044416 then (spec_l24Ways.l0 k x0 x1 (x5 ++ [x6]) (wrap64 (x6 + 1))) else (none)) else (spec_l24Ways.l0 k x0 x1 x5 (wrap64 (x6 + 1)))))) else (none)) else (none)) else (some x5)
def spec_l24Ways.f (k : Nat) (l0 : List (S29)) (a1 : Int) : Option (List Int) := spec_l24Ways.l0 k l0 a1 (([] : List Int)) 0
set_option maxHeartbeats 8000000 in
set_option maxRecDepth 100000 in
theorem spec_l24Ways.calls (k : Nat) (A0 : Option Addr) (c0 : Nat) (l0 : List (S29)) (a1 : Int) (r : List Int) (w : World) (hr0 : Kd.C k29 w A0 l0.length l0) (hc0 : l0.length ≤ c0) (h : spec_l24Ways.f k l0 a1 = some r) :
  Calls Tryd.prog 72 #[.slice A0 l0.length c0, .int .i64 a1] w fun e w' => ∃ v0_ : Value, e = .returned (v0_) ∧ Kd.R (Kd.int .i64) 3 w' w.heap.size (fun _ => True) v0_ r ∧ Below w.heap.size w w' := by
 have hu29 := Tryd.underlying29
 have HR0 := Aside0.mk hr0
 have HC0 := Aside0.mk hc0
 clear hr0 hc0
 have HB := Aside0.mk (Below.refl w.heap.size w)
 have H : (spec_l24Ways.l0 k l0 a1 (([] : List Int)) 0) = some r := h
 clear h
 obtain ⟨y263, hy263⟩ : ∃ y_ : List Int, y_ = (([] : List Int)) := ⟨_, rfl⟩
 replace H : (spec_l24Ways.l0 k l0 a1 y263 0) = some r := by first | (rw [hy263]; with_reducible exact H) | (have H2_ := (Option.bind_some _ _).symm.trans H; rw [hy263]; with_reducible exact H2_) | (have H2_ := (Option.bind_some _ _).symm.trans H; with_reducible exact H2_) | with_reducible exact H | (rw [hy263]; exact H) | exact H
 have Ny263 := Aside0.mk hy263
 clear hy263
 have H' := Aside0.mk H
 clear H
 go_enter Tryd.func72, Tryd.ntmps72
 go_wp2_with (first | ((with_reducible refine gate_dst (N := 7) rfl ?_); refine Kd.R_lit (Kd.int .i64) _ 3 ?hg (N := 7) ?hd (xs := ([] : List Int)) (inner := []) (ok := fun _ => True) (okp := fun _ => True) ?hr ?hp (fun _ hk => hk) trivial (Below.refl _ _) (Nat.le_refl _) (by simp) ?_; (case hd => rfl); (case hg => rfl); (case hr => first | (go_simp; done) | (go_simp; rfl)); (case hp => exact (Reps.none _ _)); intro v264 w3 ho4 hb hg_ hnew_; clear hg_ hnew_; replace ho4 := ry_ Ny263.out ho4; have HO265 := Aside0.mk (Kd.R_lower ho4 (below_size (lb0_ HB.out))); replace HB := Aside0.mk (below_step (lb0_ HB.out) hb); clear hb ho4))
 go_loopg [5, 6] k (fun kq v5 v6 w' => ∃ (x5_1 : List Int) (x6_1 : Int), v6 = .int .i64 x6_1 ∧ Aside0 (spec_l24Ways.l0 kq l0 a1 x5_1 x6_1 = some r) ∧ Aside0 (kq ≤ k) ∧ Aside0 (Kd.R (Kd.int .i64) 3 w' w.heap.size (fun _ => True) v5 x5_1) ∧ Aside0 (Below w.heap.size w w'))
 case atStart => exact ⟨(y263), (0), (by first | rfl | (simp; done) | (simp [*]; done)), H', ⟨Nat.le_refl _⟩, ⟨kr_ HO265.out⟩, ⟨lb0_ HB.out⟩⟩
 case round =>
  clear H'
  try clear p2
  obtain ⟨x5_1, x6_1, rfl, HA, HK1, HO_5, HB⟩ := hrel
  cases gk with
  | zero => exact absurd HA.out (by simp [spec_l24Ways.l0])
  | succ k1 =>
   have H := HA.out
   clear HA
   simp only [spec_l24Ways.l0] at H
   by_cases c5 : x6_1 < 4
   ·
    rw [if_pos c5] at H
    have c5b0 : decide (x6_1 < 4) = true := decide_eq_true c5
    clear c5
    by_cases c6 : 0 ≤ a1
    ·
     rw [if_pos c6] at H
     have c6b0 : decide (0 ≤ a1) = true := decide_eq_true c6
     clear c6
     by_cases c7 : a1 < (l0.length : Int)
     ·
      rw [if_pos c7] at H
      have c7b0 : decide (a1 < (l0.length : Int)) = true := decide_eq_true c7
      clear c7
      replace H := Option.bind_eq_some_iff.mp H
      obtain ⟨⟨t267, t268, t269, t270⟩, A80, H⟩ := H
      replace H : ((spec_l24Free.f k1 l0 t267 t268 t269 t270).bind fun t271 => (if t271 = true then (if x5_1.length < 17592186044416 then (spec_l24Ways.l0 k1 l0 a1 (x5_1 ++ [x6_1]) (wrap64 (x6_1 + 1))) else (none)) else (spec_l24Ways.l0 k1 l0 a1 x5_1 (wrap64 (x6_1 + 1))))) = some r := H
      have A8 := Aside0.mk A80
      clear A80
      replace H := Option.bind_eq_some_iff.mp H
      obtain ⟨t271, A90, H⟩ := H
      replace H : (if t271 = true then (if x5_1.length < 17592186044416 then (spec_l24Ways.l0 k1 l0 a1 (x5_1 ++ [x6_1]) (wrap64 (x6_1 + 1))) else (none)) else (spec_l24Ways.l0 k1 l0 a1 x5_1 (wrap64 (x6_1 + 1)))) = some r := H
      have A9 := Aside0.mk A90
      clear A90
      by_cases c10 : t271 = true
      ·
       subst c10
       have H1 : (if x5_1.length < 17592186044416 then (spec_l24Ways.l0 k1 l0 a1 (x5_1 ++ [x6_1]) (wrap64 (x6_1 + 1))) else (none)) = some r := by rw [if_pos rfl] at H; exact H
       clear H
       have H := H1
       clear H1
       by_cases c11 : x5_1.length < 17592186044416
       ·
        rw [if_pos c11] at H
        have LMc11 := Aside0.mk c11; clear c11
        obtain ⟨y272, hy272⟩ : ∃ y_ : List Int, y_ = (x5_1 ++ [x6_1]) := ⟨_, rfl⟩
        replace H : (spec_l24Ways.l0 k1 l0 a1 y272 (wrap64 (x6_1 + 1))) = some r := by first | (rw [hy272]; with_reducible exact H) | (have H2_ := (Option.bind_some _ _).symm.trans H; rw [hy272]; with_reducible exact H2_) | (have H2_ := (Option.bind_some _ _).symm.trans H; with_reducible exact H2_) | with_reducible exact H | (rw [hy272]; exact H) | exact H
        have Ny272 := Aside0.mk hy272; clear hy272; have H' := Aside0.mk H; clear H; have p266 : 0 ≤ (a1 : Int) := dt_; have q266 : a1 < (l0.length : Int) := dt_; obtain ⟨ad266, e266, hx266_0, hx266_1, hx266_2⟩ := at_T29 HR0.out a1 p266 q266
        cases e266
        replace hx266_0 := bc_ HB.out hx266_0; replace hx266_1 := bc_ HB.out hx266_1; replace hx266_2 := bc_ HB.out hx266_2; replace p266 := eq_true p266; replace q266 := eq_true q266
        go_wp2_with (first | ((with_reducible refine gate_callee (f := 56) rfl ?_); refine ga_ (some 18) Tryd.func56 #[.agg #[.string ((rd_T29 l0 a1).f0), .int .i64 ((rd_T29 l0 a1).f1), .int .i64 ((rd_T29 l0 a1).f2)], .int .i64 x6_1] ?_; (with_reducible refine (spec_l24Box.calls ((rd_T29 l0 a1).f0) ((rd_T29 l0 a1).f1) ((rd_T29 l0 a1).f2) x6_1 t267 t268 t269 t270 _ A8.out).mono ?_); rintro e w12 ⟨rfl, hb⟩; refine ⟨_, rfl, ?_⟩; replace HO_5 := Aside0.mk (Kd.R_below (kr_ HO_5.out) hb); replace HB := Aside0.mk (below_step (lb0_ HB.out) hb); (try clear hb); (try clear hb2); (try clear hk); (try clear hi)) | ((with_reducible refine gate_callee (f := 97) rfl ?_); refine ga_ (some 19) Tryd.func97 #[.slice (some ad266) l0.length c0, .agg #[.int .i64 t267, .int .i64 t268, .int .i64 t269, .int .i64 t270]] ?_; (with_reducible refine (spec_l24Free.calls k1 _ _ l0 t267 t268 t269 t270 true _ ?side1 ?side2 A9.out).mono ?_); (case side1 => exact kc_ (Kd.C_below HR0.out HB.out)); (case side2 => exact HC0.out); rintro e w13 ⟨rfl, hb⟩; refine ⟨_, rfl, ?_⟩; replace HO_5 := Aside0.mk (Kd.R_below (kr_ HO_5.out) hb); replace HB := Aside0.mk (below_step (lb0_ HB.out) hb); (try clear hb); (try clear hb2); (try clear hk); (try clear hi)) | ((with_reducible refine gate_builtin (b := .append) (xs := #[.tmp 20, .tmp 22]) rfl ?_); at_builtin; refine Kd.R_append (Kd.int .i64) (w0 := w) w.heap.size rfl (.tmp 20) (.tmp 22) 40 3 (.int .i64 0) 8 rfl Tryd.underlying40 info3 rfl (by decide) (by omega) u5 x5_1 x6_1 [.int .i64 x6_1] (fun _ => True) (fun _ => False) rfl rfl ?aP (fun _ hk => hk.elim) ?aF ?aO ?aB ?aS ?aL ?_; (case aP => exact rfl); (case aB => exact (lb0_ HB.out)); (case aF => exact (fun _ _ => trivial)); (case aO => exact (kr_ HO_5.out)); (case aS => exact (below_size (lb0_ HB.out))); (case aL => have := LMc11.out; omega); intro v273 w14 ho hb hg hat; rw [← Ny272.out] at ho; replace HB := Aside0.mk (hb); have HO274 := Aside0.mk (ho); clear HO_5; clear ho hb hg hat))
        go_roundg k1
        case measure => have := HK1.out; omega
        case rel => exact ⟨(y272), (wrap64 (x6_1 + 1)), (by first | rfl | (simp; done) | (simp [*]; done)), H', ⟨by have := HK1.out; omega⟩, ⟨kr_ HO274.out⟩, ⟨lb0_ HB.out⟩⟩
       ·
        rw [if_neg c11] at H
        exact absurd H (by simp)
      ·
       replace c10 := Bool.eq_false_iff.mpr c10
       subst c10
       have H1 : (spec_l24Ways.l0 k1 l0 a1 x5_1 (wrap64 (x6_1 + 1))) = some r := by rw [if_neg (show ¬ (false = true) by decide)] at H; exact H
       clear H
       have H := H1
       clear H1
       have H' := Aside0.mk H
       clear H
       have p266 : 0 ≤ (a1 : Int) := dt_
       have q266 : a1 < (l0.length : Int) := dt_
       obtain ⟨ad266, e266, hx266_0, hx266_1, hx266_2⟩ := at_T29 HR0.out a1 p266 q266
       cases e266
       replace hx266_0 := bc_ HB.out hx266_0
       replace hx266_1 := bc_ HB.out hx266_1
       replace hx266_2 := bc_ HB.out hx266_2
       replace p266 := eq_true p266
       replace q266 := eq_true q266
       go_wp2_with (first | ((with_reducible refine gate_callee (f := 56) rfl ?_); refine ga_ (some 18) Tryd.func56 #[.agg #[.string ((rd_T29 l0 a1).f0), .int .i64 ((rd_T29 l0 a1).f1), .int .i64 ((rd_T29 l0 a1).f2)], .int .i64 x6_1] ?_; (with_reducible refine (spec_l24Box.calls ((rd_T29 l0 a1).f0) ((rd_T29 l0 a1).f1) ((rd_T29 l0 a1).f2) x6_1 t267 t268 t269 t270 _ A8.out).mono ?_); rintro e w15 ⟨rfl, hb⟩; refine ⟨_, rfl, ?_⟩; replace HO_5 := Aside0.mk (Kd.R_below (kr_ HO_5.out) hb); replace HB := Aside0.mk (below_step (lb0_ HB.out) hb); (try clear hb); (try clear hb2); (try clear hk); (try clear hi)) | ((with_reducible refine gate_callee (f := 97) rfl ?_); refine ga_ (some 19) Tryd.func97 #[.slice (some ad266) l0.length c0, .agg #[.int .i64 t267, .int .i64 t268, .int .i64 t269, .int .i64 t270]] ?_; (with_reducible refine (spec_l24Free.calls k1 _ _ l0 t267 t268 t269 t270 false _ ?side1 ?side2 A9.out).mono ?_); (case side1 => exact kc_ (Kd.C_below HR0.out HB.out)); (case side2 => exact HC0.out); rintro e w16 ⟨rfl, hb⟩; refine ⟨_, rfl, ?_⟩; replace HO_5 := Aside0.mk (Kd.R_below (kr_ HO_5.out) hb); replace HB := Aside0.mk (below_step (lb0_ HB.out) hb); (try clear hb); (try clear hb2); (try clear hk); (try clear hi)))
       go_roundg k1
       case measure => have := HK1.out; omega
       case rel => exact ⟨(x5_1), (wrap64 (x6_1 + 1)), (by first | rfl | (simp; done) | (simp [*]; done)), H', ⟨by have := HK1.out; omega⟩, ⟨kr_ HO_5.out⟩, ⟨lb0_ HB.out⟩⟩
     ·
      rw [if_neg c7] at H
      exact absurd H (by simp)
    ·
     rw [if_neg c6] at H
     exact absurd H (by simp)
   ·
    rw [if_neg c5] at H
    have c5b0 : decide (x6_1 < 4) = false := decide_eq_false c5
    clear c5
    obtain rfl := Option.some.inj H
    go_wp2
    go_ret
    exact ⟨_, rr_, kr_ HO_5.out, lb0_ HB.out⟩
def spec_WaysOf.f (k : Nat) (l0 : List (S29)) (a1 : Int) : Option (List Int × Bool) := (spec_l24Good.f k l0).bind fun t275 => (if t275 = true then ((spec_l1In.f a1 0 (wrap64 ((l0.length : Int) - 1))).bind fun t276 => (if t276 = true then ((spec_l24Ways.f k l0 a1).bind fun t277 => (some (t277, true))) else (some ((([] : List Int)), false)))) else (some ((([] : List Int)), false)))
set_option maxHeartbeats 8000000 in
set_option maxRecDepth 100000 in
theorem spec_WaysOf.calls (k : Nat) (A0 : Option Addr) (c0 : Nat) (l0 : List (S29)) (a1 : Int) (r1 : List Int) (r2 : Bool) (w : World) (hr0 : Kd.C k29 w A0 l0.length l0) (hc0 : l0.length ≤ c0) (h : spec_WaysOf.f k l0 a1 = some (r1, r2)) :
  Calls Tryd.prog 27 #[.slice A0 l0.length c0, .int .i64 a1] w fun e w' => ∃ v0_ : Value, e = .returned (.tuple #[v0_, .bool r2]) ∧ Kd.R (Kd.int .i64) 3 w' w.heap.size (fun _ => True) v0_ r1 ∧ Below w.heap.size w w' := by
 have HR0 := Aside0.mk hr0
 have HC0 := Aside0.mk hc0
 clear hr0 hc0
 have HB := Aside0.mk (Below.refl w.heap.size w)
 have H : ((spec_l24Good.f k l0).bind fun t275 => (if t275 = true then ((spec_l1In.f a1 0 (wrap64 ((l0.length : Int) - 1))).bind fun t276 => (if t276 = true then ((spec_l24Ways.f k l0 a1).bind fun t277 => (some (t277, true))) else (some ((([] : List Int)), false)))) else (some ((([] : List Int)), false)))) = some (r1, r2) := h
 clear h
 replace H := Option.bind_eq_some_iff.mp H
 obtain ⟨t275, A30, H⟩ := H
 replace H : (if t275 = true then ((spec_l1In.f a1 0 (wrap64 ((l0.length : Int) - 1))).bind fun t276 => (if t276 = true then ((spec_l24Ways.f k l0 a1).bind fun t277 => (some (t277, true))) else (some ((([] : List Int)), false)))) else (some ((([] : List Int)), false))) = some (r1, r2) := H
 have A3 := Aside0.mk A30
 clear A30
 by_cases c4 : t275 = true
 ·
  subst c4
  have H1 : ((spec_l1In.f a1 0 (wrap64 ((l0.length : Int) - 1))).bind fun t276 => (if t276 = true then ((spec_l24Ways.f k l0 a1).bind fun t277 => (some (t277, true))) else (some ((([] : List Int)), false)))) = some (r1, r2) := by rw [if_pos rfl] at H; exact H
  clear H
  have H := H1
  clear H1
  replace H := Option.bind_eq_some_iff.mp H
  obtain ⟨t276, A50, H⟩ := H
  replace H : (if t276 = true then ((spec_l24Ways.f k l0 a1).bind fun t277 => (some (t277, true))) else (some ((([] : List Int)), false))) = some (r1, r2) := H
  have A5 := Aside0.mk A50
  clear A50
  by_cases c6 : t276 = true
  ·
   subst c6
   have H1 : ((spec_l24Ways.f k l0 a1).bind fun t277 => (some (t277, true))) = some (r1, r2) := by rw [if_pos rfl] at H; exact H
   clear H
   have H := H1
   clear H1
   replace H := Option.bind_eq_some_iff.mp H
   obtain ⟨t277, A70, H⟩ := H
   replace H : (some (t277, true)) = some (r1, r2) := H
   have A7 := Aside0.mk A70
   clear A70
   simp only [Option.some.injEq, Prod.mk.injEq] at H
   obtain ⟨rfl, rfl⟩ := H
   go_enter Tryd.func27, Tryd.ntmps27
   go_wp2_with (first | ((with_reducible refine gate_callee (f := 60) rfl ?_); refine ga_ (some 7) Tryd.func60 #[.slice A0 l0.length c0] ?_; (with_reducible refine (spec_l24Good.calls k _ _ l0 true _ ?side1 ?side2 A3.out).mono ?_); (case side1 => exact kc_ HR0.out); (case side2 => exact HC0.out); rintro e w8 ⟨rfl, hb⟩; refine ⟨_, rfl, ?_⟩; replace HB := Aside0.mk (below_step (lb0_ HB.out) hb); (try clear hb); (try clear hb2); (try clear hk); (try clear hi)) | (go_at_call 71; (with_reducible refine (spec_l1In.calls a1 0 (wrap64 ((l0.length : Int) - 1)) true _ A5.out).mono ?_); rintro e w' ⟨rfl, ⟨nd, rfl⟩⟩) | ((with_reducible refine gate_callee (f := 72) rfl ?_); refine ga_ (some 20) Tryd.func72 #[.slice A0 l0.length c0, .int .i64 a1] ?_; (with_reducible refine (spec_l24Ways.calls k _ _ l0 a1 t277 _ ?side1 ?side2 A7.out).mono ?_); (case side1 => exact kc_ (Kd.C_below HR0.out (lb0_ HB.out))); (case side2 => exact HC0.out); rintro e w9 ⟨v278, rfl, ho0, hb⟩; refine ⟨_, rfl, ?_⟩; have HO279 := Aside0.mk (Kd.R_lower ho0 (below_size (lb0_ HB.out))); replace HB := Aside0.mk (below_step (lb0_ HB.out) hb); (try clear hb); (try clear hb2); (try clear hk); (try clear hi); (try clear ho0)))
   go_ret2
   exact ⟨_, rr_, kr_ HO279.out, lb0_ HB.out⟩
  ·
   replace c6 := Bool.eq_false_iff.mpr c6
   subst c6
   have H1 : (some ((([] : List Int)), false)) = some (r1, r2) := by rw [if_neg (show ¬ (false = true) by decide)] at H; exact H
   clear H
   have H := H1
   clear H1
   obtain ⟨y280, hy280⟩ : ∃ y_ : List Int, y_ = (([] : List Int)) := ⟨_, rfl⟩
   replace H : (some (y280, false)) = some (r1, r2) := by first | (rw [hy280]; with_reducible exact H) | (have H2_ := (Option.bind_some _ _).symm.trans H; rw [hy280]; with_reducible exact H2_) | (have H2_ := (Option.bind_some _ _).symm.trans H; with_reducible exact H2_) | with_reducible exact H | (rw [hy280]; exact H) | exact H
   have Ny280 := Aside0.mk hy280
   clear hy280
   simp only [Option.some.injEq, Prod.mk.injEq] at H
   obtain ⟨rfl, rfl⟩ := H
   go_enter Tryd.func27, Tryd.ntmps27
   go_wp2_with (first | ((with_reducible refine gate_callee (f := 60) rfl ?_); refine ga_ (some 7) Tryd.func60 #[.slice A0 l0.length c0] ?_; (with_reducible refine (spec_l24Good.calls k _ _ l0 true _ ?side1 ?side2 A3.out).mono ?_); (case side1 => exact kc_ HR0.out); (case side2 => exact HC0.out); rintro e w10 ⟨rfl, hb⟩; refine ⟨_, rfl, ?_⟩; replace HB := Aside0.mk (below_step (lb0_ HB.out) hb); (try clear hb); (try clear hb2); (try clear hk); (try clear hi)) | (go_at_call 71; (with_reducible refine (spec_l1In.calls a1 0 (wrap64 ((l0.length : Int) - 1)) false _ A5.out).mono ?_); rintro e w' ⟨rfl, ⟨nd, rfl⟩⟩) | ((with_reducible refine gate_dst (N := 17) rfl ?_); (try (refine gate_guard (by rfl) ?_; dsimp only)); refine Kd.R_lit (Kd.int .i64) _ 3 ?hg (N := 17) ?hd (xs := ([] : List Int)) (inner := []) (ok := fun _ => True) (okp := fun _ => True) ?hr ?hp (fun _ hk => hk) trivial (Below.refl _ _) (Nat.le_refl _) (by simp) ?_; (case hd => rfl); (case hg => rfl); (case hr => first | (go_simp; done) | (go_simp; rfl)); (case hp => exact (Reps.none _ _)); intro v281 w11 ho12 hb hg_ hnew_; clear hg_ hnew_; replace ho12 := ry_ Ny280.out ho12; have HO282 := Aside0.mk (Kd.R_lower ho12 (below_size (lb0_ HB.out))); replace HB := Aside0.mk (below_step (lb0_ HB.out) hb); clear hb ho12))
   go_ret2
   exact ⟨_, rr_, kr_ HO282.out, lb0_ HB.out⟩
 ·
  replace c4 := Bool.eq_false_iff.mpr c4
  subst c4
  have H1 : (some ((([] : List Int)), false)) = some (r1, r2) := by rw [if_neg (show ¬ (false = true) by decide)] at H; exact H
  clear H
  have H := H1
  clear H1
  obtain ⟨y283, hy283⟩ : ∃ y_ : List Int, y_ = (([] : List Int)) := ⟨_, rfl⟩
  replace H : (some (y283, false)) = some (r1, r2) := by first | (rw [hy283]; with_reducible exact H) | (have H2_ := (Option.bind_some _ _).symm.trans H; rw [hy283]; with_reducible exact H2_) | (have H2_ := (Option.bind_some _ _).symm.trans H; with_reducible exact H2_) | with_reducible exact H | (rw [hy283]; exact H) | exact H
  have Ny283 := Aside0.mk hy283
  clear hy283
  simp only [Option.some.injEq, Prod.mk.injEq] at H
  obtain ⟨rfl, rfl⟩ := H
  go_enter Tryd.func27, Tryd.ntmps27
  go_wp2_with (first | ((with_reducible refine gate_callee (f := 60) rfl ?_); refine ga_ (some 7) Tryd.func60 #[.slice A0 l0.length c0] ?_; (with_reducible refine (spec_l24Good.calls k _ _ l0 false _ ?side1 ?side2 A3.out).mono ?_); (case side1 => exact kc_ HR0.out); (case side2 => exact HC0.out); rintro e w13 ⟨rfl, hb⟩; refine ⟨_, rfl, ?_⟩; replace HB := Aside0.mk (below_step (lb0_ HB.out) hb); (try clear hb); (try clear hb2); (try clear hk); (try clear hi)) | ((with_reducible refine gate_dst (N := 17) rfl ?_); (try (refine gate_guard (by rfl) ?_; dsimp only)); refine Kd.R_lit (Kd.int .i64) _ 3 ?hg (N := 17) ?hd (xs := ([] : List Int)) (inner := []) (ok := fun _ => True) (okp := fun _ => True) ?hr ?hp (fun _ hk => hk) trivial (Below.refl _ _) (Nat.le_refl _) (by simp) ?_; (case hd => rfl); (case hg => rfl); (case hr => first | (go_simp; done) | (go_simp; rfl)); (case hp => exact (Reps.none _ _)); intro v284 w14 ho15 hb hg_ hnew_; clear hg_ hnew_; replace ho15 := ry_ Ny283.out ho15; have HO285 := Aside0.mk (Kd.R_lower ho15 (below_size (lb0_ HB.out))); replace HB := Aside0.mk (below_step (lb0_ HB.out) hb); clear hb ho15))
  go_ret2
  exact ⟨_, rr_, kr_ HO285.out, lb0_ HB.out⟩
def idxP {α : Type} (p : α → Bool) (l : List α) : Int := if l.any p then (l.findIdx p : Int) else -1
theorem idxP_hit {α : Type} (p : α → Bool) (z : α) (l : List α) (k : Nat) (hk : k < l.length) (h : p (l.getD k z) = true) (hb : ∀ j, j < k → p (l.getD j z) = false) : idxP p l = k := by
 have hf : l.findIdx p = k := by
  rw [List.findIdx_eq hk]
  refine ⟨by rw [List.getD_eq_getElem?_getD, List.getElem?_eq_getElem hk] at h; exact h, fun j hj => ?_⟩
  have := hb j hj
  rw [List.getD_eq_getElem?_getD, List.getElem?_eq_getElem (by omega)] at this
  exact this
 unfold idxP
 rw [if_pos, hf]
 rw [List.any_eq_true]
 refine ⟨l[k], List.getElem_mem hk, ?_⟩
 rw [List.getD_eq_getElem?_getD, List.getElem?_eq_getElem hk] at h
 exact h
theorem idxP_miss {α : Type} (p : α → Bool) (z : α) (l : List α) (hb : ∀ j, j < l.length → p (l.getD j z) = false) : idxP p l = -1 := by
 unfold idxP
 rw [if_neg]
 rw [List.any_eq_true]
 rintro ⟨x, hx, hp⟩
 obtain ⟨j, hj, rfl⟩ := List.mem_iff_getElem.1 hx
 have := hb j hj
 rw [List.getD_eq_getElem?_getD, List.getElem?_eq_getElem hj] at this
 rw [show (some l[j]).getD z = l[j] from rfl, hp] at this
 cases this
theorem idxP_any {α : Type} (p : α → Bool) (l : List α) : decide (0 ≤ idxP p l) = l.any p := by
 unfold idxP
 split
 ·
  rename_i h
  rw [h]
  simp
 ·
  rename_i h
  rw [Bool.eq_false_iff.mpr h]
  rfl
set_option maxHeartbeats 4000000 in
theorem idx_Label.calls (p : S29 → Bool) (g : Nat) (lb : Array Value) (eg : ∀ args w, (callFunc g args).run Tryd.prog w = .ok (.enter g args) w) (A0 : Option Addr) (c0 : Nat) (l0 : List S29) (w : World) (hr0 : Kd.C k29 w A0 l0.length l0) (hc0 : l0.length ≤ c0)
  (hp : ∀ (W : World) (x : S29), x ∈ l0 → Below w.heap.size w W → Calls Tryd.prog g (#[.agg #[.string x.f0, .int .i64 x.f1, .int .i64 x.f2]] ++ lb) W fun e w' => e = .returned (.bool (p x)) ∧ Below w.heap.size w w') :
  Calls Tryd.prog 96 #[.slice A0 l0.length c0, .func (.func g) #[] lb] w fun e w' => e = .returned (.int .i64 (idxP p l0)) ∧ Below w.heap.size w w' := by
 have hL : l0.length ≤ 9223372036854775807 := hr0.2.1
 have HP := Aside0.mk hp
 have HR := Aside0.mk hr0
 clear hp hr0
 go_enter Tryd.func96, Tryd.ntmps96
 go_wp2
 go_loopg [5, 8] l0.length (fun gg _ s8 wr => ∃ kk : Nat, kk ≤ l0.length ∧ l0.length - kk ≤ gg ∧ s8 = .int .i64 kk ∧ Aside0 (Below w.heap.size w wr) ∧ Aside0 (∀ j, j < kk → p (l0.getD j z29) = false))
 case atStart => exact ⟨0, Nat.zero_le _, by omega, rfl, ⟨Below.refl _ w⟩, ⟨fun j hj => absurd hj (Nat.not_lt_zero _)⟩⟩
 case round =>
  obtain ⟨kk, hkk, hg, rfl, BW, AA⟩ := hrel
  by_cases hlt : kk < l0.length
  ·
   have hltz : (kk : Int) < (l0.length : Int) := by omega
   have hk0 : (0 : Int) ≤ (kk : Int) := by omega
   obtain ⟨ad, e0, hx0, hx1, hx2⟩ := at_T29 HR.out (kk : Int) hk0 hltz
   replace hx0 := (BW.out.cell (World.block_lt_of_cell? w _ hx0)).trans hx0
   replace hx1 := (BW.out.cell (World.block_lt_of_cell? w _ hx1)).trans hx1
   replace hx2 := (BW.out.cell (World.block_lt_of_cell? w _ hx2)).trans hx2
   have hm : rd_T29 l0 (kk : Int) ∈ l0 := by
    show l0.getD (kk : Int).toNat _ ∈ l0
    rw [Int.toNat_natCast, List.getD_eq_getElem?_getD, List.getElem?_eq_getElem hlt]
    exact List.getElem_mem hlt
   have hcall := HP.out wr (rd_T29 l0 (kk : Int)) hm BW.out
   have hpk : Aside0 (p (rd_T29 l0 (kk : Int)) = p (l0.getD kk z29)) := ⟨rfl⟩
   clear hm
   generalize rd_T29 l0 (kk : Int) = y at hx0 hx1 hx2 hcall hpk
   subst e0
   rw [Int.toNat_natCast] at hx0 hx1 hx2
   cases hq : p y with
   | true =>
    rw [hq] at hcall
    go_wp2_with (go_at_fn g; refine hcall.mono ?_; rintro e w' ⟨rfl, hb'⟩)
    go_ret
    refine ⟨?_, hb'⟩
    rw [idxP_hit p z29 l0 kk hlt (hpk.out.symm.trans hq) AA.out]
    rfl
   | false =>
    rw [hq] at hcall
    go_wp2_with (go_at_fn g; refine hcall.mono ?_; rintro e w' ⟨rfl, hb'⟩)
    go_roundg (l0.length - (kk + 1))
    case measure => omega
    case rel =>
     refine ⟨kk + 1, by omega, by omega, by go_num, ⟨hb'⟩, ⟨fun j hj => ?_⟩⟩
     by_cases e : j = kk
     ·
      subst e
      exact hpk.out.symm.trans hq
     ·
      exact AA.out j (by omega)
  ·
   have hltz : ¬ (kk : Int) < (l0.length : Int) := by omega
   have hkl : kk = l0.length := by omega
   go_wp2
   go_ret
   refine ⟨?_, BW.out⟩
   rw [idxP_miss p z29 l0 (fun j hj => AA.out j (by omega))]
   rfl
set_option maxHeartbeats 4000000 in
theorem cont_Label.calls (p : S29 → Bool) (g : Nat) (lb : Array Value) (eg : ∀ args w, (callFunc g args).run Tryd.prog w = .ok (.enter g args) w) (A0 : Option Addr) (c0 : Nat) (l0 : List S29) (w : World) (hr0 : Kd.C k29 w A0 l0.length l0) (hc0 : l0.length ≤ c0)
  (hp : ∀ (W : World) (x : S29), x ∈ l0 → Below w.heap.size w W → Calls Tryd.prog g (#[.agg #[.string x.f0, .int .i64 x.f1, .int .i64 x.f2]] ++ lb) W fun e w' => e = .returned (.bool (p x)) ∧ Below w.heap.size w w') :
  Calls Tryd.prog 61 #[.slice A0 l0.length c0, .func (.func g) #[] lb] w fun e w' => e = .returned (.bool (l0.any p)) ∧ Below w.heap.size w w' := by
 rw [← idxP_any p l0]
 have hcon := idx_Label.calls p g lb eg A0 c0 l0 w hr0 hc0 hp
 generalize idxP p l0 = r at hcon ⊢
 have HC := Aside0.mk hcon
 clear hcon hp hr0
 go_enter Tryd.func61, Tryd.ntmps61
 go_wp2_with (go_at_call 96; refine HC.out.mono ?_; rintro e w' ⟨rfl, hb'⟩)
 go_ret
 exact ⟨rfl, hb'⟩
set_option maxHeartbeats 4000000 in
theorem idx_Box.calls (p : S26 → Bool) (g : Nat) (lb : Array Value) (eg : ∀ args w, (callFunc g args).run Tryd.prog w = .ok (.enter g args) w) (A0 : Option Addr) (c0 : Nat) (l0 : List S26) (w : World) (hr0 : Kd.C k26 w A0 l0.length l0) (hc0 : l0.length ≤ c0)
  (hp : ∀ (W : World) (x : S26), x ∈ l0 → Below w.heap.size w W → Calls Tryd.prog g (#[.agg #[.int .i64 x.f0, .int .i64 x.f1, .int .i64 x.f2, .int .i64 x.f3]] ++ lb) W fun e w' => e = .returned (.bool (p x)) ∧ Below w.heap.size w w') :
  Calls Tryd.prog 100 #[.slice A0 l0.length c0, .func (.func g) #[] lb] w fun e w' => e = .returned (.int .i64 (idxP p l0)) ∧ Below w.heap.size w w' := by
 have hL : l0.length ≤ 9223372036854775807 := hr0.2.1
 have HP := Aside0.mk hp
 have HR := Aside0.mk hr0
 clear hp hr0
 go_enter Tryd.func100, Tryd.ntmps100
 go_wp2
 go_loopg [5, 8] l0.length (fun gg _ s8 wr => ∃ kk : Nat, kk ≤ l0.length ∧ l0.length - kk ≤ gg ∧ s8 = .int .i64 kk ∧ Aside0 (Below w.heap.size w wr) ∧ Aside0 (∀ j, j < kk → p (l0.getD j z26) = false))
 case atStart => exact ⟨0, Nat.zero_le _, by omega, rfl, ⟨Below.refl _ w⟩, ⟨fun j hj => absurd hj (Nat.not_lt_zero _)⟩⟩
 case round =>
  obtain ⟨kk, hkk, hg, rfl, BW, AA⟩ := hrel
  by_cases hlt : kk < l0.length
  ·
   have hltz : (kk : Int) < (l0.length : Int) := by omega
   have hk0 : (0 : Int) ≤ (kk : Int) := by omega
   obtain ⟨ad, e0, hx0, hx1, hx2, hx3⟩ := at_T26 HR.out (kk : Int) hk0 hltz
   replace hx0 := (BW.out.cell (World.block_lt_of_cell? w _ hx0)).trans hx0
   replace hx1 := (BW.out.cell (World.block_lt_of_cell? w _ hx1)).trans hx1
   replace hx2 := (BW.out.cell (World.block_lt_of_cell? w _ hx2)).trans hx2
   replace hx3 := (BW.out.cell (World.block_lt_of_cell? w _ hx3)).trans hx3
   have hm : rd_T26 l0 (kk : Int) ∈ l0 := by
    show l0.getD (kk : Int).toNat _ ∈ l0
    rw [Int.toNat_natCast, List.getD_eq_getElem?_getD, List.getElem?_eq_getElem hlt]
    exact List.getElem_mem hlt
   have hcall := HP.out wr (rd_T26 l0 (kk : Int)) hm BW.out
   have hpk : Aside0 (p (rd_T26 l0 (kk : Int)) = p (l0.getD kk z26)) := ⟨rfl⟩
   clear hm
   generalize rd_T26 l0 (kk : Int) = y at hx0 hx1 hx2 hx3 hcall hpk
   subst e0
   rw [Int.toNat_natCast] at hx0 hx1 hx2 hx3
   cases hq : p y with
   | true =>
    rw [hq] at hcall
    go_wp2_with (go_at_fn g; refine hcall.mono ?_; rintro e w' ⟨rfl, hb'⟩)
    go_ret
    refine ⟨?_, hb'⟩
    rw [idxP_hit p z26 l0 kk hlt (hpk.out.symm.trans hq) AA.out]
    rfl
   | false =>
    rw [hq] at hcall
    go_wp2_with (go_at_fn g; refine hcall.mono ?_; rintro e w' ⟨rfl, hb'⟩)
    go_roundg (l0.length - (kk + 1))
    case measure => omega
    case rel =>
     refine ⟨kk + 1, by omega, by omega, by go_num, ⟨hb'⟩, ⟨fun j hj => ?_⟩⟩
     by_cases e : j = kk
     ·
      subst e
      exact hpk.out.symm.trans hq
     ·
      exact AA.out j (by omega)
  ·
   have hltz : ¬ (kk : Int) < (l0.length : Int) := by omega
   have hkl : kk = l0.length := by omega
   go_wp2
   go_ret
   refine ⟨?_, BW.out⟩
   rw [idxP_miss p z26 l0 (fun j hj => AA.out j (by omega))]
   rfl
set_option maxHeartbeats 4000000 in
theorem cont_Box.calls (p : S26 → Bool) (g : Nat) (lb : Array Value) (eg : ∀ args w, (callFunc g args).run Tryd.prog w = .ok (.enter g args) w) (A0 : Option Addr) (c0 : Nat) (l0 : List S26) (w : World) (hr0 : Kd.C k26 w A0 l0.length l0) (hc0 : l0.length ≤ c0)
  (hp : ∀ (W : World) (x : S26), x ∈ l0 → Below w.heap.size w W → Calls Tryd.prog g (#[.agg #[.int .i64 x.f0, .int .i64 x.f1, .int .i64 x.f2, .int .i64 x.f3]] ++ lb) W fun e w' => e = .returned (.bool (p x)) ∧ Below w.heap.size w w') :
  Calls Tryd.prog 68 #[.slice A0 l0.length c0, .func (.func g) #[] lb] w fun e w' => e = .returned (.bool (l0.any p)) ∧ Below w.heap.size w w' := by
 rw [← idxP_any p l0]
 have hcon := idx_Box.calls p g lb eg A0 c0 l0 w hr0 hc0 hp
 generalize idxP p l0 = r at hcon ⊢
 have HC := Aside0.mk hcon
 clear hcon hp hr0
 go_enter Tryd.func68, Tryd.ntmps68
 go_wp2_with (go_at_call 100; refine HC.out.mono ?_; rintro e w' ⟨rfl, hb'⟩)
 go_ret
 exact ⟨rfl, hb'⟩
theorem areLabels1_ (a0 : ByteArray) (a1 a2 : Int) (r : Bool) (w : World) (h : impl_isLabel.f a0 a1 a2 = some r) :
  Calls Tryd.prog 62 (#[.agg #[.string a0, .int .i64 a1, .int .i64 a2]] ++ #[]) w fun e w' => e = .returned (.bool (!r)) ∧ Below w.heap.size w w' := by
 show Calls Tryd.prog 62 #[.agg #[.string a0, .int .i64 a1, .int .i64 a2]] w _
 go_enter Tryd.func62, Tryd.ntmps62
 go_wp2_with (go_at_call 57; refine (impl_isLabel.calls a0 a1 a2 r _ h).mono ?_; rintro e w' ⟨rfl, hb⟩)
 go_ret
 exact ⟨rfl, by first | exact hb | exact below_step (below_alloc (Below.refl _ w) _) hb⟩
def impl_AreLabels.f (l0 : List S29) : Option Bool :=
 if (l0.length : Int) ≤ 6 then (if l0.all (fun x => (impl_isLabel.f x.f0 x.f1 x.f2).isSome) = true then some (!(l0.any fun x => !((impl_isLabel.f x.f0 x.f1 x.f2).getD false))) else none) else some false
set_option maxHeartbeats 4000000 in
set_option maxRecDepth 100000 in
theorem impl_AreLabels.calls (A0 : Option Addr) (c0 : Nat) (l0 : List S29) (r : Bool) (w : World) (hr0 : Kd.C k29 w A0 l0.length l0) (hc0 : l0.length ≤ c0) (h : impl_AreLabels.f l0 = some r) :
  Calls Tryd.prog 21 #[.slice A0 l0.length c0] w fun e w' => e = .returned (.bool r) ∧ Below w.heap.size w w' := by
 unfold impl_AreLabels.f at h
 by_cases c1 : (l0.length : Int) ≤ 6
 ·
  rw [if_pos c1] at h
  by_cases c2 : l0.all (fun x => (impl_isLabel.f x.f0 x.f1 x.f2).isSome) = true
  ·
   rw [if_pos c2] at h
   have c1b : decide ((l0.length : Int) ≤ 6) = true := decide_eq_true c1
   have hcall := fun W (hW : Below w.heap.size w W) => cont_Label.calls (fun x => !((impl_isLabel.f x.f0 x.f1 x.f2).getD false)) 62 #[] (fun _ _ => rfl) A0 c0 l0 W (Kd.C_below hr0 hW) hc0 (fun W' x hx hW' => by
    obtain ⟨b, hb⟩ := Option.isSome_iff_exists.1 (List.all_eq_true.1 c2 x hx)
    rw [hb]
    refine (areLabels1_ x.f0 x.f1 x.f2 b W' hb).mono ?_
    rintro e w'' ⟨rfl, hb2⟩
    exact ⟨rfl, below_step hW' hb2⟩)
   obtain rfl := Option.some.inj h
   generalize l0.any (fun x => !((impl_isLabel.f x.f0 x.f1 x.f2).getD false)) = q at hcall ⊢
   have HC := Aside0.mk hcall
   clear hcall hr0 c2 c1 h
   go_enter Tryd.func21, Tryd.ntmps21
   go_wp2_with (go_at_call 61; refine (HC.out _ (Below.refl _ _)).mono ?_; rintro e w' ⟨rfl, hb⟩)
   go_ret
   exact ⟨rfl, hb⟩
  ·
   rw [if_neg c2] at h
   cases h
 ·
  rw [if_neg c1] at h
  obtain rfl := Option.some.inj h
  have c1b : decide ((l0.length : Int) ≤ 6) = false := decide_eq_false c1
  clear c1 hr0
  go_enter Tryd.func21, Tryd.ntmps21
  go_wp2
  go_ret
  exact ⟨rfl, Below.refl _ _⟩
theorem heap_new_ (w : World) (cs : Array Value) (t : TypeId) : (w.alloc (.cells cs t)).heap[w.heap.size]? = some (.cells cs t (0, 0)) := by
 show (w.heap.push _)[w.heap.size]? = _
 simp
def impl_meet.f (a0_0 : Int) (a0_1 : Int) (a0_2 : Int) (a0_3 : Int) (a1_0 : Int) (a1_1 : Int) (a1_2 : Int) (a1_3 : Int) : Option (Bool) := if a0_2 = 0 then (some false) else (if a0_3 = 0 then (some false) else (if a1_2 = 0 then (some false) else (if a1_3 = 0 then (some false) else (if a0_0 < (wrap64 (a1_0 + a1_2)) then (if a1_0 < (wrap64 (a0_0 + a0_2)) then (if a0_1 < (wrap64 (a1_1 + a1_3)) then (some (decide (a1_1 < (wrap64 (a0_1 + a0_3))))) else (some false)) else (some false)) else (some false)))))
set_option maxHeartbeats 8000000 in
set_option maxRecDepth 100000 in
theorem impl_meet.calls (a0_0 : Int) (a0_1 : Int) (a0_2 : Int) (a0_3 : Int) (a1_0 : Int) (a1_1 : Int) (a1_2 : Int) (a1_3 : Int) (r : Bool) (w : World) (h : impl_meet.f a0_0 a0_1 a0_2 a0_3 a1_0 a1_1 a1_2 a1_3 = some r) :
  Calls Tryd.prog 70 #[.agg #[.int .i64 a0_0, .int .i64 a0_1, .int .i64 a0_2, .int .i64 a0_3], .agg #[.int .i64 a1_0, .int .i64 a1_1, .int .i64 a1_2, .int .i64 a1_3]] w fun e w' => e = .returned (.bool r) ∧ Below w.heap.size w w' := by
 have hu26 := Tryd.underlying26
 have HB := Aside0.mk (Below.refl w.heap.size w)
 have H : (if a0_2 = 0 then (some false) else (if a0_3 = 0 then (some false) else (if a1_2 = 0 then (some false) else (if a1_3 = 0 then (some false) else (if a0_0 < (wrap64 (a1_0 + a1_2)) then (if a1_0 < (wrap64 (a0_0 + a0_2)) then (if a0_1 < (wrap64 (a1_1 + a1_3)) then (some (decide (a1_1 < (wrap64 (a0_1 + a0_3))))) else (some false)) else (some false)) else (some false)))))) = some r := h
 clear h
 by_cases c3 : a0_2 = 0
 ·
  rw [if_pos c3] at H
  have c3b0 : (a0_2 == 0) = true := beq_iff_eq.mpr c3
  have c3b1 : (a0_2 != 0) = false := bne_eq_false_iff_eq.mpr c3
  clear c3
  obtain rfl := Option.some.inj H
  go_enter Tryd.func70, Tryd.ntmps70
  go_wp2_with (first | ((with_reducible refine gate_dst (N := 2) rfl ?_); refine box_event ?hg (N := 2) ?hd (cs := #[.int .i64 a0_0, .int .i64 a0_1, .int .i64 a0_2, .int .i64 a0_3]) (t := 26) ?hr ?_; (case hd => rfl); (case hg => rfl); (case hr => first | (go_simp; done) | (go_simp; rfl)); intro gb219 hg w4 hbox hb; have BK219 := Aside0.mk (hbox); have GW219 := Aside0.mk ((bz_ hg (lb0_ HB.out))); have GE219 := Aside0.mk ((bz_ hg (lb0_ HB.out))); replace HB := Aside0.mk (below_step (lb0_ HB.out) hb); clear hb hbox hg) | ((with_reducible refine gate_dst (N := 3) rfl ?_); refine box_event ?hg (N := 3) ?hd (cs := #[.int .i64 a1_0, .int .i64 a1_1, .int .i64 a1_2, .int .i64 a1_3]) (t := 26) ?hr ?_; (case hd => rfl); (case hg => rfl); (case hr => first | (go_simp; done) | (go_simp; rfl)); intro gb220 hg w5 hbox hb; have BK220 := Aside0.mk (hbox); have GW220 := Aside0.mk ((bz_ hg (lb1_ HB.out GE219.out))); have GE220 := Aside0.mk ((bz_ hg (lb1_ HB.out GE219.out))); replace HB := Aside0.mk (below_step (lb1_ HB.out GE219.out) hb); have NB219_220 := Aside0.mk (nl_ hg BK219.out); have NB220_219 := Aside0.mk (ng_ hg BK219.out); replace BK219 := Aside0.mk (bb_ (bk_ BK219.out) hb); clear hb hbox hg; have hnb6 := NB219_220.out; have hnc6 := NB220_219.out; obtain ⟨hcz7_0, hcz7_1, hcz7_2, hcz7_3⟩ := cz4_ BK219.out; obtain ⟨hfz7_0, hfz7_1, hfz7_2, hfz7_3⟩ := fz4_ BK219.out))
  go_ret
  exact ⟨rr_, lb2_ HB.out GE219.out GE220.out⟩
 ·
  rw [if_neg c3] at H
  have c3b0 : (a0_2 == 0) = false := beq_eq_false_iff_ne.mpr c3
  have c3b1 : (a0_2 != 0) = true := bne_iff_ne.mpr c3
  by_cases c8 : a0_3 = 0
  ·
   rw [if_pos c8] at H
   have c8b0 : (a0_3 == 0) = true := beq_iff_eq.mpr c8
   have c8b1 : (a0_3 != 0) = false := bne_eq_false_iff_eq.mpr c8
   clear c8
   obtain rfl := Option.some.inj H
   go_enter Tryd.func70, Tryd.ntmps70
   go_wp2_with (first | ((with_reducible refine gate_dst (N := 2) rfl ?_); refine box_event ?hg (N := 2) ?hd (cs := #[.int .i64 a0_0, .int .i64 a0_1, .int .i64 a0_2, .int .i64 a0_3]) (t := 26) ?hr ?_; (case hd => rfl); (case hg => rfl); (case hr => first | (go_simp; done) | (go_simp; rfl)); intro gb219 hg w9 hbox hb; have BK219 := Aside0.mk (hbox); have GW219 := Aside0.mk ((bz_ hg (lb0_ HB.out))); have GE219 := Aside0.mk ((bz_ hg (lb0_ HB.out))); replace HB := Aside0.mk (below_step (lb0_ HB.out) hb); clear hb hbox hg) | ((with_reducible refine gate_dst (N := 3) rfl ?_); refine box_event ?hg (N := 3) ?hd (cs := #[.int .i64 a1_0, .int .i64 a1_1, .int .i64 a1_2, .int .i64 a1_3]) (t := 26) ?hr ?_; (case hd => rfl); (case hg => rfl); (case hr => first | (go_simp; done) | (go_simp; rfl)); intro gb220 hg w10 hbox hb; have BK220 := Aside0.mk (hbox); have GW220 := Aside0.mk ((bz_ hg (lb1_ HB.out GE219.out))); have GE220 := Aside0.mk ((bz_ hg (lb1_ HB.out GE219.out))); replace HB := Aside0.mk (below_step (lb1_ HB.out GE219.out) hb); have NB219_220 := Aside0.mk (nl_ hg BK219.out); have NB220_219 := Aside0.mk (ng_ hg BK219.out); replace BK219 := Aside0.mk (bb_ (bk_ BK219.out) hb); clear hb hbox hg; have hnb11 := NB219_220.out; have hnc11 := NB220_219.out; obtain ⟨hcz12_0, hcz12_1, hcz12_2, hcz12_3⟩ := cz4_ BK219.out; obtain ⟨hfz12_0, hfz12_1, hfz12_2, hfz12_3⟩ := fz4_ BK219.out))
   go_ret
   exact ⟨rr_, lb2_ HB.out GE219.out GE220.out⟩
  ·
   rw [if_neg c8] at H
   have c8b0 : (a0_3 == 0) = false := beq_eq_false_iff_ne.mpr c8
   have c8b1 : (a0_3 != 0) = true := bne_iff_ne.mpr c8
   by_cases c13 : a1_2 = 0
   ·
    rw [if_pos c13] at H
    have c13b0 : (a1_2 == 0) = true := beq_iff_eq.mpr c13
    have c13b1 : (a1_2 != 0) = false := bne_eq_false_iff_eq.mpr c13
    clear c13
    obtain rfl := Option.some.inj H
    go_enter Tryd.func70, Tryd.ntmps70
    go_wp2_with (first | ((with_reducible refine gate_dst (N := 2) rfl ?_); refine box_event ?hg (N := 2) ?hd (cs := #[.int .i64 a0_0, .int .i64 a0_1, .int .i64 a0_2, .int .i64 a0_3]) (t := 26) ?hr ?_; (case hd => rfl); (case hg => rfl); (case hr => first | (go_simp; done) | (go_simp; rfl)); intro gb219 hg w14 hbox hb; have BK219 := Aside0.mk (hbox); have GW219 := Aside0.mk ((bz_ hg (lb0_ HB.out))); have GE219 := Aside0.mk ((bz_ hg (lb0_ HB.out))); replace HB := Aside0.mk (below_step (lb0_ HB.out) hb); clear hb hbox hg) | ((with_reducible refine gate_dst (N := 3) rfl ?_); refine box_event ?hg (N := 3) ?hd (cs := #[.int .i64 a1_0, .int .i64 a1_1, .int .i64 a1_2, .int .i64 a1_3]) (t := 26) ?hr ?_; (case hd => rfl); (case hg => rfl); (case hr => first | (go_simp; done) | (go_simp; rfl)); intro gb220 hg w15 hbox hb; have BK220 := Aside0.mk (hbox); have GW220 := Aside0.mk ((bz_ hg (lb1_ HB.out GE219.out))); have GE220 := Aside0.mk ((bz_ hg (lb1_ HB.out GE219.out))); replace HB := Aside0.mk (below_step (lb1_ HB.out GE219.out) hb); have NB219_220 := Aside0.mk (nl_ hg BK219.out); have NB220_219 := Aside0.mk (ng_ hg BK219.out); replace BK219 := Aside0.mk (bb_ (bk_ BK219.out) hb); clear hb hbox hg; have hnb16 := NB219_220.out; have hnc16 := NB220_219.out; obtain ⟨hcz17_0, hcz17_1, hcz17_2, hcz17_3⟩ := cz4_ BK219.out; obtain ⟨hfz17_0, hfz17_1, hfz17_2, hfz17_3⟩ := fz4_ BK219.out; obtain ⟨hcz18_0, hcz18_1, hcz18_2, hcz18_3⟩ := cz4_ BK220.out; obtain ⟨hfz18_0, hfz18_1, hfz18_2, hfz18_3⟩ := fz4_ BK220.out))
    go_ret
    exact ⟨rr_, lb2_ HB.out GE219.out GE220.out⟩
   ·
    rw [if_neg c13] at H
    have c13b0 : (a1_2 == 0) = false := beq_eq_false_iff_ne.mpr c13
    have c13b1 : (a1_2 != 0) = true := bne_iff_ne.mpr c13
    by_cases c19 : a1_3 = 0
    ·
     rw [if_pos c19] at H
     have c19b0 : (a1_3 == 0) = true := beq_iff_eq.mpr c19
     have c19b1 : (a1_3 != 0) = false := bne_eq_false_iff_eq.mpr c19
     clear c19
     obtain rfl := Option.some.inj H
     go_enter Tryd.func70, Tryd.ntmps70
     go_wp2_with (first | ((with_reducible refine gate_dst (N := 2) rfl ?_); refine box_event ?hg (N := 2) ?hd (cs := #[.int .i64 a0_0, .int .i64 a0_1, .int .i64 a0_2, .int .i64 a0_3]) (t := 26) ?hr ?_; (case hd => rfl); (case hg => rfl); (case hr => first | (go_simp; done) | (go_simp; rfl)); intro gb219 hg w20 hbox hb; have BK219 := Aside0.mk (hbox); have GW219 := Aside0.mk ((bz_ hg (lb0_ HB.out))); have GE219 := Aside0.mk ((bz_ hg (lb0_ HB.out))); replace HB := Aside0.mk (below_step (lb0_ HB.out) hb); clear hb hbox hg) | ((with_reducible refine gate_dst (N := 3) rfl ?_); refine box_event ?hg (N := 3) ?hd (cs := #[.int .i64 a1_0, .int .i64 a1_1, .int .i64 a1_2, .int .i64 a1_3]) (t := 26) ?hr ?_; (case hd => rfl); (case hg => rfl); (case hr => first | (go_simp; done) | (go_simp; rfl)); intro gb220 hg w21 hbox hb; have BK220 := Aside0.mk (hbox); have GW220 := Aside0.mk ((bz_ hg (lb1_ HB.out GE219.out))); have GE220 := Aside0.mk ((bz_ hg (lb1_ HB.out GE219.out))); replace HB := Aside0.mk (below_step (lb1_ HB.out GE219.out) hb); have NB219_220 := Aside0.mk (nl_ hg BK219.out); have NB220_219 := Aside0.mk (ng_ hg BK219.out); replace BK219 := Aside0.mk (bb_ (bk_ BK219.out) hb); clear hb hbox hg; have hnb22 := NB219_220.out; have hnc22 := NB220_219.out; obtain ⟨hcz23_0, hcz23_1, hcz23_2, hcz23_3⟩ := cz4_ BK219.out; obtain ⟨hfz23_0, hfz23_1, hfz23_2, hfz23_3⟩ := fz4_ BK219.out; obtain ⟨hcz24_0, hcz24_1, hcz24_2, hcz24_3⟩ := cz4_ BK220.out; obtain ⟨hfz24_0, hfz24_1, hfz24_2, hfz24_3⟩ := fz4_ BK220.out))
     go_ret
     exact ⟨rr_, lb2_ HB.out GE219.out GE220.out⟩
    ·
     rw [if_neg c19] at H
     have c19b0 : (a1_3 == 0) = false := beq_eq_false_iff_ne.mpr c19
     have c19b1 : (a1_3 != 0) = true := bne_iff_ne.mpr c19
     by_cases c25 : a0_0 < (wrap64 (a1_0 + a1_2))
     ·
      rw [if_pos c25] at H
      have c25b0 : decide (a0_0 < (wrap64 (a1_0 + a1_2))) = true := decide_eq_true c25
      clear c25
      by_cases c26 : a1_0 < (wrap64 (a0_0 + a0_2))
      ·
       rw [if_pos c26] at H
       have c26b0 : decide (a1_0 < (wrap64 (a0_0 + a0_2))) = true := decide_eq_true c26
       clear c26
       by_cases c27 : a0_1 < (wrap64 (a1_1 + a1_3))
       ·
        rw [if_pos c27] at H
        have c27b0 : decide (a0_1 < (wrap64 (a1_1 + a1_3))) = true := decide_eq_true c27; clear c27; obtain rfl := Option.some.inj H
        go_enter Tryd.func70, Tryd.ntmps70
        go_wp2_with (first | ((with_reducible refine gate_dst (N := 2) rfl ?_); refine box_event ?hg (N := 2) ?hd (cs := #[.int .i64 a0_0, .int .i64 a0_1, .int .i64 a0_2, .int .i64 a0_3]) (t := 26) ?hr ?_; (case hd => rfl); (case hg => rfl); (case hr => first | (go_simp; done) | (go_simp; rfl)); intro gb219 hg w28 hbox hb; have BK219 := Aside0.mk (hbox); have GW219 := Aside0.mk ((bz_ hg (lb0_ HB.out))); have GE219 := Aside0.mk ((bz_ hg (lb0_ HB.out))); replace HB := Aside0.mk (below_step (lb0_ HB.out) hb); clear hb hbox hg) | ((with_reducible refine gate_dst (N := 3) rfl ?_); refine box_event ?hg (N := 3) ?hd (cs := #[.int .i64 a1_0, .int .i64 a1_1, .int .i64 a1_2, .int .i64 a1_3]) (t := 26) ?hr ?_; (case hd => rfl); (case hg => rfl); (case hr => first | (go_simp; done) | (go_simp; rfl)); intro gb220 hg w29 hbox hb; have BK220 := Aside0.mk (hbox); have GW220 := Aside0.mk ((bz_ hg (lb1_ HB.out GE219.out))); have GE220 := Aside0.mk ((bz_ hg (lb1_ HB.out GE219.out))); replace HB := Aside0.mk (below_step (lb1_ HB.out GE219.out) hb); have NB219_220 := Aside0.mk (nl_ hg BK219.out); have NB220_219 := Aside0.mk (ng_ hg BK219.out); replace BK219 := Aside0.mk (bb_ (bk_ BK219.out) hb); clear hb hbox hg; have hnb30 := NB219_220.out; have hnc30 := NB220_219.out; obtain ⟨hcz31_0, hcz31_1, hcz31_2, hcz31_3⟩ := cz4_ BK219.out; obtain ⟨hfz31_0, hfz31_1, hfz31_2, hfz31_3⟩ := fz4_ BK219.out; obtain ⟨hcz32_0, hcz32_1, hcz32_2, hcz32_3⟩ := cz4_ BK220.out; obtain ⟨hfz32_0, hfz32_1, hfz32_2, hfz32_3⟩ := fz4_ BK220.out))
        go_ret
        exact ⟨rr_, lb2_ HB.out GE219.out GE220.out⟩
       ·
        rw [if_neg c27] at H
        have c27b0 : decide (a0_1 < (wrap64 (a1_1 + a1_3))) = false := decide_eq_false c27; clear c27; obtain rfl := Option.some.inj H
        go_enter Tryd.func70, Tryd.ntmps70
        go_wp2_with (first | ((with_reducible refine gate_dst (N := 2) rfl ?_); refine box_event ?hg (N := 2) ?hd (cs := #[.int .i64 a0_0, .int .i64 a0_1, .int .i64 a0_2, .int .i64 a0_3]) (t := 26) ?hr ?_; (case hd => rfl); (case hg => rfl); (case hr => first | (go_simp; done) | (go_simp; rfl)); intro gb219 hg w33 hbox hb; have BK219 := Aside0.mk (hbox); have GW219 := Aside0.mk ((bz_ hg (lb0_ HB.out))); have GE219 := Aside0.mk ((bz_ hg (lb0_ HB.out))); replace HB := Aside0.mk (below_step (lb0_ HB.out) hb); clear hb hbox hg) | ((with_reducible refine gate_dst (N := 3) rfl ?_); refine box_event ?hg (N := 3) ?hd (cs := #[.int .i64 a1_0, .int .i64 a1_1, .int .i64 a1_2, .int .i64 a1_3]) (t := 26) ?hr ?_; (case hd => rfl); (case hg => rfl); (case hr => first | (go_simp; done) | (go_simp; rfl)); intro gb220 hg w34 hbox hb; have BK220 := Aside0.mk (hbox); have GW220 := Aside0.mk ((bz_ hg (lb1_ HB.out GE219.out))); have GE220 := Aside0.mk ((bz_ hg (lb1_ HB.out GE219.out))); replace HB := Aside0.mk (below_step (lb1_ HB.out GE219.out) hb); have NB219_220 := Aside0.mk (nl_ hg BK219.out); have NB220_219 := Aside0.mk (ng_ hg BK219.out); replace BK219 := Aside0.mk (bb_ (bk_ BK219.out) hb); clear hb hbox hg; have hnb35 := NB219_220.out; have hnc35 := NB220_219.out; obtain ⟨hcz36_0, hcz36_1, hcz36_2, hcz36_3⟩ := cz4_ BK219.out; obtain ⟨hfz36_0, hfz36_1, hfz36_2, hfz36_3⟩ := fz4_ BK219.out; obtain ⟨hcz37_0, hcz37_1, hcz37_2, hcz37_3⟩ := cz4_ BK220.out; obtain ⟨hfz37_0, hfz37_1, hfz37_2, hfz37_3⟩ := fz4_ BK220.out))
        go_ret
        exact ⟨rr_, lb2_ HB.out GE219.out GE220.out⟩
      ·
       rw [if_neg c26] at H
       have c26b0 : decide (a1_0 < (wrap64 (a0_0 + a0_2))) = false := decide_eq_false c26
       clear c26
       obtain rfl := Option.some.inj H
       go_enter Tryd.func70, Tryd.ntmps70
       go_wp2_with (first | ((with_reducible refine gate_dst (N := 2) rfl ?_); refine box_event ?hg (N := 2) ?hd (cs := #[.int .i64 a0_0, .int .i64 a0_1, .int .i64 a0_2, .int .i64 a0_3]) (t := 26) ?hr ?_; (case hd => rfl); (case hg => rfl); (case hr => first | (go_simp; done) | (go_simp; rfl)); intro gb219 hg w38 hbox hb; have BK219 := Aside0.mk (hbox); have GW219 := Aside0.mk ((bz_ hg (lb0_ HB.out))); have GE219 := Aside0.mk ((bz_ hg (lb0_ HB.out))); replace HB := Aside0.mk (below_step (lb0_ HB.out) hb); clear hb hbox hg) | ((with_reducible refine gate_dst (N := 3) rfl ?_); refine box_event ?hg (N := 3) ?hd (cs := #[.int .i64 a1_0, .int .i64 a1_1, .int .i64 a1_2, .int .i64 a1_3]) (t := 26) ?hr ?_; (case hd => rfl); (case hg => rfl); (case hr => first | (go_simp; done) | (go_simp; rfl)); intro gb220 hg w39 hbox hb; have BK220 := Aside0.mk (hbox); have GW220 := Aside0.mk ((bz_ hg (lb1_ HB.out GE219.out))); have GE220 := Aside0.mk ((bz_ hg (lb1_ HB.out GE219.out))); replace HB := Aside0.mk (below_step (lb1_ HB.out GE219.out) hb); have NB219_220 := Aside0.mk (nl_ hg BK219.out); have NB220_219 := Aside0.mk (ng_ hg BK219.out); replace BK219 := Aside0.mk (bb_ (bk_ BK219.out) hb); clear hb hbox hg; have hnb40 := NB219_220.out; have hnc40 := NB220_219.out; obtain ⟨hcz41_0, hcz41_1, hcz41_2, hcz41_3⟩ := cz4_ BK219.out; obtain ⟨hfz41_0, hfz41_1, hfz41_2, hfz41_3⟩ := fz4_ BK219.out; obtain ⟨hcz42_0, hcz42_1, hcz42_2, hcz42_3⟩ := cz4_ BK220.out; obtain ⟨hfz42_0, hfz42_1, hfz42_2, hfz42_3⟩ := fz4_ BK220.out))
       go_ret
       exact ⟨rr_, lb2_ HB.out GE219.out GE220.out⟩
     ·
      rw [if_neg c25] at H
      have c25b0 : decide (a0_0 < (wrap64 (a1_0 + a1_2))) = false := decide_eq_false c25
      clear c25
      obtain rfl := Option.some.inj H
      go_enter Tryd.func70, Tryd.ntmps70
      go_wp2_with (first | ((with_reducible refine gate_dst (N := 2) rfl ?_); refine box_event ?hg (N := 2) ?hd (cs := #[.int .i64 a0_0, .int .i64 a0_1, .int .i64 a0_2, .int .i64 a0_3]) (t := 26) ?hr ?_; (case hd => rfl); (case hg => rfl); (case hr => first | (go_simp; done) | (go_simp; rfl)); intro gb219 hg w43 hbox hb; have BK219 := Aside0.mk (hbox); have GW219 := Aside0.mk ((bz_ hg (lb0_ HB.out))); have GE219 := Aside0.mk ((bz_ hg (lb0_ HB.out))); replace HB := Aside0.mk (below_step (lb0_ HB.out) hb); clear hb hbox hg) | ((with_reducible refine gate_dst (N := 3) rfl ?_); refine box_event ?hg (N := 3) ?hd (cs := #[.int .i64 a1_0, .int .i64 a1_1, .int .i64 a1_2, .int .i64 a1_3]) (t := 26) ?hr ?_; (case hd => rfl); (case hg => rfl); (case hr => first | (go_simp; done) | (go_simp; rfl)); intro gb220 hg w44 hbox hb; have BK220 := Aside0.mk (hbox); have GW220 := Aside0.mk ((bz_ hg (lb1_ HB.out GE219.out))); have GE220 := Aside0.mk ((bz_ hg (lb1_ HB.out GE219.out))); replace HB := Aside0.mk (below_step (lb1_ HB.out GE219.out) hb); have NB219_220 := Aside0.mk (nl_ hg BK219.out); have NB220_219 := Aside0.mk (ng_ hg BK219.out); replace BK219 := Aside0.mk (bb_ (bk_ BK219.out) hb); clear hb hbox hg; have hnb45 := NB219_220.out; have hnc45 := NB220_219.out; obtain ⟨hcz46_0, hcz46_1, hcz46_2, hcz46_3⟩ := cz4_ BK219.out; obtain ⟨hfz46_0, hfz46_1, hfz46_2, hfz46_3⟩ := fz4_ BK219.out; obtain ⟨hcz47_0, hcz47_1, hcz47_2, hcz47_3⟩ := cz4_ BK220.out; obtain ⟨hfz47_0, hfz47_1, hfz47_2, hfz47_3⟩ := fz4_ BK220.out))
      go_ret
      exact ⟨rr_, lb2_ HB.out GE219.out GE220.out⟩
set_option maxHeartbeats 4000000 in
theorem free1_ (gb : Nat) (b0 b1 b2 b3 : Int) (a0 : ByteArray) (a1 a2 : Int) (r : Bool) (w : World) (hb : w.heap[gb]? = some (.cells #[.int .i64 b0, .int .i64 b1, .int .i64 b2, .int .i64 b3] 26 (0, 0))) (h : impl_meet.f b0 b1 b2 b3 a1 a2 1 1 = some r) :
  Calls Tryd.prog 99 (#[.agg #[.string a0, .int .i64 a1, .int .i64 a2]] ++ #[.pointer (some ⟨gb, 0, none⟩)]) w fun e w' => e = .returned (.bool r) ∧ Below w.heap.size w w' := by
 show Calls Tryd.prog 99 #[.agg #[.string a0, .int .i64 a1, .int .i64 a2], .pointer (some ⟨gb, 0, none⟩)] w _
 have h0 : w.cell? ⟨gb, 0, none⟩ = some (.int .i64 b0) := (blk_cell hb 0).trans rfl
 have h1 : w.cell? ⟨gb, 1, none⟩ = some (.int .i64 b1) := (blk_cell hb 1).trans rfl
 have h2 : w.cell? ⟨gb, 2, none⟩ = some (.int .i64 b2) := (blk_cell hb 2).trans rfl
 have h3 : w.cell? ⟨gb, 3, none⟩ = some (.int .i64 b3) := (blk_cell hb 3).trans rfl
 have hB := below_alloc (Below.refl w.heap.size w) (.cells #[.string a0, .int .i64 a1, .int .i64 a2] 29)
 replace h0 := (hB.cell (World.block_lt_of_cell? w _ h0)).trans h0
 replace h1 := (hB.cell (World.block_lt_of_cell? w _ h1)).trans h1
 replace h2 := (hB.cell (World.block_lt_of_cell? w _ h2)).trans h2
 replace h3 := (hB.cell (World.block_lt_of_cell? w _ h3)).trans h3
 clear hb
 go_enter Tryd.func99, Tryd.ntmps99
 go_wp2_with (go_at_call 70; refine (impl_meet.calls b0 b1 b2 b3 a1 a2 1 1 r _ h).mono ?_; rintro e w' ⟨rfl, hb⟩)
 go_ret
 exact ⟨rfl, below_step hB hb⟩
def impl_free.f (l0 : List S29) (b0 b1 b2 b3 : Int) : Option Bool :=
 if b0 < 0 then some false else (if b1 < 0 then some false else (if 100 < wrap64 (b0 + b2) then some false else (if 100 < wrap64 (b1 + b3) then some false else
  (if l0.all (fun x => (impl_meet.f b0 b1 b2 b3 x.f1 x.f2 1 1).isSome) = true then some (!(l0.any fun x => (impl_meet.f b0 b1 b2 b3 x.f1 x.f2 1 1).getD false)) else none))))
set_option maxHeartbeats 4000000 in
set_option maxRecDepth 100000 in
theorem impl_free.calls (A0 : Option Addr) (c0 : Nat) (l0 : List S29) (b0 b1 b2 b3 : Int) (r : Bool) (w : World) (hr0 : Kd.C k29 w A0 l0.length l0) (hc0 : l0.length ≤ c0) (h : impl_free.f l0 b0 b1 b2 b3 = some r) :
  Calls Tryd.prog 67 #[.slice A0 l0.length c0, .agg #[.int .i64 b0, .int .i64 b1, .int .i64 b2, .int .i64 b3]] w fun e w' => e = .returned (.bool r) ∧ Below w.heap.size w w' := by
 unfold impl_free.f at h
 have hB := below_alloc (Below.refl w.heap.size w) (.cells #[.int .i64 b0, .int .i64 b1, .int .i64 b2, .int .i64 b3] 26)
 have hg := heap_new_ w #[.int .i64 b0, .int .i64 b1, .int .i64 b2, .int .i64 b3] 26
 by_cases c1 : b0 < 0
 ·
  rw [if_pos c1] at h
  obtain rfl := Option.some.inj h
  have c1b : decide (b0 < 0) = true := decide_eq_true c1
  clear c1 hr0 hg
  go_enter Tryd.func67, Tryd.ntmps67
  go_wp2
  go_ret
  exact ⟨rfl, hB⟩
 ·
  rw [if_neg c1] at h
  have c1b : decide (b0 < 0) = false := decide_eq_false c1
  clear c1
  by_cases c2 : b1 < 0
  ·
   rw [if_pos c2] at h
   obtain rfl := Option.some.inj h
   have c2b : decide (b1 < 0) = true := decide_eq_true c2
   clear c2 hr0 hg
   go_enter Tryd.func67, Tryd.ntmps67
   go_wp2
   go_ret
   exact ⟨rfl, hB⟩
  ·
   rw [if_neg c2] at h
   have c2b : decide (b1 < 0) = false := decide_eq_false c2
   clear c2
   by_cases c3 : 100 < wrap64 (b0 + b2)
   ·
    rw [if_pos c3] at h
    obtain rfl := Option.some.inj h
    have c3b : decide (100 < wrap64 (b0 + b2)) = true := decide_eq_true c3
    clear c3 hr0 hg
    go_enter Tryd.func67, Tryd.ntmps67
    go_wp2
    go_ret
    exact ⟨rfl, hB⟩
   ·
    rw [if_neg c3] at h
    have c3b : decide (100 < wrap64 (b0 + b2)) = false := decide_eq_false c3
    clear c3
    by_cases c4 : 100 < wrap64 (b1 + b3)
    ·
     rw [if_pos c4] at h
     obtain rfl := Option.some.inj h
     have c4b : decide (100 < wrap64 (b1 + b3)) = true := decide_eq_true c4
     clear c4 hr0 hg
     go_enter Tryd.func67, Tryd.ntmps67
     go_wp2
     go_ret
     exact ⟨rfl, hB⟩
    ·
     rw [if_neg c4] at h
     have c4b : decide (100 < wrap64 (b1 + b3)) = false := decide_eq_false c4
     clear c4
     by_cases c5 : l0.all (fun x => (impl_meet.f b0 b1 b2 b3 x.f1 x.f2 1 1).isSome) = true
     ·
      rw [if_pos c5] at h
      have hcall := fun W (hW : Below (w.alloc (.cells #[.int .i64 b0, .int .i64 b1, .int .i64 b2, .int .i64 b3] 26)).heap.size (w.alloc (.cells #[.int .i64 b0, .int .i64 b1, .int .i64 b2, .int .i64 b3] 26)) W) => cont_Label.calls (fun x => (impl_meet.f b0 b1 b2 b3 x.f1 x.f2 1 1).getD false) 99 #[.pointer (some ⟨w.heap.size, 0, none⟩)] (fun _ _ => rfl) A0 c0 l0 W (Kd.C_below (Kd.C_below hr0 hB) hW) hc0 (fun W' x hx hW' => by
       obtain ⟨b, hb⟩ := Option.isSome_iff_exists.1 (List.all_eq_true.1 c5 x hx)
       rw [hb]
       refine (free1_ w.heap.size b0 b1 b2 b3 x.f0 x.f1 x.f2 b W' (blk_below (blk_below hg hW) hW') hb).mono ?_
       rintro e w'' ⟨rfl, hb2⟩
       exact ⟨rfl, below_step hW' hb2⟩)
      obtain rfl := Option.some.inj h
      generalize l0.any (fun x => (impl_meet.f b0 b1 b2 b3 x.f1 x.f2 1 1).getD false) = q at hcall ⊢
      have HC := Aside0.mk hcall
      clear hcall hr0 c5 h hg
      go_enter Tryd.func67, Tryd.ntmps67
      go_wp2_with (go_at_call 61; refine (HC.out _ (Below.refl _ _)).mono ?_; rintro e w' ⟨rfl, hb⟩)
      go_ret
      exact ⟨rfl, below_step hB hb⟩
     ·
      rw [if_neg c5] at h
      cases h
def impl_waysOf.l0 : Nat → List (S29) → Int → List Int → Int → Option (List Int)
 | 0, _, _, _, _ => none
 | k + 1, x0, x1, x5, x7 => if x7 < 4 then (if 0 ≤ x1 then (if x1 < (x0.length : Int) then ((impl_boxFor.f ((rd_T29 x0 x1).f0) ((rd_T29 x0 x1).f1) ((rd_T29 x0 x1).f2) x7).bind fun bt287 => ((impl_free.f x0 bt287.1 bt287.2.1 bt287.2.2.1 bt287.2.2.2).bind fun t291 => (if t291 = true then (if x5.length < 17592186044416 then (impl_waysOf.l0 k x0 x1 (x5 ++ [x7]) (wrap64 (x7 + 1))) else (none)) else (impl_waysOf.l0 k x0 x1 x5 (wrap64 (x7 + 1)))))) else (none)) else (none)) else (some x5)
def impl_waysOf.f (k : Nat) (l0 : List (S29)) (a1 : Int) : Option (List Int) := impl_waysOf.l0 k l0 a1 ([] : List Int) 0
set_option maxHeartbeats 8000000 in
set_option maxRecDepth 100000 in
theorem impl_waysOf.calls (k : Nat) (A0 : Option Addr) (c0 : Nat) (l0 : List (S29)) (a1 : Int) (r : List Int) (w : World) (hr0 : Kd.C k29 w A0 l0.length l0) (hc0 : l0.length ≤ c0) (h : impl_waysOf.f k l0 a1 = some r) :
  Calls Tryd.prog 74 #[.slice A0 l0.length c0, .int .i64 a1] w fun e w' => ∃ v0_ : Value, e = .returned (v0_) ∧ Kd.R (Kd.int .i64) 3 w' w.heap.size (fun _ => True) v0_ r ∧ Below w.heap.size w w' := by
 have hu29 := Tryd.underlying29
 have HR0 := Aside0.mk hr0
 have HC0 := Aside0.mk hc0
 clear hr0 hc0
 have HB := Aside0.mk (Below.refl w.heap.size w)
 have H : (impl_waysOf.l0 k l0 a1 ([] : List Int) 0) = some r := h
 clear h
 have H' := Aside0.mk H
 clear H
 go_enter Tryd.func74, Tryd.ntmps74
 go_wp2
 go_loopg [5, 7] k (fun kq v5 v7 w' => ∃ (x5_1 : List Int) (x7_1 : Int), v7 = .int .i64 x7_1 ∧ Aside0 (impl_waysOf.l0 kq l0 a1 x5_1 x7_1 = some r) ∧ Aside0 (kq ≤ k) ∧ Aside0 (Kd.R (Kd.int .i64) 3 w' w.heap.size (fun _ => True) v5 x5_1) ∧ Aside0 (Below w.heap.size w w'))
 case atStart => exact ⟨(([] : List Int)), (0), (by first | rfl | (simp; done) | (simp [*]; done)), H', ⟨Nat.le_refl _⟩, ⟨by first | exact Kd.R_nil _ _ _ _ _ | exact Kd.N_nil _ _ _ _ _ | exact Kd.V_nil _ _ _ _ _ | exact Kd.Q_nil _ _ _ _ _ | exact Kd.S_nil _ _ _ _ _⟩, ⟨lb0_ HB.out⟩⟩
 case round =>
  clear H'
  try clear p2
  obtain ⟨x5_1, x7_1, rfl, HA, HK1, HO_5, HB⟩ := hrel
  cases gk with
  | zero => exact absurd HA.out (by simp [impl_waysOf.l0])
  | succ k1 =>
   have H := HA.out
   clear HA
   simp only [impl_waysOf.l0] at H
   by_cases c3 : x7_1 < 4
   ·
    rw [if_pos c3] at H
    have c3b0 : decide (x7_1 < 4) = true := decide_eq_true c3
    clear c3
    by_cases c4 : 0 ≤ a1
    ·
     rw [if_pos c4] at H
     have c4b0 : decide (0 ≤ a1) = true := decide_eq_true c4
     clear c4
     by_cases c5 : a1 < (l0.length : Int)
     ·
      rw [if_pos c5] at H
      have c5b0 : decide (a1 < (l0.length : Int)) = true := decide_eq_true c5
      clear c5
      replace H := Option.bind_eq_some_iff.mp H
      obtain ⟨⟨t287, t288, t289, t290⟩, A60, H⟩ := H
      replace H : ((impl_free.f l0 t287 t288 t289 t290).bind fun t291 => (if t291 = true then (if x5_1.length < 17592186044416 then (impl_waysOf.l0 k1 l0 a1 (x5_1 ++ [x7_1]) (wrap64 (x7_1 + 1))) else (none)) else (impl_waysOf.l0 k1 l0 a1 x5_1 (wrap64 (x7_1 + 1))))) = some r := H
      have A6 := Aside0.mk A60
      clear A60
      replace H := Option.bind_eq_some_iff.mp H
      obtain ⟨t291, A70, H⟩ := H
      replace H : (if t291 = true then (if x5_1.length < 17592186044416 then (impl_waysOf.l0 k1 l0 a1 (x5_1 ++ [x7_1]) (wrap64 (x7_1 + 1))) else (none)) else (impl_waysOf.l0 k1 l0 a1 x5_1 (wrap64 (x7_1 + 1)))) = some r := H
      have A7 := Aside0.mk A70
      clear A70
      by_cases c8 : t291 = true
      ·
       subst c8
       have H1 : (if x5_1.length < 17592186044416 then (impl_waysOf.l0 k1 l0 a1 (x5_1 ++ [x7_1]) (wrap64 (x7_1 + 1))) else (none)) = some r := by rw [if_pos rfl] at H; exact H
       clear H
       have H := H1
       clear H1
       by_cases c9 : x5_1.length < 17592186044416
       ·
        rw [if_pos c9] at H
        have LMc9 := Aside0.mk c9; clear c9
        obtain ⟨y292, hy292⟩ : ∃ y_ : List Int, y_ = (x5_1 ++ [x7_1]) := ⟨_, rfl⟩
        replace H : (impl_waysOf.l0 k1 l0 a1 y292 (wrap64 (x7_1 + 1))) = some r := by first | (rw [hy292]; with_reducible exact H) | (have H2_ := (Option.bind_some _ _).symm.trans H; rw [hy292]; with_reducible exact H2_) | (have H2_ := (Option.bind_some _ _).symm.trans H; with_reducible exact H2_) | with_reducible exact H | (rw [hy292]; exact H) | exact H
        have Ny292 := Aside0.mk hy292; clear hy292; have H' := Aside0.mk H; clear H; have p286 : 0 ≤ (a1 : Int) := dt_; have q286 : a1 < (l0.length : Int) := dt_; obtain ⟨ad286, e286, hx286_0, hx286_1, hx286_2⟩ := at_T29 HR0.out a1 p286 q286
        cases e286
        replace hx286_0 := bc_ HB.out hx286_0; replace hx286_1 := bc_ HB.out hx286_1; replace hx286_2 := bc_ HB.out hx286_2; replace p286 := eq_true p286; replace q286 := eq_true q286
        go_wp2_with (first | ((with_reducible refine gate_callee (f := 59) rfl ?_); refine ga_ (some 16) Tryd.func59 #[.agg #[.string ((rd_T29 l0 a1).f0), .int .i64 ((rd_T29 l0 a1).f1), .int .i64 ((rd_T29 l0 a1).f2)], .int .i64 x7_1] ?_; (with_reducible refine (impl_boxFor.calls ((rd_T29 l0 a1).f0) ((rd_T29 l0 a1).f1) ((rd_T29 l0 a1).f2) x7_1 t287 t288 t289 t290 _ A6.out).mono ?_); rintro e w10 ⟨rfl, hb⟩; refine ⟨_, rfl, ?_⟩; replace HO_5 := Aside0.mk (Kd.R_below (kr_ HO_5.out) hb); replace HB := Aside0.mk (below_step (lb0_ HB.out) hb); (try clear hb); (try clear hb2); (try clear hk); (try clear hi)) | ((with_reducible refine gate_callee (f := 67) rfl ?_); refine ga_ (some 17) Tryd.func67 #[.slice (some ad286) l0.length c0, .agg #[.int .i64 t287, .int .i64 t288, .int .i64 t289, .int .i64 t290]] ?_; (with_reducible refine (impl_free.calls _ _ l0 t287 t288 t289 t290 true _ ?side1 ?side2 A7.out).mono ?_); (case side1 => exact kc_ (Kd.C_below HR0.out HB.out)); (case side2 => exact HC0.out); rintro e w11 ⟨rfl, hb⟩; refine ⟨_, rfl, ?_⟩; replace HO_5 := Aside0.mk (Kd.R_below (kr_ HO_5.out) hb); replace HB := Aside0.mk (below_step (lb0_ HB.out) hb); (try clear hb); (try clear hb2); (try clear hk); (try clear hi)) | ((with_reducible refine gate_builtin (b := .append) (xs := #[.tmp 18, .tmp 20]) rfl ?_); at_builtin; refine Kd.R_append (Kd.int .i64) (w0 := w) w.heap.size rfl (.tmp 18) (.tmp 20) 40 3 (.int .i64 0) 8 rfl Tryd.underlying40 info3 rfl (by decide) (by omega) u5 x5_1 x7_1 [.int .i64 x7_1] (fun _ => True) (fun _ => False) rfl rfl ?aP (fun _ hk => hk.elim) ?aF ?aO ?aB ?aS ?aL ?_; (case aP => exact rfl); (case aB => exact (lb0_ HB.out)); (case aF => exact (fun _ _ => trivial)); (case aO => exact (kr_ HO_5.out)); (case aS => exact (below_size (lb0_ HB.out))); (case aL => have := LMc9.out; omega); intro v293 w12 ho hb hg hat; rw [← Ny292.out] at ho; replace HB := Aside0.mk (hb); have HO294 := Aside0.mk (ho); clear HO_5; clear ho hb hg hat))
        go_roundg k1
        case measure => have := HK1.out; omega
        case rel => exact ⟨(y292), (wrap64 (x7_1 + 1)), (by first | rfl | (simp; done) | (simp [*]; done)), H', ⟨by have := HK1.out; omega⟩, ⟨kr_ HO294.out⟩, ⟨lb0_ HB.out⟩⟩
       ·
        rw [if_neg c9] at H
        exact absurd H (by simp)
      ·
       replace c8 := Bool.eq_false_iff.mpr c8
       subst c8
       have H1 : (impl_waysOf.l0 k1 l0 a1 x5_1 (wrap64 (x7_1 + 1))) = some r := by rw [if_neg (show ¬ (false = true) by decide)] at H; exact H
       clear H
       have H := H1
       clear H1
       have H' := Aside0.mk H
       clear H
       have p286 : 0 ≤ (a1 : Int) := dt_
       have q286 : a1 < (l0.length : Int) := dt_
       obtain ⟨ad286, e286, hx286_0, hx286_1, hx286_2⟩ := at_T29 HR0.out a1 p286 q286
       cases e286
       replace hx286_0 := bc_ HB.out hx286_0
       replace hx286_1 := bc_ HB.out hx286_1
       replace hx286_2 := bc_ HB.out hx286_2
       replace p286 := eq_true p286
       replace q286 := eq_true q286
       go_wp2_with (first | ((with_reducible refine gate_callee (f := 59) rfl ?_); refine ga_ (some 16) Tryd.func59 #[.agg #[.string ((rd_T29 l0 a1).f0), .int .i64 ((rd_T29 l0 a1).f1), .int .i64 ((rd_T29 l0 a1).f2)], .int .i64 x7_1] ?_; (with_reducible refine (impl_boxFor.calls ((rd_T29 l0 a1).f0) ((rd_T29 l0 a1).f1) ((rd_T29 l0 a1).f2) x7_1 t287 t288 t289 t290 _ A6.out).mono ?_); rintro e w13 ⟨rfl, hb⟩; refine ⟨_, rfl, ?_⟩; replace HO_5 := Aside0.mk (Kd.R_below (kr_ HO_5.out) hb); replace HB := Aside0.mk (below_step (lb0_ HB.out) hb); (try clear hb); (try clear hb2); (try clear hk); (try clear hi)) | ((with_reducible refine gate_callee (f := 67) rfl ?_); refine ga_ (some 17) Tryd.func67 #[.slice (some ad286) l0.length c0, .agg #[.int .i64 t287, .int .i64 t288, .int .i64 t289, .int .i64 t290]] ?_; (with_reducible refine (impl_free.calls _ _ l0 t287 t288 t289 t290 false _ ?side1 ?side2 A7.out).mono ?_); (case side1 => exact kc_ (Kd.C_below HR0.out HB.out)); (case side2 => exact HC0.out); rintro e w14 ⟨rfl, hb⟩; refine ⟨_, rfl, ?_⟩; replace HO_5 := Aside0.mk (Kd.R_below (kr_ HO_5.out) hb); replace HB := Aside0.mk (below_step (lb0_ HB.out) hb); (try clear hb); (try clear hb2); (try clear hk); (try clear hi)))
       go_roundg k1
       case measure => have := HK1.out; omega
       case rel => exact ⟨(x5_1), (wrap64 (x7_1 + 1)), (by first | rfl | (simp; done) | (simp [*]; done)), H', ⟨by have := HK1.out; omega⟩, ⟨kr_ HO_5.out⟩, ⟨lb0_ HB.out⟩⟩
     ·
      rw [if_neg c5] at H
      exact absurd H (by simp)
    ·
     rw [if_neg c4] at H
     exact absurd H (by simp)
   ·
    rw [if_neg c3] at H
    have c3b0 : decide (x7_1 < 4) = false := decide_eq_false c3
    clear c3
    obtain rfl := Option.some.inj H
    go_wp2
    go_ret
    exact ⟨_, rr_, kr_ HO_5.out, lb0_ HB.out⟩
def impl_WaysOf.f (k : Nat) (l0 : List (S29)) (a1 : Int) : Option (List Int × Bool) := (impl_AreLabels.f l0).bind fun t295 => (if t295 = true then ((impl_within.f a1 0 (wrap64 ((l0.length : Int) - 1))).bind fun t296 => (if t296 = true then ((impl_waysOf.f k l0 a1).bind fun t297 => (some (t297, true))) else (some (([] : List Int), false)))) else (some (([] : List Int), false)))
set_option maxHeartbeats 8000000 in
set_option maxRecDepth 100000 in
theorem impl_WaysOf.calls (k : Nat) (A0 : Option Addr) (c0 : Nat) (l0 : List (S29)) (a1 : Int) (r1 : List Int) (r2 : Bool) (w : World) (hr0 : Kd.C k29 w A0 l0.length l0) (hc0 : l0.length ≤ c0) (h : impl_WaysOf.f k l0 a1 = some (r1, r2)) :
  Calls Tryd.prog 28 #[.slice A0 l0.length c0, .int .i64 a1] w fun e w' => ∃ v0_ : Value, e = .returned (.tuple #[v0_, .bool r2]) ∧ Kd.R (Kd.int .i64) 3 w' w.heap.size (fun _ => True) v0_ r1 ∧ Below w.heap.size w w' := by
 have HR0 := Aside0.mk hr0
 have HC0 := Aside0.mk hc0
 clear hr0 hc0
 have HB := Aside0.mk (Below.refl w.heap.size w)
 have H : ((impl_AreLabels.f l0).bind fun t295 => (if t295 = true then ((impl_within.f a1 0 (wrap64 ((l0.length : Int) - 1))).bind fun t296 => (if t296 = true then ((impl_waysOf.f k l0 a1).bind fun t297 => (some (t297, true))) else (some (([] : List Int), false)))) else (some (([] : List Int), false)))) = some (r1, r2) := h
 clear h
 replace H := Option.bind_eq_some_iff.mp H
 obtain ⟨t295, A30, H⟩ := H
 replace H : (if t295 = true then ((impl_within.f a1 0 (wrap64 ((l0.length : Int) - 1))).bind fun t296 => (if t296 = true then ((impl_waysOf.f k l0 a1).bind fun t297 => (some (t297, true))) else (some (([] : List Int), false)))) else (some (([] : List Int), false))) = some (r1, r2) := H
 have A3 := Aside0.mk A30
 clear A30
 by_cases c4 : t295 = true
 ·
  subst c4
  have H1 : ((impl_within.f a1 0 (wrap64 ((l0.length : Int) - 1))).bind fun t296 => (if t296 = true then ((impl_waysOf.f k l0 a1).bind fun t297 => (some (t297, true))) else (some (([] : List Int), false)))) = some (r1, r2) := by rw [if_pos rfl] at H; exact H
  clear H
  have H := H1
  clear H1
  replace H := Option.bind_eq_some_iff.mp H
  obtain ⟨t296, A50, H⟩ := H
  replace H : (if t296 = true then ((impl_waysOf.f k l0 a1).bind fun t297 => (some (t297, true))) else (some (([] : List Int), false))) = some (r1, r2) := H
  have A5 := Aside0.mk A50
  clear A50
  by_cases c6 : t296 = true
  ·
   subst c6
   have H1 : ((impl_waysOf.f k l0 a1).bind fun t297 => (some (t297, true))) = some (r1, r2) := by rw [if_pos rfl] at H; exact H
   clear H
   have H := H1
   clear H1
   replace H := Option.bind_eq_some_iff.mp H
   obtain ⟨t297, A70, H⟩ := H
   replace H : (some (t297, true)) = some (r1, r2) := H
   have A7 := Aside0.mk A70
   clear A70
   simp only [Option.some.injEq, Prod.mk.injEq] at H
   obtain ⟨rfl, rfl⟩ := H
   go_enter Tryd.func28, Tryd.ntmps28
   go_wp2_with (first | ((with_reducible refine gate_callee (f := 21) rfl ?_); refine ga_ (some 7) Tryd.func21 #[.slice A0 l0.length c0] ?_; (with_reducible refine (impl_AreLabels.calls _ _ l0 true _ ?side1 ?side2 A3.out).mono ?_); (case side1 => exact kc_ HR0.out); (case side2 => exact HC0.out); rintro e w8 ⟨rfl, hb⟩; refine ⟨_, rfl, ?_⟩; replace HB := Aside0.mk (below_step (lb0_ HB.out) hb); (try clear hb); (try clear hb2); (try clear hk); (try clear hi)) | (go_at_call 73; (with_reducible refine (impl_within.calls a1 0 (wrap64 ((l0.length : Int) - 1)) true _ A5.out).mono ?_); rintro e w' ⟨rfl, ⟨nd, rfl⟩⟩) | ((with_reducible refine gate_callee (f := 74) rfl ?_); refine ga_ (some 19) Tryd.func74 #[.slice A0 l0.length c0, .int .i64 a1] ?_; (with_reducible refine (impl_waysOf.calls k _ _ l0 a1 t297 _ ?side1 ?side2 A7.out).mono ?_); (case side1 => exact kc_ (Kd.C_below HR0.out (lb0_ HB.out))); (case side2 => exact HC0.out); rintro e w9 ⟨v298, rfl, ho0, hb⟩; refine ⟨_, rfl, ?_⟩; have HO299 := Aside0.mk (Kd.R_lower ho0 (below_size (lb0_ HB.out))); replace HB := Aside0.mk (below_step (lb0_ HB.out) hb); (try clear hb); (try clear hb2); (try clear hk); (try clear hi); (try clear ho0)))
   go_ret2
   exact ⟨_, rr_, kr_ HO299.out, lb0_ HB.out⟩
  ·
   replace c6 := Bool.eq_false_iff.mpr c6
   subst c6
   have H1 : (some (([] : List Int), false)) = some (r1, r2) := by rw [if_neg (show ¬ (false = true) by decide)] at H; exact H
   clear H
   have H := H1
   clear H1
   simp only [Option.some.injEq, Prod.mk.injEq] at H
   obtain ⟨rfl, rfl⟩ := H
   go_enter Tryd.func28, Tryd.ntmps28
   go_wp2_with (first | ((with_reducible refine gate_callee (f := 21) rfl ?_); refine ga_ (some 7) Tryd.func21 #[.slice A0 l0.length c0] ?_; (with_reducible refine (impl_AreLabels.calls _ _ l0 true _ ?side1 ?side2 A3.out).mono ?_); (case side1 => exact kc_ HR0.out); (case side2 => exact HC0.out); rintro e w10 ⟨rfl, hb⟩; refine ⟨_, rfl, ?_⟩; replace HB := Aside0.mk (below_step (lb0_ HB.out) hb); (try clear hb); (try clear hb2); (try clear hk); (try clear hi)) | (go_at_call 73; (with_reducible refine (impl_within.calls a1 0 (wrap64 ((l0.length : Int) - 1)) false _ A5.out).mono ?_); rintro e w' ⟨rfl, ⟨nd, rfl⟩⟩))
   go_ret2
   exact ⟨_, rr_, by first | exact Kd.R_nil _ _ _ _ _ | exact Kd.N_nil _ _ _ _ _ | exact Kd.V_nil _ _ _ _ _ | exact Kd.Q_nil _ _ _ _ _ | exact Kd.S_nil _ _ _ _ _, lb0_ HB.out⟩
 ·
  replace c4 := Bool.eq_false_iff.mpr c4
  subst c4
  have H1 : (some (([] : List Int), false)) = some (r1, r2) := by rw [if_neg (show ¬ (false = true) by decide)] at H; exact H
  clear H
  have H := H1
  clear H1
  simp only [Option.some.injEq, Prod.mk.injEq] at H
  obtain ⟨rfl, rfl⟩ := H
  go_enter Tryd.func28, Tryd.ntmps28
  go_wp2_with (first | ((with_reducible refine gate_callee (f := 21) rfl ?_); refine ga_ (some 7) Tryd.func21 #[.slice A0 l0.length c0] ?_; (with_reducible refine (impl_AreLabels.calls _ _ l0 false _ ?side1 ?side2 A3.out).mono ?_); (case side1 => exact kc_ HR0.out); (case side2 => exact HC0.out); rintro e w11 ⟨rfl, hb⟩; refine ⟨_, rfl, ?_⟩; replace HB := Aside0.mk (below_step (lb0_ HB.out) hb); (try clear hb); (try clear hb2); (try clear hk); (try clear hi)))
  go_ret2
  exact ⟨_, rr_, by first | exact Kd.R_nil _ _ _ _ _ | exact Kd.N_nil _ _ _ _ _ | exact Kd.V_nil _ _ _ _ _ | exact Kd.Q_nil _ _ _ _ _ | exact Kd.S_nil _ _ _ _ _, lb0_ HB.out⟩
def impl_allIndices.l0 : Nat → List Int → Int → Int → Option (List Int)
 | 0, _, _, _ => none
 | k + 1, x3, x5, x6 => if x6 < x5 then (if x3.length < 17592186044416 then (impl_allIndices.l0 k (x3 ++ [x6]) x5 (wrap64 (x6 + 1))) else (none)) else (some x3)
def impl_allIndices.f (k : Nat) (a0 : Int) : Option (List Int) := impl_allIndices.l0 k ([] : List Int) a0 0
set_option maxHeartbeats 8000000 in
set_option maxRecDepth 100000 in
theorem impl_allIndices.calls (k : Nat) (a0 : Int) (r : List Int) (w : World) (h : impl_allIndices.f k a0 = some r) :
  Calls Tryd.prog 78 #[.int .i64 a0] w fun e w' => ∃ v0_ : Value, e = .returned (v0_) ∧ Kd.R (Kd.int .i64) 3 w' w.heap.size (fun _ => True) v0_ r ∧ Below w.heap.size w w' := by
 have HB := Aside0.mk (Below.refl w.heap.size w)
 have H : (impl_allIndices.l0 k ([] : List Int) a0 0) = some r := h
 clear h
 have H' := Aside0.mk H
 clear H
 go_enter Tryd.func78, Tryd.ntmps78
 go_wp2
 go_loopg [3, 6] k (fun kq v3 v6 w' => ∃ (x3_1 : List Int) (x6_1 : Int), v6 = .int .i64 x6_1 ∧ Aside0 (impl_allIndices.l0 kq x3_1 a0 x6_1 = some r) ∧ Aside0 (kq ≤ k) ∧ Aside0 (Kd.R (Kd.int .i64) 3 w' w.heap.size (fun _ => True) v3 x3_1) ∧ Aside0 (Below w.heap.size w w'))
 case atStart => exact ⟨(([] : List Int)), (0), (by first | rfl | (simp; done) | (simp [*]; done)), H', ⟨Nat.le_refl _⟩, ⟨by first | exact Kd.R_nil _ _ _ _ _ | exact Kd.N_nil _ _ _ _ _ | exact Kd.V_nil _ _ _ _ _ | exact Kd.Q_nil _ _ _ _ _ | exact Kd.S_nil _ _ _ _ _⟩, ⟨lb0_ HB.out⟩⟩
 case round =>
  clear H'
  obtain ⟨x3_1, x6_1, rfl, HA, HK1, HO_3, HB⟩ := hrel
  cases gk with
  | zero => exact absurd HA.out (by simp [impl_allIndices.l0])
  | succ k1 =>
   have H := HA.out
   clear HA
   simp only [impl_allIndices.l0] at H
   by_cases c2 : x6_1 < a0
   ·
    rw [if_pos c2] at H
    have c2b0 : decide (x6_1 < a0) = true := decide_eq_true c2
    clear c2
    by_cases c3 : x3_1.length < 17592186044416
    ·
     rw [if_pos c3] at H
     have LMc3 := Aside0.mk c3
     clear c3
     obtain ⟨y443, hy443⟩ : ∃ y_ : List Int, y_ = (x3_1 ++ [x6_1]) := ⟨_, rfl⟩
     replace H : (impl_allIndices.l0 k1 y443 a0 (wrap64 (x6_1 + 1))) = some r := by first | (rw [hy443]; with_reducible exact H) | (have H2_ := (Option.bind_some _ _).symm.trans H; rw [hy443]; with_reducible exact H2_) | (have H2_ := (Option.bind_some _ _).symm.trans H; with_reducible exact H2_) | with_reducible exact H | (rw [hy443]; exact H) | exact H
     have Ny443 := Aside0.mk hy443
     clear hy443
     have H' := Aside0.mk H
     clear H
     go_wp2_with (first | ((with_reducible refine gate_builtin (b := .append) (xs := #[.tmp 9, .tmp 11]) rfl ?_); at_builtin; refine Kd.R_append (Kd.int .i64) (w0 := w) w.heap.size rfl (.tmp 9) (.tmp 11) 40 3 (.int .i64 0) 8 rfl Tryd.underlying40 info3 rfl (by decide) (by omega) u3 x3_1 x6_1 [.int .i64 x6_1] (fun _ => True) (fun _ => False) rfl rfl ?aP (fun _ hk => hk.elim) ?aF ?aO ?aB ?aS ?aL ?_; (case aP => exact rfl); (case aB => exact (lb0_ HB.out)); (case aF => exact (fun _ _ => trivial)); (case aO => exact (kr_ HO_3.out)); (case aS => exact (below_size (lb0_ HB.out))); (case aL => have := LMc3.out; omega); intro v444 w4 ho hb hg hat; rw [← Ny443.out] at ho; replace HB := Aside0.mk (hb); have HO445 := Aside0.mk (ho); clear HO_3; clear ho hb hg hat))
     go_roundg k1
     case measure => have := HK1.out; omega
     case rel => exact ⟨(y443), (wrap64 (x6_1 + 1)), (by first | rfl | (simp; done) | (simp [*]; done)), H', ⟨by have := HK1.out; omega⟩, ⟨kr_ HO445.out⟩, ⟨lb0_ HB.out⟩⟩
    ·
     rw [if_neg c3] at H
     exact absurd H (by simp)
   ·
    rw [if_neg c2] at H
    have c2b0 : decide (x6_1 < a0) = false := decide_eq_false c2
    clear c2
    obtain rfl := Option.some.inj H
    go_wp2
    go_ret
    exact ⟨_, rr_, kr_ HO_3.out, lb0_ HB.out⟩
def catM_ (f : Int → Option (List (List Int))) : List Int → Option (List (List Int))
 | [] => some []
 | x :: xs => (f x).bind fun a => (catM_ f xs).bind fun b => some (a ++ b)
structure FrY (Y : Nat → Prop) (w w' : World) : Prop where
 size : w.heap.size ≤ w'.heap.size
 keep : ∀ k, k < w.heap.size → ¬ Y k → w'.heap[k]? = w.heap[k]?
theorem FrY.below {Y : Nat → Prop} {w w' : World} (h : Below w.heap.size w w') : FrY Y w w' := ⟨h.size, fun k hk _ => h.block k hk⟩
def IdxR (Y : Nat → Prop) (w w0 : World) (vw vi : Value) (idx : List Int) : Prop := (Kd.int .i64).R 3 w w0.heap.size (fun k => ¬ Y k ∧ some k ≠ vw.ownBlock) vi idx ∨ ∃ A c, vi = .slice A idx.length c ∧ idx.length ≤ c ∧ (Kd.int .i64).C w0 A idx.length idx
namespace IdxR
variable {Y Y' : Nat → Prop} {w w1 w0 : World} {vw vw' vi : Value} {idx : List Int}
theorem slice_ (h : IdxR Y w w0 vw vi idx) : ∃ A c, vi = .slice A idx.length c := by
 rcases h with h | ⟨A, c, e, _⟩
 ·
  exact Kd.R_slice h
 ·
  exact ⟨A, c, e⟩
theorem step (h : IdxR Y w w0 vw vi idx) (hm : ∀ k, ¬ Y k → some k ≠ vw.ownBlock → k < w.heap.size → w1.heap[k]? = w.heap[k]?) : IdxR Y w1 w0 vw vi idx := h.elim (fun h => .inl (Kd.R_step h (fun k hk hl => hm k hk.1 hk.2 hl))) .inr
theorem after {v1 : Value} (h : IdxR Y w w0 vw vi idx) (hg : w.grownBy w1 vw.ownBlock) (hat : v1.ownBlock = vw.ownBlock ∨ ∃ b, v1.ownBlock = some b ∧ w.heap.size ≤ b) : IdxR Y w1 w0 v1 vi idx := h.elim (fun h => .inl (Kd.R_after h hg hat)) .inr
theorem other {α : Type} {d : Kd α} {e : Nat} {vb v1 : Value} {ok : Nat → Prop} {xs : List α} (h : IdxR Y w w0 vw vi idx) (hb : d.R e w w0.heap.size ok vb xs) (he : 3 ≠ e) (hg : w.grownBy w1 vb.ownBlock) (hat : v1.ownBlock = vb.ownBlock ∨ ∃ b, v1.ownBlock = some b ∧ w.heap.size ≤ b) : IdxR Y w1 w0 vw vi idx :=
 h.elim (fun h => .inl (Kd.R_mono (Kd.R_after (Kd.R_apart' h (Kd.R_typed hb) (fun q hq => by rw [List.mem_singleton.1 hq]; exact he)) hg hat) (fun k hk => hk.1))) .inr
theorem set_ {g t : Nat} {cells : Array Value} (h : IdxR Y w w0 vw vi idx) (hb : w.heap[g]? = some (.cells cells t (0, 0))) (ht : 3 ≠ t) (u : Value) : IdxR Y (w.setCell ⟨g, 0, none⟩ u) w0 vw vi idx := h.elim (fun h => .inl (Kd.R_set h hb (fun q hq => by rw [List.mem_singleton.1 hq]; exact ht) 0 u)) .inr
theorem imp (h : IdxR Y w w0 vw vi idx) (hY : ∀ k, k < w.heap.size → ¬ Y k → ¬ Y' k) (hv : vw.ownBlock = vw'.ownBlock) : IdxR Y' w w0 vw' vi idx := h.elim (fun h => .inl (Kd.R_mono (Kd.R_bound h) (fun k hk => ⟨hY k hk.2.2.1 hk.1.1, by rw [← hv]; exact hk.1.2⟩))) .inr
theorem at_ {n ci k : Nat} {ai : Addr} {j : Int} (h : IdxR Y w w0 vw (.slice (some ai) n ci) idx) (hB : Below w0.heap.size w0 w) (hk : k < idx.length) (hj : rd idx (k : Int) = j) : w.cell? (ai.add k) = some (.int .i64 j) := by
 rcases h with h | ⟨A, c, e, _, hC⟩
 ·
  obtain ⟨hn, _, hC⟩ := Kd.R_reads' h
  obtain ⟨ad, e, hc⟩ := Kd.at_int hC (k : Int) (by omega) (by omega)
  injection e with e
  subst e
  rw [hj, Int.toNat_natCast] at hc
  exact hc
 ·
  injection e with e1 e2 e3
  subst e1
  obtain ⟨ad, e, hc⟩ := Kd.at_int hC (k : Int) (by omega) (by omega)
  injection e with e
  subst e
  rw [hj, Int.toNat_natCast] at hc
  exact pw_cell_below hB hc
theorem some_ {A : Option Addr} {n ci : Nat} (h : IdxR Y w w0 vw (.slice A n ci) idx) (hp : 0 < idx.length) : ∃ ai, A = some ai := by
 rcases h with h | ⟨A', c, e, _, hC⟩
 ·
  obtain ⟨hn, _, hC⟩ := Kd.R_reads' h
  obtain ⟨ad, e, _⟩ := hC.2.2 (by omega)
  exact ⟨ad, e⟩
 ·
  injection e with e1 e2 e3
  subst e1
  obtain ⟨ad, e, _⟩ := hC.2.2 (by omega)
  exact ⟨ad, e⟩
end IdxR
structure PlS (Y : Nat → Prop) (w w0 : World) (gw gi gy gl gb gf : Nat) (cv vw vi vl cb vb yv fv : Value) (ways idx : List Int) (boxes : List S26) : Prop where
 cw : w.heap[gw]? = some (.cells #[cv] 40 (0, 0))
 ci : w.heap[gi]? = some (.cells #[vi] 40 (0, 0))
 cy : w.heap[gy]? = some (.cells #[yv] 91 (0, 0))
 cl : w.heap[gl]? = some (.cells #[vl] 36 (0, 0))
 cx : w.heap[gb]? = some (.cells #[cb] 79 (0, 0))
 cf : w.heap[gf]? = some (.cells #[fv] 108 (0, 0))
 ne : gi ≠ gw
 bw : w0.heap.size ≤ gw
 bb : w0.heap.size ≤ gb
 yw : ¬ Y gw
 yi : ¬ Y gi
 yy : ¬ Y gy
 yl : ¬ Y gl
 yb : ¬ Y gb
 yf : ¬ Y gf
 ys : ∀ k, Y k → k < w.heap.size
 rI : IdxR Y w w0 vw vi idx
 rW : (Kd.int .i64).R 3 w w0.heap.size (fun k => ¬ Y k) vw ways
 rB : k26.R 26 w w0.heap.size (fun k => ¬ Y k) vb boxes
namespace PlS
variable {Y : Nat → Prop} {w w1 w0 : World} {gw gi gy gl gb gf : Nat} {cv vw vi vl cb vb yv fv : Value} {ways idx : List Int} {boxes : List S26}
theorem fr (h : PlS Y w w0 gw gi gy gl gb gf cv vw vi vl cb vb yv fv ways idx boxes) (hf : FrY Y w w1) : PlS Y w1 w0 gw gi gy gl gb gf cv vw vi vl cb vb yv fv ways idx boxes :=
 ⟨(hf.keep _ (blk_lt h.cw) h.yw).trans h.cw, (hf.keep _ (blk_lt h.ci) h.yi).trans h.ci, (hf.keep _ (blk_lt h.cy) h.yy).trans h.cy, (hf.keep _ (blk_lt h.cl) h.yl).trans h.cl, (hf.keep _ (blk_lt h.cx) h.yb).trans h.cx, (hf.keep _ (blk_lt h.cf) h.yf).trans h.cf,
  h.ne, h.bw, h.bb, h.yw, h.yi, h.yy, h.yl, h.yb, h.yf, fun k hk => Nat.lt_of_lt_of_le (h.ys k hk) hf.size, h.rI.step (fun k hk _ hl => hf.keep k hl hk), Kd.R_step h.rW (fun k hk hl => hf.keep k hl hk), Kd.R_step h.rB (fun k hk hl => hf.keep k hl hk)⟩
theorem below (h : PlS Y w w0 gw gi gy gl gb gf cv vw vi vl cb vb yv fv ways idx boxes) (hb : Below w.heap.size w w1) : PlS Y w1 w0 gw gi gy gl gb gf cv vw vi vl cb vb yv fv ways idx boxes := h.fr (FrY.below hb)
theorem appW {v1 : Value} {ways1 : List Int} (h : PlS Y w w0 gw gi gy gl gb gf cv vw vi vl cb vb yv fv ways idx boxes) (ho : (Kd.int .i64).R 3 w1 w0.heap.size (fun k => ¬ Y k) v1 ways1) (hg : w.grownBy w1 vw.ownBlock) (hat : v1.ownBlock = vw.ownBlock ∨ ∃ b, v1.ownBlock = some b ∧ w.heap.size ≤ b) :
  PlS Y w1 w0 gw gi gy gl gb gf cv v1 vi vl cb vb yv fv ways1 idx boxes := by
 obtain ⟨inner, hw⟩ := Kd.R_own h.rW
 exact ⟨blk_grown h.cw hg (own_ne hw h.cw (by decide)), blk_grown h.ci hg (own_ne hw h.ci (by decide)), blk_grown h.cy hg (own_ne hw h.cy (by decide)), blk_grown h.cl hg (own_ne hw h.cl (by decide)), blk_grown h.cx hg (own_ne hw h.cx (by decide)), blk_grown h.cf hg (own_ne hw h.cf (by decide)),
  h.ne, h.bw, h.bb, h.yw, h.yi, h.yy, h.yl, h.yb, h.yf, fun k hk => Nat.lt_of_lt_of_le (h.ys k hk) hg.size, h.rI.after hg hat, ho, Kd.R_mono (Kd.R_after (Kd.R_apart' h.rB (Kd.R_typed h.rW) (by decide)) hg hat) (fun k hk => hk.1)⟩
theorem appB {v1 : Value} {boxes1 : List S26} (h : PlS Y w w0 gw gi gy gl gb gf cv vw vi vl cb vb yv fv ways idx boxes) (ho : k26.R 26 w1 w0.heap.size (fun k => ¬ Y k) v1 boxes1) (hg : w.grownBy w1 vb.ownBlock) (hat : v1.ownBlock = vb.ownBlock ∨ ∃ b, v1.ownBlock = some b ∧ w.heap.size ≤ b) :
  PlS Y w1 w0 gw gi gy gl gb gf cv vw vi vl cb v1 yv fv ways idx boxes1 := by
 obtain ⟨inner, hw⟩ := Kd.R_own h.rB
 exact ⟨blk_grown h.cw hg (own_ne hw h.cw (by decide)), blk_grown h.ci hg (own_ne hw h.ci (by decide)), blk_grown h.cy hg (own_ne hw h.cy (by decide)), blk_grown h.cl hg (own_ne hw h.cl (by decide)), blk_grown h.cx hg (own_ne hw h.cx (by decide)), blk_grown h.cf hg (own_ne hw h.cf (by decide)),
  h.ne, h.bw, h.bb, h.yw, h.yi, h.yy, h.yl, h.yb, h.yf, fun k hk => Nat.lt_of_lt_of_le (h.ys k hk) hg.size, h.rI.other h.rB (by decide) hg hat, Kd.R_mono (Kd.R_after (Kd.R_apart' h.rW (Kd.R_typed h.rB) (by decide)) hg hat) (fun k hk => hk.1), ho⟩
theorem setW (h : PlS Y w w0 gw gi gy gl gb gf cv vw vi vl cb vb yv fv ways idx boxes) : PlS Y (w.setCell ⟨gw, 0, none⟩ vw) w0 gw gi gy gl gb gf vw vw vi vl cb vb yv fv ways idx boxes :=
 ⟨blk_put h.cw 0 vw rfl, blk_far h.ci h.ne _, blk_far h.cy (blk_ne h.cy h.cw (by decide)) _, blk_far h.cl (blk_ne h.cl h.cw (by decide)) _, blk_far h.cx (blk_ne h.cx h.cw (by decide)) _, blk_far h.cf (blk_ne h.cf h.cw (by decide)) _,
  h.ne, h.bw, h.bb, h.yw, h.yi, h.yy, h.yl, h.yb, h.yf, fun k hk => Nat.lt_of_lt_of_le (h.ys k hk) (KeepBut.set_ (KeepBut.refl w gw none) 0 vw).1, h.rI.set_ h.cw (by decide) vw, Kd.R_set h.rW h.cw (by decide) 0 vw, Kd.R_set h.rB h.cw (by decide) 0 vw⟩
theorem setB (h : PlS Y w w0 gw gi gy gl gb gf cv vw vi vl cb vb yv fv ways idx boxes) : PlS Y (w.setCell ⟨gb, 0, none⟩ vb) w0 gw gi gy gl gb gf cv vw vi vl vb vb yv fv ways idx boxes :=
 ⟨blk_far h.cw (blk_ne h.cw h.cx (by decide)) _, blk_far h.ci (blk_ne h.ci h.cx (by decide)) _, blk_far h.cy (blk_ne h.cy h.cx (by decide)) _, blk_far h.cl (blk_ne h.cl h.cx (by decide)) _, blk_put h.cx 0 vb rfl, blk_far h.cf (blk_ne h.cf h.cx (by decide)) _,
  h.ne, h.bw, h.bb, h.yw, h.yi, h.yy, h.yl, h.yb, h.yf, fun k hk => Nat.lt_of_lt_of_le (h.ys k hk) (KeepBut.set_ (KeepBut.refl w gb none) 0 vb).1, h.rI.set_ h.cx (by decide) vb, Kd.R_set h.rW h.cx (by decide) 0 vb, Kd.R_set h.rB h.cx (by decide) 0 vb⟩
theorem cutW {A : Option Addr} {n m c : Nat} (h : PlS Y w w0 gw gi gy gl gb gf cv (.slice A n c) vi vl cb vb yv fv ways idx boxes) (hm : m ≤ ways.length) : PlS Y w w0 gw gi gy gl gb gf cv (.slice A m c) vi vl cb vb yv fv (ways.take m) idx boxes := by
 have e : (Value.slice A n c).ownBlock = (Value.slice A m c).ownBlock := by cases A <;> rfl
 exact ⟨h.cw, h.ci, h.cy, h.cl, h.cx, h.cf, h.ne, h.bw, h.bb, h.yw, h.yi, h.yy, h.yl, h.yb, h.yf, h.ys, h.rI.imp (fun _ _ hk => hk) e, Kd.R_take h.rW hm, h.rB⟩
theorem cutB {A : Option Addr} {n m c : Nat} (h : PlS Y w w0 gw gi gy gl gb gf cv vw vi vl cb (.slice A n c) yv fv ways idx boxes) (hm : m ≤ boxes.length) : PlS Y w w0 gw gi gy gl gb gf cv vw vi vl cb (.slice A m c) yv fv ways idx (boxes.take m) :=
 ⟨h.cw, h.ci, h.cy, h.cl, h.cx, h.cf, h.ne, h.bw, h.bb, h.yw, h.yi, h.yy, h.yl, h.yb, h.yf, h.ys, h.rI, h.rW, Kd.R_take h.rB hm⟩
end PlS
theorem FrY.of_keep {Y : Nat → Prop} {w w1 : World} {s : Nat} (hk : KeepBut w w1 s none) (hs : Y s) : FrY Y w w1 := ⟨hk.1, fun k hl hY => hk.2 k hl (fun e => hY (e ▸ hs)) (by simp)⟩
theorem keep4_ (w : World) (s : Nat) (u0 u1 u2 u3 : Value) : KeepBut w ((((w.setCell ⟨s, 0, none⟩ u0).setCell ⟨s, 1, none⟩ u1).setCell ⟨s, 2, none⟩ u2).setCell ⟨s, 3, none⟩ u3) s none := KeepBut.set_ (KeepBut.set_ (KeepBut.set_ (KeepBut.set_ (KeepBut.refl _ _ _) 0 _) 1 _) 2 _) 3 _
theorem PlS.grow {Y : Nat → Prop} {w w1 w0 : World} {gw gi gy gl gb gf s : Nat} {cv vw vi vl cb vb yv fv : Value} {ways idx : List Int} {boxes : List S26} (h : PlS Y w w0 gw gi gy gl gb gf cv vw vi vl cb vb yv fv ways idx boxes) (hb : Below w.heap.size w w1) (hs : s = w.heap.size) (hl : s < w1.heap.size) :
  PlS (fun k => Y k ∨ k = s) w1 w0 gw gi gy gl gb gf cv vw vi vl cb vb yv fv ways idx boxes := by
 have h2 := h.below hb
 have nn : ∀ g, ¬ Y g → g < w.heap.size → ¬ (Y g ∨ g = s) := fun g hg hl hh => hh.elim hg (fun e => by omega)
 refine ⟨h2.cw, h2.ci, h2.cy, h2.cl, h2.cx, h2.cf, h2.ne, h2.bw, h2.bb, nn _ h.yw (blk_lt h.cw), nn _ h.yi (blk_lt h.ci), nn _ h.yy (blk_lt h.cy), nn _ h.yl (blk_lt h.cl), nn _ h.yb (blk_lt h.cx), nn _ h.yf (blk_lt h.cf), ?_, ?_, ?_, ?_⟩
 ·
  rintro k (hk | rfl)
  ·
   exact h2.ys k hk
  ·
   exact hl
 ·
  exact (h.rI.imp (fun k hl hk => nn k hk hl) rfl).step (fun k _ _ hl => hb.block k hl)
 ·
  exact Kd.R_below (Kd.R_mono (Kd.R_bound h.rW) (fun k hk => nn k hk.1 hk.2.2.1)) hb
 ·
  exact Kd.R_below (Kd.R_mono (Kd.R_bound h.rB) (fun k hk => nn k hk.1 hk.2.2.1)) hb
theorem PlS.shrink {Y : Nat → Prop} {w w0 : World} {gw gi gy gl gb gf s : Nat} {cv vw vi vl cb vb yv fv : Value} {ways idx : List Int} {boxes : List S26} (h : PlS (fun k => Y k ∨ k = s) w w0 gw gi gy gl gb gf cv vw vi vl cb vb yv fv ways idx boxes) :
  PlS Y w w0 gw gi gy gl gb gf cv vw vi vl cb vb yv fv ways idx boxes :=
 ⟨h.cw, h.ci, h.cy, h.cl, h.cx, h.cf, h.ne, h.bw, h.bb, fun y => h.yw (.inl y), fun y => h.yi (.inl y), fun y => h.yy (.inl y), fun y => h.yl (.inl y), fun y => h.yb (.inl y), fun y => h.yf (.inl y), fun k hk => h.ys k (.inl hk),
  h.rI.imp (fun k _ hk y => hk (.inl y)) rfl, Kd.R_mono h.rW (fun k hk y => hk (.inl y)), Kd.R_mono h.rB (fun k hk y => hk (.inl y))⟩
theorem C_int1_ {w : World} {g : Nat} {x : Int} (h : w.heap[g]? = some (.cells #[.int .i64 x] 3 (0, 0))) : (Kd.int .i64).C w (some ⟨g, 0, none⟩) 1 [x] := by
 refine ⟨rfl, by decide, fun _ => ⟨_, rfl, fun j p hj => ?_⟩⟩
 match j, hj with
 | 0, hj =>
  obtain rfl : x = p := by simpa using hj
  refine ⟨[.int .i64 x], rfl, rfl, fun i u hu => ?_⟩
  rw [show (⟨g, 0, none⟩ : Addr).add (0 * (Kd.int .i64).sz + i) = ⟨g, i, none⟩ from by rw [Nat.zero_mul, Nat.zero_add]; exact add_plain g i, blk_cell h i]
  simpa using hu
theorem C_box1_ {w : World} {g : Nat} {b0 b1 b2 b3 : Int} (h : w.heap[g]? = some (.cells #[.int .i64 b0, .int .i64 b1, .int .i64 b2, .int .i64 b3] 26 (0, 0))) : k26.C w (some ⟨g, 0, none⟩) 1 [⟨b0, b1, b2, b3⟩] := by
 refine ⟨rfl, by decide, fun _ => ⟨_, rfl, fun j p hj => ?_⟩⟩
 match j, hj with
 | 0, hj =>
  obtain rfl : (⟨b0, b1, b2, b3⟩ : S26) = p := by simpa using hj
  refine ⟨[.int .i64 b0, .int .i64 b1, .int .i64 b2, .int .i64 b3], rfl, k26_mk w ⟨b0, b1, b2, b3⟩, fun i u hu => ?_⟩
  rw [show (⟨g, 0, none⟩ : Addr).add (0 * k26.sz + i) = ⟨g, i, none⟩ from by rw [Nat.zero_mul, Nat.zero_add]; exact add_plain g i, blk_cell h i]
  simpa using hu
section
variable {P : Program} {ops : Array Oper} {o : Oper} {a : Act} {Q : Exit → Act → World → Prop} {Kc : Act → World → Prop}
theorem lit_step {W : World} (hw : Region.wanted o (yielded ops a.tmps) = true) {N : Tmp} (_hd : o.dst = some N) {cs : Array Value} {t : TypeId} {n : Nat}
  (hrun : (execOp a.eval o).run P W = .ok (.value (.slice (some ⟨W.heap.size, 0, none⟩) n n)) (W.alloc (.cells cs t)))
  (h : ∀ g, g = W.heap.size → ∀ w1, w1.heap[g]? = some (.cells cs t (0, 0)) → Below W.heap.size W w1 → Kc (a.put o.dst (.slice (some ⟨g, 0, none⟩) n n)) w1) : if Region.wanted o (yielded ops a.tmps) = true then Oper.wp P o a W Kc Q else Kc (a.put o.dst undef) W :=
 event_step hw hrun (h _ rfl _ (blk_new W _) (below_alloc (Below.refl _ _) _))
end
end Go.Proofs.YtjkcfpmonpkhhaaDoor.Pr

