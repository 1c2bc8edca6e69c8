/-
What is proved: parts of the law FnExactMostPlaced: what the functions that it reaches compute, and the plain law.
Conditions: those of each theorem.
-/
import Derived.ArgAppend
import Derived.Below
import Derived.BigQuiet
import Derived.Deep.AppendLies
import Derived.Deep.CutBlock
import Derived.Deep.DeepCutAuto
import Derived.Deep.Draws
import Derived.Deep.LoopGhost
import Derived.Deep.OwnRows
import Derived.Deep.QuietTactic
import Derived.Deep.RegionHeld3
import Derived.Deep.RegionLaw
import Derived.KernelRfl
import Derived.Laws.BitsLemmas
import Derived.Laws.BytesArg
import Derived.Laws.CopyOwn
import Derived.Laws.Cover1
import Derived.Laws.IdiomCopy
import Derived.Laws.IdiomStrings
import Derived.Laws.MakeOwn
import Derived.Laws.OwnMore
import Derived.Laws.Rows
import Derived.Laws.Slices
import Derived.Lib.AppendStr
import Derived.Lib.ConvBytes
import Derived.Maps.AppendAt
import Derived.OrdersHeld
import Derived.OwnWalk
import Derived.RowKit
import Derived.RowKit3
import Derived.Shelf.Abstract
import Derived.Shelf.Strings.SlTrimAscii
import Derived.Shelf.Strings.Trim
import Derived.StillTailTactics
import Derived.Tactics
import Derived.Test.YtjkcfpmonpkhhaaDoorProg
import Derived.WalkKit
import Derived.WideLaws
import Derived.Test.YtjkcfpmonpkhhaaDoorCFnExactMostPlaced0
namespace Go.Proofs
open Go.Shelf
def Tryd.lays160_ren : Go.Shelf.Ren := ⟨fun | 160 => 109 | 232 => 111 | 231 => 110 | 227 => 112 | 234 => 114 | 233 => 113 | 236 => 116 | 235 => 115 | 228 => 117 | 271 => 120 | 151 => 119 | 197 => 118 | 120 => 123 | 152 => 122 | 260 => 121 | 137 => 124 | 119 => 125 | 224 => 126 | 225 => 127 | 217 => 128 | 266 => 129 | n => n, fun | 9 => 9 | 4 => 4 | 3 => 3 | 5 => 5 | 117 => 115 | 116 => 114 | 0 => 0 | 124 => 118 | 21 => 21 | 105 => 120 | 46 => 88 | 119 => 124 | 139 => 127 | 138 => 126 | n => n, fun | 3 => 0 | 4 => 1 | n => n⟩
theorem Tryd.lays160 : Go.Proofs.Lays.n160 Tryd.prog Tryd.lays160_ren := {
 mixed := by kernel_rfl
 f119 := Tryd.func125.trans (congrArg some (by kernel_rfl))
 f120 := Tryd.func123.trans (congrArg some (by kernel_rfl))
 f137 := Tryd.func124.trans (congrArg some (by kernel_rfl))
 f151 := Tryd.func119.trans (congrArg some (by kernel_rfl))
 f152 := Tryd.func122.trans (congrArg some (by kernel_rfl))
 f160 := Tryd.func109.trans (congrArg some (by kernel_rfl))
 f197 := Tryd.func118.trans (congrArg some (by kernel_rfl))
 f217 := Tryd.func128.trans (congrArg some (by kernel_rfl))
 f224 := Tryd.func126.trans (congrArg some (by kernel_rfl))
 f225 := Tryd.func127.trans (congrArg some (by kernel_rfl))
 f227 := Tryd.func112.trans (congrArg some (by kernel_rfl))
 f228 := Tryd.func117.trans (congrArg some (by kernel_rfl))
 f231 := Tryd.func110.trans (congrArg some (by kernel_rfl))
 f232 := Tryd.func111.trans (congrArg some (by kernel_rfl))
 f233 := Tryd.func113.trans (congrArg some (by kernel_rfl))
 f234 := Tryd.func114.trans (congrArg some (by kernel_rfl))
 f235 := Tryd.func115.trans (congrArg some (by kernel_rfl))
 f236 := Tryd.func116.trans (congrArg some (by kernel_rfl))
 f260 := Tryd.func121.trans (congrArg some (by kernel_rfl))
 f266 := Tryd.func129.trans (congrArg some (by kernel_rfl))
 f271 := Tryd.func120.trans (congrArg some (by kernel_rfl))
 t0 := Tryd.underlying0
 a0 := Tryd.isAgg0
 z0 := Tryd.sizeOf0
 v0 := Tryd.zeroValue0
 t3 := Tryd.underlying3
 a3 := Tryd.isAgg3
 z3 := Tryd.sizeOf3
 v3 := Tryd.zeroValue3
 t4 := Tryd.underlying4
 a4 := Tryd.isAgg4
 z4 := Tryd.sizeOf4
 v4 := Tryd.zeroValue4
 t5 := Tryd.underlying5
 a5 := Tryd.isAgg5
 z5 := Tryd.sizeOf5
 v5 := Tryd.zeroValue5
 t9 := Tryd.underlying9
 a9 := Tryd.isAgg9
 z9 := Tryd.sizeOf9
 v9 := Tryd.zeroValue9
 t21 := Tryd.underlying21
 a21 := Tryd.isAgg21
 z21 := Tryd.sizeOf21
 v21 := Tryd.zeroValue21
 t46 := Tryd.underlying88
 a46 := Tryd.isAgg88
 z46 := Tryd.sizeOf88
 v46 := Tryd.zeroValue88
 t105 := Tryd.underlying120
 a105 := Tryd.isAgg120
 z105 := Tryd.sizeOf120
 v105 := Tryd.zeroValue120
 t116 := Tryd.underlying114
 a116 := Tryd.isAgg114
 z116 := Tryd.sizeOf114
 t117 := Tryd.underlying115
 a117 := Tryd.isAgg115
 z117 := Tryd.sizeOf115
 v117 := Tryd.zeroValue115
 t119 := Tryd.underlying124
 a119 := Tryd.isAgg124
 z119 := Tryd.sizeOf124
 t124 := Tryd.underlying118
 a124 := Tryd.isAgg118
 z124 := Tryd.sizeOf118
 v124 := Tryd.zeroValue118
 t138 := Tryd.underlying126
 a138 := Tryd.isAgg126
 z138 := Tryd.sizeOf126
 v138 := Tryd.zeroValue126
 t139 := Tryd.underlying127
 a139 := Tryd.isAgg127
 z139 := Tryd.sizeOf127
 v139 := Tryd.zeroValue127
 g3 := by kernel_rfl
 g4 := by kernel_rfl }
end Go.Proofs

namespace Go.Proofs.YtjkcfpmonpkhhaaDoor.Pr
open Go.RowKit Go.Proofs.YtjkcfpmonpkhhaaDoorW.PrintWords Go.Proofs.YtjkcfpmonpkhhaaDoorW.PrintLast Go.Proofs.YtjkcfpmonpkhhaaDoorW.PrintMore
attribute [local go_sem] max2_int min2_int max_two min_two max_three min_three max_four min_four   -- for this text's walks alone
set_option linter.unusedVariables false
set_option linter.unusedSimpArgs false
def errW : Option Int → Value
 | none => .nilIface
 | some c => .iface 0 (.int .i64 c)
theorem errW_none : errW none = .nilIface := rfl
theorem errW_some (c : Int) : errW (some c) = .iface 0 (.int .i64 c) := rfl
theorem info3 : (Tryd.prog.info? 3).map (fun i => (i.zero, i.size, i.bytes)) = some (some (.int .i64 0), 1, 8) := by kernel_rfl
theorem info26 : (Tryd.prog.info? 26).map (fun i => (i.zero, i.size, i.bytes)) = some (some (.agg #[(.int .i64 0), (.int .i64 0), (.int .i64 0), (.int .i64 0)]), 4, 32) := by kernel_rfl
theorem info29 : (Tryd.prog.info? 29).map (fun i => (i.zero, i.size, i.bytes)) = some (some (.agg #[(.string ⟨#[]⟩), (.int .i64 0), (.int .i64 0)]), 3, 32) := by kernel_rfl
structure S29 where
 f0 : ByteArray
 f1 : Int
 f2 : Int
def z29 : S29 := ⟨(⟨#[]⟩ : ByteArray), (0 : Int), (0 : Int)⟩
def k29 : Kd S29 := Kd.iso (Kd.pair Kd.string (Kd.pair (Kd.int .i64) (Kd.int .i64))) (fun x : S29 => (x.f0, x.f1, x.f2))
theorem k29_heap : Kd.Heap k29 := Kd.heap_iso _ (Kd.heap_pair Kd.heap_string (Kd.heap_pair (Kd.heap_int .i64) (Kd.heap_int .i64)))
theorem k29_open {w : World} {x : S29} {cs : List Value} (h : k29.K w x cs) : cs = [.string x.f0, .int .i64 x.f1, .int .i64 x.f2] := by
 obtain ⟨_, _, rfl, rfl, ⟨_, _, rfl, rfl, rfl⟩⟩ := h
 exact rfl
theorem k29_openM {w : World} {base : Nat} {ok : Nat → Prop} {x : S29} {cs : List Value} (h : k29.M w base ok x cs) : cs = [.string x.f0, .int .i64 x.f1, .int .i64 x.f2] := by
 obtain ⟨_, _, rfl, rfl, ⟨_, _, rfl, rfl, rfl⟩⟩ := h
 exact rfl
theorem k29_mkM (w : World) (base : Nat) (ok : Nat → Prop) (x : S29)  : k29.M w base ok x [.string x.f0, .int .i64 x.f1, .int .i64 x.f2] := ⟨[.string x.f0], [.int .i64 x.f1, .int .i64 x.f2], rfl, rfl, ⟨[.int .i64 x.f1], [.int .i64 x.f2], rfl, rfl, rfl⟩⟩
def rd_T29 (xs : List S29) (i : Int) : S29 := xs.getD i.toNat z29
theorem at_T29 {w : World} {A : Option Addr} {n : Nat} {xs : List S29} (h : Kd.C k29 w A n xs) (i : Int) (h0 : 0 ≤ i) (h1 : i < n) : ∃ ad , A = some ad ∧ w.cell? (ad.add (i.toNat * 3)) = some (.string (rd_T29 xs i).f0) ∧ w.cell? ⟨(ad.add (i.toNat * 3)).block, (ad.add (i.toNat * 3)).off + 1, none⟩ = some (.int .i64 (rd_T29 xs i).f1) ∧ w.cell? ⟨(ad.add (i.toNat * 3)).block, (ad.add (i.toNat * 3)).off + 2, none⟩ = some (.int .i64 (rd_T29 xs i).f2) := by
 obtain ⟨ad, c, e, _, hK, hc0⟩ := Kd.C_get h z29 i h0 h1
 have hc : ∀ j u, c[j]? = some u → w.cell? (ad.add (i.toNat * 3 + j)) = some u := hc0
 obtain rfl := k29_open hK
 exact ⟨ad, e, hc 0 _ rfl, by rw [← add_field _ _ 1 (by omega)]; exact hc 1 _ rfl, by rw [← add_field _ _ 2 (by omega)]; exact hc 2 _ rfl⟩
structure S26 where
 f0 : Int
 f1 : Int
 f2 : Int
 f3 : Int
def z26 : S26 := ⟨(0 : Int), (0 : Int), (0 : Int), (0 : Int)⟩
def k26 : Kd S26 := Kd.iso (Kd.pair (Kd.int .i64) (Kd.pair (Kd.int .i64) (Kd.pair (Kd.int .i64) (Kd.int .i64)))) (fun x : S26 => (x.f0, x.f1, x.f2, x.f3))
theorem k26_open {w : World} {x : S26} {cs : List Value} (h : k26.K w x cs) : cs = [.int .i64 x.f0, .int .i64 x.f1, .int .i64 x.f2, .int .i64 x.f3] := by
 obtain ⟨_, _, rfl, rfl, ⟨_, _, rfl, rfl, ⟨_, _, rfl, rfl, rfl⟩⟩⟩ := h
 exact rfl
theorem k26_mk (w : World) (x : S26)  : k26.K w x [.int .i64 x.f0, .int .i64 x.f1, .int .i64 x.f2, .int .i64 x.f3] := ⟨[.int .i64 x.f0], [.int .i64 x.f1, .int .i64 x.f2, .int .i64 x.f3], rfl, rfl, ⟨[.int .i64 x.f1], [.int .i64 x.f2, .int .i64 x.f3], rfl, rfl, ⟨[.int .i64 x.f2], [.int .i64 x.f3], rfl, rfl, rfl⟩⟩⟩
theorem k26_mkM (w : World) (base : Nat) (ok : Nat → Prop) (x : S26)  : k26.M w base ok x [.int .i64 x.f0, .int .i64 x.f1, .int .i64 x.f2, .int .i64 x.f3] := ⟨[.int .i64 x.f0], [.int .i64 x.f1, .int .i64 x.f2, .int .i64 x.f3], rfl, rfl, ⟨[.int .i64 x.f1], [.int .i64 x.f2, .int .i64 x.f3], rfl, rfl, ⟨[.int .i64 x.f2], [.int .i64 x.f3], rfl, rfl, rfl⟩⟩⟩
def rd_T26 (xs : List S26) (i : Int) : S26 := xs.getD i.toNat z26
theorem at_T26 {w : World} {A : Option Addr} {n : Nat} {xs : List S26} (h : Kd.C k26 w A n xs) (i : Int) (h0 : 0 ≤ i) (h1 : i < n) : ∃ ad , A = some ad ∧ w.cell? (ad.add (i.toNat * 4)) = some (.int .i64 (rd_T26 xs i).f0) ∧ w.cell? ⟨(ad.add (i.toNat * 4)).block, (ad.add (i.toNat * 4)).off + 1, none⟩ = some (.int .i64 (rd_T26 xs i).f1) ∧ w.cell? ⟨(ad.add (i.toNat * 4)).block, (ad.add (i.toNat * 4)).off + 2, none⟩ = some (.int .i64 (rd_T26 xs i).f2) ∧ w.cell? ⟨(ad.add (i.toNat * 4)).block, (ad.add (i.toNat * 4)).off + 3, none⟩ = some (.int .i64 (rd_T26 xs i).f3) := by
 obtain ⟨ad, c, e, _, hK, hc0⟩ := Kd.C_get h z26 i h0 h1
 have hc : ∀ j u, c[j]? = some u → w.cell? (ad.add (i.toNat * 4 + j)) = some u := hc0
 obtain rfl := k26_open hK
 exact ⟨ad, e, hc 0 _ rfl, by rw [← add_field _ _ 1 (by omega)]; exact hc 1 _ rfl, by rw [← add_field _ _ 2 (by omega)]; exact hc 2 _ rfl, by rw [← add_field _ _ 3 (by omega)]; exact hc 3 _ rfl⟩
structure S23 where
 f0 : ByteArray
 f1 : Int
 f2 : Int
def z23 : S23 := ⟨(⟨#[]⟩ : ByteArray), (0 : Int), (0 : Int)⟩
def k23 : Kd S23 := Kd.iso (Kd.pair Kd.string (Kd.pair (Kd.int .i64) (Kd.int .i64))) (fun x : S23 => (x.f0, x.f1, x.f2))
theorem k23_open {w : World} {x : S23} {cs : List Value} (h : k23.K w x cs) : cs = [.string x.f0, .int .i64 x.f1, .int .i64 x.f2] := by
 obtain ⟨_, _, rfl, rfl, ⟨_, _, rfl, rfl, rfl⟩⟩ := h
 exact rfl
def rd_T23 (xs : List S23) (i : Int) : S23 := xs.getD i.toNat z23
theorem at_T23 {w : World} {A : Option Addr} {n : Nat} {xs : List S23} (h : Kd.C k23 w A n xs) (i : Int) (h0 : 0 ≤ i) (h1 : i < n) : ∃ ad , A = some ad ∧ w.cell? (ad.add (i.toNat * 3)) = some (.string (rd_T23 xs i).f0) ∧ w.cell? ⟨(ad.add (i.toNat * 3)).block, (ad.add (i.toNat * 3)).off + 1, none⟩ = some (.int .i64 (rd_T23 xs i).f1) ∧ w.cell? ⟨(ad.add (i.toNat * 3)).block, (ad.add (i.toNat * 3)).off + 2, none⟩ = some (.int .i64 (rd_T23 xs i).f2) := by
 obtain ⟨ad, c, e, _, hK, hc0⟩ := Kd.C_get h z23 i h0 h1
 have hc : ∀ j u, c[j]? = some u → w.cell? (ad.add (i.toNat * 3 + j)) = some u := hc0
 obtain rfl := k23_open hK
 exact ⟨ad, e, hc 0 _ rfl, by rw [← add_field _ _ 1 (by omega)]; exact hc 1 _ rfl, by rw [← add_field _ _ 2 (by omega)]; exact hc 2 _ rfl⟩
end Go.Proofs.YtjkcfpmonpkhhaaDoor.Pr

namespace Go.Proofs.YtjkcfpmonpkhhaaDoor.Pr
open Go.RowKit Go.Proofs.YtjkcfpmonpkhhaaDoorW.PrintWords Go.Proofs.YtjkcfpmonpkhhaaDoorW.PrintLast Go.Proofs.YtjkcfpmonpkhhaaDoorW.PrintMore
set_option linter.unusedVariables false
set_option linter.unusedSimpArgs false
section
variable {P : Program} {md : Region.Mode} {ops : Array Oper} {Q : Exit → Act → World → Prop} {S : World → Prop} {ds : List Nat} {T : Bool × List (List Nat × List Nat)}
theorem pz_ {fuel : Nat} {l : Array Bool} {a : Act} {w : World} {oi : Oper} {v : Value} {a' : Act} (HT : Aside0 (rtab md ops = T)) (i : Nat) (N : Option Tmp) (l' : Array Bool) (h : wpAnyLast P md ops Q S ds fuel l' a' w)
  (hi : ops[i]? = some oi := by exact rfl) (hN : oi.dst = N := by exact rfl) (hc : anyT T l.toList l'.toList i = true := by kernel_rfl) (hQ : ∀ c a w, Q (.panic c) (a.put oi.dst v) w → Q (.panic c) a w := by exact fun _ _ _ h => h)
  (hy : Yields P ops oi v a := by exact Or.inl ⟨by rfl, by intro w'; go_simp; with_reducible rfl⟩) (ha : a.put N v = a' := by simp only [Act.put, List.setIfInBounds_toArray, List.set_cons_zero, List.set_cons_succ, i64_w, i32_w]; rfl) :
  wpAnyLast P md ops Q S ds (fuel + 1) l a w := pure_ l' hi hN (any_of HT.out hc) hQ hy ha h
theorem ga_ {rest : List Oper} {oi : Oper} {a : Act} {w : World} {f : FuncId} {fn : Func} {ar : Array Operand} {ts : Array TypeId} (N : Option Tmp) (hf : P.funcs[f]? = some fn) (args : Array Value) (h : Calls P f args w fun e w' => ∃ v, e = .returned v ∧ wpList P ops Q rest (a.put N v) w')
  (hd : oi.dst = N := by exact rfl) (hg : oi.guard = none := by exact rfl) (hname : (fn.name == "runtime.NumGoroutine") = false := by kernel_rfl) (hb : fn.body.isSome = true := by exact rfl) (hop : oi.op = .call { callee := .value (.func f), args := ar, argTypes := ts } := by exact rfl)
  (hargs : ar.map a.eval = args := by (try simp only [List.map_toArray, List.map_cons, List.map_nil]); first | done | rfl | (simp only [List.length_drop, List.length_take]; rfl)) : wpList P ops Q (oi :: rest) a w := goesL_ N hd hg hf hname hb args hop hargs h
end
theorem lb0_ {n : Nat} {w w0 w1 : World} (HB : Below n w w0) (h : Below n w w0 → Below n w w1 := by intro HB_; repeat (first | (with_reducible first | exact HB_ | apply below_alloc | apply pw_below_drewN | apply below_drew1) | exact HB_)) : Below n w w1 := h HB
theorem lb1_ {n : Nat} {w w0 w1 : World} {A : Prop} (HB : Below n w w0) (G : A) (h : Below n w w0 → A → Below n w w1 := by intro HB_ G_; repeat (first | (with_reducible first | exact HB_ | apply below_alloc | apply pw_below_drewN | apply below_drew1 | refine below_set ?_ G_) | exact HB_)) : Below n w w1 := h HB G
theorem lb2_ {n : Nat} {w w0 w1 : World} {A B : Prop} (HB : Below n w w0) (G : A) (H : B) (h : Below n w w0 → A → B → Below n w w1 := by intro HB_ G_ H_; repeat (first | (with_reducible first | exact HB_ | apply below_alloc | apply pw_below_drewN | apply below_drew1 | refine below_set ?_ G_ | refine below_set ?_ H_) | exact HB_)) : Below n w w1 := h HB G H
theorem rr_ {α : Sort _} {a b : α} (h : a = b := by first | rfl | (simp [errW_none, errW_some] <;> rfl) | (simp [*, errW_none, errW_some] <;> rfl)) : a = b := h
theorem kr_ {α : Type} {d : Kd α} {e base : Nat} {w w1 : World} {ok : Nat → Prop} {v : Value} {xs : List α} (h : d.R e w base ok v xs) (hh : d.R e w base ok v xs → d.R e w1 base ok v xs := by intro h_; (with_reducible repeat (first | apply Kd.R_alloc | apply Kd.R_drewN | apply Kd.R_drew)); exact h_) : d.R e w1 base ok v xs := hh h
theorem kc_ {α : Type} {d : Kd α} {w w1 : World} {A : Option Addr} {n : Nat} {xs : List α} (h : d.C w A n xs) (hh : d.C w A n xs → d.C w1 A n xs := by intro h_; repeat (first | exact h_ | (with_reducible refine Kd.C_alloc ?_ _) | (with_reducible refine Kd.C_drewN ?_ _) | (with_reducible refine Kd.C_drew ?_))) : d.C w1 A n xs := hh h
theorem bk_ {w w1 : World} {g : Nat} {o : Obj} (h : w.heap[g]? = some o) (hh : w.heap[g]? = some o → w1.heap[g]? = some o := by intro h_; (with_reducible repeat (first | refine blk_drewN ?_ _ | refine blk_drew ?_ | refine blk_alloc ?_ _)); exact h_) : w1.heap[g]? = some o := hh h
theorem dt_ {p : Prop} [inst : Decidable p] (h : decide p = true := by first | (with_reducible assumption) | assumption) : p := of_decide_eq_true h
theorem bc_ {w w0 : World} {a : Addr} {v : Value} (hb : Below w.heap.size w w0) (h : w.cell? a = some v) : w0.cell? a = some v := (hb.cell (World.block_lt_of_cell? w _ h)).trans h
section
variable {P : Program} {md : Region.Mode} {ops : Array Oper} {Q : Exit → Act → World → Prop} {S : World → Prop} {ds : List Nat}
theorem na_ {fuel : Nat} {l : Array Bool} {a a' : Act} {w : World} (h : wpAnyLast P md ops Q S ds fuel l a' w) (ha : a = a' := by show Act.put _ (some _) _ = _; simp only [Act.put, List.setIfInBounds_toArray, List.set_cons_zero, List.set_cons_succ, i64_w, i32_w]; rfl) : wpAnyLast P md ops Q S ds fuel l a w := norm_ ha h
theorem nb_ {fuel : Nat} {l : Array Bool} {a a' : Act} {w : World} (h : wpAnyLast P md ops Q S ds fuel l a' w) (ha : a = a' := by simp only [putAll, Act.put, List.setIfInBounds_toArray, List.set_cons_zero, List.set_cons_succ]; rfl) : wpAnyLast P md ops Q S ds fuel l a w := norm_ ha h
end
theorem bz_ {w W : World} {g : Nat} (hg : g = W.heap.size) (h : Below w.heap.size w W) : w.heap.size ≤ g := by rw [hg]; exact h.size
theorem lb3_ {n : Nat} {w w0 w1 : World} {A B C : Prop} (HB : Below n w w0) (G : A) (H : B) (I : C) (h : Below n w w0 → A → B → C → Below n w w1 := by intro HB_ G_ H_ I_; repeat (first | (with_reducible first | exact HB_ | apply below_alloc | apply pw_below_drewN | apply below_drew1 | refine below_set ?_ G_ | refine below_set ?_ H_ | refine below_set ?_ I_) | exact HB_)) : Below n w w1 := h HB G H I
theorem kt_ {w w0 w1 : World} {S : Nat → Prop} (h : Kept w w0 S) (hh : Kept w w0 S → Kept w w1 S := by intro h_; repeat (first | (with_reducible first | exact h_ | apply Kept.alloc | apply Kept.drewN | apply Kept.drew) | exact h_)) : Kept w w1 S := hh h
theorem krm_ {α : Type} {d : Kd α} {e base : Nat} {w w1 : World} {ok ok' : Nat → Prop} {v : Value} {xs : List α} (h : d.R e w base ok v xs) (hm : ∀ k, ok k → ok' k) (hh : d.R e w base ok v xs → d.R e w1 base ok v xs := by intro h_; (with_reducible repeat (first | apply Kd.R_alloc | apply Kd.R_drewN | apply Kd.R_drew)); exact h_) : d.R e w1 base ok' v xs := Kd.R_mono (hh h) hm
theorem bb_ {w1 w2 : World} {g : Nat} {o : Obj} (h : w1.heap[g]? = some o) (hb : Below w1.heap.size w1 w2) : w2.heap[g]? = some o := blk_below h hb
theorem ry_ {α : Type} {d : Kd α} {e base : Nat} {w : World} {ok : Nat → Prop} {v : Value} {xs ys : List α} (he : ys = xs) (h : d.R e w base ok v xs) : d.R e w base ok v ys := by rw [he]; exact h
section
variable {P : Program} {ops : Array Oper} {Q : Exit → Act → World → Prop}
theorem gs_ {oi : Oper} {N : Option Tmp} {a : Act} {w : World} {K : Act → World → Prop} {f : FuncId} {fn : Func} {ar : Array Operand} {ts : Array TypeId} (hf : P.funcs[f]? = some fn) (args : Array Value) (h : Calls P f args w fun e w' => ∃ v, e = .returned v ∧ K (a.put N v) w')
  (hname : (fn.name == "runtime.NumGoroutine") = false := by kernel_rfl) (hb : fn.body.isSome = true := by exact rfl) (hw : Region.wanted oi (yielded ops a.tmps) = true := by rfl) (hN : oi.dst = N := by exact rfl) (hop : oi.op = .call { callee := .value (.func f), args := ar, argTypes := ts } := by exact rfl)
  (hargs : ar.map a.eval = args := by (try simp only [List.map_toArray, List.map_cons, List.map_nil]); first | done | rfl | (simp only [List.length_drop, List.length_take]; rfl)) : if Region.wanted oi (yielded ops a.tmps) = true then Oper.wp P oi a w K Q else K (a.put N undef) w := goes_ hf hname hb args hw hN hop hargs h
end
theorem cz3_ {w : World} {g : Nat} {t : TypeId} {a0 a1 a2 : Value} (h : w.heap[g]? = some (.cells #[a0, a1, a2] t (0, 0))) : w.cell? ⟨g, 0, none⟩ = some a0 ∧ w.cell? ⟨g, 1, none⟩ = some a1 ∧ w.cell? ⟨g, 2, none⟩ = some a2 := ⟨(blk_cell h 0).trans rfl, (blk_cell h 1).trans rfl, (blk_cell h 2).trans rfl⟩
theorem fz3_ {w : World} {g : Nat} {t : TypeId} {a0 a1 a2 : Value} (h : w.heap[g]? = some (.cells #[a0, a1, a2] t (0, 0))) : w.frozen? ⟨g, 0, none⟩ = false ∧ w.frozen? ⟨g, 1, none⟩ = false ∧ w.frozen? ⟨g, 2, none⟩ = false := ⟨blk_frozen h 0, blk_frozen h 1, blk_frozen h 2⟩
theorem cz4_ {w : World} {g : Nat} {t : TypeId} {a0 a1 a2 a3 : Value} (h : w.heap[g]? = some (.cells #[a0, a1, a2, a3] t (0, 0))) : w.cell? ⟨g, 0, none⟩ = some a0 ∧ w.cell? ⟨g, 1, none⟩ = some a1 ∧ w.cell? ⟨g, 2, none⟩ = some a2 ∧ w.cell? ⟨g, 3, none⟩ = some a3 := ⟨(blk_cell h 0).trans rfl, (blk_cell h 1).trans rfl, (blk_cell h 2).trans rfl, (blk_cell h 3).trans rfl⟩
theorem fz4_ {w : World} {g : Nat} {t : TypeId} {a0 a1 a2 a3 : Value} (h : w.heap[g]? = some (.cells #[a0, a1, a2, a3] t (0, 0))) : w.frozen? ⟨g, 0, none⟩ = false ∧ w.frozen? ⟨g, 1, none⟩ = false ∧ w.frozen? ⟨g, 2, none⟩ = false ∧ w.frozen? ⟨g, 3, none⟩ = false := ⟨blk_frozen h 0, blk_frozen h 1, blk_frozen h 2, blk_frozen h 3⟩
abbrev tT : Bool := true
abbrev fF : Bool := false
section
variable {P : Program} {md : Region.Mode} {ops : Array Oper} {Q : Exit → Act → World → Prop} {S : World → Prop} {ds : List Nat} {T : Bool × List (List Nat × List Nat)} {B : List Nat}
theorem tk_ {fuel : Nat} {l : Array Bool} {a : Act} {w : World} {oi : Oper} {v : Value} {a' : Act} (HT : Aside0 (rtab md ops = T)) (HW : Aside0 (waitsOk T.2 B = true)) (hS : S w) (i : Nat) (N : Option Tmp) (l' : Array Bool) (h : wpAnyLast P md ops Q S ds fuel l' a' w)
  (hi : ops[i]? = some oi := by exact rfl) (hN : oi.dst = N := by exact rfl) (hc : takeW T B ds l.toList l'.toList i = true := by kernel_rfl) (hQ : ∀ c a w, Q (.panic c) (a.put oi.dst v) w → Q (.panic c) a w := by exact fun _ _ _ h => h)
  (hy : YieldsIf P ops S oi v a := by exact Or.inl ⟨by rfl, by intro w' hs; (repeat (obtain ⟨s_, hs⟩ := hs)); go_simp; with_reducible rfl⟩) (ha : a.put N v = a' := by simp only [Act.put, List.setIfInBounds_toArray, List.set_cons_zero, List.set_cons_succ, i64_w, i32_w]; rfl) :
  wpAnyLast P md ops Q S ds (fuel + 1) l a w := take_ l' hi hN (take_ofW HT.out HW.out hc) hQ hy hS ha h
theorem pu_ {fuel : Nat} {l : Array Bool} {a : Act} {w : World} {oi : Oper} {a' : Act} (HT : Aside0 (rtab md ops = T)) (i : Nat) (N : Option Tmp) (l' : Array Bool) (h : wpAnyLast P md ops Q S ds fuel l' a' w)
  (hi : ops[i]? = some oi := by exact rfl) (hN : oi.dst = N := by exact rfl) (hc : anyT T l.toList l'.toList i = true := by kernel_rfl) (hQ : ∀ c a w, Q (.panic c) (a.put oi.dst undef) w → Q (.panic c) a w := by exact fun _ _ _ h => h)
  (hy : Yields P ops oi undef a := by exact Or.inr ⟨by rfl, rfl⟩) (ha : a.put N undef = a' := by simp only [Act.put, List.setIfInBounds_toArray, List.set_cons_zero, List.set_cons_succ, i64_w, i32_w]; rfl) :
  wpAnyLast P md ops Q S ds (fuel + 1) l a w := pure_ l' hi hN (any_of HT.out hc) hQ hy ha h
end
theorem nl_ {w W : World} {g g' : Nat} {o : Obj} (hg : g' = W.heap.size) (h : w.heap[g]? = some o) (hh : w.heap[g]? = some o → W.heap[g]? = some o := by intro h_; (with_reducible repeat (first | refine blk_drewN ?_ _ | refine blk_drew ?_ | refine blk_alloc ?_ _)); exact h_) : g ≠ g' := by rw [hg]; exact Nat.ne_of_lt (blk_lt (hh h))
theorem ng_ {w W : World} {g g' : Nat} {o : Obj} (hg : g' = W.heap.size) (h : w.heap[g]? = some o) (hh : w.heap[g]? = some o → W.heap[g]? = some o := by intro h_; (with_reducible repeat (first | refine blk_drewN ?_ _ | refine blk_drew ?_ | refine blk_alloc ?_ _)); exact h_) : g' ≠ g := by rw [hg]; exact Nat.ne_of_gt (blk_lt (hh h))
theorem p4_ {w : World} {g : Nat} {t : TypeId} {b0 b1 b2 b3 : Value} (h : w.heap[g]? = some (.cells #[b0, b1, b2, b3] t (0, 0))) (a0 a1 a2 a3 : Value) : ((((w.setCell ⟨g, 0, none⟩ a0).setCell ⟨g, 1, none⟩ a1).setCell ⟨g, 2, none⟩ a2).setCell ⟨g, 3, none⟩ a3).heap[g]? = some (.cells #[a0, a1, a2, a3] t (0, 0)) := (blk_put (cs := #[a0, a1, a2, b3]) (blk_put (cs := #[a0, a1, b2, b3]) (blk_put (cs := #[a0, b1, b2, b3]) (blk_put (cs := #[b0, b1, b2, b3]) h 0 _ rfl) 1 _ rfl) 2 _ rfl) 3 _ rfl)
end Go.Proofs.YtjkcfpmonpkhhaaDoor.Pr

namespace Go.Proofs.YtjkcfpmonpkhhaaDoor.Pr
open Go.RowKit Go.Proofs.YtjkcfpmonpkhhaaDoorW.PrintWords Go.Proofs.YtjkcfpmonpkhhaaDoorW.PrintLast Go.Proofs.YtjkcfpmonpkhhaaDoorW.PrintMore
attribute [local go_sem] max2_int min2_int max_two min_two max_three min_three max_four min_four   -- for this text's walks alone
set_option linter.unusedVariables false
set_option linter.unusedSimpArgs false
def laws_szLabel.f (a0_0 : ByteArray) (a0_1 : Int) (a0_2 : Int) (a1 : Int) : Option (Int) := if (wrap64 (a1 - (a0_0.size : Int))) < 0 then (some (-1)) else (some (wrap64 (a1 - (a0_0.size : Int))))
set_option maxHeartbeats 8000000 in
set_option maxRecDepth 100000 in
theorem laws_szLabel.calls (a0_0 : ByteArray) (a0_1 : Int) (a0_2 : Int) (a1 : Int) (r : Int) (w : World) (h : laws_szLabel.f a0_0 a0_1 a0_2 a1 = some r) :
  Calls Tryd.prog 13 #[.agg #[.string a0_0, .int .i64 a0_1, .int .i64 a0_2], .int .i64 a1] w fun e w' => e = .returned (.int .i64 r) ∧ Below w.heap.size w w' := by
 have hu23 := Tryd.underlying23
 have HB := Aside0.mk (Below.refl w.heap.size w)
 have H : (if (wrap64 (a1 - (a0_0.size : Int))) < 0 then (some (-1)) else (some (wrap64 (a1 - (a0_0.size : Int))))) = some r := h
 clear h
 by_cases c3 : (wrap64 (a1 - (a0_0.size : Int))) < 0
 ·
  rw [if_pos c3] at H
  have c3b0 : decide ((wrap64 (a1 - (a0_0.size : Int))) < 0) = true := decide_eq_true c3
  clear c3
  obtain rfl := Option.some.inj H
  go_enter Tryd.func13, Tryd.ntmps13
  go_wp2_with (first | ((with_reducible refine gate_dst (N := 2) rfl ?_); refine box_event ?hg (N := 2) ?hd (cs := #[.string a0_0, .int .i64 a0_1, .int .i64 a0_2]) (t := 23) ?hr ?_; (case hd => rfl); (case hg => rfl); (case hr => first | (go_simp; done) | (go_simp; rfl)); intro gb101 hg w4 hbox hb; have BK101 := Aside0.mk (hbox); have GW101 := Aside0.mk ((bz_ hg (lb0_ HB.out))); have GE101 := Aside0.mk ((bz_ hg (lb0_ HB.out))); replace HB := Aside0.mk (below_step (lb0_ HB.out) hb); clear hb hbox hg; obtain ⟨hcz5_0, hcz5_1, hcz5_2⟩ := cz3_ BK101.out; obtain ⟨hfz5_0, hfz5_1, hfz5_2⟩ := fz3_ BK101.out))
  go_ret
  exact ⟨rr_, lb1_ HB.out GE101.out⟩
 ·
  rw [if_neg c3] at H
  have c3b0 : decide ((wrap64 (a1 - (a0_0.size : Int))) < 0) = false := decide_eq_false c3
  clear c3
  obtain rfl := Option.some.inj H
  go_enter Tryd.func13, Tryd.ntmps13
  go_wp2_with (first | ((with_reducible refine gate_dst (N := 2) rfl ?_); refine box_event ?hg (N := 2) ?hd (cs := #[.string a0_0, .int .i64 a0_1, .int .i64 a0_2]) (t := 23) ?hr ?_; (case hd => rfl); (case hg => rfl); (case hr => first | (go_simp; done) | (go_simp; rfl)); intro gb101 hg w6 hbox hb; have BK101 := Aside0.mk (hbox); have GW101 := Aside0.mk ((bz_ hg (lb0_ HB.out))); have GE101 := Aside0.mk ((bz_ hg (lb0_ HB.out))); replace HB := Aside0.mk (below_step (lb0_ HB.out) hb); clear hb hbox hg; obtain ⟨hcz7_0, hcz7_1, hcz7_2⟩ := cz3_ BK101.out; obtain ⟨hfz7_0, hfz7_1, hfz7_2⟩ := fz3_ BK101.out))
  go_ret
  exact ⟨rr_, lb1_ HB.out GE101.out⟩
def laws_szLabelS.l0 : Nat → List (S23) → Int → Int → Option (Int)
 | 0, _, _, _ => none
 | k + 1, x0, x1, x5 => if x5 < (x0.length : Int) then (if 0 ≤ x5 then ((laws_szLabel.f ((rd_T23 x0 x5).f0) ((rd_T23 x0 x5).f1) ((rd_T23 x0 x5).f2) x1).bind fun t158 => (if t158 < 0 then (some (-1)) else (laws_szLabelS.l0 k x0 t158 (wrap64 (x5 + 1))))) else (none)) else (some x1)
def laws_szLabelS.f (k : Nat) (l0 : List (S23)) (a1 : Int) : Option (Int) := if (wrap64 (a1 - (l0.length : Int))) < 0 then (some (-1)) else (laws_szLabelS.l0 k l0 (wrap64 (a1 - (l0.length : Int))) 0)
set_option maxHeartbeats 8000000 in
set_option maxRecDepth 100000 in
theorem laws_szLabelS.calls (k : Nat) (A0 : Option Addr) (c0 : Nat) (l0 : List (S23)) (a1 : Int) (r : Int) (w : World) (hr0 : Kd.C k23 w A0 l0.length l0) (hc0 : l0.length ≤ c0) (h : laws_szLabelS.f k l0 a1 = some r) :
  Calls Tryd.prog 18 #[.slice A0 l0.length c0, .int .i64 a1] w fun e w' => e = .returned (.int .i64 r) ∧ Below w.heap.size w w' := by
 have hu23 := Tryd.underlying23
 have HR0 := Aside0.mk hr0
 have HC0 := Aside0.mk hc0
 clear hr0 hc0
 have HB := Aside0.mk (Below.refl w.heap.size w)
 have H : (if (wrap64 (a1 - (l0.length : Int))) < 0 then (some (-1)) else (laws_szLabelS.l0 k l0 (wrap64 (a1 - (l0.length : Int))) 0)) = some r := h
 clear h
 by_cases c3 : (wrap64 (a1 - (l0.length : Int))) < 0
 ·
  rw [if_pos c3] at H
  have c3b0 : decide ((wrap64 (a1 - (l0.length : Int))) < 0) = true := decide_eq_true c3
  clear c3
  obtain rfl := Option.some.inj H
  go_enter Tryd.func18, Tryd.ntmps18
  go_wp2
  go_ret
  exact ⟨rr_, lb0_ HB.out⟩
 ·
  rw [if_neg c3] at H
  have c3b0 : decide ((wrap64 (a1 - (l0.length : Int))) < 0) = false := decide_eq_false c3
  clear c3
  have H' := Aside0.mk H
  clear H
  go_enter Tryd.func18, Tryd.ntmps18
  go_wp2
  go_loopg [1, 5] k (fun kq v1 v5 w' => ∃ (x1_1 : Int) (x5_1 : Int), v1 = .int .i64 x1_1 ∧ v5 = .int .i64 x5_1 ∧ Aside0 (laws_szLabelS.l0 kq l0 x1_1 x5_1 = some r) ∧ Aside0 (kq ≤ k) ∧ Aside0 (Below w.heap.size w w'))
  case atStart => exact ⟨(wrap64 (a1 - (l0.length : Int))), (0), (by first | rfl | (simp; done) | (simp [*]; done)), (by first | rfl | (simp; done) | (simp [*]; done)), H', ⟨Nat.le_refl _⟩, ⟨lb0_ HB.out⟩⟩
  case round =>
   clear H'
   try clear c1
   try clear p2
   try clear c3
   try clear c3b0
   obtain ⟨x1_1, x5_1, rfl, rfl, HA, HK1, HB⟩ := hrel
   cases gk with
   | zero => exact absurd HA.out (by simp [laws_szLabelS.l0])
   | succ k1 =>
    have H := HA.out
    clear HA
    simp only [laws_szLabelS.l0] at H
    by_cases c4 : x5_1 < (l0.length : Int)
    ·
     rw [if_pos c4] at H
     have c4b0 : decide (x5_1 < (l0.length : Int)) = true := decide_eq_true c4
     clear c4
     by_cases c5 : 0 ≤ x5_1
     ·
      rw [if_pos c5] at H
      have c5b0 : decide (0 ≤ x5_1) = true := decide_eq_true c5
      clear c5
      replace H := Option.bind_eq_some_iff.mp H
      obtain ⟨t158, A60, H⟩ := H
      replace H : (if t158 < 0 then (some (-1)) else (laws_szLabelS.l0 k1 l0 t158 (wrap64 (x5_1 + 1)))) = some r := H
      have A6 := Aside0.mk A60
      clear A60
      by_cases c7 : t158 < 0
      ·
       rw [if_pos c7] at H
       have c7b0 : decide (t158 < 0) = true := decide_eq_true c7
       clear c7
       obtain rfl := Option.some.inj H
       have p157 : 0 ≤ (x5_1 : Int) := dt_
       have q157 : x5_1 < (l0.length : Int) := dt_
       obtain ⟨ad157, e157, hx157_0, hx157_1, hx157_2⟩ := at_T23 HR0.out x5_1 p157 q157
       cases e157
       replace hx157_0 := bc_ HB.out hx157_0
       replace hx157_1 := bc_ HB.out hx157_1
       replace hx157_2 := bc_ HB.out hx157_2
       replace p157 := eq_true p157
       replace q157 := eq_true q157
       go_wp2_with (first | ((with_reducible refine gate_callee (f := 13) rfl ?_); refine ga_ (some 23) Tryd.func13 #[.agg #[.string ((rd_T23 l0 x5_1).f0), .int .i64 ((rd_T23 l0 x5_1).f1), .int .i64 ((rd_T23 l0 x5_1).f2)], .int .i64 x1_1] ?_; (with_reducible refine (laws_szLabel.calls ((rd_T23 l0 x5_1).f0) ((rd_T23 l0 x5_1).f1) ((rd_T23 l0 x5_1).f2) x1_1 t158 _ A6.out).mono ?_); rintro e w8 ⟨rfl, hb⟩; refine ⟨_, rfl, ?_⟩; replace HB := Aside0.mk (below_step (lb0_ HB.out) hb); (try clear hb); (try clear hb2); (try clear hk); (try clear hi)))
       go_ret
       exact ⟨rr_, lb0_ HB.out⟩
      ·
       rw [if_neg c7] at H
       have c7b0 : decide (t158 < 0) = false := decide_eq_false c7
       clear c7
       have H' := Aside0.mk H
       clear H
       have p157 : 0 ≤ (x5_1 : Int) := dt_
       have q157 : x5_1 < (l0.length : Int) := dt_
       obtain ⟨ad157, e157, hx157_0, hx157_1, hx157_2⟩ := at_T23 HR0.out x5_1 p157 q157
       cases e157
       replace hx157_0 := bc_ HB.out hx157_0
       replace hx157_1 := bc_ HB.out hx157_1
       replace hx157_2 := bc_ HB.out hx157_2
       replace p157 := eq_true p157
       replace q157 := eq_true q157
       go_wp2_with (first | ((with_reducible refine gate_callee (f := 13) rfl ?_); refine ga_ (some 23) Tryd.func13 #[.agg #[.string ((rd_T23 l0 x5_1).f0), .int .i64 ((rd_T23 l0 x5_1).f1), .int .i64 ((rd_T23 l0 x5_1).f2)], .int .i64 x1_1] ?_; (with_reducible refine (laws_szLabel.calls ((rd_T23 l0 x5_1).f0) ((rd_T23 l0 x5_1).f1) ((rd_T23 l0 x5_1).f2) x1_1 t158 _ A6.out).mono ?_); rintro e w9 ⟨rfl, hb⟩; refine ⟨_, rfl, ?_⟩; replace HB := Aside0.mk (below_step (lb0_ HB.out) hb); (try clear hb); (try clear hb2); (try clear hk); (try clear hi)))
       go_roundg k1
       case measure => have := HK1.out; omega
       case rel => exact ⟨(t158), (wrap64 (x5_1 + 1)), (by first | rfl | (simp; done) | (simp [*]; done)), (by first | rfl | (simp; done) | (simp [*]; done)), H', ⟨by have := HK1.out; omega⟩, ⟨lb0_ HB.out⟩⟩
     ·
      rw [if_neg c5] at H
      exact absurd H (by simp)
    ·
     rw [if_neg c4] at H
     have c4b0 : decide (x5_1 < (l0.length : Int)) = false := decide_eq_false c4
     clear c4
     obtain rfl := Option.some.inj H
     go_wp2
     go_ret
     exact ⟨rr_, lb0_ HB.out⟩
def laws_toLabel.f (a0_0 : ByteArray) (a0_1 : Int) (a0_2 : Int) : Option (ByteArray × Int × Int) := some (a0_0, a0_1, a0_2)
set_option maxHeartbeats 8000000 in
set_option maxRecDepth 100000 in
theorem laws_toLabel.calls (a0_0 : ByteArray) (a0_1 : Int) (a0_2 : Int) (r1 : ByteArray) (r2 : Int) (r3 : Int) (w : World) (h : laws_toLabel.f a0_0 a0_1 a0_2 = some (r1, r2, r3)) :
  Calls Tryd.prog 15 #[.agg #[.string a0_0, .int .i64 a0_1, .int .i64 a0_2]] w fun e w' => e = .returned (.agg #[.string r1, .int .i64 r2, .int .i64 r3]) ∧ Below w.heap.size w w' := by
 have hu23 := Tryd.underlying23
 have hu29 := Tryd.underlying29
 have HB := Aside0.mk (Below.refl w.heap.size w)
 have H : (some (a0_0, a0_1, a0_2)) = some (r1, r2, r3) := h
 clear h
 simp only [Option.some.injEq, Prod.mk.injEq] at H
 obtain ⟨rfl, rfl, rfl⟩ := H
 go_enter Tryd.func15, Tryd.ntmps15
 go_wp2_with (first | ((with_reducible refine gate_dst (N := 1) rfl ?_); refine box_event ?hg (N := 1) ?hd (cs := #[.string a0_0, .int .i64 a0_1, .int .i64 a0_2]) (t := 23) ?hr ?_; (case hd => rfl); (case hg => rfl); (case hr => first | (go_simp; done) | (go_simp; rfl)); intro gb116 hg w2 hbox hb; have BK116 := Aside0.mk (hbox); have GW116 := Aside0.mk ((bz_ hg (lb0_ HB.out))); have GE116 := Aside0.mk ((bz_ hg (lb0_ HB.out))); replace HB := Aside0.mk (below_step (lb0_ HB.out) hb); clear hb hbox hg) | ((with_reducible refine gate_dst (N := 2) rfl ?_); refine box_event ?hg (N := 2) ?hd (cs := #[.string (⟨#[]⟩ : ByteArray), .int .i64 0, .int .i64 0]) (t := 29) ?hr ?_; (case hd => rfl); (case hg => rfl); (case hr => first | (go_simp; done) | (go_simp; rfl)); intro gb117 hg w3 hbox hb; have BK117 := Aside0.mk (hbox); have GW117 := Aside0.mk ((bz_ hg (lb1_ HB.out GE116.out))); have GE117 := Aside0.mk ((bz_ hg (lb1_ HB.out GE116.out))); replace HB := Aside0.mk (below_step (lb1_ HB.out GE116.out) hb); have NB116_117 := Aside0.mk (nl_ hg BK116.out); have NB117_116 := Aside0.mk (ng_ hg BK116.out); replace BK116 := Aside0.mk (bb_ (bk_ BK116.out) hb); clear hb hbox hg) | ((with_reducible refine gate_dst (N := 3) rfl ?_); refine box_event ?hg (N := 3) ?hd (cs := #[.string (⟨#[]⟩ : ByteArray), .int .i64 0, .int .i64 0]) (t := 29) ?hr ?_; (case hd => rfl); (case hg => rfl); (case hr => first | (go_simp; done) | (go_simp; rfl)); intro gb118 hg w4 hbox hb; have BK118 := Aside0.mk (hbox); have GW118 := Aside0.mk ((bz_ hg (lb2_ HB.out GE116.out GE117.out))); have GE118 := Aside0.mk ((bz_ hg (lb2_ HB.out GE116.out GE117.out))); replace HB := Aside0.mk (below_step (lb2_ HB.out GE116.out GE117.out) hb); have NB116_118 := Aside0.mk (nl_ hg BK116.out); have NB118_116 := Aside0.mk (ng_ hg BK116.out); replace BK116 := Aside0.mk (bb_ (bk_ BK116.out) hb); have NB117_118 := Aside0.mk (nl_ hg BK117.out); have NB118_117 := Aside0.mk (ng_ hg BK117.out); replace BK117 := Aside0.mk (bb_ (bk_ BK117.out) hb); clear hb hbox hg; have hnb5 := NB116_117.out; have hnc5 := NB117_116.out; have hnb6 := NB116_118.out; have hnc6 := NB118_116.out; obtain ⟨hcz7_0, hcz7_1, hcz7_2⟩ := cz3_ BK116.out; obtain ⟨hfz7_0, hfz7_1, hfz7_2⟩ := fz3_ BK116.out; have hnb8 := NB118_117.out; have hnc8 := NB117_118.out; obtain ⟨hcz9_0, hcz9_1, hcz9_2⟩ := cz3_ BK118.out; obtain ⟨hfz9_0, hfz9_1, hfz9_2⟩ := fz3_ BK118.out; obtain ⟨hcz10_0, hcz10_1, hcz10_2⟩ := cz3_ BK117.out; obtain ⟨hfz10_0, hfz10_1, hfz10_2⟩ := fz3_ BK117.out))
 refine bodyPost_ret (results_cell_row rfl _ _ gb117 29 #[.string a0_0, .int .i64 a0_1, .int .i64 a0_2] (0, 0) _ rfl (by (with_reducible repeat (first | refine blk_drewN ?_ _ | refine blk_drew ?_ | refine blk_alloc ?_ _)); refine blk_put (cs := #[.string a0_0, .int .i64 a0_1, .int .i64 0]) ?_ 2 _ rfl; (with_reducible repeat (first | refine blk_drewN ?_ _ | refine blk_drew ?_ | refine blk_alloc ?_ _)); refine blk_put (cs := #[.string a0_0, .int .i64 0, .int .i64 0]) ?_ 1 _ rfl; (with_reducible repeat (first | refine blk_drewN ?_ _ | refine blk_drew ?_ | refine blk_alloc ?_ _)); refine blk_put (cs := #[.string (⟨#[]⟩ : ByteArray), .int .i64 0, .int .i64 0]) ?_ 0 _ rfl; (with_reducible repeat (first | refine blk_drewN ?_ _ | refine blk_drew ?_ | refine blk_alloc ?_ _)); refine blk_far ?_ NB117_118.out _; (with_reducible repeat (first | refine blk_drewN ?_ _ | refine blk_drew ?_ | refine blk_alloc ?_ _)); refine blk_far ?_ NB117_118.out _; (with_reducible repeat (first | refine blk_drewN ?_ _ | refine blk_drew ?_ | refine blk_alloc ?_ _)); refine blk_far ?_ NB117_118.out _; (with_reducible repeat (first | refine blk_drewN ?_ _ | refine blk_drew ?_ | refine blk_alloc ?_ _)); exact BK117.out) Tryd.underlying29 rfl (by kernel_rfl)) rfl ?_
 exact ⟨rr_, lb3_ HB.out GE116.out GE117.out GE118.out⟩
def laws_toLabelS.l0 : Nat → List (S23) → List (S29) → Int → Option ((List (S29)))
 | 0, _, _, _ => none
 | k + 1, x0, x3, x4 => if x4 < (x0.length : Int) then (if 0 ≤ x4 then ((laws_toLabel.f ((rd_T23 x0 x4).f0) ((rd_T23 x0 x4).f1) ((rd_T23 x0 x4).f2)).bind fun bt166 => (if x4 < (x3.length : Int) then (laws_toLabelS.l0 k x0 (x3.set (x4 : Int).toNat (⟨bt166.1, bt166.2.1, bt166.2.2⟩ : S29)) (wrap64 (x4 + 1))) else (none))) else (none)) else (some x3)
def laws_toLabelS.f (k : Nat) (l0 : List (S23)) : Option ((List (S29))) := if 0 ≤ (l0.length : Int) then (if ((l0.length : Int) : Int).toNat ≤ 8796093022208 then (laws_toLabelS.l0 k l0 (List.replicate ((l0.length : Int) : Int).toNat z29) 0) else (none)) else (none)
set_option maxHeartbeats 8000000 in
set_option maxRecDepth 100000 in
theorem laws_toLabelS.calls (k : Nat) (A0 : Option Addr) (c0 : Nat) (l0 : List (S23)) (r : List (S29)) (w : World) (hr0 : Kd.C k23 w A0 l0.length l0) (hc0 : l0.length ≤ c0) (h : laws_toLabelS.f k l0 = some r) :
  Calls Tryd.prog 20 #[.slice A0 l0.length c0] w fun e w' => ∃ v0_ : Value, e = .returned (v0_) ∧ Kd.R k29 29 w' w.heap.size (fun _ => True) v0_ r ∧ Below w.heap.size w w' := by
 have hu23 := Tryd.underlying23
 have hu29 := Tryd.underlying29
 have HR0 := Aside0.mk hr0
 have HC0 := Aside0.mk hc0
 clear hr0 hc0
 have HB := Aside0.mk (Below.refl w.heap.size w)
 have H : (if 0 ≤ (l0.length : Int) then (if ((l0.length : Int) : Int).toNat ≤ 8796093022208 then (laws_toLabelS.l0 k l0 (List.replicate ((l0.length : Int) : Int).toNat z29) 0) else (none)) else (none)) = some r := h
 clear h
 by_cases c2 : 0 ≤ (l0.length : Int)
 ·
  rw [if_pos c2] at H
  have c2b0 := eq_true c2
  have c2b1 : decide (0 ≤ (l0.length : Int)) = true := decide_eq_true c2
  clear c2
  by_cases c3 : ((l0.length : Int) : Int).toNat ≤ 8796093022208
  ·
   rw [if_pos c3] at H
   have c3b0 := eq_true c3
   have c3b1 : decide (((l0.length : Int) : Int).toNat ≤ 8796093022208) = true := decide_eq_true c3
   clear c3
   obtain ⟨y162, hy162⟩ : ∃ y_ : List (S29), y_ = (List.replicate ((l0.length : Int) : Int).toNat z29) := ⟨_, rfl⟩
   replace H : (laws_toLabelS.l0 k l0 y162 0) = some r := by first | (rw [hy162]; with_reducible exact H) | (have H2_ := (Option.bind_some _ _).symm.trans H; rw [hy162]; with_reducible exact H2_) | (have H2_ := (Option.bind_some _ _).symm.trans H; with_reducible exact H2_) | with_reducible exact H | (rw [hy162]; exact H) | exact H
   have Ny162 := Aside0.mk hy162
   clear hy162
   have H' := Aside0.mk H
   clear H
   go_enter Tryd.func20, Tryd.ntmps20
   go_wp2_with (first | ((with_reducible refine gate_dst (N := 7) rfl ?_); refine Kd.R_make k29 _ 29 rfl (N := 7) rfl 36 _ _ rfl (l0.length : Int) rfl rfl Tryd.underlying36 (.agg #[(.string ⟨#[]⟩), (.int .i64 0), (.int .i64 0)]) 32 info29 rfl (by decide) (by omega) z29 (ok := fun _ => True) (okp := fun _ => True) (k29_mkM _ _ _ z29 ) (fun _ hk => hk) trivial (dt_) (Nat.le_trans (Nat.mul_le_mul_right _ (dt_ : (l0.length : Int).toNat ≤ 8796093022208)) (by omega)) (Below.refl _ _) (Nat.le_refl _) ?_; intro v163 w4 ho5 hb hg_ hnew_; clear hg_ hnew_; replace ho5 := ry_ Ny162.out ho5; have HO164 := Aside0.mk (Kd.R_lower ho5 (below_size (lb0_ HB.out))); replace HB := Aside0.mk (below_step (lb0_ HB.out) hb); clear hb ho5))
   go_loopg [4] k (fun kq v4 w' => ∃ (x3_1 : List (S29)) (x4_1 : Int), v4 = .int .i64 x4_1 ∧ Aside0 (laws_toLabelS.l0 kq l0 x3_1 x4_1 = some r) ∧ Aside0 (kq ≤ k) ∧ Aside0 (Kd.R k29 29 w' w.heap.size (fun _ => True) v163 x3_1) ∧ Aside0 (Below w.heap.size w w'))
   case atStart => exact ⟨(y162), (0), (by first | rfl | (simp; done) | (simp [*]; done)), H', ⟨Nat.le_refl _⟩, ⟨kr_ HO164.out⟩, ⟨lb0_ HB.out⟩⟩
   case round =>
    clear H'
    try clear c2
    try clear c2b0
    try clear c2b1
    try clear p2
    try clear c3
    try clear c3b0
    try clear c3b1
    obtain ⟨x3_1, x4_1, rfl, HA, HK1, HO_3, HB⟩ := hrel
    cases gk with
    | zero => exact absurd HA.out (by simp [laws_toLabelS.l0])
    | succ k1 =>
     have H := HA.out
     clear HA
     simp only [laws_toLabelS.l0] at H
     by_cases c6 : x4_1 < (l0.length : Int)
     ·
      rw [if_pos c6] at H
      have c6b0 : decide (x4_1 < (l0.length : Int)) = true := decide_eq_true c6
      clear c6
      by_cases c7 : 0 ≤ x4_1
      ·
       rw [if_pos c7] at H
       have c7b0 : decide (0 ≤ x4_1) = true := decide_eq_true c7
       clear c7
       replace H := Option.bind_eq_some_iff.mp H
       obtain ⟨⟨t166, t167, t168⟩, A80, H⟩ := H
       replace H : (if x4_1 < (x3_1.length : Int) then (laws_toLabelS.l0 k1 l0 (x3_1.set (x4_1 : Int).toNat (⟨t166, t167, t168⟩ : S29)) (wrap64 (x4_1 + 1))) else (none)) = some r := H
       have A8 := Aside0.mk A80
       clear A80
       by_cases c9 : x4_1 < (x3_1.length : Int)
       ·
        rw [if_pos c9] at H
        have c9b0 : decide (x4_1 < (x3_1.length : Int)) = true := decide_eq_true c9; clear c9
        obtain ⟨y169, hy169⟩ : ∃ y_ : List (S29), y_ = (x3_1.set (x4_1 : Int).toNat (⟨t166, t167, t168⟩ : S29)) := ⟨_, rfl⟩
        replace H : (laws_toLabelS.l0 k1 l0 y169 (wrap64 (x4_1 + 1))) = some r := by first | (rw [hy169]; with_reducible exact H) | (have H2_ := (Option.bind_some _ _).symm.trans H; rw [hy169]; with_reducible exact H2_) | (have H2_ := (Option.bind_some _ _).symm.trans H; with_reducible exact H2_) | with_reducible exact H | (rw [hy169]; exact H) | exact H
        have Ny169 := Aside0.mk hy169; clear hy169; have H' := Aside0.mk H; clear H; have p165 : 0 ≤ (x4_1 : Int) := dt_; have q165 : x4_1 < (l0.length : Int) := dt_; obtain ⟨ad165, e165, hx165_0, hx165_1, hx165_2⟩ := at_T23 HR0.out x4_1 p165 q165
        cases e165
        replace hx165_0 := bc_ HB.out hx165_0; replace hx165_1 := bc_ HB.out hx165_1; replace hx165_2 := bc_ HB.out hx165_2; replace p165 := eq_true p165; replace q165 := eq_true q165
        go_wp2_with (first | ((with_reducible refine gate_callee (f := 15) rfl ?_); refine ga_ (some 20) Tryd.func15 #[.agg #[.string ((rd_T23 l0 x4_1).f0), .int .i64 ((rd_T23 l0 x4_1).f1), .int .i64 ((rd_T23 l0 x4_1).f2)]] ?_; (with_reducible refine (laws_toLabel.calls ((rd_T23 l0 x4_1).f0) ((rd_T23 l0 x4_1).f1) ((rd_T23 l0 x4_1).f2) t166 t167 t168 _ A8.out).mono ?_); rintro e w11 ⟨rfl, hb⟩; refine ⟨_, rfl, ?_⟩; replace HO_3 := Aside0.mk (Kd.R_below (kr_ HO_3.out) hb); replace HB := Aside0.mk (below_step (lb0_ HB.out) hb); (try clear hb); (try clear hb2); (try clear hk); (try clear hi); have p10 : 0 ≤ (x4_1 : Int) := dt_; have q10 : (x4_1 : Int) < ((x3_1.length : Int) : Int) := dt_; obtain ⟨go10, co10, eo10, gb10, gl10, cl10, HG10⟩ := Kd.R_form HO_3.out (by omega); (first | cases eo10 | (injection eo10 with ea_ en_ ec_; (first | subst ea_ | (injection ea_ with ea_; subst ea_)); subst ec_; clear en_)); have GB10 := Aside0.mk gb10; have GG10 := Aside0.mk HG10; clear gb10 gl10 HG10; obtain ⟨ce10, hcl10, hM10, hcc10, hfr10⟩ := Kd.R_elem HO_3.out z29 (x4_1 : Int) p10 q10; obtain rfl := k29_openM hM10; have hx10_0 : w11.cell? ⟨go10, (x4_1 : Int).toNat * 3, none⟩ = some (.string ((rd_T29 x3_1 x4_1).f0)) := hcc10 0 _ rfl; have hx10_1 : w11.cell? ⟨go10, (x4_1 : Int).toNat * 3 + 1, none⟩ = some (.int .i64 ((rd_T29 x3_1 x4_1).f1)) := hcc10 1 _ rfl; have hx10_2 : w11.cell? ⟨go10, (x4_1 : Int).toNat * 3 + 2, none⟩ = some (.int .i64 ((rd_T29 x3_1 x4_1).f2)) := hcc10 2 _ rfl; have hf10_0 : w11.frozen? ⟨go10, (x4_1 : Int).toNat * 3, none⟩ = false := hfr10 0; have hf10_1 : w11.frozen? ⟨go10, (x4_1 : Int).toNat * 3 + 1, none⟩ = false := hfr10 1; have hf10_2 : w11.frozen? ⟨go10, (x4_1 : Int).toNat * 3 + 2, none⟩ = false := hfr10 2; clear hcl10 hcc10 hfr10 hM10; replace p10 := eq_true p10; replace q10 := eq_true q10; have HX12 := Aside0.mk (show Kd.R k29 29 w11 w.heap.size (fun _ => True) (.slice (some ⟨go10, 0, none⟩) x3_1.length co10) x3_1 from (kr_ HO_3.out)); obtain ⟨ce12, hcl12, hM12, hcc12, hfr12⟩ := Kd.R_elem HX12.out z29 (x4_1 : Int) (dt_) (by have h_ : (x4_1 : Int) < ((x3_1.length : Int) : Int) := dt_; first | exact h_ | (have e_ := (Kd.R_reads' HO_3.out).1; omega) | simpa using h_); obtain rfl := k29_openM hM12; have HP12 := Kd.R_seg HX12.out (x4_1 : Int) (dt_) (by have h_ : (x4_1 : Int) < ((x3_1.length : Int) : Int) := dt_; first | exact h_ | (have e_ := (Kd.R_reads' HO_3.out).1; omega) | simpa using h_) (seg := [.string t166, .int .i64 t167, .int .i64 t168]) (j := 0) hcl12 hcc12 (show 3 ≤ 3 from by decide) (x' := (⟨t166, t167, t168⟩ : S29)) (k29_mkM _ _ _ (⟨t166, t167, t168⟩ : S29) ) (fun _ hk => hk); have hx12_0 := hcc12 0 _ rfl; (try simp only [show (k29).sz = 3 from rfl, Nat.mul_one, Nat.add_zero] at hx12_0); have hf12_0 := hfr12 0; (try simp only [show (k29).sz = 3 from rfl, Nat.mul_one, Nat.add_zero] at hf12_0); have hx12_1 := hcc12 1 _ rfl; (try simp only [show (k29).sz = 3 from rfl, Nat.mul_one, Nat.add_zero] at hx12_1); have hf12_1 := hfr12 1; (try simp only [show (k29).sz = 3 from rfl, Nat.mul_one, Nat.add_zero] at hf12_1); have hx12_2 := hcc12 2 _ rfl; (try simp only [show (k29).sz = 3 from rfl, Nat.mul_one, Nat.add_zero] at hx12_2); have hf12_2 := hfr12 2; (try simp only [show (k29).sz = 3 from rfl, Nat.mul_one, Nat.add_zero] at hf12_2); clear hcl12 hcc12 hfr12 hM12) | ((with_reducible refine gate_store (t := 29) (p := 21) rfl ?_); refine store_event (t := 29) (p := 21) (v := ?vo_w13) (w1 := (((w11.setCell ⟨go10, (x4_1 : Int).toNat * 3, none⟩ (.string t166)).setCell ⟨go10, (x4_1 : Int).toNat * 3 + 1, none⟩ (.int .i64 t167)).setCell ⟨go10, (x4_1 : Int).toNat * 3 + 2, none⟩ (.int .i64 t168))) ?hg ?ho ?hn ?hr ?_; (case ho => rfl); (case hg => rfl); (case hn => rfl); (case hr => first | (go_simp; done) | (go_simp; rfl)); intro w13 hw; have hg : w11.grownBy w13 (some go10) := (by rw [hw]; exact HP12.2); have hp_ : Kd.R k29 29 w13 w.heap.size (fun _ => True) (.slice (some ⟨go10, 0, none⟩) x3_1.length co10) y169 := (by rw [hw, Ny169.out]; exact HP12.1); clear HP12; replace HO_3 := Aside0.mk (hp_); replace HB := Aside0.mk ((by rw [hw]; exact below_set (below_set (below_set (HB.out) GB10.out) GB10.out) GB10.out : Below w.heap.size w w13)); clear hg hw hp_))
        go_roundg k1
        case measure => have := HK1.out; omega
        case rel => exact ⟨(y169), (wrap64 (x4_1 + 1)), (by first | rfl | (simp; done) | (simp [*]; done)), H', ⟨by have := HK1.out; omega⟩, ⟨by (with_reducible repeat (first | apply Kd.R_alloc | apply Kd.R_drewN | apply Kd.R_drew)); first | exact HO_3.out | (rw [Ny169.out]; exact (Kd.R_putg (Kd.R_drewN HO_3.out _) _ _).1) | (rw [Ny169.out]; exact (Kd.R_putg HO_3.out _ _).1)⟩, ⟨by repeat (first | (with_reducible first | exact HB.out | apply below_alloc | apply pw_below_drewN | apply below_drew1) | exact HB.out | (first | exact below_set (pw_below_drewN HB.out _) GB10.out | exact below_set HB.out GB10.out))⟩⟩
       ·
        rw [if_neg c9] at H
        exact absurd H (by simp)
      ·
       rw [if_neg c7] at H
       exact absurd H (by simp)
     ·
      rw [if_neg c6] at H
      have c6b0 : decide (x4_1 < (l0.length : Int)) = false := decide_eq_false c6
      clear c6
      obtain rfl := Option.some.inj H
      go_wp2
      go_ret
      exact ⟨_, rr_, kr_ HO_3.out, lb0_ HB.out⟩
  ·
   rw [if_neg c3] at H
   exact absurd H (by simp)
 ·
  rw [if_neg c2] at H
  exact absurd H (by simp)
def laws_eqLabel.f (a0_0 : ByteArray) (a0_1 : Int) (a0_2 : Int) (a1_0 : ByteArray) (a1_1 : Int) (a1_2 : Int) : Option (Bool) := if a0_0.toList = a1_0.toList then (if a0_1 = a1_1 then (if a0_2 = a1_2 then (some true) else (some false)) else (some false)) else (some false)
set_option maxHeartbeats 8000000 in
set_option maxRecDepth 100000 in
theorem laws_eqLabel.calls (a0_0 : ByteArray) (a0_1 : Int) (a0_2 : Int) (a1_0 : ByteArray) (a1_1 : Int) (a1_2 : Int) (r : Bool) (w : World) (h : laws_eqLabel.f a0_0 a0_1 a0_2 a1_0 a1_1 a1_2 = some r) :
  Calls Tryd.prog 63 #[.agg #[.string a0_0, .int .i64 a0_1, .int .i64 a0_2], .agg #[.string a1_0, .int .i64 a1_1, .int .i64 a1_2]] w fun e w' => e = .returned (.bool r) ∧ Below w.heap.size w w' := by
 have hu29 := Tryd.underlying29
 have HB := Aside0.mk (Below.refl w.heap.size w)
 have H : (if a0_0.toList = a1_0.toList then (if a0_1 = a1_1 then (if a0_2 = a1_2 then (some true) else (some false)) else (some false)) else (some false)) = some r := h
 clear h
 by_cases c3 : a0_0.toList = a1_0.toList
 ·
  rw [if_pos c3] at H
  have c3b0 : (a0_0.toList == a1_0.toList) = true := beq_iff_eq.mpr c3
  have c3b1 : (a0_0.toList != a1_0.toList) = false := bne_eq_false_iff_eq.mpr c3
  clear c3
  by_cases c4 : a0_1 = a1_1
  ·
   rw [if_pos c4] at H
   have c4b0 : (a0_1 == a1_1) = true := beq_iff_eq.mpr c4
   have c4b1 : (a0_1 != a1_1) = false := bne_eq_false_iff_eq.mpr c4
   clear c4
   by_cases c5 : a0_2 = a1_2
   ·
    rw [if_pos c5] at H
    have c5b0 : (a0_2 == a1_2) = true := beq_iff_eq.mpr c5
    have c5b1 : (a0_2 != a1_2) = false := bne_eq_false_iff_eq.mpr c5
    clear c5
    obtain rfl := Option.some.inj H
    go_enter Tryd.func63, Tryd.ntmps63
    go_wp2_with (first | ((with_reducible refine gate_dst (N := 2) rfl ?_); refine box_event ?hg (N := 2) ?hd (cs := #[.string a0_0, .int .i64 a0_1, .int .i64 a0_2]) (t := 29) ?hr ?_; (case hd => rfl); (case hg => rfl); (case hr => first | (go_simp; done) | (go_simp; rfl)); intro gb170 hg w6 hbox hb; have BK170 := Aside0.mk (hbox); have GW170 := Aside0.mk ((bz_ hg (lb0_ HB.out))); have GE170 := Aside0.mk ((bz_ hg (lb0_ HB.out))); replace HB := Aside0.mk (below_step (lb0_ HB.out) hb); clear hb hbox hg) | ((with_reducible refine gate_dst (N := 3) rfl ?_); refine box_event ?hg (N := 3) ?hd (cs := #[.string a1_0, .int .i64 a1_1, .int .i64 a1_2]) (t := 29) ?hr ?_; (case hd => rfl); (case hg => rfl); (case hr => first | (go_simp; done) | (go_simp; rfl)); intro gb171 hg w7 hbox hb; have BK171 := Aside0.mk (hbox); have GW171 := Aside0.mk ((bz_ hg (lb1_ HB.out GE170.out))); have GE171 := Aside0.mk ((bz_ hg (lb1_ HB.out GE170.out))); replace HB := Aside0.mk (below_step (lb1_ HB.out GE170.out) hb); have NB170_171 := Aside0.mk (nl_ hg BK170.out); have NB171_170 := Aside0.mk (ng_ hg BK170.out); replace BK170 := Aside0.mk (bb_ (bk_ BK170.out) hb); clear hb hbox hg; have hnb8 := NB170_171.out; have hnc8 := NB171_170.out; obtain ⟨hcz9_0, hcz9_1, hcz9_2⟩ := cz3_ BK170.out; obtain ⟨hfz9_0, hfz9_1, hfz9_2⟩ := fz3_ BK170.out; obtain ⟨hcz10_0, hcz10_1, hcz10_2⟩ := cz3_ BK171.out; obtain ⟨hfz10_0, hfz10_1, hfz10_2⟩ := fz3_ BK171.out))
    go_ret
    exact ⟨rr_, lb2_ HB.out GE170.out GE171.out⟩
   ·
    rw [if_neg c5] at H
    have c5b0 : (a0_2 == a1_2) = false := beq_eq_false_iff_ne.mpr c5
    have c5b1 : (a0_2 != a1_2) = true := bne_iff_ne.mpr c5
    obtain rfl := Option.some.inj H
    go_enter Tryd.func63, Tryd.ntmps63
    go_wp2_with (first | ((with_reducible refine gate_dst (N := 2) rfl ?_); refine box_event ?hg (N := 2) ?hd (cs := #[.string a0_0, .int .i64 a0_1, .int .i64 a0_2]) (t := 29) ?hr ?_; (case hd => rfl); (case hg => rfl); (case hr => first | (go_simp; done) | (go_simp; rfl)); intro gb170 hg w11 hbox hb; have BK170 := Aside0.mk (hbox); have GW170 := Aside0.mk ((bz_ hg (lb0_ HB.out))); have GE170 := Aside0.mk ((bz_ hg (lb0_ HB.out))); replace HB := Aside0.mk (below_step (lb0_ HB.out) hb); clear hb hbox hg) | ((with_reducible refine gate_dst (N := 3) rfl ?_); refine box_event ?hg (N := 3) ?hd (cs := #[.string a1_0, .int .i64 a1_1, .int .i64 a1_2]) (t := 29) ?hr ?_; (case hd => rfl); (case hg => rfl); (case hr => first | (go_simp; done) | (go_simp; rfl)); intro gb171 hg w12 hbox hb; have BK171 := Aside0.mk (hbox); have GW171 := Aside0.mk ((bz_ hg (lb1_ HB.out GE170.out))); have GE171 := Aside0.mk ((bz_ hg (lb1_ HB.out GE170.out))); replace HB := Aside0.mk (below_step (lb1_ HB.out GE170.out) hb); have NB170_171 := Aside0.mk (nl_ hg BK170.out); have NB171_170 := Aside0.mk (ng_ hg BK170.out); replace BK170 := Aside0.mk (bb_ (bk_ BK170.out) hb); clear hb hbox hg; have hnb13 := NB170_171.out; have hnc13 := NB171_170.out; obtain ⟨hcz14_0, hcz14_1, hcz14_2⟩ := cz3_ BK170.out; obtain ⟨hfz14_0, hfz14_1, hfz14_2⟩ := fz3_ BK170.out; obtain ⟨hcz15_0, hcz15_1, hcz15_2⟩ := cz3_ BK171.out; obtain ⟨hfz15_0, hfz15_1, hfz15_2⟩ := fz3_ BK171.out))
    go_ret
    exact ⟨rr_, lb2_ HB.out GE170.out GE171.out⟩
  ·
   rw [if_neg c4] at H
   have c4b0 : (a0_1 == a1_1) = false := beq_eq_false_iff_ne.mpr c4
   have c4b1 : (a0_1 != a1_1) = true := bne_iff_ne.mpr c4
   obtain rfl := Option.some.inj H
   go_enter Tryd.func63, Tryd.ntmps63
   go_wp2_with (first | ((with_reducible refine gate_dst (N := 2) rfl ?_); refine box_event ?hg (N := 2) ?hd (cs := #[.string a0_0, .int .i64 a0_1, .int .i64 a0_2]) (t := 29) ?hr ?_; (case hd => rfl); (case hg => rfl); (case hr => first | (go_simp; done) | (go_simp; rfl)); intro gb170 hg w16 hbox hb; have BK170 := Aside0.mk (hbox); have GW170 := Aside0.mk ((bz_ hg (lb0_ HB.out))); have GE170 := Aside0.mk ((bz_ hg (lb0_ HB.out))); replace HB := Aside0.mk (below_step (lb0_ HB.out) hb); clear hb hbox hg) | ((with_reducible refine gate_dst (N := 3) rfl ?_); refine box_event ?hg (N := 3) ?hd (cs := #[.string a1_0, .int .i64 a1_1, .int .i64 a1_2]) (t := 29) ?hr ?_; (case hd => rfl); (case hg => rfl); (case hr => first | (go_simp; done) | (go_simp; rfl)); intro gb171 hg w17 hbox hb; have BK171 := Aside0.mk (hbox); have GW171 := Aside0.mk ((bz_ hg (lb1_ HB.out GE170.out))); have GE171 := Aside0.mk ((bz_ hg (lb1_ HB.out GE170.out))); replace HB := Aside0.mk (below_step (lb1_ HB.out GE170.out) hb); have NB170_171 := Aside0.mk (nl_ hg BK170.out); have NB171_170 := Aside0.mk (ng_ hg BK170.out); replace BK170 := Aside0.mk (bb_ (bk_ BK170.out) hb); clear hb hbox hg; have hnb18 := NB170_171.out; have hnc18 := NB171_170.out; obtain ⟨hcz19_0, hcz19_1, hcz19_2⟩ := cz3_ BK170.out; obtain ⟨hfz19_0, hfz19_1, hfz19_2⟩ := fz3_ BK170.out; obtain ⟨hcz20_0, hcz20_1, hcz20_2⟩ := cz3_ BK171.out; obtain ⟨hfz20_0, hfz20_1, hfz20_2⟩ := fz3_ BK171.out))
   go_ret
   exact ⟨rr_, lb2_ HB.out GE170.out GE171.out⟩
 ·
  rw [if_neg c3] at H
  have c3b0 : (a0_0.toList == a1_0.toList) = false := beq_eq_false_iff_ne.mpr c3
  have c3b1 : (a0_0.toList != a1_0.toList) = true := bne_iff_ne.mpr c3
  obtain rfl := Option.some.inj H
  go_enter Tryd.func63, Tryd.ntmps63
  go_wp2_with (first | ((with_reducible refine gate_dst (N := 2) rfl ?_); refine box_event ?hg (N := 2) ?hd (cs := #[.string a0_0, .int .i64 a0_1, .int .i64 a0_2]) (t := 29) ?hr ?_; (case hd => rfl); (case hg => rfl); (case hr => first | (go_simp; done) | (go_simp; rfl)); intro gb170 hg w21 hbox hb; have BK170 := Aside0.mk (hbox); have GW170 := Aside0.mk ((bz_ hg (lb0_ HB.out))); have GE170 := Aside0.mk ((bz_ hg (lb0_ HB.out))); replace HB := Aside0.mk (below_step (lb0_ HB.out) hb); clear hb hbox hg) | ((with_reducible refine gate_dst (N := 3) rfl ?_); refine box_event ?hg (N := 3) ?hd (cs := #[.string a1_0, .int .i64 a1_1, .int .i64 a1_2]) (t := 29) ?hr ?_; (case hd => rfl); (case hg => rfl); (case hr => first | (go_simp; done) | (go_simp; rfl)); intro gb171 hg w22 hbox hb; have BK171 := Aside0.mk (hbox); have GW171 := Aside0.mk ((bz_ hg (lb1_ HB.out GE170.out))); have GE171 := Aside0.mk ((bz_ hg (lb1_ HB.out GE170.out))); replace HB := Aside0.mk (below_step (lb1_ HB.out GE170.out) hb); have NB170_171 := Aside0.mk (nl_ hg BK170.out); have NB171_170 := Aside0.mk (ng_ hg BK170.out); replace BK170 := Aside0.mk (bb_ (bk_ BK170.out) hb); clear hb hbox hg; have hnb23 := NB170_171.out; have hnc23 := NB171_170.out; obtain ⟨hcz24_0, hcz24_1, hcz24_2⟩ := cz3_ BK170.out; obtain ⟨hfz24_0, hfz24_1, hfz24_2⟩ := fz3_ BK170.out; obtain ⟨hcz25_0, hcz25_1, hcz25_2⟩ := cz3_ BK171.out; obtain ⟨hfz25_0, hfz25_1, hfz25_2⟩ := fz3_ BK171.out))
  go_ret
  exact ⟨rr_, lb2_ HB.out GE170.out GE171.out⟩
def laws_eqLabelS.l0 : Nat → List (S29) → List (S29) → Int → Option (Bool)
 | 0, _, _, _ => none
 | k + 1, x0, x1, x5 => if x5 < (x0.length : Int) then (if 0 ≤ x5 then (if x5 < (x1.length : Int) then ((laws_eqLabel.f ((rd_T29 x0 x5).f0) ((rd_T29 x0 x5).f1) ((rd_T29 x0 x5).f2) ((rd_T29 x1 x5).f0) ((rd_T29 x1 x5).f1) ((rd_T29 x1 x5).f2)).bind fun t174 => (if t174 = true then (laws_eqLabelS.l0 k x0 x1 (wrap64 (x5 + 1))) else (some false))) else (none)) else (none)) else (some true)
def laws_eqLabelS.f (k : Nat) (l0 : List (S29)) (l1 : List (S29)) : Option (Bool) := if (l0.length : Int) = (l1.length : Int) then (laws_eqLabelS.l0 k l0 l1 0) else (some false)
def laws_eqLabelS.T6 : Bool × List (List Nat × List Nat) := (true, [([], []), ([], []), ([0, 1], [0, 1]), ([2], [2]), ([], []), ([], []), ([4, 5], [4, 5]), ([6], [6]), ([3, 7], [3, 7]), ([8], [8])])
def laws_eqLabelS.B6 : List Nat := [0, 0, 3, 7, 0, 0, 48, 112, 255, 511]
theorem laws_eqLabelS.tab6 : rtab .any (opsOf Tryd.f22 6) = laws_eqLabelS.T6 := by kernel_rfl
theorem laws_eqLabelS.bits6 : waitsOk laws_eqLabelS.T6.2 laws_eqLabelS.B6 = true := by kernel_rfl
abbrev laws_eqLabelS.mk0 : Array Bool := #[fF,fF,fF,fF,fF,fF,fF,fF,fF,fF]
abbrev laws_eqLabelS.mk1 : Array Bool := #[tT,fF,fF,fF,fF,fF,fF,fF,fF,fF]
abbrev laws_eqLabelS.mk2 : Array Bool := #[tT,tT,fF,fF,fF,fF,fF,fF,fF,fF]
abbrev laws_eqLabelS.mk3 : Array Bool := #[tT,tT,tT,fF,fF,fF,fF,fF,fF,fF]
abbrev laws_eqLabelS.mk4 : Array Bool := #[tT,tT,tT,fF,tT,fF,fF,fF,fF,fF]
abbrev laws_eqLabelS.mk5 : Array Bool := #[tT,tT,tT,fF,tT,tT,fF,fF,fF,fF]
abbrev laws_eqLabelS.mk6 : Array Bool := #[tT,tT,tT,fF,tT,tT,tT,fF,fF,fF]
abbrev laws_eqLabelS.mk7 : Array Bool := #[tT,tT,tT,tT,tT,tT,tT,fF,fF,fF]
abbrev laws_eqLabelS.mk8 : Array Bool := #[tT,tT,tT,tT,tT,tT,tT,tT,fF,fF]
abbrev laws_eqLabelS.mk9 : Array Bool := #[tT,tT,tT,tT,tT,tT,tT,tT,tT,fF]
abbrev laws_eqLabelS.mk10 : Array Bool := #[tT,tT,tT,tT,tT,tT,tT,tT,tT,tT]
set_option maxHeartbeats 8000000 in
set_option maxRecDepth 100000 in
theorem laws_eqLabelS.calls (k : Nat) (A0 : Option Addr) (c0 : Nat) (l0 : List (S29)) (A1 : Option Addr) (c1 : Nat) (l1 : List (S29)) (r : Bool) (w : World) (hr0 : Kd.C k29 w A0 l0.length l0) (hc0 : l0.length ≤ c0) (hr1 : Kd.C k29 w A1 l1.length l1) (hc1 : l1.length ≤ c1) (h : laws_eqLabelS.f k l0 l1 = some r) :
  Calls Tryd.prog 22 #[.slice A0 l0.length c0, .slice A1 l1.length c1] w fun e w' => e = .returned (.bool r) ∧ Below w.heap.size w w' := by
 have hu29 := Tryd.underlying29
 have HR0 := Aside0.mk hr0
 have HC0 := Aside0.mk hc0
 clear hr0 hc0
 have HR1 := Aside0.mk hr1
 have HC1 := Aside0.mk hc1
 clear hr1 hc1
 have HB := Aside0.mk (Below.refl w.heap.size w)
 have H : (if (l0.length : Int) = (l1.length : Int) then (laws_eqLabelS.l0 k l0 l1 0) else (some false)) = some r := h
 clear h
 by_cases c3 : (l0.length : Int) = (l1.length : Int)
 ·
  rw [if_pos c3] at H
  have c3b0 : ((l0.length : Int) == (l1.length : Int)) = true := beq_iff_eq.mpr c3
  have c3b1 : ((l0.length : Int) != (l1.length : Int)) = false := bne_eq_false_iff_eq.mpr c3
  have c3b2 : (l0.length == l1.length) = true := by first | simpa using c3 | (simp at c3 ⊢; omega)
  clear c3
  have H' := Aside0.mk H
  clear H
  go_enter Tryd.func22, Tryd.ntmps22
  go_wp2
  go_loopg [5] k (fun kq v5 w' => ∃ (x5_1 : Int), v5 = .int .i64 x5_1 ∧ Aside0 (laws_eqLabelS.l0 kq l0 l1 x5_1 = some r) ∧ Aside0 (kq ≤ k) ∧ Aside0 (Below w.heap.size w w'))
  case atStart => exact ⟨(0), (by first | rfl | (simp; done) | (simp [*]; done)), H', ⟨Nat.le_refl _⟩, ⟨lb0_ HB.out⟩⟩
  case round =>
   clear H'
   try clear c1
   try clear c2
   try clear p2
   try clear c3
   try clear c3b0
   try clear c3b1
   try clear c3b2
   obtain ⟨x5_1, rfl, HA, HK1, HB⟩ := hrel
   cases gk with
   | zero => exact absurd HA.out (by simp [laws_eqLabelS.l0])
   | succ k1 =>
    have H := HA.out
    clear HA
    simp only [laws_eqLabelS.l0] at H
    by_cases c4 : x5_1 < (l0.length : Int)
    ·
     rw [if_pos c4] at H
     have c4b0 : decide (x5_1 < (l0.length : Int)) = true := decide_eq_true c4
     clear c4
     by_cases c5 : 0 ≤ x5_1
     ·
      rw [if_pos c5] at H
      have c5b0 : decide (0 ≤ x5_1) = true := decide_eq_true c5
      clear c5
      by_cases c6 : x5_1 < (l1.length : Int)
      ·
       rw [if_pos c6] at H
       have c6b0 : decide (x5_1 < (l1.length : Int)) = true := decide_eq_true c6
       clear c6
       replace H := Option.bind_eq_some_iff.mp H
       obtain ⟨t174, A70, H⟩ := H
       replace H : (if t174 = true then (laws_eqLabelS.l0 k1 l0 l1 (wrap64 (x5_1 + 1))) else (some false)) = some r := H
       have A7 := Aside0.mk A70
       clear A70
       by_cases c8 : t174 = true
       ·
        subst c8
        have H1 : (laws_eqLabelS.l0 k1 l0 l1 (wrap64 (x5_1 + 1))) = some r := by rw [if_pos rfl] at H; exact H
        clear H; have H := H1; clear H1; have H' := Aside0.mk H; clear H
        try go_wp2
        replace HB := Aside0.mk (below_drew1 HB.out); have p172 : 0 ≤ (x5_1 : Int) := dt_; have q172 : x5_1 < (l0.length : Int) := dt_; obtain ⟨ad172, e172, hx172_0, hx172_1, hx172_2⟩ := at_T29 HR0.out x5_1 p172 q172; have hw172_2 := hx172_2; have hw172_1 := hx172_1; have hw172_0 := hx172_0
        cases e172
        replace hx172_0 := bc_ HB.out hx172_0; replace hx172_1 := bc_ HB.out hx172_1; replace hx172_2 := bc_ HB.out hx172_2; replace p172 := eq_true p172; replace q172 := eq_true q172; have p173 : 0 ≤ (x5_1 : Int) := dt_; have q173 : x5_1 < (l1.length : Int) := dt_; obtain ⟨ad173, e173, hx173_0, hx173_1, hx173_2⟩ := at_T29 HR1.out x5_1 p173 q173; have hw173_2 := hx173_2; have hw173_1 := hx173_1; have hw173_0 := hx173_0
        cases e173
        replace hx173_0 := bc_ HB.out hx173_0; replace hx173_1 := bc_ HB.out hx173_1; replace hx173_2 := bc_ HB.out hx173_2; replace p173 := eq_true p173; replace q173 := eq_true q173; refine start_ (n := 10) (S := fun w' => w'.cell? (ad172.add ((x5_1).toNat * 3)) = some (.string ((rd_T29 l0 x5_1).f0)) ∧ w'.cell? ⟨(ad172.add ((x5_1).toNat * 3)).block, (ad172.add ((x5_1).toNat * 3)).off + 1, none⟩ = some (.int .i64 ((rd_T29 l0 x5_1).f1)) ∧ w'.cell? ⟨(ad172.add ((x5_1).toNat * 3)).block, (ad172.add ((x5_1).toNat * 3)).off + 2, none⟩ = some (.int .i64 ((rd_T29 l0 x5_1).f2)) ∧ w'.cell? (ad173.add ((x5_1).toNat * 3)) = some (.string ((rd_T29 l1 x5_1).f0)) ∧ w'.cell? ⟨(ad173.add ((x5_1).toNat * 3)).block, (ad173.add ((x5_1).toNat * 3)).off + 1, none⟩ = some (.int .i64 ((rd_T29 l1 x5_1).f1)) ∧ w'.cell? ⟨(ad173.add ((x5_1).toNat * 3)).block, (ad173.add ((x5_1).toNat * 3)).off + 2, none⟩ = some (.int .i64 ((rd_T29 l1 x5_1).f2))) (ds := []) laws_eqLabelS.mk0 (by kernel_rfl) rfl rfl ⟨(bc_ HB.out hw172_0), (bc_ HB.out hw172_1), (bc_ HB.out hw172_2), (bc_ HB.out hw173_0), (bc_ HB.out hw173_1), (bc_ HB.out hw173_2)⟩ (fun hHeld => ?_); refine with_tabW laws_eqLabelS.tab6 laws_eqLabelS.bits6 (fun HT_ HW_ => ?_); generalize wr.drew = w9 at HB hx172_0 hx172_1 hx172_2 hx173_0 hx173_1 hx173_2 hHeld ⊢; refine pz_ HT_ 0 (some 17) laws_eqLabelS.mk1 ?_; refine pz_ HT_ 1 (some 18) laws_eqLabelS.mk2 ?_; refine pz_ HT_ 2 (some 19) laws_eqLabelS.mk3 ?_; refine pz_ HT_ 4 (some 21) laws_eqLabelS.mk4 ?_; refine pz_ HT_ 5 (some 22) laws_eqLabelS.mk5 ?_; refine pz_ HT_ 6 (some 23) laws_eqLabelS.mk6 ?_; refine tk_ HT_ HW_ hHeld 3 (some 20) laws_eqLabelS.mk7 ?_; refine tk_ HT_ HW_ hHeld 7 (some 24) laws_eqLabelS.mk8 ?_; refine one_ (i := 8) (N := some 25) laws_eqLabelS.mk9 rfl rfl (one_of HT_.out (by kernel_rfl)) (by decide) (fun K hK => ?_); refine gs_ Tryd.func63 #[.agg #[.string ((rd_T29 l0 x5_1).f0), .int .i64 ((rd_T29 l0 x5_1).f1), .int .i64 ((rd_T29 l0 x5_1).f2)], .agg #[.string ((rd_T29 l1 x5_1).f0), .int .i64 ((rd_T29 l1 x5_1).f1), .int .i64 ((rd_T29 l1 x5_1).f2)]] ?_; (with_reducible refine (laws_eqLabel.calls ((rd_T29 l0 x5_1).f0) ((rd_T29 l0 x5_1).f1) ((rd_T29 l0 x5_1).f2) ((rd_T29 l1 x5_1).f0) ((rd_T29 l1 x5_1).f1) ((rd_T29 l1 x5_1).f2) true _ A7.out).mono ?_); rintro e w10 ⟨rfl, hb⟩; refine ⟨_, rfl, ?_⟩; replace HB := Aside0.mk (below_step (lb0_ HB.out) hb); (try clear hb); (try clear hb2); (try clear hk); (try clear hi); refine hK.out _ _ ⟨((HB.out.cell (World.block_lt_of_cell? w _ hw172_0)).trans hw172_0), ((HB.out.cell (World.block_lt_of_cell? w _ hw172_1)).trans hw172_1), ((HB.out.cell (World.block_lt_of_cell? w _ hw172_2)).trans hw172_2), ((HB.out.cell (World.block_lt_of_cell? w _ hw173_0)).trans hw173_0), ((HB.out.cell (World.block_lt_of_cell? w _ hw173_1)).trans hw173_1), ((HB.out.cell (World.block_lt_of_cell? w _ hw173_2)).trans hw173_2)⟩ (fun hHeld => ?_); clear hK K; refine na_ ?_; refine pz_ HT_ 9 (some 26) laws_eqLabelS.mk10 ?_; refine done_ (done_of HT_.out (by kernel_rfl)) ?_
        try go_wp2
        go_roundg k1
        case measure => have := HK1.out; omega
        case rel => exact ⟨(wrap64 (x5_1 + 1)), (by first | rfl | (simp; done) | (simp [*]; done)), H', ⟨by have := HK1.out; omega⟩, ⟨lb0_ HB.out⟩⟩
       ·
        replace c8 := Bool.eq_false_iff.mpr c8; subst c8
        have H1 : (some false) = some r := by rw [if_neg (show ¬ (false = true) by decide)] at H; exact H
        clear H; have H := H1; clear H1; obtain rfl := Option.some.inj H
        try go_wp2
        replace HB := Aside0.mk (below_drew1 HB.out); have p172 : 0 ≤ (x5_1 : Int) := dt_; have q172 : x5_1 < (l0.length : Int) := dt_; obtain ⟨ad172, e172, hx172_0, hx172_1, hx172_2⟩ := at_T29 HR0.out x5_1 p172 q172; have hw172_2 := hx172_2; have hw172_1 := hx172_1; have hw172_0 := hx172_0
        cases e172
        replace hx172_0 := bc_ HB.out hx172_0; replace hx172_1 := bc_ HB.out hx172_1; replace hx172_2 := bc_ HB.out hx172_2; replace p172 := eq_true p172; replace q172 := eq_true q172; have p173 : 0 ≤ (x5_1 : Int) := dt_; have q173 : x5_1 < (l1.length : Int) := dt_; obtain ⟨ad173, e173, hx173_0, hx173_1, hx173_2⟩ := at_T29 HR1.out x5_1 p173 q173; have hw173_2 := hx173_2; have hw173_1 := hx173_1; have hw173_0 := hx173_0
        cases e173
        replace hx173_0 := bc_ HB.out hx173_0; replace hx173_1 := bc_ HB.out hx173_1; replace hx173_2 := bc_ HB.out hx173_2; replace p173 := eq_true p173; replace q173 := eq_true q173; refine start_ (n := 10) (S := fun w' => w'.cell? (ad172.add ((x5_1).toNat * 3)) = some (.string ((rd_T29 l0 x5_1).f0)) ∧ w'.cell? ⟨(ad172.add ((x5_1).toNat * 3)).block, (ad172.add ((x5_1).toNat * 3)).off + 1, none⟩ = some (.int .i64 ((rd_T29 l0 x5_1).f1)) ∧ w'.cell? ⟨(ad172.add ((x5_1).toNat * 3)).block, (ad172.add ((x5_1).toNat * 3)).off + 2, none⟩ = some (.int .i64 ((rd_T29 l0 x5_1).f2)) ∧ w'.cell? (ad173.add ((x5_1).toNat * 3)) = some (.string ((rd_T29 l1 x5_1).f0)) ∧ w'.cell? ⟨(ad173.add ((x5_1).toNat * 3)).block, (ad173.add ((x5_1).toNat * 3)).off + 1, none⟩ = some (.int .i64 ((rd_T29 l1 x5_1).f1)) ∧ w'.cell? ⟨(ad173.add ((x5_1).toNat * 3)).block, (ad173.add ((x5_1).toNat * 3)).off + 2, none⟩ = some (.int .i64 ((rd_T29 l1 x5_1).f2))) (ds := []) laws_eqLabelS.mk0 (by kernel_rfl) rfl rfl ⟨(bc_ HB.out hw172_0), (bc_ HB.out hw172_1), (bc_ HB.out hw172_2), (bc_ HB.out hw173_0), (bc_ HB.out hw173_1), (bc_ HB.out hw173_2)⟩ (fun hHeld => ?_); refine with_tabW laws_eqLabelS.tab6 laws_eqLabelS.bits6 (fun HT_ HW_ => ?_); generalize wr.drew = w11 at HB hx172_0 hx172_1 hx172_2 hx173_0 hx173_1 hx173_2 hHeld ⊢; refine pz_ HT_ 0 (some 17) laws_eqLabelS.mk1 ?_; refine pz_ HT_ 1 (some 18) laws_eqLabelS.mk2 ?_; refine pz_ HT_ 2 (some 19) laws_eqLabelS.mk3 ?_; refine pz_ HT_ 4 (some 21) laws_eqLabelS.mk4 ?_; refine pz_ HT_ 5 (some 22) laws_eqLabelS.mk5 ?_; refine pz_ HT_ 6 (some 23) laws_eqLabelS.mk6 ?_; refine tk_ HT_ HW_ hHeld 3 (some 20) laws_eqLabelS.mk7 ?_; refine tk_ HT_ HW_ hHeld 7 (some 24) laws_eqLabelS.mk8 ?_; refine one_ (i := 8) (N := some 25) laws_eqLabelS.mk9 rfl rfl (one_of HT_.out (by kernel_rfl)) (by decide) (fun K hK => ?_); refine gs_ Tryd.func63 #[.agg #[.string ((rd_T29 l0 x5_1).f0), .int .i64 ((rd_T29 l0 x5_1).f1), .int .i64 ((rd_T29 l0 x5_1).f2)], .agg #[.string ((rd_T29 l1 x5_1).f0), .int .i64 ((rd_T29 l1 x5_1).f1), .int .i64 ((rd_T29 l1 x5_1).f2)]] ?_; (with_reducible refine (laws_eqLabel.calls ((rd_T29 l0 x5_1).f0) ((rd_T29 l0 x5_1).f1) ((rd_T29 l0 x5_1).f2) ((rd_T29 l1 x5_1).f0) ((rd_T29 l1 x5_1).f1) ((rd_T29 l1 x5_1).f2) false _ A7.out).mono ?_); rintro e w12 ⟨rfl, hb⟩; refine ⟨_, rfl, ?_⟩; replace HB := Aside0.mk (below_step (lb0_ HB.out) hb); (try clear hb); (try clear hb2); (try clear hk); (try clear hi); refine hK.out _ _ ⟨((HB.out.cell (World.block_lt_of_cell? w _ hw172_0)).trans hw172_0), ((HB.out.cell (World.block_lt_of_cell? w _ hw172_1)).trans hw172_1), ((HB.out.cell (World.block_lt_of_cell? w _ hw172_2)).trans hw172_2), ((HB.out.cell (World.block_lt_of_cell? w _ hw173_0)).trans hw173_0), ((HB.out.cell (World.block_lt_of_cell? w _ hw173_1)).trans hw173_1), ((HB.out.cell (World.block_lt_of_cell? w _ hw173_2)).trans hw173_2)⟩ (fun hHeld => ?_); clear hK K; refine na_ ?_; refine pz_ HT_ 9 (some 26) laws_eqLabelS.mk10 ?_; refine done_ (done_of HT_.out (by kernel_rfl)) ?_
        try go_wp2
        go_ret
        exact ⟨rr_, lb0_ HB.out⟩
      ·
       rw [if_neg c6] at H
       exact absurd H (by simp)
     ·
      rw [if_neg c5] at H
      exact absurd H (by simp)
    ·
     rw [if_neg c4] at H
     have c4b0 : decide (x5_1 < (l0.length : Int)) = false := decide_eq_false c4
     clear c4
     obtain rfl := Option.some.inj H
     go_wp2
     go_ret
     exact ⟨rr_, lb0_ HB.out⟩
 ·
  rw [if_neg c3] at H
  have c3b0 : ((l0.length : Int) == (l1.length : Int)) = false := beq_eq_false_iff_ne.mpr c3
  have c3b1 : ((l0.length : Int) != (l1.length : Int)) = true := bne_iff_ne.mpr c3
  have c3b2 : (l0.length == l1.length) = false := by first | simpa using c3 | (simp at c3 ⊢; omega)
  obtain rfl := Option.some.inj H
  go_enter Tryd.func22, Tryd.ntmps22
  go_wp2
  go_ret
  exact ⟨rr_, lb0_ HB.out⟩
def laws_eqIntS.l0 : Nat → List Int → List Int → Int → Option (Bool)
 | 0, _, _, _ => none
 | k + 1, x0, x1, x5 => if x5 < (x0.length : Int) then (if 0 ≤ x5 then (if x5 < (x1.length : Int) then (if (rd x0 x5) = (rd x1 x5) then (laws_eqIntS.l0 k x0 x1 (wrap64 (x5 + 1))) else (some false)) else (none)) else (none)) else (some true)
def laws_eqIntS.f (k : Nat) (l0 : List Int) (l1 : List Int) : Option (Bool) := if (l0.length : Int) = (l1.length : Int) then (laws_eqIntS.l0 k l0 l1 0) else (some false)
set_option maxHeartbeats 8000000 in
set_option maxRecDepth 100000 in
theorem laws_eqIntS.calls (k : Nat) (A0 : Option Addr) (c0 : Nat) (l0 : List Int) (A1 : Option Addr) (c1 : Nat) (l1 : List Int) (r : Bool) (w : World) (hr0 : Kd.C (Kd.int .i64) w A0 l0.length l0) (hc0 : l0.length ≤ c0) (hr1 : Kd.C (Kd.int .i64) w A1 l1.length l1) (hc1 : l1.length ≤ c1) (h : laws_eqIntS.f k l0 l1 = some r) :
  Calls Tryd.prog 26 #[.slice A0 l0.length c0, .slice A1 l1.length c1] w fun e w' => e = .returned (.bool r) ∧ Drawn0 w w' := by
 have HR0 := Aside0.mk hr0
 have HC0 := Aside0.mk hc0
 clear hr0 hc0
 have HR1 := Aside0.mk hr1
 have HC1 := Aside0.mk hc1
 clear hr1 hc1
 have H : (if (l0.length : Int) = (l1.length : Int) then (laws_eqIntS.l0 k l0 l1 0) else (some false)) = some r := h
 clear h
 by_cases c3 : (l0.length : Int) = (l1.length : Int)
 ·
  rw [if_pos c3] at H
  have c3b0 : ((l0.length : Int) == (l1.length : Int)) = true := beq_iff_eq.mpr c3
  have c3b1 : ((l0.length : Int) != (l1.length : Int)) = false := bne_eq_false_iff_eq.mpr c3
  have c3b2 : (l0.length == l1.length) = true := by first | simpa using c3 | (simp at c3 ⊢; omega)
  clear c3
  have H' := Aside0.mk H
  clear H
  go_enter Tryd.func26, Tryd.ntmps26
  go_wp2
  repeat (go_quiet (fail); try go_wp2)
  go_loopg [5] k (fun kq v5 w' => ∃ (x5_1 : Int), v5 = .int .i64 x5_1 ∧ Aside0 (laws_eqIntS.l0 kq l0 l1 x5_1 = some r) ∧ Aside0 (kq ≤ k) ∧ Drawn0 w w')
  case atStart => exact ⟨(0), (by first | rfl | (simp; done) | (simp [*]; done)), H', ⟨Nat.le_refl _⟩, by repeat (first | exact Drawn0.refl _ | apply Drawn0.step)⟩
  case round =>
   clear H'
   try clear c1
   try clear c2
   try clear p2
   try clear c3
   try clear c3b0
   try clear c3b1
   try clear c3b2
   obtain ⟨x5_1, rfl, HA, HK1, ⟨m1, rfl⟩⟩ := hrel
   cases gk with
   | zero => exact absurd HA.out (by simp [laws_eqIntS.l0])
   | succ k1 =>
    have H := HA.out
    clear HA
    simp only [laws_eqIntS.l0] at H
    by_cases c4 : x5_1 < (l0.length : Int)
    ·
     rw [if_pos c4] at H
     have c4b0 : decide (x5_1 < (l0.length : Int)) = true := decide_eq_true c4
     clear c4
     by_cases c5 : 0 ≤ x5_1
     ·
      rw [if_pos c5] at H
      have c5b0 : decide (0 ≤ x5_1) = true := decide_eq_true c5
      clear c5
      by_cases c6 : x5_1 < (l1.length : Int)
      ·
       rw [if_pos c6] at H
       have c6b0 : decide (x5_1 < (l1.length : Int)) = true := decide_eq_true c6
       clear c6
       by_cases c7 : (rd l0 x5_1) = (rd l1 x5_1)
       ·
        rw [if_pos c7] at H
        have c7b0 : ((rd l0 x5_1) == (rd l1 x5_1)) = true := beq_iff_eq.mpr c7; have c7b1 : ((rd l0 x5_1) != (rd l1 x5_1)) = false := bne_eq_false_iff_eq.mpr c7; clear c7; have H' := Aside0.mk H; clear H; have p236 : 0 ≤ (x5_1 : Int) := dt_; have q236 : x5_1 < (l0.length : Int) := dt_; obtain ⟨ad236, e236, hx236_0⟩ := Kd.at_int HR0.out x5_1 p236 q236
        cases e236
        replace p236 := eq_true p236; replace q236 := eq_true q236; have p237 : 0 ≤ (x5_1 : Int) := dt_; have q237 : x5_1 < (l1.length : Int) := dt_; obtain ⟨ad237, e237, hx237_0⟩ := Kd.at_int HR1.out x5_1 p237 q237
        cases e237
        replace p237 := eq_true p237; replace q237 := eq_true q237
        go_wp2
        repeat (go_quiet (fail); try go_wp2)
        go_roundg k1
        case measure => have := HK1.out; omega
        case rel => exact ⟨(wrap64 (x5_1 + 1)), (by first | rfl | (simp; done) | (simp [*]; done)), H', ⟨by have := HK1.out; omega⟩, by repeat (first | exact Drawn0.refl _ | apply Drawn0.step)⟩
       ·
        rw [if_neg c7] at H
        have c7b0 : ((rd l0 x5_1) == (rd l1 x5_1)) = false := beq_eq_false_iff_ne.mpr c7; have c7b1 : ((rd l0 x5_1) != (rd l1 x5_1)) = true := bne_iff_ne.mpr c7; obtain rfl := Option.some.inj H; have p236 : 0 ≤ (x5_1 : Int) := dt_; have q236 : x5_1 < (l0.length : Int) := dt_; obtain ⟨ad236, e236, hx236_0⟩ := Kd.at_int HR0.out x5_1 p236 q236
        cases e236
        replace p236 := eq_true p236; replace q236 := eq_true q236; have p237 : 0 ≤ (x5_1 : Int) := dt_; have q237 : x5_1 < (l1.length : Int) := dt_; obtain ⟨ad237, e237, hx237_0⟩ := Kd.at_int HR1.out x5_1 p237 q237
        cases e237
        replace p237 := eq_true p237; replace q237 := eq_true q237
        go_wp2
        repeat (go_quiet (fail); try go_wp2)
        go_ret
        exact ⟨by first | rfl | (simp; done) | (simp [*]; done), by repeat (first | exact Drawn0.refl _ | apply Drawn0.step)⟩
      ·
       rw [if_neg c6] at H
       exact absurd H (by simp)
     ·
      rw [if_neg c5] at H
      exact absurd H (by simp)
    ·
     rw [if_neg c4] at H
     have c4b0 : decide (x5_1 < (l0.length : Int)) = false := decide_eq_false c4
     clear c4
     obtain rfl := Option.some.inj H
     go_wp2
     repeat (go_quiet (fail); try go_wp2)
     go_ret
     exact ⟨by first | rfl | (simp; done) | (simp [*]; done), by repeat (first | exact Drawn0.refl _ | apply Drawn0.step)⟩
 ·
  rw [if_neg c3] at H
  have c3b0 : ((l0.length : Int) == (l1.length : Int)) = false := beq_eq_false_iff_ne.mpr c3
  have c3b1 : ((l0.length : Int) != (l1.length : Int)) = true := bne_iff_ne.mpr c3
  have c3b2 : (l0.length == l1.length) = false := by first | simpa using c3 | (simp at c3 ⊢; omega)
  obtain rfl := Option.some.inj H
  go_enter Tryd.func26, Tryd.ntmps26
  go_wp2
  repeat (go_quiet (fail); try go_wp2)
  go_ret
  exact ⟨by first | rfl | (simp; done) | (simp [*]; done), by repeat (first | exact Drawn0.refl _ | apply Drawn0.step)⟩
def sc (a b : ByteArray) : ByteArray := a ++ b
theorem sc_in (a b : ByteArray) : a ++ b = sc a b := rfl
def sx (a : ByteArray) (i j : Nat) : ByteArray := a.extract i j
theorem sx_in (a : ByteArray) (i j : Nat) : a.extract i j = sx a i j := rfl
end Go.Proofs.YtjkcfpmonpkhhaaDoor.Pr

namespace Go.Proofs.YtjkcfpmonpkhhaaDoor.Pr
open Go.RowKit Go.Proofs.YtjkcfpmonpkhhaaDoorW.PrintWords Go.Proofs.YtjkcfpmonpkhhaaDoorW.PrintLast Go.Proofs.YtjkcfpmonpkhhaaDoorW.PrintMore
attribute [local go_sem] max2_int min2_int max_two min_two max_three min_three max_four min_four sc_in sx_in   -- for this text's walks alone
set_option linter.unusedVariables false
set_option linter.unusedSimpArgs false
def laws_markText.l0 : Nat → Int → ByteArray → Option (ByteArray)
 | 0, _, _ => none
 | k + 1, x0, x3 => if x0 > 0 then ((some (([(wrap64 (48 + (Int.tmod x0 10))) % 256] : List Int) : List Int)).bind fun y300 => (if (strOfNums y300).size + x3.size ≤ 9223372036854775807 then (laws_markText.l0 k (wrap64 (Int.tdiv x0 10)) (sc (strOfNums y300) x3)) else (none))) else (if 1 + x3.size ≤ 9223372036854775807 then (some (sc (⟨#[109]⟩ : ByteArray) x3)) else (none))
def laws_markText.f (k : Nat) (a0 : Int) : Option (ByteArray) := if a0 ≤ 0 then (some (⟨#[109, 48]⟩ : ByteArray)) else (laws_markText.l0 k a0 (⟨#[]⟩ : ByteArray))
theorem laws_markText.mono_l : ∀ k, (∀ y0 y1, LeO (laws_markText.l0 k y0 y1) (laws_markText.l0 (k + 1) y0 y1))
 | 0 => fun _ _ r h => by simp [laws_markText.l0] at h
 | k + 1 => by
  have ih0 := laws_markText.mono_l k
  ·
   intro y0 y1
   unfold laws_markText.l0
   repeat' first
   | (with_reducible exact ih0 _ _)
   | (with_reducible exact LeO.refl _)
   | (with_reducible exact LeO.none _)
   | (with_reducible refine LeO.ite ?_ ?_)
   | (with_reducible refine LeO.bind ?_ (fun _ => ?_))
   | exact ih0 _ _
   | exact LeO.none _
   | refine LeO.ite ?_ ?_
   | refine LeO.bind ?_ (fun _ => ?_)
theorem laws_markText.mono : ∀ a0 k, LeO (laws_markText.f k a0) (laws_markText.f (k + 1) a0) := by
 intro a0 k
 have ih0 := laws_markText.mono_l k
 unfold laws_markText.f
 repeat' first
   | (with_reducible exact ih0 _ _)
   | (with_reducible exact LeO.refl _)
   | (with_reducible exact LeO.none _)
   | (with_reducible refine LeO.ite ?_ ?_)
   | (with_reducible refine LeO.bind ?_ (fun _ => ?_))
   | exact ih0 _ _
   | exact LeO.none _
   | refine LeO.ite ?_ ?_
   | refine LeO.bind ?_ (fun _ => ?_)
set_option maxHeartbeats 8000000 in
set_option maxRecDepth 100000 in
theorem laws_markText.calls (k : Nat) (a0 : Int) (r : ByteArray) (w : World) (h : laws_markText.f k a0 = some r) :
  Calls Tryd.prog 75 #[.int .i64 a0] w fun e w' => e = .returned (.string r) ∧ Below w.heap.size w w' := by
 have HB := Aside0.mk (Below.refl w.heap.size w)
 have H : (if a0 ≤ 0 then (some (⟨#[109, 48]⟩ : ByteArray)) else (laws_markText.l0 k a0 (⟨#[]⟩ : ByteArray))) = some r := h
 clear h
 by_cases c2 : a0 ≤ 0
 ·
  rw [if_pos c2] at H
  have c2b0 : decide (a0 ≤ 0) = true := decide_eq_true c2
  clear c2
  obtain rfl := Option.some.inj H
  go_enter Tryd.func75, Tryd.ntmps75
  go_wp2
  go_ret
  exact ⟨rr_, lb0_ HB.out⟩
 ·
  rw [if_neg c2] at H
  have c2b0 : decide (a0 ≤ 0) = false := decide_eq_false c2
  clear c2
  have H' := Aside0.mk H
  clear H
  go_enter Tryd.func75, Tryd.ntmps75
  go_wp2
  go_loopg [0, 3] k (fun kq v0 v3 w' => ∃ (x0_1 : Int) (x3_1 : ByteArray), v0 = .int .i64 x0_1 ∧ v3 = .string x3_1 ∧ Aside0 (laws_markText.l0 kq x0_1 x3_1 = some r) ∧ Aside0 (kq ≤ k) ∧ Aside0 (Below w.heap.size w w'))
  case atStart => exact ⟨(a0), ((⟨#[]⟩ : ByteArray)), (by first | rfl | (simp; done) | (simp [*]; done)), (by first | rfl | (simp; done) | (simp [*]; done)), H', ⟨Nat.le_refl _⟩, ⟨lb0_ HB.out⟩⟩
  case round =>
   clear H'
   try clear c2
   try clear c2b0
   try clear p2
   obtain ⟨x0_1, x3_1, rfl, rfl, HA, HK1, HB⟩ := hrel
   cases gk with
   | zero => exact absurd HA.out (by simp [laws_markText.l0])
   | succ k1 =>
    have H := HA.out
    clear HA
    simp only [laws_markText.l0] at H
    by_cases c3 : x0_1 > 0
    ·
     rw [if_pos c3] at H
     have c3b0 : decide (0 < x0_1) = true := decide_eq_true c3
     clear c3
     obtain ⟨y300, hy300⟩ : ∃ y_ : List Int, y_ = (([(wrap64 (48 + (Int.tmod x0_1 10))) % 256] : List Int)) := ⟨_, rfl⟩
     replace H : (if (strOfNums y300).size + x3_1.size ≤ 9223372036854775807 then (laws_markText.l0 k1 (wrap64 (Int.tdiv x0_1 10)) (sc (strOfNums y300) x3_1)) else (none)) = some r := by first | (rw [hy300]; with_reducible exact H) | (have H2_ := (Option.bind_some _ _).symm.trans H; rw [hy300]; with_reducible exact H2_) | (have H2_ := (Option.bind_some _ _).symm.trans H; with_reducible exact H2_) | with_reducible exact H | (rw [hy300]; exact H) | exact H
     have Ny300 := Aside0.mk hy300
     clear hy300
     by_cases c4 : (strOfNums y300).size + x3_1.size ≤ 9223372036854775807
     ·
      rw [if_pos c4] at H
      have c4b0 := eq_true c4
      have c4b1 : decide ((strOfNums y300).size + x3_1.size ≤ 9223372036854775807) = true := decide_eq_true c4
      try have c4b2 : (9223372036854775807 < (strOfNums y300).size + x3_1.size) = False := eq_false (Nat.not_lt.2 c4)
      have H' := Aside0.mk H
      clear H
      go_wp2_with (first | ((with_reducible refine gate_dst (N := 12) rfl ?_); refine Kd.R_lit (Kd.int .u8) _ 5 ?hg (N := 12) ?hd (xs := ([(wrap64 (48 + (Int.tmod x0_1 10))) % 256] : List Int)) (inner := [.int .u8 ((wrap64 (48 + (Int.tmod x0_1 10))) % 256)]) (ok := fun _ => True) (okp := fun _ => True) ?hr ?hp (fun _ hk => hk) trivial (Below.refl _ _) (Nat.le_refl _) (by simp) ?_; (case hd => rfl); (case hg => rfl); (case hr => first | (go_simp; done) | (go_simp; rfl)); (case hp => exact (Reps.one (show Kd.M (Kd.int .u8) _ _ _ ((wrap64 (48 + (Int.tmod x0_1 10))) % 256) [.int .u8 ((wrap64 (48 + (Int.tmod x0_1 10))) % 256)] from rfl) (Reps.none _ _))); intro v301 w5 ho6 hb hg_ hnew_; clear hg_ hnew_; replace ho6 := ry_ Ny300.out ho6; have HO302 := Aside0.mk (Kd.R_lower ho6 (below_size (lb0_ HB.out))); replace HB := Aside0.mk (below_step (lb0_ HB.out) hb); clear hb ho6; have hcv7 := own_string (P := Tryd.prog) Tryd.underlying59 Tryd.underlying5 Tryd.underlying9 (Kd.own_of_R HO302.out)))
      go_roundg k1
      case measure => have := HK1.out; omega
      case rel => exact ⟨(wrap64 (Int.tdiv x0_1 10)), (sc (strOfNums y300) x3_1), (by first | rfl | (simp; done) | (simp [*]; done)), (by first | rfl | (simp; done) | (simp [*]; done)), H', ⟨by have := HK1.out; omega⟩, ⟨lb0_ HB.out⟩⟩
     ·
      rw [if_neg c4] at H
      exact absurd H (by simp)
    ·
     rw [if_neg c3] at H
     have c3b0 : decide (0 < x0_1) = false := decide_eq_false c3
     clear c3
     by_cases c8 : 1 + x3_1.size ≤ 9223372036854775807
     ·
      rw [if_pos c8] at H
      have c8b0 := eq_true c8
      have c8b1 : decide (1 + x3_1.size ≤ 9223372036854775807) = true := decide_eq_true c8
      try have c8b2 : (9223372036854775807 < 1 + x3_1.size) = False := eq_false (Nat.not_lt.2 c8)
      obtain rfl := Option.some.inj H
      go_wp2
      go_ret
      exact ⟨rr_, lb0_ HB.out⟩
     ·
      rw [if_neg c8] at H
      exact absurd H (by simp)
end Go.Proofs.YtjkcfpmonpkhhaaDoor.Pr

namespace Go.Proofs.YtjkcfpmonpkhhaaDoor.Pr
open Go.RowKit Go.Proofs.YtjkcfpmonpkhhaaDoorW.PrintWords Go.Proofs.YtjkcfpmonpkhhaaDoorW.PrintLast Go.Proofs.YtjkcfpmonpkhhaaDoorW.PrintMore
attribute [local go_sem] max2_int min2_int max_two min_two max_three min_three max_four min_four   -- for this text's walks alone
set_option linter.unusedVariables false
set_option linter.unusedSimpArgs false
def laws_markLabelS.l0 : Nat → List (S29) → Int → Int → Option (Int × (List (S29)))
 | 0, _, _, _ => none
 | k + 1, x0, x1, x5 => if x5 < (x0.length : Int) then ((laws_markText.f k x1).bind fun t303 => (if 0 ≤ x5 then ((some (x0.set (x5 : Int).toNat (⟨t303, (rd_T29 x0 x5).f1, (rd_T29 x0 x5).f2⟩ : S29) : List (S29))).bind fun y304 => ((some (y304.set (x5 : Int).toNat (⟨(rd_T29 y304 x5).f0, wrap64 (x1 + 1), (rd_T29 y304 x5).f2⟩ : S29) : List (S29))).bind fun y305 => (laws_markLabelS.l0 k (y305.set (x5 : Int).toNat (⟨(rd_T29 y305 x5).f0, (rd_T29 y305 x5).f1, wrap64 ((wrap64 (x1 + 1)) + 1)⟩ : S29)) (wrap64 ((wrap64 ((wrap64 (x1 + 1)) + 1)) + 1)) (wrap64 (x5 + 1))))) else (none))) else (some (x1, x0))
def laws_markLabelS.f (k : Nat) (l0 : List (S29)) (a1 : Int) : Option (Int × (List (S29))) := laws_markLabelS.l0 k l0 a1 0
set_option maxHeartbeats 8000000 in
set_option maxRecDepth 100000 in
theorem laws_markLabelS.calls (k : Nat) (P0_ : Nat → Prop) (u9000_ : Value) (l0 : List (S29)) (a1 : Int) (r1 : Int) (r2 : List (S29)) (w0 w : World) (hB : Below w0.heap.size w0 w) (ho0 : Kd.R k29 29 w w0.heap.size P0_ u9000_ l0) (h : laws_markLabelS.f k l0 a1 = some (r1, r2)) :
  Calls Tryd.prog 29 #[u9000_, .int .i64 a1] w fun e w' => e = .returned (.int .i64 r1) ∧ Kd.R k29 29 w' w0.heap.size (fun k_ => (P0_ k_ ∨ w.heap.size ≤ k_)) u9000_ r2 ∧ Below w0.heap.size w0 w' ∧ Kept w w' (fun k_ => P0_ k_) := by
 have HO0 := Aside0.mk (show Kd.R k29 29 w w0.heap.size (fun k_ => (P0_ k_ ∨ w.heap.size ≤ k_)) u9000_ l0 from Kd.R_mono ho0 (fun k_ hk => (.inl hk)))
 have HK := Aside0.mk (Kept.refl w (fun k_ => P0_ k_))
 have HW0 := Aside0.mk hB.size
 have HB := Aside0.mk hB
 clear hB
 have H : (laws_markLabelS.l0 k l0 a1 0) = some (r1, r2) := h
 clear h
 have H' := Aside0.mk H
 clear H
 go_enter Tryd.func29, Tryd.ntmps29
 go_wp2
 go_loopg [1, 5] k (fun kq v1 v5 w' => ∃ (x0_1 : List (S29)) (x1_1 : Int) (x5_1 : Int), v1 = .int .i64 x1_1 ∧ v5 = .int .i64 x5_1 ∧ Aside0 (laws_markLabelS.l0 kq x0_1 x1_1 x5_1 = some (r1, r2)) ∧ Aside0 (kq ≤ k) ∧ Aside0 (Kd.R k29 29 w' w0.heap.size (fun k_ => (P0_ k_ ∨ w.heap.size ≤ k_)) u9000_ x0_1) ∧ Aside0 (Kept w w' (fun k_ => P0_ k_)) ∧ Aside0 (Below w0.heap.size w0 w'))
 case atStart => exact ⟨(l0), (a1), (0), (by first | rfl | (simp; done) | (simp [*]; done)), (by first | rfl | (simp; done) | (simp [*]; done)), H', ⟨Nat.le_refl _⟩, ⟨kr_ HO0.out⟩, ⟨kt_ HK.out⟩, ⟨lb0_ HB.out⟩⟩
 case round =>
  clear H'
  try clear c2
  try clear p2
  obtain ⟨x0_1, x1_1, x5_1, rfl, rfl, HA, HK1, HO_0, HK, HB⟩ := hrel
  cases gk with
  | zero => exact absurd HA.out (by simp [laws_markLabelS.l0])
  | succ k1 =>
   have H := HA.out
   clear HA
   simp only [laws_markLabelS.l0] at H
   by_cases c3 : x5_1 < (x0_1.length : Int)
   ·
    rw [if_pos c3] at H
    have c3b0 : decide (x5_1 < (x0_1.length : Int)) = true := decide_eq_true c3
    clear c3
    replace H := Option.bind_eq_some_iff.mp H
    obtain ⟨t303, A40, H⟩ := H
    replace H : (if 0 ≤ x5_1 then ((some (x0_1.set (x5_1 : Int).toNat (⟨t303, (rd_T29 x0_1 x5_1).f1, (rd_T29 x0_1 x5_1).f2⟩ : S29) : List (S29))).bind fun y304 => ((some (y304.set (x5_1 : Int).toNat (⟨(rd_T29 y304 x5_1).f0, wrap64 (x1_1 + 1), (rd_T29 y304 x5_1).f2⟩ : S29) : List (S29))).bind fun y305 => (laws_markLabelS.l0 k1 (y305.set (x5_1 : Int).toNat (⟨(rd_T29 y305 x5_1).f0, (rd_T29 y305 x5_1).f1, wrap64 ((wrap64 (x1_1 + 1)) + 1)⟩ : S29)) (wrap64 ((wrap64 ((wrap64 (x1_1 + 1)) + 1)) + 1)) (wrap64 (x5_1 + 1))))) else (none)) = some (r1, r2) := H
    have A4 := Aside0.mk A40
    clear A40
    by_cases c5 : 0 ≤ x5_1
    ·
     rw [if_pos c5] at H
     have c5b0 : decide (0 ≤ x5_1) = true := decide_eq_true c5
     clear c5
     obtain ⟨y304, hy304⟩ : ∃ y_ : List (S29), y_ = (x0_1.set (x5_1 : Int).toNat (⟨t303, (rd_T29 x0_1 x5_1).f1, (rd_T29 x0_1 x5_1).f2⟩ : S29)) := ⟨_, rfl⟩
     replace H : ((some (y304.set (x5_1 : Int).toNat (⟨(rd_T29 y304 x5_1).f0, wrap64 (x1_1 + 1), (rd_T29 y304 x5_1).f2⟩ : S29) : List (S29))).bind fun y305 => (laws_markLabelS.l0 k1 (y305.set (x5_1 : Int).toNat (⟨(rd_T29 y305 x5_1).f0, (rd_T29 y305 x5_1).f1, wrap64 ((wrap64 (x1_1 + 1)) + 1)⟩ : S29)) (wrap64 ((wrap64 ((wrap64 (x1_1 + 1)) + 1)) + 1)) (wrap64 (x5_1 + 1)))) = some (r1, r2) := by first | (rw [hy304]; with_reducible exact H) | (have H2_ := (Option.bind_some _ _).symm.trans H; rw [hy304]; with_reducible exact H2_) | (have H2_ := (Option.bind_some _ _).symm.trans H; with_reducible exact H2_) | with_reducible exact H | (rw [hy304]; exact H) | exact H
     have Ny304 := Aside0.mk hy304
     clear hy304
     obtain ⟨y305, hy305⟩ : ∃ y_ : List (S29), y_ = (y304.set (x5_1 : Int).toNat (⟨(rd_T29 y304 x5_1).f0, wrap64 (x1_1 + 1), (rd_T29 y304 x5_1).f2⟩ : S29)) := ⟨_, rfl⟩
     replace H : (laws_markLabelS.l0 k1 (y305.set (x5_1 : Int).toNat (⟨(rd_T29 y305 x5_1).f0, (rd_T29 y305 x5_1).f1, wrap64 ((wrap64 (x1_1 + 1)) + 1)⟩ : S29)) (wrap64 ((wrap64 ((wrap64 (x1_1 + 1)) + 1)) + 1)) (wrap64 (x5_1 + 1))) = some (r1, r2) := by first | (rw [hy305]; with_reducible exact H) | (have H2_ := (Option.bind_some _ _).symm.trans H; rw [hy305]; with_reducible exact H2_) | (have H2_ := (Option.bind_some _ _).symm.trans H; with_reducible exact H2_) | with_reducible exact H | (rw [hy305]; exact H) | exact H
     have Ny305 := Aside0.mk hy305
     clear hy305
     obtain ⟨y306, hy306⟩ : ∃ y_ : List (S29), y_ = (y305.set (x5_1 : Int).toNat (⟨(rd_T29 y305 x5_1).f0, (rd_T29 y305 x5_1).f1, wrap64 ((wrap64 (x1_1 + 1)) + 1)⟩ : S29)) := ⟨_, rfl⟩
     replace H : (laws_markLabelS.l0 k1 y306 (wrap64 ((wrap64 ((wrap64 (x1_1 + 1)) + 1)) + 1)) (wrap64 (x5_1 + 1))) = some (r1, r2) := by first | (rw [hy306]; with_reducible exact H) | (have H2_ := (Option.bind_some _ _).symm.trans H; rw [hy306]; with_reducible exact H2_) | (have H2_ := (Option.bind_some _ _).symm.trans H; with_reducible exact H2_) | with_reducible exact H | (rw [hy306]; exact H) | exact H
     have Ny306 := Aside0.mk hy306
     clear hy306
     have H' := Aside0.mk H
     clear H
     obtain ⟨Ao9, co9, eo9⟩ := Kd.R_slice HO_0.out
     subst eo9
     go_wp2_with (first | ((with_reducible refine gate_callee (f := 75) rfl ?_); refine ga_ (some 15) Tryd.func75 #[.int .i64 x1_1] ?_; (with_reducible refine (laws_markText.calls k1 x1_1 t303 _ A4.out).mono ?_); rintro e w10 ⟨rfl, hb⟩; refine ⟨_, rfl, ?_⟩; replace HO_0 := Aside0.mk (Kd.R_below (kr_ HO_0.out) hb); replace HK := Aside0.mk (Kept.below (S := (fun k_ => P0_ k_)) (kt_ HK.out) hb); replace HB := Aside0.mk (below_step (lb0_ HB.out) hb); (try clear hb); (try clear hb2); (try clear hk); (try clear hi); have p6 : 0 ≤ (x5_1 : Int) := dt_; have q6 : (x5_1 : Int) < ((x0_1.length : Int) : Int) := dt_; obtain ⟨go6, co6, eo6, gb6, gl6, cl6, HG6⟩ := Kd.R_form HO_0.out (by omega); (first | cases eo6 | (injection eo6 with ea_ en_ ec_; (first | subst ea_ | (injection ea_ with ea_; subst ea_)); subst ec_; clear en_)); have GB6 := Aside0.mk gb6; have GG6 := Aside0.mk HG6; clear gb6 gl6 HG6; have HMgo6 := Aside0.mk (show (P0_ go6 ∨ w.heap.size ≤ go6) from (HO_0.out.1 _ rfl)); obtain ⟨ce6, hcl6, hM6, hcc6, hfr6⟩ := Kd.R_elem HO_0.out z29 (x5_1 : Int) p6 q6; obtain rfl := k29_openM hM6; have hx6_0 : w10.cell? ⟨go6, (x5_1 : Int).toNat * 3, none⟩ = some (.string ((rd_T29 x0_1 x5_1).f0)) := hcc6 0 _ rfl; have hx6_1 : w10.cell? ⟨go6, (x5_1 : Int).toNat * 3 + 1, none⟩ = some (.int .i64 ((rd_T29 x0_1 x5_1).f1)) := hcc6 1 _ rfl; have hx6_2 : w10.cell? ⟨go6, (x5_1 : Int).toNat * 3 + 2, none⟩ = some (.int .i64 ((rd_T29 x0_1 x5_1).f2)) := hcc6 2 _ rfl; have hf6_0 : w10.frozen? ⟨go6, (x5_1 : Int).toNat * 3, none⟩ = false := hfr6 0; have hf6_1 : w10.frozen? ⟨go6, (x5_1 : Int).toNat * 3 + 1, none⟩ = false := hfr6 1; have hf6_2 : w10.frozen? ⟨go6, (x5_1 : Int).toNat * 3 + 2, none⟩ = false := hfr6 2; clear hcl6 hcc6 hfr6 hM6; replace p6 := eq_true p6; replace q6 := eq_true q6; have HX11 := Aside0.mk (show Kd.R k29 29 w10 w0.heap.size (fun k_ => (P0_ k_ ∨ w.heap.size ≤ k_)) (.slice (some ⟨go6, 0, none⟩) x0_1.length co9) x0_1 from (kr_ HO_0.out)); obtain ⟨ce11, hcl11, hM11, hcc11, hfr11⟩ := Kd.R_elem HX11.out z29 (x5_1 : Int) (dt_) (by have h_ : (x5_1 : Int) < ((x0_1.length : Int) : Int) := dt_; first | exact h_ | (have e_ := (Kd.R_reads' HO_0.out).1; omega) | simpa using h_); obtain rfl := k29_openM hM11; have HP11 := Kd.R_seg HX11.out (x5_1 : Int) (dt_) (by have h_ : (x5_1 : Int) < ((x0_1.length : Int) : Int) := dt_; first | exact h_ | (have e_ := (Kd.R_reads' HO_0.out).1; omega) | simpa using h_) (seg := [.string t303]) (j := 0) hcl11 hcc11 (show 1 ≤ 3 from by decide) (x' := (⟨t303, (rd_T29 x0_1 x5_1).f1, (rd_T29 x0_1 x5_1).f2⟩ : S29)) (k29_mkM _ _ _ (⟨t303, (rd_T29 x0_1 x5_1).f1, (rd_T29 x0_1 x5_1).f2⟩ : S29) ) (fun _ hk => hk); have hx11_0 := hcc11 0 _ rfl; (try simp only [show (k29).sz = 3 from rfl, Nat.mul_one, Nat.add_zero] at hx11_0); have hf11_0 := hfr11 0; (try simp only [show (k29).sz = 3 from rfl, Nat.mul_one, Nat.add_zero] at hf11_0); clear hcl11 hcc11 hfr11 hM11) | ((with_reducible refine gate_store (t := 9) (p := 17) rfl ?_); refine store_event (t := 9) (p := 17) (v := ?vo_w12) (w1 := (w10.setCell ⟨go6, (x5_1 : Int).toNat * 3, none⟩ (.string t303))) ?hg ?ho ?hn ?hr ?_; (case ho => rfl); (case hg => rfl); (case hn => rfl); (case hr => first | (go_simp; done) | (go_simp; rfl)); intro w12 hw; have hg : w10.grownBy w12 (some go6) := (by rw [hw]; exact HP11.2); have hp_ : Kd.R k29 29 w12 w0.heap.size (fun k_ => (P0_ k_ ∨ w.heap.size ≤ k_)) (.slice (some ⟨go6, 0, none⟩) x0_1.length co9) y304 := (by rw [hw, Ny304.out]; exact HP11.1); clear HP11; replace HB := Aside0.mk ((by rw [hw]; exact below_set (HB.out) GB6.out : Below w0.heap.size w0 w12)); replace HK := Aside0.mk (Kept.of_grown (S := (fun k_ => P0_ k_)) hg (kt_ HK.out) (fun k_ e_ => (HO_0.out.1 k_ e_))); replace HO_0 := Aside0.mk (hp_); clear hg hw hp_; have p7 : 0 ≤ (x5_1 : Int) := dt_; have q7 : (x5_1 : Int) < ((x0_1.length : Int) : Int) := dt_; obtain ⟨ce7, hcl7, hM7, hcc7, hfr7⟩ := Kd.R_elem HO_0.out z29 (x5_1 : Int) p7 q7; obtain rfl := k29_openM hM7; have hx7_0 : w12.cell? ⟨go6, (x5_1 : Int).toNat * 3, none⟩ = some (.string ((rd_T29 y304 x5_1).f0)) := hcc7 0 _ rfl; have hx7_1 : w12.cell? ⟨go6, (x5_1 : Int).toNat * 3 + 1, none⟩ = some (.int .i64 ((rd_T29 y304 x5_1).f1)) := hcc7 1 _ rfl; have hx7_2 : w12.cell? ⟨go6, (x5_1 : Int).toNat * 3 + 2, none⟩ = some (.int .i64 ((rd_T29 y304 x5_1).f2)) := hcc7 2 _ rfl; have hf7_0 : w12.frozen? ⟨go6, (x5_1 : Int).toNat * 3, none⟩ = false := hfr7 0; have hf7_1 : w12.frozen? ⟨go6, (x5_1 : Int).toNat * 3 + 1, none⟩ = false := hfr7 1; have hf7_2 : w12.frozen? ⟨go6, (x5_1 : Int).toNat * 3 + 2, none⟩ = false := hfr7 2; clear hcl7 hcc7 hfr7 hM7; replace p7 := eq_true p7; replace q7 := eq_true q7; have HX13 := Aside0.mk (show Kd.R k29 29 w12 w0.heap.size (fun k_ => (P0_ k_ ∨ w.heap.size ≤ k_)) (.slice (some ⟨go6, 0, none⟩) x0_1.length co9) y304 from (kr_ HO_0.out)); obtain ⟨ce13, hcl13, hM13, hcc13, hfr13⟩ := Kd.R_elem HX13.out z29 (x5_1 : Int) (dt_) (by have h_ : (x5_1 : Int) < ((x0_1.length : Int) : Int) := dt_; first | exact h_ | (have e_ := (Kd.R_reads' HO_0.out).1; omega) | simpa using h_); obtain rfl := k29_openM hM13; have HP13 := Kd.R_seg HX13.out (x5_1 : Int) (dt_) (by have h_ : (x5_1 : Int) < ((x0_1.length : Int) : Int) := dt_; first | exact h_ | (have e_ := (Kd.R_reads' HO_0.out).1; omega) | simpa using h_) (seg := [.int .i64 (wrap64 (x1_1 + 1))]) (j := 1) hcl13 hcc13 (show 2 ≤ 3 from by decide) (x' := (⟨(rd_T29 y304 x5_1).f0, wrap64 (x1_1 + 1), (rd_T29 y304 x5_1).f2⟩ : S29)) (k29_mkM _ _ _ (⟨(rd_T29 y304 x5_1).f0, wrap64 (x1_1 + 1), (rd_T29 y304 x5_1).f2⟩ : S29) ) (fun _ hk => hk); have hx13_1 := hcc13 1 _ rfl; (try simp only [show (k29).sz = 3 from rfl, Nat.mul_one, Nat.add_zero] at hx13_1); have hf13_1 := hfr13 1; (try simp only [show (k29).sz = 3 from rfl, Nat.mul_one, Nat.add_zero] at hf13_1); clear hcl13 hcc13 hfr13 hM13) | ((with_reducible refine gate_store (t := 3) (p := 24) rfl ?_); refine store_event (t := 3) (p := 24) (v := ?vo_w14) (w1 := (w12.setCell ⟨go6, (x5_1 : Int).toNat * 3 + 1, none⟩ (.int .i64 (wrap64 (x1_1 + 1))))) ?hg ?ho ?hn ?hr ?_; (case ho => rfl); (case hg => rfl); (case hn => rfl); (case hr => first | (go_simp; done) | (go_simp; rfl)); intro w14 hw; have hg : w12.grownBy w14 (some go6) := (by rw [hw]; exact HP13.2); have hp_ : Kd.R k29 29 w14 w0.heap.size (fun k_ => (P0_ k_ ∨ w.heap.size ≤ k_)) (.slice (some ⟨go6, 0, none⟩) x0_1.length co9) y305 := (by rw [hw, Ny305.out]; exact HP13.1); clear HP13; replace HB := Aside0.mk ((by rw [hw]; exact below_set (HB.out) GB6.out : Below w0.heap.size w0 w14)); replace HK := Aside0.mk (Kept.of_grown (S := (fun k_ => P0_ k_)) hg (kt_ HK.out) (fun k_ e_ => (HO_0.out.1 k_ e_))); replace HO_0 := Aside0.mk (hp_); clear hg hw hp_; have p8 : 0 ≤ (x5_1 : Int) := dt_; have q8 : (x5_1 : Int) < ((x0_1.length : Int) : Int) := dt_; obtain ⟨ce8, hcl8, hM8, hcc8, hfr8⟩ := Kd.R_elem HO_0.out z29 (x5_1 : Int) p8 q8; obtain rfl := k29_openM hM8; have hx8_0 : w14.cell? ⟨go6, (x5_1 : Int).toNat * 3, none⟩ = some (.string ((rd_T29 y305 x5_1).f0)) := hcc8 0 _ rfl; have hx8_1 : w14.cell? ⟨go6, (x5_1 : Int).toNat * 3 + 1, none⟩ = some (.int .i64 ((rd_T29 y305 x5_1).f1)) := hcc8 1 _ rfl; have hx8_2 : w14.cell? ⟨go6, (x5_1 : Int).toNat * 3 + 2, none⟩ = some (.int .i64 ((rd_T29 y305 x5_1).f2)) := hcc8 2 _ rfl; have hf8_0 : w14.frozen? ⟨go6, (x5_1 : Int).toNat * 3, none⟩ = false := hfr8 0; have hf8_1 : w14.frozen? ⟨go6, (x5_1 : Int).toNat * 3 + 1, none⟩ = false := hfr8 1; have hf8_2 : w14.frozen? ⟨go6, (x5_1 : Int).toNat * 3 + 2, none⟩ = false := hfr8 2; clear hcl8 hcc8 hfr8 hM8; replace p8 := eq_true p8; replace q8 := eq_true q8; have HX15 := Aside0.mk (show Kd.R k29 29 w14 w0.heap.size (fun k_ => (P0_ k_ ∨ w.heap.size ≤ k_)) (.slice (some ⟨go6, 0, none⟩) x0_1.length co9) y305 from (kr_ HO_0.out)); obtain ⟨ce15, hcl15, hM15, hcc15, hfr15⟩ := Kd.R_elem HX15.out z29 (x5_1 : Int) (dt_) (by have h_ : (x5_1 : Int) < ((x0_1.length : Int) : Int) := dt_; first | exact h_ | (have e_ := (Kd.R_reads' HO_0.out).1; omega) | simpa using h_); obtain rfl := k29_openM hM15; have HP15 := Kd.R_seg HX15.out (x5_1 : Int) (dt_) (by have h_ : (x5_1 : Int) < ((x0_1.length : Int) : Int) := dt_; first | exact h_ | (have e_ := (Kd.R_reads' HO_0.out).1; omega) | simpa using h_) (seg := [.int .i64 (wrap64 ((wrap64 (x1_1 + 1)) + 1))]) (j := 2) hcl15 hcc15 (show 3 ≤ 3 from by decide) (x' := (⟨(rd_T29 y305 x5_1).f0, (rd_T29 y305 x5_1).f1, wrap64 ((wrap64 (x1_1 + 1)) + 1)⟩ : S29)) (k29_mkM _ _ _ (⟨(rd_T29 y305 x5_1).f0, (rd_T29 y305 x5_1).f1, wrap64 ((wrap64 (x1_1 + 1)) + 1)⟩ : S29) ) (fun _ hk => hk); have hx15_2 := hcc15 2 _ rfl; (try simp only [show (k29).sz = 3 from rfl, Nat.mul_one, Nat.add_zero] at hx15_2); have hf15_2 := hfr15 2; (try simp only [show (k29).sz = 3 from rfl, Nat.mul_one, Nat.add_zero] at hf15_2); clear hcl15 hcc15 hfr15 hM15) | ((with_reducible refine gate_store (t := 3) (p := 31) rfl ?_); refine store_event (t := 3) (p := 31) (v := ?vo_w16) (w1 := (w14.setCell ⟨go6, (x5_1 : Int).toNat * 3 + 2, none⟩ (.int .i64 (wrap64 ((wrap64 (x1_1 + 1)) + 1))))) ?hg ?ho ?hn ?hr ?_; (case ho => rfl); (case hg => rfl); (case hn => rfl); (case hr => first | (go_simp; done) | (go_simp; rfl)); intro w16 hw; have hg : w14.grownBy w16 (some go6) := (by rw [hw]; exact HP15.2); have hp_ : Kd.R k29 29 w16 w0.heap.size (fun k_ => (P0_ k_ ∨ w.heap.size ≤ k_)) (.slice (some ⟨go6, 0, none⟩) x0_1.length co9) y306 := (by rw [hw, Ny306.out]; exact HP15.1); clear HP15; replace HB := Aside0.mk ((by rw [hw]; exact below_set (HB.out) GB6.out : Below w0.heap.size w0 w16)); replace HK := Aside0.mk (Kept.of_grown (S := (fun k_ => P0_ k_)) hg (kt_ HK.out) (fun k_ e_ => (HO_0.out.1 k_ e_))); replace HO_0 := Aside0.mk (hp_); clear hg hw hp_))
     go_roundg k1
     case measure => have := HK1.out; omega
     case rel => exact ⟨(y306), (wrap64 ((wrap64 ((wrap64 (x1_1 + 1)) + 1)) + 1)), (wrap64 (x5_1 + 1)), (by first | rfl | (simp; done) | (simp [*]; done)), (by first | rfl | (simp; done) | (simp [*]; done)), H', ⟨by have := HK1.out; omega⟩, ⟨by (with_reducible repeat (first | apply Kd.R_alloc | apply Kd.R_drewN | apply Kd.R_drew)); first | exact HO_0.out | (rw [Ny306.out]; exact (Kd.R_putg (Kd.R_drewN HO_0.out _) _ _).1) | (rw [Ny306.out]; exact (Kd.R_putg HO_0.out _ _).1)⟩, ⟨kt_ HK.out⟩, ⟨by repeat (first | (with_reducible first | exact HB.out | apply below_alloc | apply pw_below_drewN | apply below_drew1) | exact HB.out | (first | exact below_set (pw_below_drewN HB.out _) GB6.out | exact below_set HB.out GB6.out))⟩⟩
    ·
     rw [if_neg c5] at H
     exact absurd H (by simp)
   ·
    rw [if_neg c3] at H
    have c3b0 : decide (x5_1 < (x0_1.length : Int)) = false := decide_eq_false c3
    clear c3
    simp only [Option.some.injEq, Prod.mk.injEq] at H
    obtain ⟨rfl, rfl⟩ := H
    obtain ⟨Ao17, co17, eo17⟩ := Kd.R_slice HO_0.out
    subst eo17
    go_wp2
    go_ret
    exact ⟨rr_, kr_ HO_0.out, lb0_ HB.out, kt_ HK.out⟩
def laws_markIntS.l0 : Nat → List Int → Int → Int → Option (Int × List Int)
 | 0, _, _, _ => none
 | k + 1, x0, x1, x5 => if x5 < (x0.length : Int) then (if 0 ≤ x5 then (laws_markIntS.l0 k (x0.set (x5 : Int).toNat x1) (wrap64 (x1 + 1)) (wrap64 (x5 + 1))) else (none)) else (some (x1, x0))
def laws_markIntS.f (k : Nat) (l0 : List Int) (a1 : Int) : Option (Int × List Int) := laws_markIntS.l0 k l0 a1 0
set_option maxHeartbeats 8000000 in
set_option maxRecDepth 100000 in
theorem laws_markIntS.calls (k : Nat) (P0_ : Nat → Prop) (u9000_ : Value) (l0 : List Int) (a1 : Int) (r1 : Int) (r2 : List Int) (w0 w : World) (hB : Below w0.heap.size w0 w) (ho0 : Kd.R (Kd.int .i64) 3 w w0.heap.size P0_ u9000_ l0) (h : laws_markIntS.f k l0 a1 = some (r1, r2)) :
  Calls Tryd.prog 30 #[u9000_, .int .i64 a1] w fun e w' => e = .returned (.int .i64 r1) ∧ Kd.R (Kd.int .i64) 3 w' w0.heap.size (fun k_ => (P0_ k_ ∨ w.heap.size ≤ k_)) u9000_ r2 ∧ Below w0.heap.size w0 w' ∧ Kept w w' (fun k_ => P0_ k_) := by
 have HO0 := Aside0.mk (show Kd.R (Kd.int .i64) 3 w w0.heap.size (fun k_ => (P0_ k_ ∨ w.heap.size ≤ k_)) u9000_ l0 from Kd.R_mono ho0 (fun k_ hk => (.inl hk)))
 have HK := Aside0.mk (Kept.refl w (fun k_ => P0_ k_))
 have HW0 := Aside0.mk hB.size
 have HB := Aside0.mk hB
 clear hB
 have H : (laws_markIntS.l0 k l0 a1 0) = some (r1, r2) := h
 clear h
 have H' := Aside0.mk H
 clear H
 go_enter Tryd.func30, Tryd.ntmps30
 go_wp2
 go_loopg [1, 5] k (fun kq v1 v5 w' => ∃ (x0_1 : List Int) (x1_1 : Int) (x5_1 : Int), v1 = .int .i64 x1_1 ∧ v5 = .int .i64 x5_1 ∧ Aside0 (laws_markIntS.l0 kq x0_1 x1_1 x5_1 = some (r1, r2)) ∧ Aside0 (kq ≤ k) ∧ Aside0 (Kd.R (Kd.int .i64) 3 w' w0.heap.size (fun k_ => (P0_ k_ ∨ w.heap.size ≤ k_)) u9000_ x0_1) ∧ Aside0 (Kept w w' (fun k_ => P0_ k_)) ∧ Aside0 (Below w0.heap.size w0 w'))
 case atStart => exact ⟨(l0), (a1), (0), (by first | rfl | (simp; done) | (simp [*]; done)), (by first | rfl | (simp; done) | (simp [*]; done)), H', ⟨Nat.le_refl _⟩, ⟨kr_ HO0.out⟩, ⟨kt_ HK.out⟩, ⟨lb0_ HB.out⟩⟩
 case round =>
  clear H'
  try clear p2
  obtain ⟨x0_1, x1_1, x5_1, rfl, rfl, HA, HK1, HO_0, HK, HB⟩ := hrel
  cases gk with
  | zero => exact absurd HA.out (by simp [laws_markIntS.l0])
  | succ k1 =>
   have H := HA.out
   clear HA
   simp only [laws_markIntS.l0] at H
   by_cases c3 : x5_1 < (x0_1.length : Int)
   ·
    rw [if_pos c3] at H
    have c3b0 : decide (x5_1 < (x0_1.length : Int)) = true := decide_eq_true c3
    clear c3
    by_cases c4 : 0 ≤ x5_1
    ·
     rw [if_pos c4] at H
     have c4b0 : decide (0 ≤ x5_1) = true := decide_eq_true c4
     clear c4
     obtain ⟨y307, hy307⟩ : ∃ y_ : List Int, y_ = (x0_1.set (x5_1 : Int).toNat x1_1) := ⟨_, rfl⟩
     replace H : (laws_markIntS.l0 k1 y307 (wrap64 (x1_1 + 1)) (wrap64 (x5_1 + 1))) = some (r1, r2) := by first | (rw [hy307]; with_reducible exact H) | (have H2_ := (Option.bind_some _ _).symm.trans H; rw [hy307]; with_reducible exact H2_) | (have H2_ := (Option.bind_some _ _).symm.trans H; with_reducible exact H2_) | with_reducible exact H | (rw [hy307]; exact H) | exact H
     have Ny307 := Aside0.mk hy307
     clear hy307
     have H' := Aside0.mk H
     clear H
     obtain ⟨Ao6, co6, eo6⟩ := Kd.R_slice HO_0.out
     subst eo6
     have p5 : 0 ≤ (x5_1 : Int) := dt_
     have q5 : (x5_1 : Int) < ((x0_1.length : Int) : Int) := dt_
     obtain ⟨go5, co5, eo5, gb5, gl5, cl5, HG5⟩ := Kd.R_form HO_0.out (by omega)
     (first | cases eo5 | (injection eo5 with ea_ en_ ec_; (first | subst ea_ | (injection ea_ with ea_; subst ea_)); subst ec_; clear en_))
     have GB5 := Aside0.mk gb5
     have GG5 := Aside0.mk HG5
     clear gb5 gl5 HG5
     have HMgo5 := Aside0.mk (show (P0_ go5 ∨ w.heap.size ≤ go5) from (HO_0.out.1 _ rfl))
     obtain ⟨hx5_0, hf5_0⟩ := Kd.R_celln 0 HO_0.out (x5_1 : Int) p5 q5
     replace p5 := eq_true p5
     replace q5 := eq_true q5
     have HP7 := Kd.R_putg HO_0.out (x5_1 : Int) x1_1
     go_wp2_with (first | ((with_reducible refine gate_store (t := 3) (p := 15) rfl ?_); refine store_event (t := 3) (p := 15) (v := ?vo_w8) (w1 := (wr.setCell ⟨go5, (x5_1 : Int).toNat, none⟩ (.int .i64 x1_1))) ?hg ?ho ?hn ?hr ?_; (case ho => rfl); (case hg => rfl); (case hn => rfl); (case hr => first | (go_simp; done) | (go_simp; rfl)); intro w8 hw; have hg : wr.grownBy w8 (some go5) := (by rw [hw]; exact HP7.2); have hp_ : Kd.R (Kd.int .i64) 3 w8 w0.heap.size (fun k_ => (P0_ k_ ∨ w.heap.size ≤ k_)) (.slice (some ⟨go5, 0, none⟩) x0_1.length co6) y307 := (by rw [hw, Ny307.out]; exact HP7.1); clear HP7; replace HB := Aside0.mk ((by rw [hw]; exact below_set (HB.out) GB5.out : Below w0.heap.size w0 w8)); replace HK := Aside0.mk (Kept.of_grown (S := (fun k_ => P0_ k_)) hg (kt_ HK.out) (fun k_ e_ => (HO_0.out.1 k_ e_))); replace HO_0 := Aside0.mk (hp_); clear hg hw hp_))
     go_roundg k1
     case measure => have := HK1.out; omega
     case rel => exact ⟨(y307), (wrap64 (x1_1 + 1)), (wrap64 (x5_1 + 1)), (by first | rfl | (simp; done) | (simp [*]; done)), (by first | rfl | (simp; done) | (simp [*]; done)), H', ⟨by have := HK1.out; omega⟩, ⟨by (with_reducible repeat (first | apply Kd.R_alloc | apply Kd.R_drewN | apply Kd.R_drew)); first | exact HO_0.out | (rw [Ny307.out]; exact (Kd.R_putg (Kd.R_drewN HO_0.out _) _ _).1) | (rw [Ny307.out]; exact (Kd.R_putg HO_0.out _ _).1)⟩, ⟨kt_ HK.out⟩, ⟨by repeat (first | (with_reducible first | exact HB.out | apply below_alloc | apply pw_below_drewN | apply below_drew1) | exact HB.out | (first | exact below_set (pw_below_drewN HB.out _) GB5.out | exact below_set HB.out GB5.out))⟩⟩
    ·
     rw [if_neg c4] at H
     exact absurd H (by simp)
   ·
    rw [if_neg c3] at H
    have c3b0 : decide (x5_1 < (x0_1.length : Int)) = false := decide_eq_false c3
    clear c3
    simp only [Option.some.injEq, Prod.mk.injEq] at H
    obtain ⟨rfl, rfl⟩ := H
    obtain ⟨Ao9, co9, eo9⟩ := Kd.R_slice HO_0.out
    subst eo9
    go_wp2
    go_ret
    exact ⟨rr_, kr_ HO_0.out, lb0_ HB.out, kt_ HK.out⟩
def laws_heldIntS.l0 : Nat → List Int → Int → Int → Option (Int)
 | 0, _, _, _ => none
 | k + 1, x0, x1, x5 => if x5 < (x0.length : Int) then (if 0 ≤ x5 then (if (rd x0 x5) = x1 then (laws_heldIntS.l0 k x0 (wrap64 (x1 + 1)) (wrap64 (x5 + 1))) else (some (-1))) else (none)) else (some x1)
def laws_heldIntS.f (k : Nat) (l0 : List Int) (a1 : Int) : Option (Int) := laws_heldIntS.l0 k l0 a1 0
set_option maxHeartbeats 8000000 in
set_option maxRecDepth 100000 in
theorem laws_heldIntS.calls (k : Nat) (A0 : Option Addr) (c0 : Nat) (l0 : List Int) (a1 : Int) (r : Int) (w : World) (hr0 : Kd.C (Kd.int .i64) w A0 l0.length l0) (hc0 : l0.length ≤ c0) (h : laws_heldIntS.f k l0 a1 = some r) :
  Calls Tryd.prog 31 #[.slice A0 l0.length c0, .int .i64 a1] w fun e w' => e = .returned (.int .i64 r) ∧ Drawn0 w w' := by
 have HR0 := Aside0.mk hr0
 have HC0 := Aside0.mk hc0
 clear hr0 hc0
 have H : (laws_heldIntS.l0 k l0 a1 0) = some r := h
 clear h
 have H' := Aside0.mk H
 clear H
 go_enter Tryd.func31, Tryd.ntmps31
 go_wp2
 go_loopg [1, 5] k (fun kq v1 v5 w' => ∃ (x1_1 : Int) (x5_1 : Int), v1 = .int .i64 x1_1 ∧ v5 = .int .i64 x5_1 ∧ Aside0 (laws_heldIntS.l0 kq l0 x1_1 x5_1 = some r) ∧ Aside0 (kq ≤ k) ∧ Drawn0 w w')
 case atStart => exact ⟨(a1), (0), (by first | rfl | (simp; done) | (simp [*]; done)), (by first | rfl | (simp; done) | (simp [*]; done)), H', ⟨Nat.le_refl _⟩, by repeat (first | exact Drawn0.refl _ | apply Drawn0.step)⟩
 case round =>
  clear H'
  try clear p2
  obtain ⟨x1_1, x5_1, rfl, rfl, HA, HK1, ⟨m1, rfl⟩⟩ := hrel
  cases gk with
  | zero => exact absurd HA.out (by simp [laws_heldIntS.l0])
  | succ k1 =>
   have H := HA.out
   clear HA
   simp only [laws_heldIntS.l0] at H
   by_cases c3 : x5_1 < (l0.length : Int)
   ·
    rw [if_pos c3] at H
    have c3b0 : decide (x5_1 < (l0.length : Int)) = true := decide_eq_true c3
    clear c3
    by_cases c4 : 0 ≤ x5_1
    ·
     rw [if_pos c4] at H
     have c4b0 : decide (0 ≤ x5_1) = true := decide_eq_true c4
     clear c4
     by_cases c5 : (rd l0 x5_1) = x1_1
     ·
      rw [if_pos c5] at H
      have c5b0 : ((rd l0 x5_1) == x1_1) = true := beq_iff_eq.mpr c5
      have c5b1 : ((rd l0 x5_1) != x1_1) = false := bne_eq_false_iff_eq.mpr c5
      clear c5
      have H' := Aside0.mk H
      clear H
      have p308 : 0 ≤ (x5_1 : Int) := dt_
      have q308 : x5_1 < (l0.length : Int) := dt_
      obtain ⟨ad308, e308, hx308_0⟩ := Kd.at_int HR0.out x5_1 p308 q308
      cases e308
      replace p308 := eq_true p308
      replace q308 := eq_true q308
      go_wp2
      go_roundg k1
      case measure => have := HK1.out; omega
      case rel => exact ⟨(wrap64 (x1_1 + 1)), (wrap64 (x5_1 + 1)), (by first | rfl | (simp; done) | (simp [*]; done)), (by first | rfl | (simp; done) | (simp [*]; done)), H', ⟨by have := HK1.out; omega⟩, by repeat (first | exact Drawn0.refl _ | apply Drawn0.step)⟩
     ·
      rw [if_neg c5] at H
      have c5b0 : ((rd l0 x5_1) == x1_1) = false := beq_eq_false_iff_ne.mpr c5
      have c5b1 : ((rd l0 x5_1) != x1_1) = true := bne_iff_ne.mpr c5
      obtain rfl := Option.some.inj H
      have p308 : 0 ≤ (x5_1 : Int) := dt_
      have q308 : x5_1 < (l0.length : Int) := dt_
      obtain ⟨ad308, e308, hx308_0⟩ := Kd.at_int HR0.out x5_1 p308 q308
      cases e308
      replace p308 := eq_true p308
      replace q308 := eq_true q308
      go_wp2
      go_ret
      exact ⟨by first | rfl | (simp; done) | (simp [*]; done), by repeat (first | exact Drawn0.refl _ | apply Drawn0.step)⟩
    ·
     rw [if_neg c4] at H
     exact absurd H (by simp)
   ·
    rw [if_neg c3] at H
    have c3b0 : decide (x5_1 < (l0.length : Int)) = false := decide_eq_false c3
    clear c3
    obtain rfl := Option.some.inj H
    go_wp2
    go_ret
    exact ⟨by first | rfl | (simp; done) | (simp [*]; done), by repeat (first | exact Drawn0.refl _ | apply Drawn0.step)⟩
def spec_l1In.f (a0 : Int) (a1 : Int) (a2 : Int) : Option (Bool) := if a0 ≥ a1 then (some (decide (a0 ≤ a2))) else (some false)
set_option maxHeartbeats 8000000 in
set_option maxRecDepth 100000 in
theorem spec_l1In.calls (a0 : Int) (a1 : Int) (a2 : Int) (r : Bool) (w : World) (h : spec_l1In.f a0 a1 a2 = some r) :
  Calls Tryd.prog 71 #[.int .i64 a0, .int .i64 a1, .int .i64 a2] w fun e w' => e = .returned (.bool r) ∧ Drawn0 w w' := by
 have H : (if a0 ≥ a1 then (some (decide (a0 ≤ a2))) else (some false)) = some r := h
 clear h
 by_cases c4 : a0 ≥ a1
 ·
  rw [if_pos c4] at H
  have c4b0 : decide (a1 ≤ a0) = true := decide_eq_true c4
  clear c4
  obtain rfl := Option.some.inj H
  go_enter Tryd.func71, Tryd.ntmps71
  go_wp2
  go_ret
  exact ⟨by first | rfl | (simp; done) | (simp [*]; done), by repeat (first | exact Drawn0.refl _ | apply Drawn0.step)⟩
 ·
  rw [if_neg c4] at H
  have c4b0 : decide (a1 ≤ a0) = false := decide_eq_false c4
  clear c4
  obtain rfl := Option.some.inj H
  go_enter Tryd.func71, Tryd.ntmps71
  go_wp2
  go_ret
  exact ⟨by first | rfl | (simp; done) | (simp [*]; done), by repeat (first | exact Drawn0.refl _ | apply Drawn0.step)⟩
def spec_l2Word.l0 : Nat → ByteArray → Int → Option (Bool)
 | 0, _, _ => none
 | k + 1, x0, x3 => if x3 < (x0.size : Int) then (if 0 ≤ x3 then (if (bt x0 x3) < 97 then (some false) else (if (bt x0 x3) > 122 then (some false) else (spec_l2Word.l0 k x0 (wrap64 (x3 + 1))))) else (none)) else ((spec_l1In.f (x0.size : Int) 1 10).bind fun t102 => (some t102))
def spec_l2Word.f (k : Nat) (a0 : ByteArray) : Option (Bool) := spec_l2Word.l0 k a0 0
set_option maxHeartbeats 8000000 in
set_option maxRecDepth 100000 in
theorem spec_l2Word.calls (k : Nat) (a0 : ByteArray) (r : Bool) (w : World) (h : spec_l2Word.f k a0 = some r) :
  Calls Tryd.prog 94 #[.string a0] w fun e w' => e = .returned (.bool r) ∧ Drawn0 w w' := by
 have H : (spec_l2Word.l0 k a0 0) = some r := h
 clear h
 have H' := Aside0.mk H
 clear H
 go_enter Tryd.func94, Tryd.ntmps94
 go_wp2
 go_loopg [3] k (fun kq v3 w' => ∃ (x3_1 : Int), v3 = .int .i64 x3_1 ∧ Aside0 (spec_l2Word.l0 kq a0 x3_1 = some r) ∧ Aside0 (kq ≤ k) ∧ Drawn0 w w')
 case atStart => exact ⟨(0), (by first | rfl | (simp; done) | (simp [*]; done)), H', ⟨Nat.le_refl _⟩, by repeat (first | exact Drawn0.refl _ | apply Drawn0.step)⟩
 case round =>
  clear H'
  obtain ⟨x3_1, rfl, HA, HK1, ⟨m1, rfl⟩⟩ := hrel
  cases gk with
  | zero => exact absurd HA.out (by simp [spec_l2Word.l0])
  | succ k1 =>
   have H := HA.out
   clear HA
   simp only [spec_l2Word.l0] at H
   by_cases c2 : x3_1 < (a0.size : Int)
   ·
    rw [if_pos c2] at H
    have c2b0 : decide (x3_1 < (a0.size : Int)) = true := decide_eq_true c2
    clear c2
    by_cases c3 : 0 ≤ x3_1
    ·
     rw [if_pos c3] at H
     have c3b0 : decide (0 ≤ x3_1) = true := decide_eq_true c3
     clear c3
     by_cases c5 : (bt a0 x3_1) < 97
     ·
      rw [if_pos c5] at H
      have c5b0 : decide ((bt a0 x3_1) < 97) = true := decide_eq_true c5
      clear c5
      obtain rfl := Option.some.inj H
      have p4 : 0 ≤ (x3_1 : Int) := dt_
      have q4 : x3_1 < (a0.size : Int) := dt_
      have hx4 := bt_at a0 x3_1
      replace p4 := eq_true p4
      replace q4 := eq_true q4
      go_wp2
      go_ret
      exact ⟨by first | rfl | (simp; done) | (simp [*]; done), by repeat (first | exact Drawn0.refl _ | apply Drawn0.step)⟩
     ·
      rw [if_neg c5] at H
      have c5b0 : decide ((bt a0 x3_1) < 97) = false := decide_eq_false c5
      clear c5
      by_cases c7 : (bt a0 x3_1) > 122
      ·
       rw [if_pos c7] at H
       have c7b0 : decide (122 < (bt a0 x3_1)) = true := decide_eq_true c7
       clear c7
       obtain rfl := Option.some.inj H
       have p4 : 0 ≤ (x3_1 : Int) := dt_
       have q4 : x3_1 < (a0.size : Int) := dt_
       have hx4 := bt_at a0 x3_1
       replace p4 := eq_true p4
       replace q4 := eq_true q4
       have p6 : 0 ≤ (x3_1 : Int) := dt_
       have q6 : x3_1 < (a0.size : Int) := dt_
       have hx6 := bt_at a0 x3_1
       replace p6 := eq_true p6
       replace q6 := eq_true q6
       go_wp2
       go_ret
       exact ⟨by first | rfl | (simp; done) | (simp [*]; done), by repeat (first | exact Drawn0.refl _ | apply Drawn0.step)⟩
      ·
       rw [if_neg c7] at H
       have c7b0 : decide (122 < (bt a0 x3_1)) = false := decide_eq_false c7
       clear c7
       have H' := Aside0.mk H
       clear H
       have p4 : 0 ≤ (x3_1 : Int) := dt_
       have q4 : x3_1 < (a0.size : Int) := dt_
       have hx4 := bt_at a0 x3_1
       replace p4 := eq_true p4
       replace q4 := eq_true q4
       have p6 : 0 ≤ (x3_1 : Int) := dt_
       have q6 : x3_1 < (a0.size : Int) := dt_
       have hx6 := bt_at a0 x3_1
       replace p6 := eq_true p6
       replace q6 := eq_true q6
       go_wp2
       go_roundg k1
       case measure => have := HK1.out; omega
       case rel => exact ⟨(wrap64 (x3_1 + 1)), (by first | rfl | (simp; done) | (simp [*]; done)), H', ⟨by have := HK1.out; omega⟩, by repeat (first | exact Drawn0.refl _ | apply Drawn0.step)⟩
    ·
     rw [if_neg c3] at H
     exact absurd H (by simp)
   ·
    rw [if_neg c2] at H
    have c2b0 : decide (x3_1 < (a0.size : Int)) = false := decide_eq_false c2
    clear c2
    replace H := Option.bind_eq_some_iff.mp H
    obtain ⟨t102, A80, H⟩ := H
    replace H : (some t102) = some r := H
    have A8 := Aside0.mk A80
    clear A80
    obtain rfl := Option.some.inj H
    go_wp2_with (first | ((with_reducible refine gate_callee (f := 71) rfl ?_); refine ga_ (some 22) Tryd.func71 #[.int .i64 (a0.size : Int), .int .i64 1, .int .i64 10] ?_; (with_reducible refine (spec_l1In.calls (a0.size : Int) 1 10 t102 _ A8.out).mono ?_); rintro e w' ⟨rfl, ⟨nd, rfl⟩⟩; refine ⟨_, rfl, ?_⟩))
    go_ret
    exact ⟨by first | rfl | (simp; done) | (simp [*]; done), by repeat (first | exact Drawn0.refl _ | apply Drawn0.step)⟩
def spec_l24One.f (k : Nat) (a0_0 : ByteArray) (a0_1 : Int) (a0_2 : Int) : Option (Bool) := (spec_l2Word.f k a0_0).bind fun t104 => (if t104 = true then ((spec_l1In.f a0_1 0 99).bind fun t105 => (if t105 = true then ((spec_l1In.f a0_2 0 99).bind fun t106 => (some t106)) else (some false))) else (some false))
set_option maxHeartbeats 8000000 in
set_option maxRecDepth 100000 in
theorem spec_l24One.calls (k : Nat) (a0_0 : ByteArray) (a0_1 : Int) (a0_2 : Int) (r : Bool) (w : World) (h : spec_l24One.f k a0_0 a0_1 a0_2 = some r) :
  Calls Tryd.prog 54 #[.agg #[.string a0_0, .int .i64 a0_1, .int .i64 a0_2]] w fun e w' => e = .returned (.bool r) ∧ Below w.heap.size w w' := by
 have hu29 := Tryd.underlying29
 have HB := Aside0.mk (Below.refl w.heap.size w)
 have H : ((spec_l2Word.f k a0_0).bind fun t104 => (if t104 = true then ((spec_l1In.f a0_1 0 99).bind fun t105 => (if t105 = true then ((spec_l1In.f a0_2 0 99).bind fun t106 => (some t106)) else (some false))) else (some false))) = some r := h
 clear h
 replace H := Option.bind_eq_some_iff.mp H
 obtain ⟨t104, A20, H⟩ := H
 replace H : (if t104 = true then ((spec_l1In.f a0_1 0 99).bind fun t105 => (if t105 = true then ((spec_l1In.f a0_2 0 99).bind fun t106 => (some t106)) else (some false))) else (some false)) = some r := H
 have A2 := Aside0.mk A20
 clear A20
 by_cases c3 : t104 = true
 ·
  subst c3
  have H1 : ((spec_l1In.f a0_1 0 99).bind fun t105 => (if t105 = true then ((spec_l1In.f a0_2 0 99).bind fun t106 => (some t106)) else (some false))) = some r := by rw [if_pos rfl] at H; exact H
  clear H
  have H := H1
  clear H1
  replace H := Option.bind_eq_some_iff.mp H
  obtain ⟨t105, A40, H⟩ := H
  replace H : (if t105 = true then ((spec_l1In.f a0_2 0 99).bind fun t106 => (some t106)) else (some false)) = some r := H
  have A4 := Aside0.mk A40
  clear A40
  by_cases c5 : t105 = true
  ·
   subst c5
   have H1 : ((spec_l1In.f a0_2 0 99).bind fun t106 => (some t106)) = some r := by rw [if_pos rfl] at H; exact H
   clear H
   have H := H1
   clear H1
   replace H := Option.bind_eq_some_iff.mp H
   obtain ⟨t106, A60, H⟩ := H
   replace H : (some t106) = some r := H
   have A6 := Aside0.mk A60
   clear A60
   obtain rfl := Option.some.inj H
   go_enter Tryd.func54, Tryd.ntmps54
   go_wp2_with (first | ((with_reducible refine gate_dst (N := 1) rfl ?_); refine box_event ?hg (N := 1) ?hd (cs := #[.string a0_0, .int .i64 a0_1, .int .i64 a0_2]) (t := 29) ?hr ?_; (case hd => rfl); (case hg => rfl); (case hr => first | (go_simp; done) | (go_simp; rfl)); intro gb103 hg w7 hbox hb; have BK103 := Aside0.mk (hbox); have GW103 := Aside0.mk ((bz_ hg (lb0_ HB.out))); have GE103 := Aside0.mk ((bz_ hg (lb0_ HB.out))); replace HB := Aside0.mk (below_step (lb0_ HB.out) hb); clear hb hbox hg; obtain ⟨hcz8_0, hcz8_1, hcz8_2⟩ := cz3_ BK103.out; obtain ⟨hfz8_0, hfz8_1, hfz8_2⟩ := fz3_ BK103.out) | ((with_reducible refine gate_callee (f := 94) rfl ?_); refine ga_ (some 5) Tryd.func94 #[.string a0_0] ?_; (with_reducible refine (spec_l2Word.calls k a0_0 true _ A2.out).mono ?_); rintro e w' ⟨rfl, ⟨nd, rfl⟩⟩; refine ⟨_, rfl, ?_⟩) | (go_at_call 71; (with_reducible refine (spec_l1In.calls a0_1 0 99 true _ A4.out).mono ?_); rintro e w' ⟨rfl, ⟨nd, rfl⟩⟩) | (go_at_call 71; (with_reducible refine (spec_l1In.calls a0_2 0 99 t106 _ A6.out).mono ?_); rintro e w' ⟨rfl, ⟨nd, rfl⟩⟩))
   go_ret
   exact ⟨rr_, lb1_ HB.out GE103.out⟩
  ·
   replace c5 := Bool.eq_false_iff.mpr c5
   subst c5
   have H1 : (some false) = some r := by rw [if_neg (show ¬ (false = true) by decide)] at H; exact H
   clear H
   have H := H1
   clear H1
   obtain rfl := Option.some.inj H
   go_enter Tryd.func54, Tryd.ntmps54
   go_wp2_with (first | ((with_reducible refine gate_dst (N := 1) rfl ?_); refine box_event ?hg (N := 1) ?hd (cs := #[.string a0_0, .int .i64 a0_1, .int .i64 a0_2]) (t := 29) ?hr ?_; (case hd => rfl); (case hg => rfl); (case hr => first | (go_simp; done) | (go_simp; rfl)); intro gb103 hg w9 hbox hb; have BK103 := Aside0.mk (hbox); have GW103 := Aside0.mk ((bz_ hg (lb0_ HB.out))); have GE103 := Aside0.mk ((bz_ hg (lb0_ HB.out))); replace HB := Aside0.mk (below_step (lb0_ HB.out) hb); clear hb hbox hg; obtain ⟨hcz10_0, hcz10_1, hcz10_2⟩ := cz3_ BK103.out; obtain ⟨hfz10_0, hfz10_1, hfz10_2⟩ := fz3_ BK103.out) | ((with_reducible refine gate_callee (f := 94) rfl ?_); refine ga_ (some 5) Tryd.func94 #[.string a0_0] ?_; (with_reducible refine (spec_l2Word.calls k a0_0 true _ A2.out).mono ?_); rintro e w' ⟨rfl, ⟨nd, rfl⟩⟩; refine ⟨_, rfl, ?_⟩) | (go_at_call 71; (with_reducible refine (spec_l1In.calls a0_1 0 99 false _ A4.out).mono ?_); rintro e w' ⟨rfl, ⟨nd, rfl⟩⟩))
   go_ret
   exact ⟨rr_, lb1_ HB.out GE103.out⟩
 ·
  replace c3 := Bool.eq_false_iff.mpr c3
  subst c3
  have H1 : (some false) = some r := by rw [if_neg (show ¬ (false = true) by decide)] at H; exact H
  clear H
  have H := H1
  clear H1
  obtain rfl := Option.some.inj H
  go_enter Tryd.func54, Tryd.ntmps54
  go_wp2_with (first | ((with_reducible refine gate_dst (N := 1) rfl ?_); refine box_event ?hg (N := 1) ?hd (cs := #[.string a0_0, .int .i64 a0_1, .int .i64 a0_2]) (t := 29) ?hr ?_; (case hd => rfl); (case hg => rfl); (case hr => first | (go_simp; done) | (go_simp; rfl)); intro gb103 hg w11 hbox hb; have BK103 := Aside0.mk (hbox); have GW103 := Aside0.mk ((bz_ hg (lb0_ HB.out))); have GE103 := Aside0.mk ((bz_ hg (lb0_ HB.out))); replace HB := Aside0.mk (below_step (lb0_ HB.out) hb); clear hb hbox hg; obtain ⟨hcz12_0, hcz12_1, hcz12_2⟩ := cz3_ BK103.out; obtain ⟨hfz12_0, hfz12_1, hfz12_2⟩ := fz3_ BK103.out) | ((with_reducible refine gate_callee (f := 94) rfl ?_); refine ga_ (some 5) Tryd.func94 #[.string a0_0] ?_; (with_reducible refine (spec_l2Word.calls k a0_0 false _ A2.out).mono ?_); rintro e w' ⟨rfl, ⟨nd, rfl⟩⟩; refine ⟨_, rfl, ?_⟩))
  go_ret
  exact ⟨rr_, lb1_ HB.out GE103.out⟩
def spec_l24Good.l0 : Nat → List (S29) → Int → Option (Bool)
 | 0, _, _ => none
 | k + 1, x0, x3 => if x3 < (x0.length : Int) then (if 0 ≤ x3 then ((spec_l24One.f k ((rd_T29 x0 x3).f0) ((rd_T29 x0 x3).f1) ((rd_T29 x0 x3).f2)).bind fun t160 => (if t160 = true then (spec_l24Good.l0 k x0 (wrap64 (x3 + 1))) else (some false))) else (none)) else (some (decide ((x0.length : Int) ≤ 6)))
def spec_l24Good.f (k : Nat) (l0 : List (S29)) : Option (Bool) := spec_l24Good.l0 k l0 0
set_option maxHeartbeats 8000000 in
set_option maxRecDepth 100000 in
theorem spec_l24Good.calls (k : Nat) (A0 : Option Addr) (c0 : Nat) (l0 : List (S29)) (r : Bool) (w : World) (hr0 : Kd.C k29 w A0 l0.length l0) (hc0 : l0.length ≤ c0) (h : spec_l24Good.f k l0 = some r) :
  Calls Tryd.prog 60 #[.slice A0 l0.length c0] w fun e w' => e = .returned (.bool r) ∧ Below w.heap.size w w' := by
 have hu29 := Tryd.underlying29
 have HR0 := Aside0.mk hr0
 have HC0 := Aside0.mk hc0
 clear hr0 hc0
 have HB := Aside0.mk (Below.refl w.heap.size w)
 have H : (spec_l24Good.l0 k l0 0) = some r := h
 clear h
 have H' := Aside0.mk H
 clear H
 go_enter Tryd.func60, Tryd.ntmps60
 go_wp2
 go_loopg [3] k (fun kq v3 w' => ∃ (x3_1 : Int), v3 = .int .i64 x3_1 ∧ Aside0 (spec_l24Good.l0 kq l0 x3_1 = some r) ∧ Aside0 (kq ≤ k) ∧ Aside0 (Below w.heap.size w w'))
 case atStart => exact ⟨(0), (by first | rfl | (simp; done) | (simp [*]; done)), H', ⟨Nat.le_refl _⟩, ⟨lb0_ HB.out⟩⟩
 case round =>
  clear H'
  obtain ⟨x3_1, rfl, HA, HK1, HB⟩ := hrel
  cases gk with
  | zero => exact absurd HA.out (by simp [spec_l24Good.l0])
  | succ k1 =>
   have H := HA.out
   clear HA
   simp only [spec_l24Good.l0] at H
   by_cases c2 : x3_1 < (l0.length : Int)
   ·
    rw [if_pos c2] at H
    have c2b0 : decide (x3_1 < (l0.length : Int)) = true := decide_eq_true c2
    clear c2
    by_cases c3 : 0 ≤ x3_1
    ·
     rw [if_pos c3] at H
     have c3b0 : decide (0 ≤ x3_1) = true := decide_eq_true c3
     clear c3
     replace H := Option.bind_eq_some_iff.mp H
     obtain ⟨t160, A40, H⟩ := H
     replace H : (if t160 = true then (spec_l24Good.l0 k1 l0 (wrap64 (x3_1 + 1))) else (some false)) = some r := H
     have A4 := Aside0.mk A40
     clear A40
     by_cases c5 : t160 = true
     ·
      subst c5
      have H1 : (spec_l24Good.l0 k1 l0 (wrap64 (x3_1 + 1))) = some r := by rw [if_pos rfl] at H; exact H
      clear H
      have H := H1
      clear H1
      have H' := Aside0.mk H
      clear H
      have p159 : 0 ≤ (x3_1 : Int) := dt_
      have q159 : x3_1 < (l0.length : Int) := dt_
      obtain ⟨ad159, e159, hx159_0, hx159_1, hx159_2⟩ := at_T29 HR0.out x3_1 p159 q159
      cases e159
      replace hx159_0 := bc_ HB.out hx159_0
      replace hx159_1 := bc_ HB.out hx159_1
      replace hx159_2 := bc_ HB.out hx159_2
      replace p159 := eq_true p159
      replace q159 := eq_true q159
      go_wp2_with (first | ((with_reducible refine gate_callee (f := 54) rfl ?_); refine ga_ (some 14) Tryd.func54 #[.agg #[.string ((rd_T29 l0 x3_1).f0), .int .i64 ((rd_T29 l0 x3_1).f1), .int .i64 ((rd_T29 l0 x3_1).f2)]] ?_; (with_reducible refine (spec_l24One.calls k1 ((rd_T29 l0 x3_1).f0) ((rd_T29 l0 x3_1).f1) ((rd_T29 l0 x3_1).f2) true _ A4.out).mono ?_); rintro e w6 ⟨rfl, hb⟩; refine ⟨_, rfl, ?_⟩; replace HB := Aside0.mk (below_step (lb0_ HB.out) hb); (try clear hb); (try clear hb2); (try clear hk); (try clear hi)))
      go_roundg k1
      case measure => have := HK1.out; omega
      case rel => exact ⟨(wrap64 (x3_1 + 1)), (by first | rfl | (simp; done) | (simp [*]; done)), H', ⟨by have := HK1.out; omega⟩, ⟨lb0_ HB.out⟩⟩
     ·
      replace c5 := Bool.eq_false_iff.mpr c5
      subst c5
      have H1 : (some false) = some r := by rw [if_neg (show ¬ (false = true) by decide)] at H; exact H
      clear H
      have H := H1
      clear H1
      obtain rfl := Option.some.inj H
      have p159 : 0 ≤ (x3_1 : Int) := dt_
      have q159 : x3_1 < (l0.length : Int) := dt_
      obtain ⟨ad159, e159, hx159_0, hx159_1, hx159_2⟩ := at_T29 HR0.out x3_1 p159 q159
      cases e159
      replace hx159_0 := bc_ HB.out hx159_0
      replace hx159_1 := bc_ HB.out hx159_1
      replace hx159_2 := bc_ HB.out hx159_2
      replace p159 := eq_true p159
      replace q159 := eq_true q159
      go_wp2_with (first | ((with_reducible refine gate_callee (f := 54) rfl ?_); refine ga_ (some 14) Tryd.func54 #[.agg #[.string ((rd_T29 l0 x3_1).f0), .int .i64 ((rd_T29 l0 x3_1).f1), .int .i64 ((rd_T29 l0 x3_1).f2)]] ?_; (with_reducible refine (spec_l24One.calls k1 ((rd_T29 l0 x3_1).f0) ((rd_T29 l0 x3_1).f1) ((rd_T29 l0 x3_1).f2) false _ A4.out).mono ?_); rintro e w7 ⟨rfl, hb⟩; refine ⟨_, rfl, ?_⟩; replace HB := Aside0.mk (below_step (lb0_ HB.out) hb); (try clear hb); (try clear hb2); (try clear hk); (try clear hi)))
      go_ret
      exact ⟨rr_, lb0_ HB.out⟩
    ·
     rw [if_neg c3] at H
     exact absurd H (by simp)
   ·
    rw [if_neg c2] at H
    have c2b0 : decide (x3_1 < (l0.length : Int)) = false := decide_eq_false c2
    clear c2
    obtain rfl := Option.some.inj H
    go_wp2
    go_ret
    exact ⟨rr_, lb0_ HB.out⟩
def spec_l24Box.f (a0_0 : ByteArray) (a0_1 : Int) (a0_2 : Int) (a1 : Int) : Option (Int × Int × Int × Int) :=
 some ((if a1 ≥ 2 then wrap64 (a0_1 - (a0_0.size : Int)) else wrap64 (a0_1 + 1)), (if Int.tmod a1 2 = 1 then wrap64 (a0_2 - 2) else wrap64 (a0_2 + 1)), (a0_0.size : Int), 2)
set_option maxHeartbeats 4000000 in
set_option maxRecDepth 100000 in
theorem spec_l24Box.calls (a0_0 : ByteArray) (a0_1 : Int) (a0_2 : Int) (a1 : Int) (r1 : Int) (r2 : Int) (r3 : Int) (r4 : Int) (w : World) (h : spec_l24Box.f a0_0 a0_1 a0_2 a1 = some (r1, r2, r3, r4)) :
  Calls Tryd.prog 56 #[.agg #[.string a0_0, .int .i64 a0_1, .int .i64 a0_2], .int .i64 a1] w fun e w' => e = .returned (.agg #[.int .i64 r1, .int .i64 r2, .int .i64 r3, .int .i64 r4]) ∧ Below w.heap.size w w' := by
 unfold spec_l24Box.f at h
 simp only [Option.some.injEq, Prod.mk.injEq] at h
 obtain ⟨h1, h2, rfl, rfl⟩ := h
 by_cases c3 : a1 ≥ 2
 ·
  rw [if_pos c3] at h1
  have b3 : decide (2 ≤ a1) = true := decide_eq_true c3
  clear c3
  by_cases c4 : Int.tmod a1 2 = 1
  ·
   rw [if_pos c4] at h2
   have b4 : (Int.tmod a1 2 == 1) = true := beq_iff_eq.mpr c4
   clear c4
   subst h1
   subst h2
   go_enter Tryd.func56, Tryd.ntmps56
   go_wp2_with fail
   exact bodyPost_ret (v := .agg #[.int .i64 (wrap64 (a0_1 - (a0_0.size : Int))), .int .i64 (wrap64 (a0_2 - 2)), .int .i64 (a0_0.size : Int), .int .i64 2]) (by simp [results, Tryd.results56, go_sem]) rfl ⟨rfl, below_alloc (below_alloc (below_alloc (Below.refl _ w) _) _) _⟩
  ·
   rw [if_neg c4] at h2
   have b4 : (Int.tmod a1 2 == 1) = false := beq_eq_false_iff_ne.mpr c4
   clear c4
   subst h1
   subst h2
   go_enter Tryd.func56, Tryd.ntmps56
   go_wp2_with fail
   exact bodyPost_ret (v := .agg #[.int .i64 (wrap64 (a0_1 - (a0_0.size : Int))), .int .i64 (wrap64 (a0_2 + 1)), .int .i64 (a0_0.size : Int), .int .i64 2]) (by simp [results, Tryd.results56, go_sem]) rfl ⟨rfl, below_alloc (below_alloc (below_alloc (Below.refl _ w) _) _) _⟩
 ·
  rw [if_neg c3] at h1
  have b3 : decide (2 ≤ a1) = false := decide_eq_false c3
  clear c3
  by_cases c4 : Int.tmod a1 2 = 1
  ·
   rw [if_pos c4] at h2
   have b4 : (Int.tmod a1 2 == 1) = true := beq_iff_eq.mpr c4
   clear c4
   subst h1
   subst h2
   go_enter Tryd.func56, Tryd.ntmps56
   go_wp2_with fail
   exact bodyPost_ret (v := .agg #[.int .i64 (wrap64 (a0_1 + 1)), .int .i64 (wrap64 (a0_2 - 2)), .int .i64 (a0_0.size : Int), .int .i64 2]) (by simp [results, Tryd.results56, go_sem]) rfl ⟨rfl, below_alloc (below_alloc (below_alloc (Below.refl _ w) _) _) _⟩
  ·
   rw [if_neg c4] at h2
   have b4 : (Int.tmod a1 2 == 1) = false := beq_eq_false_iff_ne.mpr c4
   clear c4
   subst h1
   subst h2
   go_enter Tryd.func56, Tryd.ntmps56
   go_wp2_with fail
   exact bodyPost_ret (v := .agg #[.int .i64 (wrap64 (a0_1 + 1)), .int .i64 (wrap64 (a0_2 + 1)), .int .i64 (a0_0.size : Int), .int .i64 2]) (by simp [results, Tryd.results56, go_sem]) rfl ⟨rfl, below_alloc (below_alloc (below_alloc (Below.refl _ w) _) _) _⟩
def spec_l24Meet.f (a0_0 : Int) (a0_1 : Int) (a0_2 : Int) (a0_3 : Int) (a1_0 : Int) (a1_1 : Int) (a1_2 : Int) (a1_3 : Int) : Option (Bool) := if a0_2 = 0 then (some false) else (if a0_3 = 0 then (some false) else (if a1_2 = 0 then (some false) else (if a1_3 = 0 then (some false) else (if a0_0 < (wrap64 (a1_0 + a1_2)) then (if a1_0 < (wrap64 (a0_0 + a0_2)) then (if a0_1 < (wrap64 (a1_1 + a1_3)) then (some (decide (a1_1 < (wrap64 (a0_1 + a0_3))))) else (some false)) else (some false)) else (some false)))))
set_option maxHeartbeats 8000000 in
set_option maxRecDepth 100000 in
theorem spec_l24Meet.calls (a0_0 : Int) (a0_1 : Int) (a0_2 : Int) (a0_3 : Int) (a1_0 : Int) (a1_1 : Int) (a1_2 : Int) (a1_3 : Int) (r : Bool) (w : World) (h : spec_l24Meet.f a0_0 a0_1 a0_2 a0_3 a1_0 a1_1 a1_2 a1_3 = some r) :
  Calls Tryd.prog 92 #[.agg #[.int .i64 a0_0, .int .i64 a0_1, .int .i64 a0_2, .int .i64 a0_3], .agg #[.int .i64 a1_0, .int .i64 a1_1, .int .i64 a1_2, .int .i64 a1_3]] w fun e w' => e = .returned (.bool r) ∧ Below w.heap.size w w' := by
 have hu26 := Tryd.underlying26
 have HB := Aside0.mk (Below.refl w.heap.size w)
 have H : (if a0_2 = 0 then (some false) else (if a0_3 = 0 then (some false) else (if a1_2 = 0 then (some false) else (if a1_3 = 0 then (some false) else (if a0_0 < (wrap64 (a1_0 + a1_2)) then (if a1_0 < (wrap64 (a0_0 + a0_2)) then (if a0_1 < (wrap64 (a1_1 + a1_3)) then (some (decide (a1_1 < (wrap64 (a0_1 + a0_3))))) else (some false)) else (some false)) else (some false)))))) = some r := h
 clear h
 by_cases c3 : a0_2 = 0
 ·
  rw [if_pos c3] at H
  have c3b0 : (a0_2 == 0) = true := beq_iff_eq.mpr c3
  have c3b1 : (a0_2 != 0) = false := bne_eq_false_iff_eq.mpr c3
  clear c3
  obtain rfl := Option.some.inj H
  go_enter Tryd.func92, Tryd.ntmps92
  go_wp2_with (first | ((with_reducible refine gate_dst (N := 2) rfl ?_); refine box_event ?hg (N := 2) ?hd (cs := #[.int .i64 a0_0, .int .i64 a0_1, .int .i64 a0_2, .int .i64 a0_3]) (t := 26) ?hr ?_; (case hd => rfl); (case hg => rfl); (case hr => first | (go_simp; done) | (go_simp; rfl)); intro gb188 hg w4 hbox hb; have BK188 := Aside0.mk (hbox); have GW188 := Aside0.mk ((bz_ hg (lb0_ HB.out))); have GE188 := Aside0.mk ((bz_ hg (lb0_ HB.out))); replace HB := Aside0.mk (below_step (lb0_ HB.out) hb); clear hb hbox hg) | ((with_reducible refine gate_dst (N := 3) rfl ?_); refine box_event ?hg (N := 3) ?hd (cs := #[.int .i64 a1_0, .int .i64 a1_1, .int .i64 a1_2, .int .i64 a1_3]) (t := 26) ?hr ?_; (case hd => rfl); (case hg => rfl); (case hr => first | (go_simp; done) | (go_simp; rfl)); intro gb189 hg w5 hbox hb; have BK189 := Aside0.mk (hbox); have GW189 := Aside0.mk ((bz_ hg (lb1_ HB.out GE188.out))); have GE189 := Aside0.mk ((bz_ hg (lb1_ HB.out GE188.out))); replace HB := Aside0.mk (below_step (lb1_ HB.out GE188.out) hb); have NB188_189 := Aside0.mk (nl_ hg BK188.out); have NB189_188 := Aside0.mk (ng_ hg BK188.out); replace BK188 := Aside0.mk (bb_ (bk_ BK188.out) hb); clear hb hbox hg; have hnb6 := NB188_189.out; have hnc6 := NB189_188.out; obtain ⟨hcz7_0, hcz7_1, hcz7_2, hcz7_3⟩ := cz4_ BK188.out; obtain ⟨hfz7_0, hfz7_1, hfz7_2, hfz7_3⟩ := fz4_ BK188.out))
  go_ret
  exact ⟨rr_, lb2_ HB.out GE188.out GE189.out⟩
 ·
  rw [if_neg c3] at H
  have c3b0 : (a0_2 == 0) = false := beq_eq_false_iff_ne.mpr c3
  have c3b1 : (a0_2 != 0) = true := bne_iff_ne.mpr c3
  by_cases c8 : a0_3 = 0
  ·
   rw [if_pos c8] at H
   have c8b0 : (a0_3 == 0) = true := beq_iff_eq.mpr c8
   have c8b1 : (a0_3 != 0) = false := bne_eq_false_iff_eq.mpr c8
   clear c8
   obtain rfl := Option.some.inj H
   go_enter Tryd.func92, Tryd.ntmps92
   go_wp2_with (first | ((with_reducible refine gate_dst (N := 2) rfl ?_); refine box_event ?hg (N := 2) ?hd (cs := #[.int .i64 a0_0, .int .i64 a0_1, .int .i64 a0_2, .int .i64 a0_3]) (t := 26) ?hr ?_; (case hd => rfl); (case hg => rfl); (case hr => first | (go_simp; done) | (go_simp; rfl)); intro gb188 hg w9 hbox hb; have BK188 := Aside0.mk (hbox); have GW188 := Aside0.mk ((bz_ hg (lb0_ HB.out))); have GE188 := Aside0.mk ((bz_ hg (lb0_ HB.out))); replace HB := Aside0.mk (below_step (lb0_ HB.out) hb); clear hb hbox hg) | ((with_reducible refine gate_dst (N := 3) rfl ?_); refine box_event ?hg (N := 3) ?hd (cs := #[.int .i64 a1_0, .int .i64 a1_1, .int .i64 a1_2, .int .i64 a1_3]) (t := 26) ?hr ?_; (case hd => rfl); (case hg => rfl); (case hr => first | (go_simp; done) | (go_simp; rfl)); intro gb189 hg w10 hbox hb; have BK189 := Aside0.mk (hbox); have GW189 := Aside0.mk ((bz_ hg (lb1_ HB.out GE188.out))); have GE189 := Aside0.mk ((bz_ hg (lb1_ HB.out GE188.out))); replace HB := Aside0.mk (below_step (lb1_ HB.out GE188.out) hb); have NB188_189 := Aside0.mk (nl_ hg BK188.out); have NB189_188 := Aside0.mk (ng_ hg BK188.out); replace BK188 := Aside0.mk (bb_ (bk_ BK188.out) hb); clear hb hbox hg; have hnb11 := NB188_189.out; have hnc11 := NB189_188.out; obtain ⟨hcz12_0, hcz12_1, hcz12_2, hcz12_3⟩ := cz4_ BK188.out; obtain ⟨hfz12_0, hfz12_1, hfz12_2, hfz12_3⟩ := fz4_ BK188.out))
   go_ret
   exact ⟨rr_, lb2_ HB.out GE188.out GE189.out⟩
  ·
   rw [if_neg c8] at H
   have c8b0 : (a0_3 == 0) = false := beq_eq_false_iff_ne.mpr c8
   have c8b1 : (a0_3 != 0) = true := bne_iff_ne.mpr c8
   by_cases c13 : a1_2 = 0
   ·
    rw [if_pos c13] at H
    have c13b0 : (a1_2 == 0) = true := beq_iff_eq.mpr c13
    have c13b1 : (a1_2 != 0) = false := bne_eq_false_iff_eq.mpr c13
    clear c13
    obtain rfl := Option.some.inj H
    go_enter Tryd.func92, Tryd.ntmps92
    go_wp2_with (first | ((with_reducible refine gate_dst (N := 2) rfl ?_); refine box_event ?hg (N := 2) ?hd (cs := #[.int .i64 a0_0, .int .i64 a0_1, .int .i64 a0_2, .int .i64 a0_3]) (t := 26) ?hr ?_; (case hd => rfl); (case hg => rfl); (case hr => first | (go_simp; done) | (go_simp; rfl)); intro gb188 hg w14 hbox hb; have BK188 := Aside0.mk (hbox); have GW188 := Aside0.mk ((bz_ hg (lb0_ HB.out))); have GE188 := Aside0.mk ((bz_ hg (lb0_ HB.out))); replace HB := Aside0.mk (below_step (lb0_ HB.out) hb); clear hb hbox hg) | ((with_reducible refine gate_dst (N := 3) rfl ?_); refine box_event ?hg (N := 3) ?hd (cs := #[.int .i64 a1_0, .int .i64 a1_1, .int .i64 a1_2, .int .i64 a1_3]) (t := 26) ?hr ?_; (case hd => rfl); (case hg => rfl); (case hr => first | (go_simp; done) | (go_simp; rfl)); intro gb189 hg w15 hbox hb; have BK189 := Aside0.mk (hbox); have GW189 := Aside0.mk ((bz_ hg (lb1_ HB.out GE188.out))); have GE189 := Aside0.mk ((bz_ hg (lb1_ HB.out GE188.out))); replace HB := Aside0.mk (below_step (lb1_ HB.out GE188.out) hb); have NB188_189 := Aside0.mk (nl_ hg BK188.out); have NB189_188 := Aside0.mk (ng_ hg BK188.out); replace BK188 := Aside0.mk (bb_ (bk_ BK188.out) hb); clear hb hbox hg; have hnb16 := NB188_189.out; have hnc16 := NB189_188.out; obtain ⟨hcz17_0, hcz17_1, hcz17_2, hcz17_3⟩ := cz4_ BK188.out; obtain ⟨hfz17_0, hfz17_1, hfz17_2, hfz17_3⟩ := fz4_ BK188.out; obtain ⟨hcz18_0, hcz18_1, hcz18_2, hcz18_3⟩ := cz4_ BK189.out; obtain ⟨hfz18_0, hfz18_1, hfz18_2, hfz18_3⟩ := fz4_ BK189.out))
    go_ret
    exact ⟨rr_, lb2_ HB.out GE188.out GE189.out⟩
   ·
    rw [if_neg c13] at H
    have c13b0 : (a1_2 == 0) = false := beq_eq_false_iff_ne.mpr c13
    have c13b1 : (a1_2 != 0) = true := bne_iff_ne.mpr c13
    by_cases c19 : a1_3 = 0
    ·
     rw [if_pos c19] at H
     have c19b0 : (a1_3 == 0) = true := beq_iff_eq.mpr c19
     have c19b1 : (a1_3 != 0) = false := bne_eq_false_iff_eq.mpr c19
     clear c19
     obtain rfl := Option.some.inj H
     go_enter Tryd.func92, Tryd.ntmps92
     go_wp2_with (first | ((with_reducible refine gate_dst (N := 2) rfl ?_); refine box_event ?hg (N := 2) ?hd (cs := #[.int .i64 a0_0, .int .i64 a0_1, .int .i64 a0_2, .int .i64 a0_3]) (t := 26) ?hr ?_; (case hd => rfl); (case hg => rfl); (case hr => first | (go_simp; done) | (go_simp; rfl)); intro gb188 hg w20 hbox hb; have BK188 := Aside0.mk (hbox); have GW188 := Aside0.mk ((bz_ hg (lb0_ HB.out))); have GE188 := Aside0.mk ((bz_ hg (lb0_ HB.out))); replace HB := Aside0.mk (below_step (lb0_ HB.out) hb); clear hb hbox hg) | ((with_reducible refine gate_dst (N := 3) rfl ?_); refine box_event ?hg (N := 3) ?hd (cs := #[.int .i64 a1_0, .int .i64 a1_1, .int .i64 a1_2, .int .i64 a1_3]) (t := 26) ?hr ?_; (case hd => rfl); (case hg => rfl); (case hr => first | (go_simp; done) | (go_simp; rfl)); intro gb189 hg w21 hbox hb; have BK189 := Aside0.mk (hbox); have GW189 := Aside0.mk ((bz_ hg (lb1_ HB.out GE188.out))); have GE189 := Aside0.mk ((bz_ hg (lb1_ HB.out GE188.out))); replace HB := Aside0.mk (below_step (lb1_ HB.out GE188.out) hb); have NB188_189 := Aside0.mk (nl_ hg BK188.out); have NB189_188 := Aside0.mk (ng_ hg BK188.out); replace BK188 := Aside0.mk (bb_ (bk_ BK188.out) hb); clear hb hbox hg; have hnb22 := NB188_189.out; have hnc22 := NB189_188.out; obtain ⟨hcz23_0, hcz23_1, hcz23_2, hcz23_3⟩ := cz4_ BK188.out; obtain ⟨hfz23_0, hfz23_1, hfz23_2, hfz23_3⟩ := fz4_ BK188.out; obtain ⟨hcz24_0, hcz24_1, hcz24_2, hcz24_3⟩ := cz4_ BK189.out; obtain ⟨hfz24_0, hfz24_1, hfz24_2, hfz24_3⟩ := fz4_ BK189.out))
     go_ret
     exact ⟨rr_, lb2_ HB.out GE188.out GE189.out⟩
    ·
     rw [if_neg c19] at H
     have c19b0 : (a1_3 == 0) = false := beq_eq_false_iff_ne.mpr c19
     have c19b1 : (a1_3 != 0) = true := bne_iff_ne.mpr c19
     by_cases c25 : a0_0 < (wrap64 (a1_0 + a1_2))
     ·
      rw [if_pos c25] at H
      have c25b0 : decide (a0_0 < (wrap64 (a1_0 + a1_2))) = true := decide_eq_true c25
      clear c25
      by_cases c26 : a1_0 < (wrap64 (a0_0 + a0_2))
      ·
       rw [if_pos c26] at H
       have c26b0 : decide (a1_0 < (wrap64 (a0_0 + a0_2))) = true := decide_eq_true c26
       clear c26
       by_cases c27 : a0_1 < (wrap64 (a1_1 + a1_3))
       ·
        rw [if_pos c27] at H
        have c27b0 : decide (a0_1 < (wrap64 (a1_1 + a1_3))) = true := decide_eq_true c27; clear c27; obtain rfl := Option.some.inj H
        go_enter Tryd.func92, Tryd.ntmps92
        go_wp2_with (first | ((with_reducible refine gate_dst (N := 2) rfl ?_); refine box_event ?hg (N := 2) ?hd (cs := #[.int .i64 a0_0, .int .i64 a0_1, .int .i64 a0_2, .int .i64 a0_3]) (t := 26) ?hr ?_; (case hd => rfl); (case hg => rfl); (case hr => first | (go_simp; done) | (go_simp; rfl)); intro gb188 hg w28 hbox hb; have BK188 := Aside0.mk (hbox); have GW188 := Aside0.mk ((bz_ hg (lb0_ HB.out))); have GE188 := Aside0.mk ((bz_ hg (lb0_ HB.out))); replace HB := Aside0.mk (below_step (lb0_ HB.out) hb); clear hb hbox hg) | ((with_reducible refine gate_dst (N := 3) rfl ?_); refine box_event ?hg (N := 3) ?hd (cs := #[.int .i64 a1_0, .int .i64 a1_1, .int .i64 a1_2, .int .i64 a1_3]) (t := 26) ?hr ?_; (case hd => rfl); (case hg => rfl); (case hr => first | (go_simp; done) | (go_simp; rfl)); intro gb189 hg w29 hbox hb; have BK189 := Aside0.mk (hbox); have GW189 := Aside0.mk ((bz_ hg (lb1_ HB.out GE188.out))); have GE189 := Aside0.mk ((bz_ hg (lb1_ HB.out GE188.out))); replace HB := Aside0.mk (below_step (lb1_ HB.out GE188.out) hb); have NB188_189 := Aside0.mk (nl_ hg BK188.out); have NB189_188 := Aside0.mk (ng_ hg BK188.out); replace BK188 := Aside0.mk (bb_ (bk_ BK188.out) hb); clear hb hbox hg; have hnb30 := NB188_189.out; have hnc30 := NB189_188.out; obtain ⟨hcz31_0, hcz31_1, hcz31_2, hcz31_3⟩ := cz4_ BK188.out; obtain ⟨hfz31_0, hfz31_1, hfz31_2, hfz31_3⟩ := fz4_ BK188.out; obtain ⟨hcz32_0, hcz32_1, hcz32_2, hcz32_3⟩ := cz4_ BK189.out; obtain ⟨hfz32_0, hfz32_1, hfz32_2, hfz32_3⟩ := fz4_ BK189.out))
        go_ret
        exact ⟨rr_, lb2_ HB.out GE188.out GE189.out⟩
       ·
        rw [if_neg c27] at H
        have c27b0 : decide (a0_1 < (wrap64 (a1_1 + a1_3))) = false := decide_eq_false c27; clear c27; obtain rfl := Option.some.inj H
        go_enter Tryd.func92, Tryd.ntmps92
        go_wp2_with (first | ((with_reducible refine gate_dst (N := 2) rfl ?_); refine box_event ?hg (N := 2) ?hd (cs := #[.int .i64 a0_0, .int .i64 a0_1, .int .i64 a0_2, .int .i64 a0_3]) (t := 26) ?hr ?_; (case hd => rfl); (case hg => rfl); (case hr => first | (go_simp; done) | (go_simp; rfl)); intro gb188 hg w33 hbox hb; have BK188 := Aside0.mk (hbox); have GW188 := Aside0.mk ((bz_ hg (lb0_ HB.out))); have GE188 := Aside0.mk ((bz_ hg (lb0_ HB.out))); replace HB := Aside0.mk (below_step (lb0_ HB.out) hb); clear hb hbox hg) | ((with_reducible refine gate_dst (N := 3) rfl ?_); refine box_event ?hg (N := 3) ?hd (cs := #[.int .i64 a1_0, .int .i64 a1_1, .int .i64 a1_2, .int .i64 a1_3]) (t := 26) ?hr ?_; (case hd => rfl); (case hg => rfl); (case hr => first | (go_simp; done) | (go_simp; rfl)); intro gb189 hg w34 hbox hb; have BK189 := Aside0.mk (hbox); have GW189 := Aside0.mk ((bz_ hg (lb1_ HB.out GE188.out))); have GE189 := Aside0.mk ((bz_ hg (lb1_ HB.out GE188.out))); replace HB := Aside0.mk (below_step (lb1_ HB.out GE188.out) hb); have NB188_189 := Aside0.mk (nl_ hg BK188.out); have NB189_188 := Aside0.mk (ng_ hg BK188.out); replace BK188 := Aside0.mk (bb_ (bk_ BK188.out) hb); clear hb hbox hg; have hnb35 := NB188_189.out; have hnc35 := NB189_188.out; obtain ⟨hcz36_0, hcz36_1, hcz36_2, hcz36_3⟩ := cz4_ BK188.out; obtain ⟨hfz36_0, hfz36_1, hfz36_2, hfz36_3⟩ := fz4_ BK188.out; obtain ⟨hcz37_0, hcz37_1, hcz37_2, hcz37_3⟩ := cz4_ BK189.out; obtain ⟨hfz37_0, hfz37_1, hfz37_2, hfz37_3⟩ := fz4_ BK189.out))
        go_ret
        exact ⟨rr_, lb2_ HB.out GE188.out GE189.out⟩
      ·
       rw [if_neg c26] at H
       have c26b0 : decide (a1_0 < (wrap64 (a0_0 + a0_2))) = false := decide_eq_false c26
       clear c26
       obtain rfl := Option.some.inj H
       go_enter Tryd.func92, Tryd.ntmps92
       go_wp2_with (first | ((with_reducible refine gate_dst (N := 2) rfl ?_); refine box_event ?hg (N := 2) ?hd (cs := #[.int .i64 a0_0, .int .i64 a0_1, .int .i64 a0_2, .int .i64 a0_3]) (t := 26) ?hr ?_; (case hd => rfl); (case hg => rfl); (case hr => first | (go_simp; done) | (go_simp; rfl)); intro gb188 hg w38 hbox hb; have BK188 := Aside0.mk (hbox); have GW188 := Aside0.mk ((bz_ hg (lb0_ HB.out))); have GE188 := Aside0.mk ((bz_ hg (lb0_ HB.out))); replace HB := Aside0.mk (below_step (lb0_ HB.out) hb); clear hb hbox hg) | ((with_reducible refine gate_dst (N := 3) rfl ?_); refine box_event ?hg (N := 3) ?hd (cs := #[.int .i64 a1_0, .int .i64 a1_1, .int .i64 a1_2, .int .i64 a1_3]) (t := 26) ?hr ?_; (case hd => rfl); (case hg => rfl); (case hr => first | (go_simp; done) | (go_simp; rfl)); intro gb189 hg w39 hbox hb; have BK189 := Aside0.mk (hbox); have GW189 := Aside0.mk ((bz_ hg (lb1_ HB.out GE188.out))); have GE189 := Aside0.mk ((bz_ hg (lb1_ HB.out GE188.out))); replace HB := Aside0.mk (below_step (lb1_ HB.out GE188.out) hb); have NB188_189 := Aside0.mk (nl_ hg BK188.out); have NB189_188 := Aside0.mk (ng_ hg BK188.out); replace BK188 := Aside0.mk (bb_ (bk_ BK188.out) hb); clear hb hbox hg; have hnb40 := NB188_189.out; have hnc40 := NB189_188.out; obtain ⟨hcz41_0, hcz41_1, hcz41_2, hcz41_3⟩ := cz4_ BK188.out; obtain ⟨hfz41_0, hfz41_1, hfz41_2, hfz41_3⟩ := fz4_ BK188.out; obtain ⟨hcz42_0, hcz42_1, hcz42_2, hcz42_3⟩ := cz4_ BK189.out; obtain ⟨hfz42_0, hfz42_1, hfz42_2, hfz42_3⟩ := fz4_ BK189.out))
       go_ret
       exact ⟨rr_, lb2_ HB.out GE188.out GE189.out⟩
     ·
      rw [if_neg c25] at H
      have c25b0 : decide (a0_0 < (wrap64 (a1_0 + a1_2))) = false := decide_eq_false c25
      clear c25
      obtain rfl := Option.some.inj H
      go_enter Tryd.func92, Tryd.ntmps92
      go_wp2_with (first | ((with_reducible refine gate_dst (N := 2) rfl ?_); refine box_event ?hg (N := 2) ?hd (cs := #[.int .i64 a0_0, .int .i64 a0_1, .int .i64 a0_2, .int .i64 a0_3]) (t := 26) ?hr ?_; (case hd => rfl); (case hg => rfl); (case hr => first | (go_simp; done) | (go_simp; rfl)); intro gb188 hg w43 hbox hb; have BK188 := Aside0.mk (hbox); have GW188 := Aside0.mk ((bz_ hg (lb0_ HB.out))); have GE188 := Aside0.mk ((bz_ hg (lb0_ HB.out))); replace HB := Aside0.mk (below_step (lb0_ HB.out) hb); clear hb hbox hg) | ((with_reducible refine gate_dst (N := 3) rfl ?_); refine box_event ?hg (N := 3) ?hd (cs := #[.int .i64 a1_0, .int .i64 a1_1, .int .i64 a1_2, .int .i64 a1_3]) (t := 26) ?hr ?_; (case hd => rfl); (case hg => rfl); (case hr => first | (go_simp; done) | (go_simp; rfl)); intro gb189 hg w44 hbox hb; have BK189 := Aside0.mk (hbox); have GW189 := Aside0.mk ((bz_ hg (lb1_ HB.out GE188.out))); have GE189 := Aside0.mk ((bz_ hg (lb1_ HB.out GE188.out))); replace HB := Aside0.mk (below_step (lb1_ HB.out GE188.out) hb); have NB188_189 := Aside0.mk (nl_ hg BK188.out); have NB189_188 := Aside0.mk (ng_ hg BK188.out); replace BK188 := Aside0.mk (bb_ (bk_ BK188.out) hb); clear hb hbox hg; have hnb45 := NB188_189.out; have hnc45 := NB189_188.out; obtain ⟨hcz46_0, hcz46_1, hcz46_2, hcz46_3⟩ := cz4_ BK188.out; obtain ⟨hfz46_0, hfz46_1, hfz46_2, hfz46_3⟩ := fz4_ BK188.out; obtain ⟨hcz47_0, hcz47_1, hcz47_2, hcz47_3⟩ := cz4_ BK189.out; obtain ⟨hfz47_0, hfz47_1, hfz47_2, hfz47_3⟩ := fz4_ BK189.out))
      go_ret
      exact ⟨rr_, lb2_ HB.out GE188.out GE189.out⟩
def spec_l24Free.l0 : Nat → List (S29) → Int → Int → Int → Int → Int → Option (Bool)
 | 0, _, _, _, _, _, _ => none
 | k + 1, x0, x5, x191000, x191001, x191002, x191003 => if x5 < (x0.length : Int) then (if 0 ≤ x5 then ((spec_l24Meet.f x191000 x191001 x191002 x191003 ((rd_T29 x0 x5).f1) ((rd_T29 x0 x5).f2) 1 1).bind fun t193 => (if t193 = true then (some false) else (spec_l24Free.l0 k x0 (wrap64 (x5 + 1)) x191000 x191001 x191002 x191003))) else (none)) else (if x191000 ≥ 0 then (if x191001 ≥ 0 then (if (wrap64 (x191000 + x191002)) ≤ 100 then (some (decide ((wrap64 (x191001 + x191003)) ≤ 100))) else (some false)) else (some false)) else (some false))
def spec_l24Free.f (k : Nat) (l0 : List (S29)) (a1_0 : Int) (a1_1 : Int) (a1_2 : Int) (a1_3 : Int) : Option (Bool) := spec_l24Free.l0 k l0 0 a1_0 a1_1 a1_2 a1_3
def spec_l24Free.T4 : Bool × List (List Nat × List Nat) := (true, [([], []), ([], []), ([], []), ([1, 2], [1, 2]), ([3], [3]), ([4], [4]), ([], []), ([], []), ([6, 7], [6, 7]), ([8], [8]), ([9], [9]), ([5, 10], [5, 10]), ([0, 11], [0, 11])])
def spec_l24Free.B4 : List Nat := [0, 0, 0, 6, 14, 30, 0, 0, 192, 448, 960, 2046, 4095]
theorem spec_l24Free.tab4 : rtab .any (opsOf Tryd.f97 4) = spec_l24Free.T4 := by kernel_rfl
theorem spec_l24Free.bits4 : waitsOk spec_l24Free.T4.2 spec_l24Free.B4 = true := by kernel_rfl
abbrev spec_l24Free.mk0 : Array Bool := #[fF,fF,fF,fF,fF,fF,fF,fF,fF,fF,fF,fF,fF]
abbrev spec_l24Free.mk1 : Array Bool := #[fF,tT,fF,fF,fF,fF,fF,fF,fF,fF,fF,fF,fF]
abbrev spec_l24Free.mk2 : Array Bool := #[fF,tT,tT,fF,fF,fF,fF,fF,fF,fF,fF,fF,fF]
abbrev spec_l24Free.mk3 : Array Bool := #[fF,tT,tT,tT,fF,fF,fF,fF,fF,fF,fF,fF,fF]
abbrev spec_l24Free.mk4 : Array Bool := #[fF,tT,tT,tT,tT,fF,fF,fF,fF,fF,fF,fF,fF]
abbrev spec_l24Free.mk5 : Array Bool := #[fF,tT,tT,tT,tT,fF,tT,fF,fF,fF,fF,fF,fF]
abbrev spec_l24Free.mk6 : Array Bool := #[fF,tT,tT,tT,tT,fF,tT,tT,fF,fF,fF,fF,fF]
abbrev spec_l24Free.mk7 : Array Bool := #[fF,tT,tT,tT,tT,fF,tT,tT,tT,fF,fF,fF,fF]
abbrev spec_l24Free.mk8 : Array Bool := #[fF,tT,tT,tT,tT,fF,tT,tT,tT,tT,fF,fF,fF]
abbrev spec_l24Free.mk9 : Array Bool := #[tT,tT,tT,tT,tT,fF,tT,tT,tT,tT,fF,fF,fF]
abbrev spec_l24Free.mk10 : Array Bool := #[tT,tT,tT,tT,tT,tT,tT,tT,tT,tT,fF,fF,fF]
abbrev spec_l24Free.mk11 : Array Bool := #[tT,tT,tT,tT,tT,tT,tT,tT,tT,tT,tT,fF,fF]
abbrev spec_l24Free.mk12 : Array Bool := #[tT,tT,tT,tT,tT,tT,tT,tT,tT,tT,tT,tT,fF]
abbrev spec_l24Free.mk13 : Array Bool := #[tT,tT,tT,tT,tT,tT,tT,tT,tT,tT,tT,tT,tT]
set_option maxHeartbeats 8000000 in
set_option maxRecDepth 100000 in
theorem spec_l24Free.calls (k : Nat) (A0 : Option Addr) (c0 : Nat) (l0 : List (S29)) (a1_0 : Int) (a1_1 : Int) (a1_2 : Int) (a1_3 : Int) (r : Bool) (w : World) (hr0 : Kd.C k29 w A0 l0.length l0) (hc0 : l0.length ≤ c0) (h : spec_l24Free.f k l0 a1_0 a1_1 a1_2 a1_3 = some r) :
  Calls Tryd.prog 97 #[.slice A0 l0.length c0, .agg #[.int .i64 a1_0, .int .i64 a1_1, .int .i64 a1_2, .int .i64 a1_3]] w fun e w' => e = .returned (.bool r) ∧ Below w.heap.size w w' := by
 have hu26 := Tryd.underlying26
 have HR0 := Aside0.mk hr0
 have HC0 := Aside0.mk hc0
 clear hr0 hc0
 have HB := Aside0.mk (Below.refl w.heap.size w)
 have H : (spec_l24Free.l0 k l0 0 a1_0 a1_1 a1_2 a1_3) = some r := h
 clear h
 have H' := Aside0.mk H
 clear H
 go_enter Tryd.func97, Tryd.ntmps97
 go_wp2_with (first | ((with_reducible refine gate_dst (N := 3) rfl ?_); refine box_event ?hg (N := 3) ?hd (cs := #[.int .i64 a1_0, .int .i64 a1_1, .int .i64 a1_2, .int .i64 a1_3]) (t := 26) ?hr ?_; (case hd => rfl); (case hg => rfl); (case hr => first | (go_simp; done) | (go_simp; rfl)); intro gb190 hg w3 hbox hb; have BK190 := Aside0.mk (hbox); have GW190 := Aside0.mk ((bz_ hg (lb0_ HB.out))); have GE190 := Aside0.mk ((bz_ hg (lb0_ HB.out))); replace HB := Aside0.mk (below_step (lb0_ HB.out) hb); clear hb hbox hg))
 go_loopg [5] k (fun kq v5 w' => ∃ (x5_1 : Int), v5 = .int .i64 x5_1 ∧ Aside0 (spec_l24Free.l0 kq l0 x5_1 a1_0 a1_1 a1_2 a1_3 = some r) ∧ Aside0 (kq ≤ k) ∧ Aside0 (w'.heap[gb190]? = some (.cells #[.int .i64 a1_0, .int .i64 a1_1, .int .i64 a1_2, .int .i64 a1_3] 26 (0, 0))) ∧ Aside0 (Below w.heap.size w w'))
 case atStart => exact ⟨(0), (by first | rfl | (simp; done) | (simp [*]; done)), H', ⟨Nat.le_refl _⟩, ⟨bk_ BK190.out⟩, ⟨lb1_ HB.out GE190.out⟩⟩
 case round =>
  clear H'
  try clear p2
  obtain ⟨x5_1, rfl, HA, HK1, BK190, HB⟩ := hrel
  cases gk with
  | zero => exact absurd HA.out (by simp [spec_l24Free.l0])
  | succ k1 =>
   have H := HA.out
   clear HA
   simp only [spec_l24Free.l0] at H
   by_cases c4 : x5_1 < (l0.length : Int)
   ·
    rw [if_pos c4] at H
    have c4b0 : decide (x5_1 < (l0.length : Int)) = true := decide_eq_true c4
    clear c4
    by_cases c5 : 0 ≤ x5_1
    ·
     rw [if_pos c5] at H
     have c5b0 : decide (0 ≤ x5_1) = true := decide_eq_true c5
     clear c5
     replace H := Option.bind_eq_some_iff.mp H
     obtain ⟨t193, A60, H⟩ := H
     replace H : (if t193 = true then (some false) else (spec_l24Free.l0 k1 l0 (wrap64 (x5_1 + 1)) a1_0 a1_1 a1_2 a1_3)) = some r := H
     have A6 := Aside0.mk A60
     clear A60
     by_cases c7 : t193 = true
     ·
      subst c7
      have H1 : (some false) = some r := by rw [if_pos rfl] at H; exact H
      clear H
      have H := H1
      clear H1
      obtain rfl := Option.some.inj H
      try go_wp2
      replace BK190 := Aside0.mk (blk_drew BK190.out)
      replace HB := Aside0.mk (below_drew1 HB.out)
      have p191 : 0 ≤ (x5_1 : Int) := dt_
      have q191 : x5_1 < (l0.length : Int) := dt_
      obtain ⟨ad191, e191, hx191_0, hx191_1, hx191_2⟩ := at_T29 HR0.out x5_1 p191 q191
      have hw191_2 := hx191_2
      have hw191_1 := hx191_1
      have hw191_0 := hx191_0
      cases e191
      replace hx191_0 := bc_ HB.out hx191_0
      replace hx191_1 := bc_ HB.out hx191_1
      replace hx191_2 := bc_ HB.out hx191_2
      replace p191 := eq_true p191
      replace q191 := eq_true q191
      have p192 : 0 ≤ (x5_1 : Int) := dt_
      have q192 : x5_1 < (l0.length : Int) := dt_
      obtain ⟨ad192, e192, hx192_0, hx192_1, hx192_2⟩ := at_T29 HR0.out x5_1 p192 q192
      have hw192_2 := hx192_2
      have hw192_1 := hx192_1
      have hw192_0 := hx192_0
      obtain rfl : ad191 = ad192 := (by injection e192)
      replace hx192_0 := bc_ HB.out hx192_0
      replace hx192_1 := bc_ HB.out hx192_1
      replace hx192_2 := bc_ HB.out hx192_2
      replace p192 := eq_true p192
      replace q192 := eq_true q192
      refine start_ (n := 13) (S := fun w' => w'.cell? ⟨gb190, 0, none⟩ = some (.int .i64 a1_0) ∧ w'.cell? ⟨gb190, 1, none⟩ = some (.int .i64 a1_1) ∧ w'.cell? ⟨gb190, 2, none⟩ = some (.int .i64 a1_2) ∧ w'.cell? ⟨gb190, 3, none⟩ = some (.int .i64 a1_3) ∧ w'.cell? (ad191.add ((x5_1).toNat * 3)) = some (.string ((rd_T29 l0 x5_1).f0)) ∧ w'.cell? ⟨(ad191.add ((x5_1).toNat * 3)).block, (ad191.add ((x5_1).toNat * 3)).off + 1, none⟩ = some (.int .i64 ((rd_T29 l0 x5_1).f1)) ∧ w'.cell? ⟨(ad191.add ((x5_1).toNat * 3)).block, (ad191.add ((x5_1).toNat * 3)).off + 2, none⟩ = some (.int .i64 ((rd_T29 l0 x5_1).f2)) ∧ w'.cell? (ad191.add ((x5_1).toNat * 3)) = some (.string ((rd_T29 l0 x5_1).f0)) ∧ w'.cell? ⟨(ad191.add ((x5_1).toNat * 3)).block, (ad191.add ((x5_1).toNat * 3)).off + 1, none⟩ = some (.int .i64 ((rd_T29 l0 x5_1).f1)) ∧ w'.cell? ⟨(ad191.add ((x5_1).toNat * 3)).block, (ad191.add ((x5_1).toNat * 3)).off + 2, none⟩ = some (.int .i64 ((rd_T29 l0 x5_1).f2))) (ds := []) spec_l24Free.mk0 (by kernel_rfl) rfl rfl ⟨(blk_cell BK190.out 0).trans rfl, (blk_cell BK190.out 1).trans rfl, (blk_cell BK190.out 2).trans rfl, (blk_cell BK190.out 3).trans rfl, (bc_ HB.out hw191_0), (bc_ HB.out hw191_1), (bc_ HB.out hw191_2), (bc_ HB.out hw192_0), (bc_ HB.out hw192_1), (bc_ HB.out hw192_2)⟩ (fun hHeld => ?_); refine with_tabW spec_l24Free.tab4 spec_l24Free.bits4 (fun HT_ HW_ => ?_)
      generalize wr.drew = w8 at BK190 HB hx191_0 hx191_1 hx191_2 hx192_0 hx192_1 hx192_2 hHeld ⊢
      refine pz_ HT_ 1 (some 13) spec_l24Free.mk1 ?_
      refine pz_ HT_ 2 (some 14) spec_l24Free.mk2 ?_
      refine pz_ HT_ 3 (some 15) spec_l24Free.mk3 ?_
      refine pz_ HT_ 4 (some 16) spec_l24Free.mk4 ?_
      refine pz_ HT_ 6 (some 18) spec_l24Free.mk5 ?_
      refine pz_ HT_ 7 (some 19) spec_l24Free.mk6 ?_
      refine pz_ HT_ 8 (some 20) spec_l24Free.mk7 ?_
      refine pz_ HT_ 9 (some 21) spec_l24Free.mk8 ?_
      refine tk_ HT_ HW_ hHeld 0 (some 12) spec_l24Free.mk9 ?_
      refine tk_ HT_ HW_ hHeld 5 (some 17) spec_l24Free.mk10 ?_
      refine tk_ HT_ HW_ hHeld 10 (some 22) spec_l24Free.mk11 ?_
      refine pz_ HT_ 11 (some 23) spec_l24Free.mk12 ?_
      refine one_ (i := 12) (N := some 24) spec_l24Free.mk13 rfl rfl (one_of HT_.out (by kernel_rfl)) (by decide) (fun K hK => ?_)
      refine gs_ Tryd.func92 #[.agg #[.int .i64 a1_0, .int .i64 a1_1, .int .i64 a1_2, .int .i64 a1_3], .agg #[.int .i64 ((rd_T29 l0 x5_1).f1), .int .i64 ((rd_T29 l0 x5_1).f2), .int .i64 1, .int .i64 1]] ?_
      with_reducible refine (spec_l24Meet.calls a1_0 a1_1 a1_2 a1_3 ((rd_T29 l0 x5_1).f1) ((rd_T29 l0 x5_1).f2) 1 1 true _ A6.out).mono ?_
      rintro e w9 ⟨rfl, hb⟩
      refine ⟨_, rfl, ?_⟩
      replace BK190 := Aside0.mk (bb_ (bk_ BK190.out) hb)
      replace HB := Aside0.mk (below_step (lb1_ HB.out GE190.out) hb)
      (try clear hb)
      (try clear hb2)
      (try clear hk)
      (try clear hi)
      refine hK.out _ _ ⟨(blk_cell BK190.out 0).trans rfl, (blk_cell BK190.out 1).trans rfl, (blk_cell BK190.out 2).trans rfl, (blk_cell BK190.out 3).trans rfl, ((HB.out.cell (World.block_lt_of_cell? w _ hw191_0)).trans hw191_0), ((HB.out.cell (World.block_lt_of_cell? w _ hw191_1)).trans hw191_1), ((HB.out.cell (World.block_lt_of_cell? w _ hw191_2)).trans hw191_2), ((HB.out.cell (World.block_lt_of_cell? w _ hw192_0)).trans hw192_0), ((HB.out.cell (World.block_lt_of_cell? w _ hw192_1)).trans hw192_1), ((HB.out.cell (World.block_lt_of_cell? w _ hw192_2)).trans hw192_2)⟩ (fun hHeld => ?_)
      clear hK K
      refine na_ ?_
      refine done_ (done_of HT_.out (by kernel_rfl)) ?_
      try go_wp2
      go_ret
      exact ⟨rr_, lb1_ HB.out GE190.out⟩
     ·
      replace c7 := Bool.eq_false_iff.mpr c7
      subst c7
      have H1 : (spec_l24Free.l0 k1 l0 (wrap64 (x5_1 + 1)) a1_0 a1_1 a1_2 a1_3) = some r := by rw [if_neg (show ¬ (false = true) by decide)] at H; exact H
      clear H
      have H := H1
      clear H1
      have H' := Aside0.mk H
      clear H
      try go_wp2
      replace BK190 := Aside0.mk (blk_drew BK190.out)
      replace HB := Aside0.mk (below_drew1 HB.out)
      have p191 : 0 ≤ (x5_1 : Int) := dt_
      have q191 : x5_1 < (l0.length : Int) := dt_
      obtain ⟨ad191, e191, hx191_0, hx191_1, hx191_2⟩ := at_T29 HR0.out x5_1 p191 q191
      have hw191_2 := hx191_2
      have hw191_1 := hx191_1
      have hw191_0 := hx191_0
      cases e191
      replace hx191_0 := bc_ HB.out hx191_0
      replace hx191_1 := bc_ HB.out hx191_1
      replace hx191_2 := bc_ HB.out hx191_2
      replace p191 := eq_true p191
      replace q191 := eq_true q191
      have p192 : 0 ≤ (x5_1 : Int) := dt_
      have q192 : x5_1 < (l0.length : Int) := dt_
      obtain ⟨ad192, e192, hx192_0, hx192_1, hx192_2⟩ := at_T29 HR0.out x5_1 p192 q192
      have hw192_2 := hx192_2
      have hw192_1 := hx192_1
      have hw192_0 := hx192_0
      obtain rfl : ad191 = ad192 := (by injection e192)
      replace hx192_0 := bc_ HB.out hx192_0
      replace hx192_1 := bc_ HB.out hx192_1
      replace hx192_2 := bc_ HB.out hx192_2
      replace p192 := eq_true p192
      replace q192 := eq_true q192
      refine start_ (n := 13) (S := fun w' => w'.cell? ⟨gb190, 0, none⟩ = some (.int .i64 a1_0) ∧ w'.cell? ⟨gb190, 1, none⟩ = some (.int .i64 a1_1) ∧ w'.cell? ⟨gb190, 2, none⟩ = some (.int .i64 a1_2) ∧ w'.cell? ⟨gb190, 3, none⟩ = some (.int .i64 a1_3) ∧ w'.cell? (ad191.add ((x5_1).toNat * 3)) = some (.string ((rd_T29 l0 x5_1).f0)) ∧ w'.cell? ⟨(ad191.add ((x5_1).toNat * 3)).block, (ad191.add ((x5_1).toNat * 3)).off + 1, none⟩ = some (.int .i64 ((rd_T29 l0 x5_1).f1)) ∧ w'.cell? ⟨(ad191.add ((x5_1).toNat * 3)).block, (ad191.add ((x5_1).toNat * 3)).off + 2, none⟩ = some (.int .i64 ((rd_T29 l0 x5_1).f2)) ∧ w'.cell? (ad191.add ((x5_1).toNat * 3)) = some (.string ((rd_T29 l0 x5_1).f0)) ∧ w'.cell? ⟨(ad191.add ((x5_1).toNat * 3)).block, (ad191.add ((x5_1).toNat * 3)).off + 1, none⟩ = some (.int .i64 ((rd_T29 l0 x5_1).f1)) ∧ w'.cell? ⟨(ad191.add ((x5_1).toNat * 3)).block, (ad191.add ((x5_1).toNat * 3)).off + 2, none⟩ = some (.int .i64 ((rd_T29 l0 x5_1).f2))) (ds := []) spec_l24Free.mk0 (by kernel_rfl) rfl rfl ⟨(blk_cell BK190.out 0).trans rfl, (blk_cell BK190.out 1).trans rfl, (blk_cell BK190.out 2).trans rfl, (blk_cell BK190.out 3).trans rfl, (bc_ HB.out hw191_0), (bc_ HB.out hw191_1), (bc_ HB.out hw191_2), (bc_ HB.out hw192_0), (bc_ HB.out hw192_1), (bc_ HB.out hw192_2)⟩ (fun hHeld => ?_); refine with_tabW spec_l24Free.tab4 spec_l24Free.bits4 (fun HT_ HW_ => ?_)
      generalize wr.drew = w10 at BK190 HB hx191_0 hx191_1 hx191_2 hx192_0 hx192_1 hx192_2 hHeld ⊢
      refine pz_ HT_ 1 (some 13) spec_l24Free.mk1 ?_
      refine pz_ HT_ 2 (some 14) spec_l24Free.mk2 ?_
      refine pz_ HT_ 3 (some 15) spec_l24Free.mk3 ?_
      refine pz_ HT_ 4 (some 16) spec_l24Free.mk4 ?_
      refine pz_ HT_ 6 (some 18) spec_l24Free.mk5 ?_
      refine pz_ HT_ 7 (some 19) spec_l24Free.mk6 ?_
      refine pz_ HT_ 8 (some 20) spec_l24Free.mk7 ?_
      refine pz_ HT_ 9 (some 21) spec_l24Free.mk8 ?_
      refine tk_ HT_ HW_ hHeld 0 (some 12) spec_l24Free.mk9 ?_
      refine tk_ HT_ HW_ hHeld 5 (some 17) spec_l24Free.mk10 ?_
      refine tk_ HT_ HW_ hHeld 10 (some 22) spec_l24Free.mk11 ?_
      refine pz_ HT_ 11 (some 23) spec_l24Free.mk12 ?_
      refine one_ (i := 12) (N := some 24) spec_l24Free.mk13 rfl rfl (one_of HT_.out (by kernel_rfl)) (by decide) (fun K hK => ?_)
      refine gs_ Tryd.func92 #[.agg #[.int .i64 a1_0, .int .i64 a1_1, .int .i64 a1_2, .int .i64 a1_3], .agg #[.int .i64 ((rd_T29 l0 x5_1).f1), .int .i64 ((rd_T29 l0 x5_1).f2), .int .i64 1, .int .i64 1]] ?_
      with_reducible refine (spec_l24Meet.calls a1_0 a1_1 a1_2 a1_3 ((rd_T29 l0 x5_1).f1) ((rd_T29 l0 x5_1).f2) 1 1 false _ A6.out).mono ?_
      rintro e w11 ⟨rfl, hb⟩
      refine ⟨_, rfl, ?_⟩
      replace BK190 := Aside0.mk (bb_ (bk_ BK190.out) hb)
      replace HB := Aside0.mk (below_step (lb1_ HB.out GE190.out) hb)
      (try clear hb)
      (try clear hb2)
      (try clear hk)
      (try clear hi)
      refine hK.out _ _ ⟨(blk_cell BK190.out 0).trans rfl, (blk_cell BK190.out 1).trans rfl, (blk_cell BK190.out 2).trans rfl, (blk_cell BK190.out 3).trans rfl, ((HB.out.cell (World.block_lt_of_cell? w _ hw191_0)).trans hw191_0), ((HB.out.cell (World.block_lt_of_cell? w _ hw191_1)).trans hw191_1), ((HB.out.cell (World.block_lt_of_cell? w _ hw191_2)).trans hw191_2), ((HB.out.cell (World.block_lt_of_cell? w _ hw192_0)).trans hw192_0), ((HB.out.cell (World.block_lt_of_cell? w _ hw192_1)).trans hw192_1), ((HB.out.cell (World.block_lt_of_cell? w _ hw192_2)).trans hw192_2)⟩ (fun hHeld => ?_)
      clear hK K
      refine na_ ?_
      refine done_ (done_of HT_.out (by kernel_rfl)) ?_
      try go_wp2
      go_roundg k1
      case measure => have := HK1.out; omega
      case rel => exact ⟨(wrap64 (x5_1 + 1)), (by first | rfl | (simp; done) | (simp [*]; done)), H', ⟨by have := HK1.out; omega⟩, ⟨bk_ BK190.out⟩, ⟨lb1_ HB.out GE190.out⟩⟩
    ·
     rw [if_neg c5] at H
     exact absurd H (by simp)
   ·
    rw [if_neg c4] at H
    have c4b0 : decide (x5_1 < (l0.length : Int)) = false := decide_eq_false c4
    clear c4
    by_cases c12 : a1_0 ≥ 0
    ·
     rw [if_pos c12] at H
     have c12b0 : decide (0 ≤ a1_0) = true := decide_eq_true c12
     clear c12
     by_cases c13 : a1_1 ≥ 0
     ·
      rw [if_pos c13] at H
      have c13b0 : decide (0 ≤ a1_1) = true := decide_eq_true c13
      clear c13
      by_cases c14 : (wrap64 (a1_0 + a1_2)) ≤ 100
      ·
       rw [if_pos c14] at H
       have c14b0 : decide ((wrap64 (a1_0 + a1_2)) ≤ 100) = true := decide_eq_true c14
       clear c14
       obtain rfl := Option.some.inj H
       obtain ⟨hcz15_0, hcz15_1, hcz15_2, hcz15_3⟩ := cz4_ BK190.out
       obtain ⟨hfz15_0, hfz15_1, hfz15_2, hfz15_3⟩ := fz4_ BK190.out
       go_wp2
       go_ret
       exact ⟨rr_, lb1_ HB.out GE190.out⟩
      ·
       rw [if_neg c14] at H
       have c14b0 : decide ((wrap64 (a1_0 + a1_2)) ≤ 100) = false := decide_eq_false c14
       clear c14
       obtain rfl := Option.some.inj H
       obtain ⟨hcz16_0, hcz16_1, hcz16_2, hcz16_3⟩ := cz4_ BK190.out
       obtain ⟨hfz16_0, hfz16_1, hfz16_2, hfz16_3⟩ := fz4_ BK190.out
       go_wp2
       go_ret
       exact ⟨rr_, lb1_ HB.out GE190.out⟩
     ·
      rw [if_neg c13] at H
      have c13b0 : decide (0 ≤ a1_1) = false := decide_eq_false c13
      clear c13
      obtain rfl := Option.some.inj H
      obtain ⟨hcz17_0, hcz17_1, hcz17_2, hcz17_3⟩ := cz4_ BK190.out
      obtain ⟨hfz17_0, hfz17_1, hfz17_2, hfz17_3⟩ := fz4_ BK190.out
      go_wp2
      go_ret
      exact ⟨rr_, lb1_ HB.out GE190.out⟩
    ·
     rw [if_neg c12] at H
     have c12b0 : decide (0 ≤ a1_0) = false := decide_eq_false c12
     clear c12
     obtain rfl := Option.some.inj H
     obtain ⟨hcz18_0, hcz18_1, hcz18_2, hcz18_3⟩ := cz4_ BK190.out
     obtain ⟨hfz18_0, hfz18_1, hfz18_2, hfz18_3⟩ := fz4_ BK190.out
     go_wp2
     go_ret
     exact ⟨rr_, lb1_ HB.out GE190.out⟩
def spec_l24May.l0 : Nat → List (S29) → List Int → Int → Int → Int → Int → Int → Int → Option (Bool)
 | 0, _, _, _, _, _, _, _, _ => none
 | k + 1, x0, x1, x2, x8, x201000, x201001, x201002, x201003 => if x8 < x2 then (if 0 ≤ x8 then (if x8 < (x1.length : Int) then (if (rd x1 x8) ≥ 0 then (if x8 < (x0.length : Int) then ((spec_l24Box.f ((rd_T29 x0 x8).f0) ((rd_T29 x0 x8).f1) ((rd_T29 x0 x8).f2) (rd x1 x8)).bind fun bt205 => ((spec_l24Meet.f x201000 x201001 x201002 x201003 bt205.1 bt205.2.1 bt205.2.2.1 bt205.2.2.2).bind fun t209 => (if t209 = true then (some false) else (spec_l24May.l0 k x0 x1 x2 (wrap64 (x8 + 1)) x201000 x201001 x201002 x201003)))) else (none)) else (spec_l24May.l0 k x0 x1 x2 (wrap64 (x8 + 1)) x201000 x201001 x201002 x201003)) else (none)) else (none)) else (some true)
def spec_l24May.f (k : Nat) (l0 : List (S29)) (l1 : List Int) (a2 : Int) : Option (Bool) := if 0 ≤ a2 then (if a2 < (l0.length : Int) then (if a2 < (l1.length : Int) then ((spec_l24Box.f ((rd_T29 l0 a2).f0) ((rd_T29 l0 a2).f1) ((rd_T29 l0 a2).f2) (rd l1 a2)).bind fun bt196 => ((spec_l24Free.f k l0 bt196.1 bt196.2.1 bt196.2.2.1 bt196.2.2.2).bind fun t201 => (if t201 = true then (spec_l24May.l0 k l0 l1 a2 0 bt196.1 bt196.2.1 bt196.2.2.1 bt196.2.2.2) else (some false)))) else (none)) else (none)) else (none)
def spec_l24May.T1 : Bool × List (List Nat × List Nat) := (true, [([], []), ([], []), ([0, 1], [0, 1]), ([2], [2]), ([], []), ([], []), ([4, 5], [4, 5]), ([6], [6]), ([3, 7], [3, 7]), ([], []), ([9, 8, 8, 0, 1, 2, 3, 4, 5, 6, 7, 8, 9], [8, 9])])
def spec_l24May.B1 : List Nat := [0, 0, 3, 7, 0, 0, 48, 112, 255, 0, 1023]
theorem spec_l24May.tab1 : rtab .any (opsOf Tryd.f64 1) = spec_l24May.T1 := by kernel_rfl
theorem spec_l24May.bits1 : waitsOk spec_l24May.T1.2 spec_l24May.B1 = true := by kernel_rfl
def spec_l24May.T7 : Bool × List (List Nat × List Nat) := (true, [([], []), ([], []), ([0, 1], [0, 1]), ([2], [2]), ([3], [3]), ([4], [4]), ([5], [5]), ([5], [5]), ([5], [5]), ([7, 8, 5], [5, 7, 8]), ([9, 5], [5, 9]), ([5], [5]), ([5], [5]), ([11, 12, 5], [5, 11, 12]), ([13, 5], [5, 13]), ([10, 14, 5, 5], [5, 10, 14]), ([6, 15, 15, 5], [5, 6, 15]), ([5, 16], [5, 16])])
def spec_l24May.B7 : List Nat := [0, 0, 3, 7, 15, 31, 63, 63, 63, 447, 959, 63, 63, 6207, 14399, 32703, 65535, 131071]
theorem spec_l24May.tab7 : rtab .any (opsOf Tryd.f64 7) = spec_l24May.T7 := by kernel_rfl
theorem spec_l24May.bits7 : waitsOk spec_l24May.T7.2 spec_l24May.B7 = true := by kernel_rfl
abbrev spec_l24May.mk0 : Array Bool := #[fF,fF,fF,fF,fF,fF,fF,fF,fF,fF,fF]
abbrev spec_l24May.mk1 : Array Bool := #[tT,fF,fF,fF,fF,fF,fF,fF,fF,fF,fF]
abbrev spec_l24May.mk2 : Array Bool := #[tT,tT,fF,fF,fF,fF,fF,fF,fF,fF,fF]
abbrev spec_l24May.mk3 : Array Bool := #[tT,tT,tT,fF,fF,fF,fF,fF,fF,fF,fF]
abbrev spec_l24May.mk4 : Array Bool := #[tT,tT,tT,fF,tT,fF,fF,fF,fF,fF,fF]
abbrev spec_l24May.mk5 : Array Bool := #[tT,tT,tT,fF,tT,tT,fF,fF,fF,fF,fF]
abbrev spec_l24May.mk6 : Array Bool := #[tT,tT,tT,fF,tT,tT,tT,fF,fF,fF,fF]
abbrev spec_l24May.mk7 : Array Bool := #[tT,tT,tT,tT,tT,tT,tT,fF,fF,fF,fF]
abbrev spec_l24May.mk8 : Array Bool := #[tT,tT,tT,tT,tT,tT,tT,tT,fF,fF,fF]
abbrev spec_l24May.mk9 : Array Bool := #[tT,tT,tT,tT,tT,tT,tT,tT,tT,tT,fF]
abbrev spec_l24May.mk10 : Array Bool := #[tT,tT,tT,tT,tT,tT,tT,tT,tT,fF,fF]
abbrev spec_l24May.mk11 : Array Bool := #[tT,tT,tT,tT,tT,tT,tT,tT,fF,tT,fF]
abbrev spec_l24May.mk12 : Array Bool := #[tT,tT,tT,tT,tT,tT,tT,tT,tT,tT,tT]
abbrev spec_l24May.mk13 : Array Bool := #[fF,fF,fF,fF,fF,fF,fF,fF,fF,fF,fF,fF,fF,fF,fF,fF,fF,fF]
abbrev spec_l24May.mk14 : Array Bool := #[tT,fF,fF,fF,fF,fF,fF,fF,fF,fF,fF,fF,fF,fF,fF,fF,fF,fF]
abbrev spec_l24May.mk15 : Array Bool := #[tT,tT,fF,fF,fF,fF,fF,fF,fF,fF,fF,fF,fF,fF,fF,fF,fF,fF]
abbrev spec_l24May.mk16 : Array Bool := #[tT,tT,tT,fF,fF,fF,fF,fF,fF,fF,fF,fF,fF,fF,fF,fF,fF,fF]
abbrev spec_l24May.mk17 : Array Bool := #[tT,tT,tT,tT,fF,fF,fF,fF,fF,fF,fF,fF,fF,fF,fF,fF,fF,fF]
abbrev spec_l24May.mk18 : Array Bool := #[tT,tT,tT,tT,tT,fF,fF,fF,fF,fF,fF,fF,fF,fF,fF,fF,fF,fF]
abbrev spec_l24May.mk19 : Array Bool := #[tT,tT,tT,tT,tT,tT,fF,fF,fF,fF,fF,fF,fF,fF,fF,fF,fF,fF]
abbrev spec_l24May.mk20 : Array Bool := #[tT,tT,tT,tT,tT,tT,fF,tT,fF,fF,fF,fF,fF,fF,fF,fF,fF,fF]
abbrev spec_l24May.mk21 : Array Bool := #[tT,tT,tT,tT,tT,tT,fF,tT,tT,fF,fF,fF,fF,fF,fF,fF,fF,fF]
abbrev spec_l24May.mk22 : Array Bool := #[tT,tT,tT,tT,tT,tT,fF,tT,tT,tT,fF,fF,fF,fF,fF,fF,fF,fF]
abbrev spec_l24May.mk23 : Array Bool := #[tT,tT,tT,tT,tT,tT,fF,tT,tT,tT,fF,tT,fF,fF,fF,fF,fF,fF]
abbrev spec_l24May.mk24 : Array Bool := #[tT,tT,tT,tT,tT,tT,fF,tT,tT,tT,fF,tT,tT,fF,fF,fF,fF,fF]
abbrev spec_l24May.mk25 : Array Bool := #[tT,tT,tT,tT,tT,tT,fF,tT,tT,tT,fF,tT,tT,tT,fF,fF,fF,fF]
abbrev spec_l24May.mk26 : Array Bool := #[tT,tT,tT,tT,tT,tT,tT,tT,tT,tT,fF,tT,tT,tT,fF,fF,fF,fF]
abbrev spec_l24May.mk27 : Array Bool := #[tT,tT,tT,tT,tT,tT,tT,tT,tT,tT,tT,tT,tT,tT,fF,fF,fF,fF]
abbrev spec_l24May.mk28 : Array Bool := #[tT,tT,tT,tT,tT,tT,tT,tT,tT,tT,tT,tT,tT,tT,tT,fF,fF,fF]
abbrev spec_l24May.mk29 : Array Bool := #[tT,tT,tT,tT,tT,tT,tT,tT,tT,tT,tT,tT,tT,tT,tT,tT,fF,fF]
abbrev spec_l24May.mk30 : Array Bool := #[tT,tT,tT,tT,tT,tT,tT,tT,tT,tT,tT,tT,tT,tT,tT,tT,tT,fF]
abbrev spec_l24May.mk31 : Array Bool := #[tT,tT,tT,tT,tT,tT,tT,tT,tT,tT,tT,tT,tT,tT,tT,tT,tT,tT]
abbrev spec_l24May.mk32 : Array Bool := #[tT,tT,tT,tT,tT,tT,tT,fF,fF,fF,fF,fF,fF,fF,fF,fF,fF,fF]
abbrev spec_l24May.mk33 : Array Bool := #[tT,tT,tT,tT,tT,tT,tT,tT,fF,fF,fF,fF,fF,fF,fF,fF,fF,fF]
abbrev spec_l24May.mk34 : Array Bool := #[tT,tT,tT,tT,tT,tT,tT,tT,tT,fF,fF,fF,fF,fF,fF,fF,fF,fF]
abbrev spec_l24May.mk35 : Array Bool := #[tT,tT,tT,tT,tT,tT,tT,tT,tT,tT,fF,fF,fF,fF,fF,fF,fF,fF]
abbrev spec_l24May.mk36 : Array Bool := #[tT,tT,tT,tT,tT,tT,tT,tT,tT,tT,tT,fF,fF,fF,fF,fF,fF,fF]
abbrev spec_l24May.mk37 : Array Bool := #[tT,tT,tT,tT,tT,tT,tT,tT,tT,tT,tT,tT,fF,fF,fF,fF,fF,fF]
abbrev spec_l24May.mk38 : Array Bool := #[tT,tT,tT,tT,tT,tT,tT,tT,tT,tT,tT,tT,tT,fF,fF,fF,fF,fF]
set_option maxHeartbeats 8000000 in
set_option maxRecDepth 100000 in
theorem spec_l24May.calls (k : Nat) (A0 : Option Addr) (c0 : Nat) (l0 : List (S29)) (A1 : Option Addr) (c1 : Nat) (l1 : List Int) (a2 : Int) (r : Bool) (w : World) (hr0 : Kd.C k29 w A0 l0.length l0) (hc0 : l0.length ≤ c0) (hr1 : Kd.C (Kd.int .i64) w A1 l1.length l1) (hc1 : l1.length ≤ c1) (h : spec_l24May.f k l0 l1 a2 = some r) :
  Calls Tryd.prog 64 #[.slice A0 l0.length c0, .slice A1 l1.length c1, .int .i64 a2] w fun e w' => e = .returned (.bool r) ∧ Below w.heap.size w w' := by
 have hu29 := Tryd.underlying29
 have hu26 := Tryd.underlying26
 have HR0 := Aside0.mk hr0
 have HC0 := Aside0.mk hc0
 clear hr0 hc0
 have HR1 := Aside0.mk hr1
 have HC1 := Aside0.mk hc1
 clear hr1 hc1
 have HB := Aside0.mk (Below.refl w.heap.size w)
 have H : (if 0 ≤ a2 then (if a2 < (l0.length : Int) then (if a2 < (l1.length : Int) then ((spec_l24Box.f ((rd_T29 l0 a2).f0) ((rd_T29 l0 a2).f1) ((rd_T29 l0 a2).f2) (rd l1 a2)).bind fun bt196 => ((spec_l24Free.f k l0 bt196.1 bt196.2.1 bt196.2.2.1 bt196.2.2.2).bind fun t201 => (if t201 = true then (spec_l24May.l0 k l0 l1 a2 0 bt196.1 bt196.2.1 bt196.2.2.1 bt196.2.2.2) else (some false)))) else (none)) else (none)) else (none)) = some r := h
 clear h
 by_cases c4 : 0 ≤ a2
 ·
  rw [if_pos c4] at H
  have c4b0 : decide (0 ≤ a2) = true := decide_eq_true c4
  clear c4
  by_cases c5 : a2 < (l0.length : Int)
  ·
   rw [if_pos c5] at H
   have c5b0 : decide (a2 < (l0.length : Int)) = true := decide_eq_true c5
   clear c5
   by_cases c6 : a2 < (l1.length : Int)
   ·
    rw [if_pos c6] at H
    have c6b0 : decide (a2 < (l1.length : Int)) = true := decide_eq_true c6
    clear c6
    replace H := Option.bind_eq_some_iff.mp H
    obtain ⟨⟨t196, t197, t198, t199⟩, A70, H⟩ := H
    replace H : ((spec_l24Free.f k l0 t196 t197 t198 t199).bind fun t201 => (if t201 = true then (spec_l24May.l0 k l0 l1 a2 0 t196 t197 t198 t199) else (some false))) = some r := H
    have A7 := Aside0.mk A70
    clear A70
    replace H := Option.bind_eq_some_iff.mp H
    obtain ⟨t201, A80, H⟩ := H
    replace H : (if t201 = true then (spec_l24May.l0 k l0 l1 a2 0 t196 t197 t198 t199) else (some false)) = some r := H
    have A8 := Aside0.mk A80
    clear A80
    by_cases c9 : t201 = true
    ·
     subst c9
     have H1 : (spec_l24May.l0 k l0 l1 a2 0 t196 t197 t198 t199) = some r := by rw [if_pos rfl] at H; exact H
     clear H
     have H := H1
     clear H1
     have H' := Aside0.mk H
     clear H
     go_enter Tryd.func64, Tryd.ntmps64
     try go_wp2
     replace HB := Aside0.mk (below_drew1 HB.out)
     have p194 : 0 ≤ (a2 : Int) := dt_
     have q194 : a2 < (l0.length : Int) := dt_
     obtain ⟨ad194, e194, hx194_0, hx194_1, hx194_2⟩ := at_T29 HR0.out a2 p194 q194
     have hw194_2 := hx194_2
     have hw194_1 := hx194_1
     have hw194_0 := hx194_0
     cases e194
     replace hx194_0 := bc_ HB.out hx194_0
     replace hx194_1 := bc_ HB.out hx194_1
     replace hx194_2 := bc_ HB.out hx194_2
     replace p194 := eq_true p194
     replace q194 := eq_true q194
     have p195 : 0 ≤ (a2 : Int) := dt_
     have q195 : a2 < (l1.length : Int) := dt_
     obtain ⟨ad195, e195, hx195_0⟩ := Kd.at_int HR1.out a2 p195 q195
     have hw195_0 := hx195_0
     cases e195
     replace hx195_0 := bc_ HB.out hx195_0
     replace p195 := eq_true p195
     replace q195 := eq_true q195
     refine start_ (n := 11) (S := fun w' => w'.cell? (ad194.add ((a2).toNat * 3)) = some (.string ((rd_T29 l0 a2).f0)) ∧ w'.cell? ⟨(ad194.add ((a2).toNat * 3)).block, (ad194.add ((a2).toNat * 3)).off + 1, none⟩ = some (.int .i64 ((rd_T29 l0 a2).f1)) ∧ w'.cell? ⟨(ad194.add ((a2).toNat * 3)).block, (ad194.add ((a2).toNat * 3)).off + 2, none⟩ = some (.int .i64 ((rd_T29 l0 a2).f2)) ∧ w'.cell? (ad195.add (a2).toNat) = some (.int .i64 (rd l1 a2))) (ds := []) spec_l24May.mk0 (by kernel_rfl) rfl rfl ⟨(bc_ HB.out hw194_0), (bc_ HB.out hw194_1), (bc_ HB.out hw194_2), (bc_ HB.out hw195_0)⟩ (fun hHeld => ?_); refine with_tabW spec_l24May.tab1 spec_l24May.bits1 (fun HT_ HW_ => ?_)
     generalize w.drew = w10 at HB hx194_0 hx194_1 hx194_2 hx195_0 hHeld ⊢
     refine pz_ HT_ 0 (some 9) spec_l24May.mk1 ?_
     refine pz_ HT_ 1 (some 10) spec_l24May.mk2 ?_
     refine pz_ HT_ 2 (some 11) spec_l24May.mk3 ?_
     refine pz_ HT_ 4 (some 13) spec_l24May.mk4 ?_
     refine pz_ HT_ 5 (some 14) spec_l24May.mk5 ?_
     refine pz_ HT_ 6 (some 15) spec_l24May.mk6 ?_
     refine tk_ HT_ HW_ hHeld 3 (some 12) spec_l24May.mk7 ?_
     refine tk_ HT_ HW_ hHeld 7 (some 16) spec_l24May.mk8 ?_
     refine join_ (σ := Nat) 1 spec_l24May.mk9 (fun s_ => [(17, .agg #[.int .i64 t196, .int .i64 t197, .int .i64 t198, .int .i64 t199]), (7, .pointer (some ⟨s_, 0, none⟩))]) (fun s_ w' => (w'.cell? (ad194.add ((a2).toNat * 3)) = some (.string ((rd_T29 l0 a2).f0)) ∧ w'.cell? ⟨(ad194.add ((a2).toNat * 3)).block, (ad194.add ((a2).toNat * 3)).off + 1, none⟩ = some (.int .i64 ((rd_T29 l0 a2).f1)) ∧ w'.cell? ⟨(ad194.add ((a2).toNat * 3)).block, (ad194.add ((a2).toNat * 3)).off + 2, none⟩ = some (.int .i64 ((rd_T29 l0 a2).f2)) ∧ w'.cell? (ad195.add (a2).toNat) = some (.int .i64 (rd l1 a2))) ∧ (w'.heap[s_]? = some (.cells #[.int .i64 0, .int .i64 0, .int .i64 0, .int .i64 0] 26 (0, 0))) ∧ (w.heap.size ≤ s_) ∧ (w.heap.size ≤ s_) ∧ (Below w.heap.size w w')) ?_ ?_
     rotate_left
     ·
      intro hCont
      refine two_ (i := 8) (j := 9) (Ni := some 17) (Nj := some 7) spec_l24May.mk10 spec_l24May.mk11 rfl rfl rfl rfl (two_of HT_.out (by kernel_rfl)) (by decide) (by decide) (fun K hK => ?_) (fun K hK => ?_)
      ·
       skip
       refine gs_ Tryd.func56 #[.agg #[.string ((rd_T29 l0 a2).f0), .int .i64 ((rd_T29 l0 a2).f1), .int .i64 ((rd_T29 l0 a2).f2)], .int .i64 (rd l1 a2)] ?_
       with_reducible refine (spec_l24Box.calls ((rd_T29 l0 a2).f0) ((rd_T29 l0 a2).f1) ((rd_T29 l0 a2).f2) (rd l1 a2) t196 t197 t198 t199 _ A7.out).mono ?_
       rintro e w11 ⟨rfl, hb⟩
       refine ⟨_, rfl, ?_⟩
       replace HB := Aside0.mk (below_step (lb0_ HB.out) hb)
       (try clear hb)
       (try clear hb2)
       (try clear hk)
       (try clear hi)
       refine hK.out _ _ ⟨((HB.out.cell (World.block_lt_of_cell? w _ hw194_0)).trans hw194_0), ((HB.out.cell (World.block_lt_of_cell? w _ hw194_1)).trans hw194_1), ((HB.out.cell (World.block_lt_of_cell? w _ hw194_2)).trans hw194_2), ((HB.out.cell (World.block_lt_of_cell? w _ hw195_0)).trans hw195_0)⟩ (fun hHeld => ?_)
       clear hK K
       refine na_ ?_
       refine one_ (i := 9) (N := some 7) spec_l24May.mk9 rfl rfl (one_of HT_.out (by kernel_rfl)) (by decide) (fun K hK => ?_)
       refine box_step ?hg (N := 7) ?hd (cs := #[.int .i64 0, .int .i64 0, .int .i64 0, .int .i64 0]) (t := 26) ?hr ?_; (case hd => rfl); (case hg => rfl); (case hr => first | (go_simp; done) | (go_simp; rfl))
       intro gb200 hg w12 hbox hb
       have BK200 := Aside0.mk (hbox)
       have GW200 := Aside0.mk ((bz_ hg (lb0_ HB.out)))
       have GE200 := Aside0.mk ((bz_ hg (lb0_ HB.out)))
       replace HB := Aside0.mk (below_step (lb0_ HB.out) hb)
       clear hb hbox hg
       refine hK.out _ _ ⟨((HB.out.cell (World.block_lt_of_cell? w _ hw194_0)).trans hw194_0), ((HB.out.cell (World.block_lt_of_cell? w _ hw194_1)).trans hw194_1), ((HB.out.cell (World.block_lt_of_cell? w _ hw194_2)).trans hw194_2), ((HB.out.cell (World.block_lt_of_cell? w _ hw195_0)).trans hw195_0)⟩ (fun hHeld => ?_)
       clear hK K
       refine na_ ?_
       exact norm_ (by simp only [putAll, Act.put, List.setIfInBounds_toArray, List.set_cons_zero, List.set_cons_succ]) (hCont (gb200) _ ⟨hHeld, (bk_ BK200.out), GW200.out, GE200.out, (lb1_ HB.out GE200.out)⟩)
      ·
       skip
       refine box_step ?hg (N := 7) ?hd (cs := #[.int .i64 0, .int .i64 0, .int .i64 0, .int .i64 0]) (t := 26) ?hr ?_; (case hd => rfl); (case hg => rfl); (case hr => first | (go_simp; done) | (go_simp; rfl))
       intro gb200 hg w11 hbox hb
       have BK200 := Aside0.mk (hbox)
       have GW200 := Aside0.mk ((bz_ hg (lb0_ HB.out)))
       have GE200 := Aside0.mk ((bz_ hg (lb0_ HB.out)))
       replace HB := Aside0.mk (below_step (lb0_ HB.out) hb)
       clear hb hbox hg
       refine hK.out _ _ ⟨((HB.out.cell (World.block_lt_of_cell? w _ hw194_0)).trans hw194_0), ((HB.out.cell (World.block_lt_of_cell? w _ hw194_1)).trans hw194_1), ((HB.out.cell (World.block_lt_of_cell? w _ hw194_2)).trans hw194_2), ((HB.out.cell (World.block_lt_of_cell? w _ hw195_0)).trans hw195_0)⟩ (fun hHeld => ?_)
       clear hK K
       refine na_ ?_
       refine one_ (i := 8) (N := some 17) spec_l24May.mk9 rfl rfl (one_of HT_.out (by kernel_rfl)) (by decide) (fun K hK => ?_)
       refine gs_ Tryd.func56 #[.agg #[.string ((rd_T29 l0 a2).f0), .int .i64 ((rd_T29 l0 a2).f1), .int .i64 ((rd_T29 l0 a2).f2)], .int .i64 (rd l1 a2)] ?_
       with_reducible refine (spec_l24Box.calls ((rd_T29 l0 a2).f0) ((rd_T29 l0 a2).f1) ((rd_T29 l0 a2).f2) (rd l1 a2) t196 t197 t198 t199 _ A7.out).mono ?_
       rintro e w12 ⟨rfl, hb⟩
       refine ⟨_, rfl, ?_⟩
       replace BK200 := Aside0.mk (bb_ (bk_ BK200.out) hb)
       replace HB := Aside0.mk (below_step (lb1_ HB.out GE200.out) hb)
       (try clear hb)
       (try clear hb2)
       (try clear hk)
       (try clear hi)
       refine hK.out _ _ ⟨((HB.out.cell (World.block_lt_of_cell? w _ hw194_0)).trans hw194_0), ((HB.out.cell (World.block_lt_of_cell? w _ hw194_1)).trans hw194_1), ((HB.out.cell (World.block_lt_of_cell? w _ hw194_2)).trans hw194_2), ((HB.out.cell (World.block_lt_of_cell? w _ hw195_0)).trans hw195_0)⟩ (fun hHeld => ?_)
       clear hK K
       refine na_ ?_
       exact norm_ (by simp only [putAll, Act.put, List.setIfInBounds_toArray, List.set_cons_zero, List.set_cons_succ]) (hCont (gb200) _ ⟨hHeld, (bk_ BK200.out), GW200.out, GE200.out, (lb1_ HB.out GE200.out)⟩)
     rintro gb200 w13 ⟨hS_, h0_, h1_, h2_, h3_⟩
     (try dsimp only at h0_ h1_ h2_ h3_)
     have BK200 := Aside0.mk h0_
     have GW200 := Aside0.mk h1_
     have GE200 := Aside0.mk h2_
     replace HB := Aside0.mk h3_
     clear h0_ h1_ h2_ h3_
     have hHeld : w13.cell? (ad194.add ((a2).toNat * 3)) = some (.string ((rd_T29 l0 a2).f0)) ∧ w13.cell? ⟨(ad194.add ((a2).toNat * 3)).block, (ad194.add ((a2).toNat * 3)).off + 1, none⟩ = some (.int .i64 ((rd_T29 l0 a2).f1)) ∧ w13.cell? ⟨(ad194.add ((a2).toNat * 3)).block, (ad194.add ((a2).toNat * 3)).off + 2, none⟩ = some (.int .i64 ((rd_T29 l0 a2).f2)) ∧ w13.cell? (ad195.add (a2).toNat) = some (.int .i64 (rd l1 a2)) := hS_
     refine nb_ ?_
     refine one_ (i := 10) (N := none) spec_l24May.mk12 rfl rfl (one_of HT_.out (by kernel_rfl)) (by decide) (fun K hK => ?_)
     have hs14 : w13.cell? ⟨gb200, 0, none⟩ = some (.int .i64 0) := (blk_cell BK200.out 0).trans rfl
     have hfs14 := blk_frozen BK200.out 0
     have hs15 : w13.cell? ⟨gb200, 1, none⟩ = some (.int .i64 0) := (blk_cell BK200.out 1).trans rfl
     have hfs15 := blk_frozen BK200.out 1
     have hs16 : w13.cell? ⟨gb200, 2, none⟩ = some (.int .i64 0) := (blk_cell BK200.out 2).trans rfl
     have hfs16 := blk_frozen BK200.out 2
     have hs17 : w13.cell? ⟨gb200, 3, none⟩ = some (.int .i64 0) := (blk_cell BK200.out 3).trans rfl
     have hfs17 := blk_frozen BK200.out 3
     refine skip_ (w1 := ?_) (by rfl) rfl ?_ ?_
     rotate_left
     ·
      go_simp
      rfl
     refine hK.out _ _ ⟨((cell_far (p := ⟨gb200, _, none⟩) (Nat.ne_of_lt (Nat.lt_of_lt_of_le (World.block_lt_of_cell? _ _ hw194_0) GW200.out)) _).trans (((cell_far (p := ⟨gb200, _, none⟩) (Nat.ne_of_lt (Nat.lt_of_lt_of_le (World.block_lt_of_cell? _ _ hw194_0) GW200.out)) _).trans (((cell_far (p := ⟨gb200, _, none⟩) (Nat.ne_of_lt (Nat.lt_of_lt_of_le (World.block_lt_of_cell? _ _ hw194_0) GW200.out)) _).trans (((cell_far (p := ⟨gb200, _, none⟩) (Nat.ne_of_lt (Nat.lt_of_lt_of_le (World.block_lt_of_cell? _ _ hw194_0) GW200.out)) _).trans (hHeld.1)))))))), ((cell_far (p := ⟨gb200, _, none⟩) (Nat.ne_of_lt (Nat.lt_of_lt_of_le (World.block_lt_of_cell? _ _ hw194_1) GW200.out)) _).trans (((cell_far (p := ⟨gb200, _, none⟩) (Nat.ne_of_lt (Nat.lt_of_lt_of_le (World.block_lt_of_cell? _ _ hw194_1) GW200.out)) _).trans (((cell_far (p := ⟨gb200, _, none⟩) (Nat.ne_of_lt (Nat.lt_of_lt_of_le (World.block_lt_of_cell? _ _ hw194_1) GW200.out)) _).trans (((cell_far (p := ⟨gb200, _, none⟩) (Nat.ne_of_lt (Nat.lt_of_lt_of_le (World.block_lt_of_cell? _ _ hw194_1) GW200.out)) _).trans (hHeld.2.1)))))))), ((cell_far (p := ⟨gb200, _, none⟩) (Nat.ne_of_lt (Nat.lt_of_lt_of_le (World.block_lt_of_cell? _ _ hw194_2) GW200.out)) _).trans (((cell_far (p := ⟨gb200, _, none⟩) (Nat.ne_of_lt (Nat.lt_of_lt_of_le (World.block_lt_of_cell? _ _ hw194_2) GW200.out)) _).trans (((cell_far (p := ⟨gb200, _, none⟩) (Nat.ne_of_lt (Nat.lt_of_lt_of_le (World.block_lt_of_cell? _ _ hw194_2) GW200.out)) _).trans (((cell_far (p := ⟨gb200, _, none⟩) (Nat.ne_of_lt (Nat.lt_of_lt_of_le (World.block_lt_of_cell? _ _ hw194_2) GW200.out)) _).trans (hHeld.2.2.1)))))))), ((cell_far (p := ⟨gb200, _, none⟩) (Nat.ne_of_lt (Nat.lt_of_lt_of_le (World.block_lt_of_cell? _ _ hw195_0) GW200.out)) _).trans (((cell_far (p := ⟨gb200, _, none⟩) (Nat.ne_of_lt (Nat.lt_of_lt_of_le (World.block_lt_of_cell? _ _ hw195_0) GW200.out)) _).trans (((cell_far (p := ⟨gb200, _, none⟩) (Nat.ne_of_lt (Nat.lt_of_lt_of_le (World.block_lt_of_cell? _ _ hw195_0) GW200.out)) _).trans (((cell_far (p := ⟨gb200, _, none⟩) (Nat.ne_of_lt (Nat.lt_of_lt_of_le (World.block_lt_of_cell? _ _ hw195_0) GW200.out)) _).trans (hHeld.2.2.2))))))))⟩ (fun hHeld => ?_)
     clear hK K
     refine done_ (done_of HT_.out (by kernel_rfl)) ?_
     obtain ⟨hcz18_0, hcz18_1, hcz18_2, hcz18_3⟩ := cz4_ BK200.out
     obtain ⟨hfz18_0, hfz18_1, hfz18_2, hfz18_3⟩ := fz4_ BK200.out
     try go_wp2_with (first | ((with_reducible refine gate_callee (f := 97) rfl ?_); refine ga_ (some 20) Tryd.func97 #[.slice (some ad194) l0.length c0, .agg #[.int .i64 t196, .int .i64 t197, .int .i64 t198, .int .i64 t199]] ?_; (with_reducible refine (spec_l24Free.calls k _ _ l0 t196 t197 t198 t199 true _ ?side1 ?side2 A8.out).mono ?_); (case side1 => exact Kd.C_below HR0.out (lb1_ HB.out GE200.out)); (case side2 => exact HC0.out); rintro e w19 ⟨rfl, hb⟩; refine ⟨_, rfl, ?_⟩; replace BK200 := Aside0.mk (blk_below (g := gb200) (o := .cells #[.int .i64 t196, .int .i64 t197, .int .i64 t198, .int .i64 t199] 26 (0, 0)) (by (with_reducible repeat (first | refine blk_drewN ?_ _ | refine blk_drew ?_ | refine blk_alloc ?_ _)); exact (p4_ BK200.out _ _ _ _)) hb); replace HB := Aside0.mk (below_step (lb1_ HB.out GE200.out) hb); (try clear hb); (try clear hb2); (try clear hk); (try clear hi)))
     go_loopg [8] k (fun kq v8 w' => ∃ (x8_1 : Int), v8 = .int .i64 x8_1 ∧ Aside0 (spec_l24May.l0 kq l0 l1 a2 x8_1 t196 t197 t198 t199 = some r) ∧ Aside0 (kq ≤ k) ∧ Aside0 (w'.heap[gb200]? = some (.cells #[.int .i64 t196, .int .i64 t197, .int .i64 t198, .int .i64 t199] 26 (0, 0))) ∧ Aside0 (Below w.heap.size w w'))
     case atStart => exact ⟨(0), (by first | rfl | (simp; done) | (simp [*]; done)), H', ⟨Nat.le_refl _⟩, ⟨bk_ BK200.out⟩, ⟨lb1_ HB.out GE200.out⟩⟩
     case round =>
      clear H'
      try clear c1
      try clear p1
      try clear q1
      try clear hx1
      try clear p2
      try clear c4
      try clear c4b0
      try clear c5
      try clear c5b0
      try clear c6
      try clear c6b0
      try clear c9
      try clear p19
      try clear q19
      try clear hx19
      try clear hcz18_0 hcz18_1 hcz18_2 hcz18_3
      try clear hfz18_0 hfz18_1 hfz18_2 hfz18_3
      try clear hx194_0
      try clear hx194_1
      try clear hx194_2
      try clear hx195_0
      try clear p194
      try clear p195
      try clear q194
      try clear q195
      obtain ⟨x8_1, rfl, HA, HK1, BK200, HB⟩ := hrel
      cases gk with
      | zero => exact absurd HA.out (by simp [spec_l24May.l0])
      | succ k1 =>
       have H := HA.out
       clear HA
       simp only [spec_l24May.l0] at H
       by_cases c20 : x8_1 < a2
       ·
        rw [if_pos c20] at H
        have c20b0 : decide (x8_1 < a2) = true := decide_eq_true c20; clear c20
        by_cases c21 : 0 ≤ x8_1
        ·
         rw [if_pos c21] at H
         have c21b0 : decide (0 ≤ x8_1) = true := decide_eq_true c21; clear c21
         by_cases c22 : x8_1 < (l1.length : Int)
         ·
          rw [if_pos c22] at H
          have c22b0 : decide (x8_1 < (l1.length : Int)) = true := decide_eq_true c22; clear c22
          by_cases c23 : (rd l1 x8_1) ≥ 0
          ·
           rw [if_pos c23] at H
           have c23b0 : decide (0 ≤ (rd l1 x8_1)) = true := decide_eq_true c23; clear c23
           by_cases c24 : x8_1 < (l0.length : Int)
           ·
            rw [if_pos c24] at H
            have c24b0 : decide (x8_1 < (l0.length : Int)) = true := decide_eq_true c24; clear c24; replace H := Option.bind_eq_some_iff.mp H; obtain ⟨⟨t205, t206, t207, t208⟩, A250, H⟩ := H; replace H : ((spec_l24Meet.f t196 t197 t198 t199 t205 t206 t207 t208).bind fun t209 => (if t209 = true then (some false) else (spec_l24May.l0 k1 l0 l1 a2 (wrap64 (x8_1 + 1)) t196 t197 t198 t199))) = some r := H; have A25 := Aside0.mk A250; clear A250; replace H := Option.bind_eq_some_iff.mp H; obtain ⟨t209, A260, H⟩ := H; replace H : (if t209 = true then (some false) else (spec_l24May.l0 k1 l0 l1 a2 (wrap64 (x8_1 + 1)) t196 t197 t198 t199)) = some r := H; have A26 := Aside0.mk A260; clear A260
            by_cases c27 : t209 = true
            ·
             subst c27
             have H1 : (some false) = some r := by rw [if_pos rfl] at H; exact H
             clear H; have H := H1; clear H1; obtain rfl := Option.some.inj H
             try go_wp2
             replace BK200 := Aside0.mk (blk_drew BK200.out); replace HB := Aside0.mk (below_drew1 HB.out); have p202 : 0 ≤ (x8_1 : Int) := dt_; have q202 : x8_1 < (l1.length : Int) := dt_; obtain ⟨ad202, e202, hx202_0⟩ := Kd.at_int HR1.out x8_1 p202 q202; have hw202_0 := hx202_0
             obtain rfl : ad195 = ad202 := (by injection e202)
             replace hx202_0 := bc_ HB.out hx202_0; replace p202 := eq_true p202; replace q202 := eq_true q202; have p203 : 0 ≤ (x8_1 : Int) := dt_; have q203 : x8_1 < (l0.length : Int) := dt_; obtain ⟨ad203, e203, hx203_0, hx203_1, hx203_2⟩ := at_T29 HR0.out x8_1 p203 q203; have hw203_2 := hx203_2; have hw203_1 := hx203_1; have hw203_0 := hx203_0
             obtain rfl : ad194 = ad203 := (by injection e203)
             replace hx203_0 := bc_ HB.out hx203_0; replace hx203_1 := bc_ HB.out hx203_1; replace hx203_2 := bc_ HB.out hx203_2; replace p203 := eq_true p203; replace q203 := eq_true q203; have p204 : 0 ≤ (x8_1 : Int) := dt_; have q204 : x8_1 < (l1.length : Int) := dt_; obtain ⟨ad204, e204, hx204_0⟩ := Kd.at_int HR1.out x8_1 p204 q204; have hw204_0 := hx204_0
             obtain rfl : ad195 = ad204 := (by injection e204)
             replace hx204_0 := bc_ HB.out hx204_0; replace p204 := eq_true p204; replace q204 := eq_true q204; refine start_ (n := 18) (S := fun w' => w'.cell? ⟨gb200, 0, none⟩ = some (.int .i64 t196) ∧ w'.cell? ⟨gb200, 1, none⟩ = some (.int .i64 t197) ∧ w'.cell? ⟨gb200, 2, none⟩ = some (.int .i64 t198) ∧ w'.cell? ⟨gb200, 3, none⟩ = some (.int .i64 t199) ∧ w'.cell? (ad195.add (x8_1).toNat) = some (.int .i64 (rd l1 x8_1)) ∧ w'.cell? (ad194.add ((x8_1).toNat * 3)) = some (.string ((rd_T29 l0 x8_1).f0)) ∧ w'.cell? ⟨(ad194.add ((x8_1).toNat * 3)).block, (ad194.add ((x8_1).toNat * 3)).off + 1, none⟩ = some (.int .i64 ((rd_T29 l0 x8_1).f1)) ∧ w'.cell? ⟨(ad194.add ((x8_1).toNat * 3)).block, (ad194.add ((x8_1).toNat * 3)).off + 2, none⟩ = some (.int .i64 ((rd_T29 l0 x8_1).f2)) ∧ w'.cell? (ad195.add (x8_1).toNat) = some (.int .i64 (rd l1 x8_1))) (ds := []) spec_l24May.mk13 (by kernel_rfl) rfl rfl ⟨(blk_cell BK200.out 0).trans rfl, (blk_cell BK200.out 1).trans rfl, (blk_cell BK200.out 2).trans rfl, (blk_cell BK200.out 3).trans rfl, (bc_ HB.out hw202_0), (bc_ HB.out hw203_0), (bc_ HB.out hw203_1), (bc_ HB.out hw203_2), (bc_ HB.out hw204_0)⟩ (fun hHeld => ?_); refine with_tabW spec_l24May.tab7 spec_l24May.bits7 (fun HT_ HW_ => ?_); generalize wr.drew = w28 at BK200 HB hx202_0 hx203_0 hx203_1 hx203_2 hx204_0 hHeld ⊢; refine pz_ HT_ 0 (some 27) spec_l24May.mk14 ?_; refine pz_ HT_ 1 (some 28) spec_l24May.mk15 ?_; refine pz_ HT_ 2 (some 29) spec_l24May.mk16 ?_; refine tk_ HT_ HW_ hHeld 3 (some 30) spec_l24May.mk17 ?_; refine pz_ HT_ 4 (some 31) spec_l24May.mk18 ?_; refine pz_ HT_ 5 (some 32) spec_l24May.mk19 ?_; refine pz_ HT_ 7 (some 34) spec_l24May.mk20 ?_; refine pz_ HT_ 8 (some 35) spec_l24May.mk21 ?_; refine pz_ HT_ 9 (some 36) spec_l24May.mk22 ?_; refine pz_ HT_ 11 (some 38) spec_l24May.mk23 ?_; refine pz_ HT_ 12 (some 39) spec_l24May.mk24 ?_; refine pz_ HT_ 13 (some 40) spec_l24May.mk25 ?_; refine tk_ HT_ HW_ hHeld 6 (some 33) spec_l24May.mk26 ?_; refine tk_ HT_ HW_ hHeld 10 (some 37) spec_l24May.mk27 ?_; refine tk_ HT_ HW_ hHeld 14 (some 41) spec_l24May.mk28 ?_; refine one_ (i := 15) (N := some 42) spec_l24May.mk29 rfl rfl (one_of HT_.out (by kernel_rfl)) (by decide) (fun K hK => ?_); refine gs_ Tryd.func56 #[.agg #[.string ((rd_T29 l0 x8_1).f0), .int .i64 ((rd_T29 l0 x8_1).f1), .int .i64 ((rd_T29 l0 x8_1).f2)], .int .i64 (rd l1 x8_1)] ?_; (with_reducible refine (spec_l24Box.calls ((rd_T29 l0 x8_1).f0) ((rd_T29 l0 x8_1).f1) ((rd_T29 l0 x8_1).f2) (rd l1 x8_1) t205 t206 t207 t208 _ A25.out).mono ?_); rintro e w29 ⟨rfl, hb⟩; refine ⟨_, rfl, ?_⟩; replace BK200 := Aside0.mk (bb_ (bk_ BK200.out) hb); replace HB := Aside0.mk (below_step (lb1_ HB.out GE200.out) hb); (try clear hb); (try clear hb2); (try clear hk); (try clear hi); refine hK.out _ _ ⟨(blk_cell BK200.out 0).trans rfl, (blk_cell BK200.out 1).trans rfl, (blk_cell BK200.out 2).trans rfl, (blk_cell BK200.out 3).trans rfl, ((HB.out.cell (World.block_lt_of_cell? w _ hw202_0)).trans hw202_0), ((HB.out.cell (World.block_lt_of_cell? w _ hw203_0)).trans hw203_0), ((HB.out.cell (World.block_lt_of_cell? w _ hw203_1)).trans hw203_1), ((HB.out.cell (World.block_lt_of_cell? w _ hw203_2)).trans hw203_2), ((HB.out.cell (World.block_lt_of_cell? w _ hw204_0)).trans hw204_0)⟩ (fun hHeld => ?_); clear hK K; refine na_ ?_; refine one_ (i := 16) (N := some 43) spec_l24May.mk30 rfl rfl (one_of HT_.out (by kernel_rfl)) (by decide) (fun K hK => ?_); refine gs_ Tryd.func92 #[.agg #[.int .i64 t196, .int .i64 t197, .int .i64 t198, .int .i64 t199], .agg #[.int .i64 t205, .int .i64 t206, .int .i64 t207, .int .i64 t208]] ?_; (with_reducible refine (spec_l24Meet.calls t196 t197 t198 t199 t205 t206 t207 t208 true _ A26.out).mono ?_); rintro e w30 ⟨rfl, hb⟩; refine ⟨_, rfl, ?_⟩; replace BK200 := Aside0.mk (bb_ (bk_ BK200.out) hb); replace HB := Aside0.mk (below_step (lb1_ HB.out GE200.out) hb); (try clear hb); (try clear hb2); (try clear hk); (try clear hi); refine hK.out _ _ ⟨(blk_cell BK200.out 0).trans rfl, (blk_cell BK200.out 1).trans rfl, (blk_cell BK200.out 2).trans rfl, (blk_cell BK200.out 3).trans rfl, ((HB.out.cell (World.block_lt_of_cell? w _ hw202_0)).trans hw202_0), ((HB.out.cell (World.block_lt_of_cell? w _ hw203_0)).trans hw203_0), ((HB.out.cell (World.block_lt_of_cell? w _ hw203_1)).trans hw203_1), ((HB.out.cell (World.block_lt_of_cell? w _ hw203_2)).trans hw203_2), ((HB.out.cell (World.block_lt_of_cell? w _ hw204_0)).trans hw204_0)⟩ (fun hHeld => ?_); clear hK K; refine na_ ?_; refine pz_ HT_ 17 (some 44) spec_l24May.mk31 ?_; refine done_ (done_of HT_.out (by kernel_rfl)) ?_
             try go_wp2
             go_ret
             exact ⟨rr_, lb1_ HB.out GE200.out⟩
            ·
             replace c27 := Bool.eq_false_iff.mpr c27; subst c27
             have H1 : (spec_l24May.l0 k1 l0 l1 a2 (wrap64 (x8_1 + 1)) t196 t197 t198 t199) = some r := by rw [if_neg (show ¬ (false = true) by decide)] at H; exact H
             clear H; have H := H1; clear H1; have H' := Aside0.mk H; clear H
             try go_wp2
             replace BK200 := Aside0.mk (blk_drew BK200.out); replace HB := Aside0.mk (below_drew1 HB.out); have p202 : 0 ≤ (x8_1 : Int) := dt_; have q202 : x8_1 < (l1.length : Int) := dt_; obtain ⟨ad202, e202, hx202_0⟩ := Kd.at_int HR1.out x8_1 p202 q202; have hw202_0 := hx202_0
             obtain rfl : ad195 = ad202 := (by injection e202)
             replace hx202_0 := bc_ HB.out hx202_0; replace p202 := eq_true p202; replace q202 := eq_true q202; have p203 : 0 ≤ (x8_1 : Int) := dt_; have q203 : x8_1 < (l0.length : Int) := dt_; obtain ⟨ad203, e203, hx203_0, hx203_1, hx203_2⟩ := at_T29 HR0.out x8_1 p203 q203; have hw203_2 := hx203_2; have hw203_1 := hx203_1; have hw203_0 := hx203_0
             obtain rfl : ad194 = ad203 := (by injection e203)
             replace hx203_0 := bc_ HB.out hx203_0; replace hx203_1 := bc_ HB.out hx203_1; replace hx203_2 := bc_ HB.out hx203_2; replace p203 := eq_true p203; replace q203 := eq_true q203; have p204 : 0 ≤ (x8_1 : Int) := dt_; have q204 : x8_1 < (l1.length : Int) := dt_; obtain ⟨ad204, e204, hx204_0⟩ := Kd.at_int HR1.out x8_1 p204 q204; have hw204_0 := hx204_0
             obtain rfl : ad195 = ad204 := (by injection e204)
             replace hx204_0 := bc_ HB.out hx204_0; replace p204 := eq_true p204; replace q204 := eq_true q204; refine start_ (n := 18) (S := fun w' => w'.cell? ⟨gb200, 0, none⟩ = some (.int .i64 t196) ∧ w'.cell? ⟨gb200, 1, none⟩ = some (.int .i64 t197) ∧ w'.cell? ⟨gb200, 2, none⟩ = some (.int .i64 t198) ∧ w'.cell? ⟨gb200, 3, none⟩ = some (.int .i64 t199) ∧ w'.cell? (ad195.add (x8_1).toNat) = some (.int .i64 (rd l1 x8_1)) ∧ w'.cell? (ad194.add ((x8_1).toNat * 3)) = some (.string ((rd_T29 l0 x8_1).f0)) ∧ w'.cell? ⟨(ad194.add ((x8_1).toNat * 3)).block, (ad194.add ((x8_1).toNat * 3)).off + 1, none⟩ = some (.int .i64 ((rd_T29 l0 x8_1).f1)) ∧ w'.cell? ⟨(ad194.add ((x8_1).toNat * 3)).block, (ad194.add ((x8_1).toNat * 3)).off + 2, none⟩ = some (.int .i64 ((rd_T29 l0 x8_1).f2)) ∧ w'.cell? (ad195.add (x8_1).toNat) = some (.int .i64 (rd l1 x8_1))) (ds := []) spec_l24May.mk13 (by kernel_rfl) rfl rfl ⟨(blk_cell BK200.out 0).trans rfl, (blk_cell BK200.out 1).trans rfl, (blk_cell BK200.out 2).trans rfl, (blk_cell BK200.out 3).trans rfl, (bc_ HB.out hw202_0), (bc_ HB.out hw203_0), (bc_ HB.out hw203_1), (bc_ HB.out hw203_2), (bc_ HB.out hw204_0)⟩ (fun hHeld => ?_); refine with_tabW spec_l24May.tab7 spec_l24May.bits7 (fun HT_ HW_ => ?_); generalize wr.drew = w31 at BK200 HB hx202_0 hx203_0 hx203_1 hx203_2 hx204_0 hHeld ⊢; refine pz_ HT_ 0 (some 27) spec_l24May.mk14 ?_; refine pz_ HT_ 1 (some 28) spec_l24May.mk15 ?_; refine pz_ HT_ 2 (some 29) spec_l24May.mk16 ?_; refine tk_ HT_ HW_ hHeld 3 (some 30) spec_l24May.mk17 ?_; refine pz_ HT_ 4 (some 31) spec_l24May.mk18 ?_; refine pz_ HT_ 5 (some 32) spec_l24May.mk19 ?_; refine pz_ HT_ 7 (some 34) spec_l24May.mk20 ?_; refine pz_ HT_ 8 (some 35) spec_l24May.mk21 ?_; refine pz_ HT_ 9 (some 36) spec_l24May.mk22 ?_; refine pz_ HT_ 11 (some 38) spec_l24May.mk23 ?_; refine pz_ HT_ 12 (some 39) spec_l24May.mk24 ?_; refine pz_ HT_ 13 (some 40) spec_l24May.mk25 ?_; refine tk_ HT_ HW_ hHeld 6 (some 33) spec_l24May.mk26 ?_; refine tk_ HT_ HW_ hHeld 10 (some 37) spec_l24May.mk27 ?_; refine tk_ HT_ HW_ hHeld 14 (some 41) spec_l24May.mk28 ?_; refine one_ (i := 15) (N := some 42) spec_l24May.mk29 rfl rfl (one_of HT_.out (by kernel_rfl)) (by decide) (fun K hK => ?_); refine gs_ Tryd.func56 #[.agg #[.string ((rd_T29 l0 x8_1).f0), .int .i64 ((rd_T29 l0 x8_1).f1), .int .i64 ((rd_T29 l0 x8_1).f2)], .int .i64 (rd l1 x8_1)] ?_; (with_reducible refine (spec_l24Box.calls ((rd_T29 l0 x8_1).f0) ((rd_T29 l0 x8_1).f1) ((rd_T29 l0 x8_1).f2) (rd l1 x8_1) t205 t206 t207 t208 _ A25.out).mono ?_); rintro e w32 ⟨rfl, hb⟩; refine ⟨_, rfl, ?_⟩; replace BK200 := Aside0.mk (bb_ (bk_ BK200.out) hb); replace HB := Aside0.mk (below_step (lb1_ HB.out GE200.out) hb); (try clear hb); (try clear hb2); (try clear hk); (try clear hi); refine hK.out _ _ ⟨(blk_cell BK200.out 0).trans rfl, (blk_cell BK200.out 1).trans rfl, (blk_cell BK200.out 2).trans rfl, (blk_cell BK200.out 3).trans rfl, ((HB.out.cell (World.block_lt_of_cell? w _ hw202_0)).trans hw202_0), ((HB.out.cell (World.block_lt_of_cell? w _ hw203_0)).trans hw203_0), ((HB.out.cell (World.block_lt_of_cell? w _ hw203_1)).trans hw203_1), ((HB.out.cell (World.block_lt_of_cell? w _ hw203_2)).trans hw203_2), ((HB.out.cell (World.block_lt_of_cell? w _ hw204_0)).trans hw204_0)⟩ (fun hHeld => ?_); clear hK K; refine na_ ?_; refine one_ (i := 16) (N := some 43) spec_l24May.mk30 rfl rfl (one_of HT_.out (by kernel_rfl)) (by decide) (fun K hK => ?_); refine gs_ Tryd.func92 #[.agg #[.int .i64 t196, .int .i64 t197, .int .i64 t198, .int .i64 t199], .agg #[.int .i64 t205, .int .i64 t206, .int .i64 t207, .int .i64 t208]] ?_; (with_reducible refine (spec_l24Meet.calls t196 t197 t198 t199 t205 t206 t207 t208 false _ A26.out).mono ?_); rintro e w33 ⟨rfl, hb⟩; refine ⟨_, rfl, ?_⟩; replace BK200 := Aside0.mk (bb_ (bk_ BK200.out) hb); replace HB := Aside0.mk (below_step (lb1_ HB.out GE200.out) hb); (try clear hb); (try clear hb2); (try clear hk); (try clear hi); refine hK.out _ _ ⟨(blk_cell BK200.out 0).trans rfl, (blk_cell BK200.out 1).trans rfl, (blk_cell BK200.out 2).trans rfl, (blk_cell BK200.out 3).trans rfl, ((HB.out.cell (World.block_lt_of_cell? w _ hw202_0)).trans hw202_0), ((HB.out.cell (World.block_lt_of_cell? w _ hw203_0)).trans hw203_0), ((HB.out.cell (World.block_lt_of_cell? w _ hw203_1)).trans hw203_1), ((HB.out.cell (World.block_lt_of_cell? w _ hw203_2)).trans hw203_2), ((HB.out.cell (World.block_lt_of_cell? w _ hw204_0)).trans hw204_0)⟩ (fun hHeld => ?_); clear hK K; refine na_ ?_; refine pz_ HT_ 17 (some 44) spec_l24May.mk31 ?_; refine done_ (done_of HT_.out (by kernel_rfl)) ?_
             try go_wp2
             go_roundg k1
             case measure => have := HK1.out; omega
             case rel => exact ⟨(wrap64 (x8_1 + 1)), (by first | rfl | (simp; done) | (simp [*]; done)), H', ⟨by have := HK1.out; omega⟩, ⟨bk_ BK200.out⟩, ⟨lb1_ HB.out GE200.out⟩⟩
           ·
            rw [if_neg c24] at H
            exact absurd H (by simp)
          ·
           rw [if_neg c23] at H
           have c23b0 : decide (0 ≤ (rd l1 x8_1)) = false := decide_eq_false c23; clear c23; have H' := Aside0.mk H; clear H
           try go_wp2
           replace BK200 := Aside0.mk (blk_drew BK200.out); replace HB := Aside0.mk (below_drew1 HB.out); have p202 : 0 ≤ (x8_1 : Int) := dt_; have q202 : x8_1 < (l1.length : Int) := dt_; obtain ⟨ad202, e202, hx202_0⟩ := Kd.at_int HR1.out x8_1 p202 q202; have hw202_0 := hx202_0
           obtain rfl : ad195 = ad202 := (by injection e202)
           replace hx202_0 := bc_ HB.out hx202_0; replace p202 := eq_true p202; replace q202 := eq_true q202; refine start_ (n := 18) (S := fun w' => w'.cell? (ad195.add (x8_1).toNat) = some (.int .i64 (rd l1 x8_1))) (ds := []) spec_l24May.mk13 (by kernel_rfl) rfl rfl ((bc_ HB.out hw202_0)) (fun hHeld => ?_); refine with_tabW spec_l24May.tab7 spec_l24May.bits7 (fun HT_ HW_ => ?_); generalize wr.drew = w34 at BK200 HB hx202_0 hHeld ⊢; refine pz_ HT_ 0 (some 27) spec_l24May.mk14 ?_; refine pz_ HT_ 1 (some 28) spec_l24May.mk15 ?_; refine pz_ HT_ 2 (some 29) spec_l24May.mk16 ?_; refine take_ (i := 3) (N := some 30) (v := ?_) (a' := ?_) spec_l24May.mk17 rfl rfl (take_ofW HT_.out HW_.out (by kernel_rfl)) (fun _ _ _ h => h) (Or.inl ⟨by rfl, ?_⟩) hHeld ?_ ?_; rotate_left
           ·
            intro w' s0; go_simp; (with_reducible rfl)
           rotate_left
           ·
            simp only [Act.put, List.setIfInBounds_toArray, List.set_cons_zero, List.set_cons_succ, i64_w, i32_w]; rfl
           refine pz_ HT_ 4 (some 31) spec_l24May.mk18 ?_; refine pz_ HT_ 5 (some 32) spec_l24May.mk19 ?_; refine pu_ HT_ 6 (some 33) spec_l24May.mk32 ?_; refine pu_ HT_ 7 (some 34) spec_l24May.mk33 ?_; refine pu_ HT_ 8 (some 35) spec_l24May.mk34 ?_; refine pu_ HT_ 9 (some 36) spec_l24May.mk35 ?_; refine pu_ HT_ 10 (some 37) spec_l24May.mk36 ?_; refine pu_ HT_ 11 (some 38) spec_l24May.mk37 ?_; refine pu_ HT_ 12 (some 39) spec_l24May.mk38 ?_; refine pu_ HT_ 13 (some 40) spec_l24May.mk27 ?_; refine pu_ HT_ 14 (some 41) spec_l24May.mk28 ?_; refine pu_ HT_ 15 (some 42) spec_l24May.mk29 ?_; refine pu_ HT_ 16 (some 43) spec_l24May.mk30 ?_; refine pz_ HT_ 17 (some 44) spec_l24May.mk31 ?_; refine done_ (done_of HT_.out (by kernel_rfl)) ?_
           try go_wp2
           go_roundg k1
           case measure => have := HK1.out; omega
           case rel => exact ⟨(wrap64 (x8_1 + 1)), (by first | rfl | (simp; done) | (simp [*]; done)), H', ⟨by have := HK1.out; omega⟩, ⟨bk_ BK200.out⟩, ⟨lb1_ HB.out GE200.out⟩⟩
         ·
          rw [if_neg c22] at H
          exact absurd H (by simp)
        ·
         rw [if_neg c21] at H
         exact absurd H (by simp)
       ·
        rw [if_neg c20] at H
        have c20b0 : decide (x8_1 < a2) = false := decide_eq_false c20; clear c20; obtain rfl := Option.some.inj H
        go_wp2
        go_ret
        exact ⟨rr_, lb1_ HB.out GE200.out⟩
    ·
     replace c9 := Bool.eq_false_iff.mpr c9
     subst c9
     have H1 : (some false) = some r := by rw [if_neg (show ¬ (false = true) by decide)] at H; exact H
     clear H
     have H := H1
     clear H1
     obtain rfl := Option.some.inj H
     go_enter Tryd.func64, Tryd.ntmps64
     try go_wp2
     replace HB := Aside0.mk (below_drew1 HB.out)
     have p194 : 0 ≤ (a2 : Int) := dt_
     have q194 : a2 < (l0.length : Int) := dt_
     obtain ⟨ad194, e194, hx194_0, hx194_1, hx194_2⟩ := at_T29 HR0.out a2 p194 q194
     have hw194_2 := hx194_2
     have hw194_1 := hx194_1
     have hw194_0 := hx194_0
     cases e194
     replace hx194_0 := bc_ HB.out hx194_0
     replace hx194_1 := bc_ HB.out hx194_1
     replace hx194_2 := bc_ HB.out hx194_2
     replace p194 := eq_true p194
     replace q194 := eq_true q194
     have p195 : 0 ≤ (a2 : Int) := dt_
     have q195 : a2 < (l1.length : Int) := dt_
     obtain ⟨ad195, e195, hx195_0⟩ := Kd.at_int HR1.out a2 p195 q195
     have hw195_0 := hx195_0
     cases e195
     replace hx195_0 := bc_ HB.out hx195_0
     replace p195 := eq_true p195
     replace q195 := eq_true q195
     refine start_ (n := 11) (S := fun w' => w'.cell? (ad194.add ((a2).toNat * 3)) = some (.string ((rd_T29 l0 a2).f0)) ∧ w'.cell? ⟨(ad194.add ((a2).toNat * 3)).block, (ad194.add ((a2).toNat * 3)).off + 1, none⟩ = some (.int .i64 ((rd_T29 l0 a2).f1)) ∧ w'.cell? ⟨(ad194.add ((a2).toNat * 3)).block, (ad194.add ((a2).toNat * 3)).off + 2, none⟩ = some (.int .i64 ((rd_T29 l0 a2).f2)) ∧ w'.cell? (ad195.add (a2).toNat) = some (.int .i64 (rd l1 a2))) (ds := []) spec_l24May.mk0 (by kernel_rfl) rfl rfl ⟨(bc_ HB.out hw194_0), (bc_ HB.out hw194_1), (bc_ HB.out hw194_2), (bc_ HB.out hw195_0)⟩ (fun hHeld => ?_); refine with_tabW spec_l24May.tab1 spec_l24May.bits1 (fun HT_ HW_ => ?_)
     generalize w.drew = w35 at HB hx194_0 hx194_1 hx194_2 hx195_0 hHeld ⊢
     refine pz_ HT_ 0 (some 9) spec_l24May.mk1 ?_
     refine pz_ HT_ 1 (some 10) spec_l24May.mk2 ?_
     refine pz_ HT_ 2 (some 11) spec_l24May.mk3 ?_
     refine pz_ HT_ 4 (some 13) spec_l24May.mk4 ?_
     refine pz_ HT_ 5 (some 14) spec_l24May.mk5 ?_
     refine pz_ HT_ 6 (some 15) spec_l24May.mk6 ?_
     refine tk_ HT_ HW_ hHeld 3 (some 12) spec_l24May.mk7 ?_
     refine tk_ HT_ HW_ hHeld 7 (some 16) spec_l24May.mk8 ?_
     refine join_ (σ := Nat) 1 spec_l24May.mk9 (fun s_ => [(17, .agg #[.int .i64 t196, .int .i64 t197, .int .i64 t198, .int .i64 t199]), (7, .pointer (some ⟨s_, 0, none⟩))]) (fun s_ w' => (w'.cell? (ad194.add ((a2).toNat * 3)) = some (.string ((rd_T29 l0 a2).f0)) ∧ w'.cell? ⟨(ad194.add ((a2).toNat * 3)).block, (ad194.add ((a2).toNat * 3)).off + 1, none⟩ = some (.int .i64 ((rd_T29 l0 a2).f1)) ∧ w'.cell? ⟨(ad194.add ((a2).toNat * 3)).block, (ad194.add ((a2).toNat * 3)).off + 2, none⟩ = some (.int .i64 ((rd_T29 l0 a2).f2)) ∧ w'.cell? (ad195.add (a2).toNat) = some (.int .i64 (rd l1 a2))) ∧ (w'.heap[s_]? = some (.cells #[.int .i64 0, .int .i64 0, .int .i64 0, .int .i64 0] 26 (0, 0))) ∧ (w.heap.size ≤ s_) ∧ (w.heap.size ≤ s_) ∧ (Below w.heap.size w w')) ?_ ?_
     rotate_left
     ·
      intro hCont
      refine two_ (i := 8) (j := 9) (Ni := some 17) (Nj := some 7) spec_l24May.mk10 spec_l24May.mk11 rfl rfl rfl rfl (two_of HT_.out (by kernel_rfl)) (by decide) (by decide) (fun K hK => ?_) (fun K hK => ?_)
      ·
       skip
       refine gs_ Tryd.func56 #[.agg #[.string ((rd_T29 l0 a2).f0), .int .i64 ((rd_T29 l0 a2).f1), .int .i64 ((rd_T29 l0 a2).f2)], .int .i64 (rd l1 a2)] ?_
       with_reducible refine (spec_l24Box.calls ((rd_T29 l0 a2).f0) ((rd_T29 l0 a2).f1) ((rd_T29 l0 a2).f2) (rd l1 a2) t196 t197 t198 t199 _ A7.out).mono ?_
       rintro e w36 ⟨rfl, hb⟩
       refine ⟨_, rfl, ?_⟩
       replace HB := Aside0.mk (below_step (lb0_ HB.out) hb)
       (try clear hb)
       (try clear hb2)
       (try clear hk)
       (try clear hi)
       refine hK.out _ _ ⟨((HB.out.cell (World.block_lt_of_cell? w _ hw194_0)).trans hw194_0), ((HB.out.cell (World.block_lt_of_cell? w _ hw194_1)).trans hw194_1), ((HB.out.cell (World.block_lt_of_cell? w _ hw194_2)).trans hw194_2), ((HB.out.cell (World.block_lt_of_cell? w _ hw195_0)).trans hw195_0)⟩ (fun hHeld => ?_)
       clear hK K
       refine na_ ?_
       refine one_ (i := 9) (N := some 7) spec_l24May.mk9 rfl rfl (one_of HT_.out (by kernel_rfl)) (by decide) (fun K hK => ?_)
       refine box_step ?hg (N := 7) ?hd (cs := #[.int .i64 0, .int .i64 0, .int .i64 0, .int .i64 0]) (t := 26) ?hr ?_; (case hd => rfl); (case hg => rfl); (case hr => first | (go_simp; done) | (go_simp; rfl))
       intro gb200 hg w37 hbox hb
       have BK200 := Aside0.mk (hbox)
       have GW200 := Aside0.mk ((bz_ hg (lb0_ HB.out)))
       have GE200 := Aside0.mk ((bz_ hg (lb0_ HB.out)))
       replace HB := Aside0.mk (below_step (lb0_ HB.out) hb)
       clear hb hbox hg
       refine hK.out _ _ ⟨((HB.out.cell (World.block_lt_of_cell? w _ hw194_0)).trans hw194_0), ((HB.out.cell (World.block_lt_of_cell? w _ hw194_1)).trans hw194_1), ((HB.out.cell (World.block_lt_of_cell? w _ hw194_2)).trans hw194_2), ((HB.out.cell (World.block_lt_of_cell? w _ hw195_0)).trans hw195_0)⟩ (fun hHeld => ?_)
       clear hK K
       refine na_ ?_
       exact norm_ (by simp only [putAll, Act.put, List.setIfInBounds_toArray, List.set_cons_zero, List.set_cons_succ]) (hCont (gb200) _ ⟨hHeld, (bk_ BK200.out), GW200.out, GE200.out, (lb1_ HB.out GE200.out)⟩)
      ·
       skip
       refine box_step ?hg (N := 7) ?hd (cs := #[.int .i64 0, .int .i64 0, .int .i64 0, .int .i64 0]) (t := 26) ?hr ?_; (case hd => rfl); (case hg => rfl); (case hr => first | (go_simp; done) | (go_simp; rfl))
       intro gb200 hg w36 hbox hb
       have BK200 := Aside0.mk (hbox)
       have GW200 := Aside0.mk ((bz_ hg (lb0_ HB.out)))
       have GE200 := Aside0.mk ((bz_ hg (lb0_ HB.out)))
       replace HB := Aside0.mk (below_step (lb0_ HB.out) hb)
       clear hb hbox hg
       refine hK.out _ _ ⟨((HB.out.cell (World.block_lt_of_cell? w _ hw194_0)).trans hw194_0), ((HB.out.cell (World.block_lt_of_cell? w _ hw194_1)).trans hw194_1), ((HB.out.cell (World.block_lt_of_cell? w _ hw194_2)).trans hw194_2), ((HB.out.cell (World.block_lt_of_cell? w _ hw195_0)).trans hw195_0)⟩ (fun hHeld => ?_)
       clear hK K
       refine na_ ?_
       refine one_ (i := 8) (N := some 17) spec_l24May.mk9 rfl rfl (one_of HT_.out (by kernel_rfl)) (by decide) (fun K hK => ?_)
       refine gs_ Tryd.func56 #[.agg #[.string ((rd_T29 l0 a2).f0), .int .i64 ((rd_T29 l0 a2).f1), .int .i64 ((rd_T29 l0 a2).f2)], .int .i64 (rd l1 a2)] ?_
       with_reducible refine (spec_l24Box.calls ((rd_T29 l0 a2).f0) ((rd_T29 l0 a2).f1) ((rd_T29 l0 a2).f2) (rd l1 a2) t196 t197 t198 t199 _ A7.out).mono ?_
       rintro e w37 ⟨rfl, hb⟩
       refine ⟨_, rfl, ?_⟩
       replace BK200 := Aside0.mk (bb_ (bk_ BK200.out) hb)
       replace HB := Aside0.mk (below_step (lb1_ HB.out GE200.out) hb)
       (try clear hb)
       (try clear hb2)
       (try clear hk)
       (try clear hi)
       refine hK.out _ _ ⟨((HB.out.cell (World.block_lt_of_cell? w _ hw194_0)).trans hw194_0), ((HB.out.cell (World.block_lt_of_cell? w _ hw194_1)).trans hw194_1), ((HB.out.cell (World.block_lt_of_cell? w _ hw194_2)).trans hw194_2), ((HB.out.cell (World.block_lt_of_cell? w _ hw195_0)).trans hw195_0)⟩ (fun hHeld => ?_)
       clear hK K
       refine na_ ?_
       exact norm_ (by simp only [putAll, Act.put, List.setIfInBounds_toArray, List.set_cons_zero, List.set_cons_succ]) (hCont (gb200) _ ⟨hHeld, (bk_ BK200.out), GW200.out, GE200.out, (lb1_ HB.out GE200.out)⟩)
     rintro gb200 w38 ⟨hS_, h0_, h1_, h2_, h3_⟩
     (try dsimp only at h0_ h1_ h2_ h3_)
     have BK200 := Aside0.mk h0_
     have GW200 := Aside0.mk h1_
     have GE200 := Aside0.mk h2_
     replace HB := Aside0.mk h3_
     clear h0_ h1_ h2_ h3_
     have hHeld : w38.cell? (ad194.add ((a2).toNat * 3)) = some (.string ((rd_T29 l0 a2).f0)) ∧ w38.cell? ⟨(ad194.add ((a2).toNat * 3)).block, (ad194.add ((a2).toNat * 3)).off + 1, none⟩ = some (.int .i64 ((rd_T29 l0 a2).f1)) ∧ w38.cell? ⟨(ad194.add ((a2).toNat * 3)).block, (ad194.add ((a2).toNat * 3)).off + 2, none⟩ = some (.int .i64 ((rd_T29 l0 a2).f2)) ∧ w38.cell? (ad195.add (a2).toNat) = some (.int .i64 (rd l1 a2)) := hS_
     refine nb_ ?_
     refine one_ (i := 10) (N := none) spec_l24May.mk12 rfl rfl (one_of HT_.out (by kernel_rfl)) (by decide) (fun K hK => ?_)
     have hs39 : w38.cell? ⟨gb200, 0, none⟩ = some (.int .i64 0) := (blk_cell BK200.out 0).trans rfl
     have hfs39 := blk_frozen BK200.out 0
     have hs40 : w38.cell? ⟨gb200, 1, none⟩ = some (.int .i64 0) := (blk_cell BK200.out 1).trans rfl
     have hfs40 := blk_frozen BK200.out 1
     have hs41 : w38.cell? ⟨gb200, 2, none⟩ = some (.int .i64 0) := (blk_cell BK200.out 2).trans rfl
     have hfs41 := blk_frozen BK200.out 2
     have hs42 : w38.cell? ⟨gb200, 3, none⟩ = some (.int .i64 0) := (blk_cell BK200.out 3).trans rfl
     have hfs42 := blk_frozen BK200.out 3
     refine skip_ (w1 := ?_) (by rfl) rfl ?_ ?_
     rotate_left
     ·
      go_simp
      rfl
     refine hK.out _ _ ⟨((cell_far (p := ⟨gb200, _, none⟩) (Nat.ne_of_lt (Nat.lt_of_lt_of_le (World.block_lt_of_cell? _ _ hw194_0) GW200.out)) _).trans (((cell_far (p := ⟨gb200, _, none⟩) (Nat.ne_of_lt (Nat.lt_of_lt_of_le (World.block_lt_of_cell? _ _ hw194_0) GW200.out)) _).trans (((cell_far (p := ⟨gb200, _, none⟩) (Nat.ne_of_lt (Nat.lt_of_lt_of_le (World.block_lt_of_cell? _ _ hw194_0) GW200.out)) _).trans (((cell_far (p := ⟨gb200, _, none⟩) (Nat.ne_of_lt (Nat.lt_of_lt_of_le (World.block_lt_of_cell? _ _ hw194_0) GW200.out)) _).trans (hHeld.1)))))))), ((cell_far (p := ⟨gb200, _, none⟩) (Nat.ne_of_lt (Nat.lt_of_lt_of_le (World.block_lt_of_cell? _ _ hw194_1) GW200.out)) _).trans (((cell_far (p := ⟨gb200, _, none⟩) (Nat.ne_of_lt (Nat.lt_of_lt_of_le (World.block_lt_of_cell? _ _ hw194_1) GW200.out)) _).trans (((cell_far (p := ⟨gb200, _, none⟩) (Nat.ne_of_lt (Nat.lt_of_lt_of_le (World.block_lt_of_cell? _ _ hw194_1) GW200.out)) _).trans (((cell_far (p := ⟨gb200, _, none⟩) (Nat.ne_of_lt (Nat.lt_of_lt_of_le (World.block_lt_of_cell? _ _ hw194_1) GW200.out)) _).trans (hHeld.2.1)))))))), ((cell_far (p := ⟨gb200, _, none⟩) (Nat.ne_of_lt (Nat.lt_of_lt_of_le (World.block_lt_of_cell? _ _ hw194_2) GW200.out)) _).trans (((cell_far (p := ⟨gb200, _, none⟩) (Nat.ne_of_lt (Nat.lt_of_lt_of_le (World.block_lt_of_cell? _ _ hw194_2) GW200.out)) _).trans (((cell_far (p := ⟨gb200, _, none⟩) (Nat.ne_of_lt (Nat.lt_of_lt_of_le (World.block_lt_of_cell? _ _ hw194_2) GW200.out)) _).trans (((cell_far (p := ⟨gb200, _, none⟩) (Nat.ne_of_lt (Nat.lt_of_lt_of_le (World.block_lt_of_cell? _ _ hw194_2) GW200.out)) _).trans (hHeld.2.2.1)))))))), ((cell_far (p := ⟨gb200, _, none⟩) (Nat.ne_of_lt (Nat.lt_of_lt_of_le (World.block_lt_of_cell? _ _ hw195_0) GW200.out)) _).trans (((cell_far (p := ⟨gb200, _, none⟩) (Nat.ne_of_lt (Nat.lt_of_lt_of_le (World.block_lt_of_cell? _ _ hw195_0) GW200.out)) _).trans (((cell_far (p := ⟨gb200, _, none⟩) (Nat.ne_of_lt (Nat.lt_of_lt_of_le (World.block_lt_of_cell? _ _ hw195_0) GW200.out)) _).trans (((cell_far (p := ⟨gb200, _, none⟩) (Nat.ne_of_lt (Nat.lt_of_lt_of_le (World.block_lt_of_cell? _ _ hw195_0) GW200.out)) _).trans (hHeld.2.2.2))))))))⟩ (fun hHeld => ?_)
     clear hK K
     refine done_ (done_of HT_.out (by kernel_rfl)) ?_
     obtain ⟨hcz43_0, hcz43_1, hcz43_2, hcz43_3⟩ := cz4_ BK200.out
     obtain ⟨hfz43_0, hfz43_1, hfz43_2, hfz43_3⟩ := fz4_ BK200.out
     try go_wp2_with (first | ((with_reducible refine gate_callee (f := 97) rfl ?_); refine ga_ (some 20) Tryd.func97 #[.slice (some ad194) l0.length c0, .agg #[.int .i64 t196, .int .i64 t197, .int .i64 t198, .int .i64 t199]] ?_; (with_reducible refine (spec_l24Free.calls k _ _ l0 t196 t197 t198 t199 false _ ?side1 ?side2 A8.out).mono ?_); (case side1 => exact Kd.C_below HR0.out (lb1_ HB.out GE200.out)); (case side2 => exact HC0.out); rintro e w44 ⟨rfl, hb⟩; refine ⟨_, rfl, ?_⟩; replace BK200 := Aside0.mk (blk_below (g := gb200) (o := .cells #[.int .i64 t196, .int .i64 t197, .int .i64 t198, .int .i64 t199] 26 (0, 0)) (by (with_reducible repeat (first | refine blk_drewN ?_ _ | refine blk_drew ?_ | refine blk_alloc ?_ _)); exact (p4_ BK200.out _ _ _ _)) hb); replace HB := Aside0.mk (below_step (lb1_ HB.out GE200.out) hb); (try clear hb); (try clear hb2); (try clear hk); (try clear hi)))
     go_ret
     exact ⟨rr_, lb1_ HB.out GE200.out⟩
   ·
    rw [if_neg c6] at H
    exact absurd H (by simp)
  ·
   rw [if_neg c5] at H
   exact absurd H (by simp)
 ·
  rw [if_neg c4] at H
  exact absurd H (by simp)
def spec_l1Own.f (l0 : List Int) : Option (List Int) := (some (([] : List Int) : List Int)).bind fun y405 => (if y405.length + l0.length < 17592186044416 then (some (y405 ++ l0)) else (none))
set_option maxHeartbeats 8000000 in
set_option maxRecDepth 100000 in
theorem spec_l1Own.calls (A0 : Option Addr) (c0 : Nat) (l0 : List Int) (r : List Int) (w : World) (hr0 : Kd.C (Kd.int .i64) w A0 l0.length l0) (hc0 : l0.length ≤ c0) (h : spec_l1Own.f l0 = some r) :
  Calls Tryd.prog 101 #[.slice A0 l0.length c0] w fun e w' => ∃ v0_ : Value, e = .returned (v0_) ∧ Kd.R (Kd.int .i64) 3 w' w.heap.size (fun _ => True) v0_ r ∧ Below w.heap.size w w' := by
 have HR0 := Aside0.mk hr0
 have HC0 := Aside0.mk hc0
 clear hr0 hc0
 have HB := Aside0.mk (Below.refl w.heap.size w)
 have H : ((some (([] : List Int) : List Int)).bind fun y405 => (if y405.length + l0.length < 17592186044416 then (some (y405 ++ l0)) else (none))) = some r := h
 clear h
 obtain ⟨y405, hy405⟩ : ∃ y_ : List Int, y_ = (([] : List Int)) := ⟨_, rfl⟩
 replace H : (if y405.length + l0.length < 17592186044416 then (some (y405 ++ l0)) else (none)) = some r := by first | (rw [hy405]; with_reducible exact H) | (have H2_ := (Option.bind_some _ _).symm.trans H; rw [hy405]; with_reducible exact H2_) | (have H2_ := (Option.bind_some _ _).symm.trans H; with_reducible exact H2_) | with_reducible exact H | (rw [hy405]; exact H) | exact H
 have Ny405 := Aside0.mk hy405
 clear hy405
 by_cases c2 : y405.length + l0.length < 17592186044416
 ·
  rw [if_pos c2] at H
  have LMc2 := Aside0.mk c2
  clear c2
  obtain ⟨y408, hy408⟩ : ∃ y_ : List Int, y_ = (y405 ++ l0) := ⟨_, rfl⟩
  replace H : (some y408) = some r := by first | (rw [hy408]; with_reducible exact H) | (have H2_ := (Option.bind_some _ _).symm.trans H; rw [hy408]; with_reducible exact H2_) | (have H2_ := (Option.bind_some _ _).symm.trans H; with_reducible exact H2_) | with_reducible exact H | (rw [hy408]; exact H) | exact H
  have Ny408 := Aside0.mk hy408
  clear hy408
  obtain rfl := Option.some.inj H
  go_enter Tryd.func101, Tryd.ntmps101
  go_wp2_with (first | ((with_reducible refine gate_dst (N := 3) rfl ?_); refine Kd.R_lit (Kd.int .i64) _ 3 ?hg (N := 3) ?hd (xs := ([] : List Int)) (inner := []) (ok := fun _ => True) (okp := fun _ => True) ?hr ?hp (fun _ hk => hk) trivial (Below.refl _ _) (Nat.le_refl _) (by simp) ?_; (case hd => rfl); (case hg => rfl); (case hr => first | (go_simp; done) | (go_simp; rfl)); (case hp => exact (Reps.none _ _)); intro v406 w3 ho4 hb hg_ hnew_; clear hg_ hnew_; replace ho4 := ry_ Ny405.out ho4; have HO407 := Aside0.mk (Kd.R_lower ho4 (below_size (lb0_ HB.out))); replace HB := Aside0.mk (below_step (lb0_ HB.out) hb); clear hb ho4) | ((with_reducible refine gate_builtin (b := .append) (xs := #[.tmp 3, .tmp 4]) rfl ?_); at_builtin; refine Kd.R_append_rows (Kd.int .i64) (w0 := w) w.heap.size rfl (.tmp 3) (.tmp 4) 40 3 (.int .i64 0) 8 rfl Tryd.underlying40 info3 rfl (by decide) (by omega) v406 y405 l0 _ _ _ (fun _ => True) (fun _ => False) rfl rfl ?aO ?aR (fun _ _ h => h) (fun _ h => h.elim) ?aF ?aB ?aS ?aL ?_; (case aR => exact kc_ (Kd.C_below HR0.out HB.out)); (case aB => exact (lb0_ HB.out)); (case aF => exact (fun _ _ => trivial)); (case aO => exact (kr_ HO407.out)); (case aS => exact (below_size (lb0_ HB.out))); (case aL => have := LMc2.out; omega); intro v409 w5 ho hb hg hat; rw [← Ny408.out] at ho; replace HB := Aside0.mk (hb); have HO410 := Aside0.mk (ho); clear HO407; clear ho hb hg hat))
  go_ret
  exact ⟨_, rr_, kr_ HO410.out, lb0_ HB.out⟩
 ·
  rw [if_neg c2] at H
  exact absurd H (by simp)
mutual
def spec_l24Count.l0 : Nat → List (S29) → Int → List Int → Int → List Int → Int → Int → Option (List Int × Int)
 | 0, _, _, _, _, _, _, _ => none
 | k + 1, x0, x1, x2, x8, x11, x12, x13 => if x13 < 4 then ((spec_l1Own.f x2).bind fun t424 => (if t424.length < 17592186044416 then ((some (t424 ++ [x13] : List Int)).bind fun y427 => ((spec_l24May.f k x0 y427 x8).bind fun t430 => (if t430 = true then ((spec_l24Count.f k x0 x1 y427).bind fun bt431 => (if x12 = 0 then (if bt431.2 > 0 then (spec_l24Count.l0 k x0 x1 x2 x8 bt431.1 (wrap64 (x12 + bt431.2)) (wrap64 (x13 + 1))) else (spec_l24Count.l0 k x0 x1 x2 x8 x11 (wrap64 (x12 + bt431.2)) (wrap64 (x13 + 1)))) else (spec_l24Count.l0 k x0 x1 x2 x8 x11 (wrap64 (x12 + bt431.2)) (wrap64 (x13 + 1))))) else (spec_l24Count.l0 k x0 x1 x2 x8 x11 x12 (wrap64 (x13 + 1)))))) else (none))) else (some (x11, x12))
def spec_l24Count.f : Nat → List (S29) → Int → List Int → Option (List Int × Int)
 | 0, _, _, _ => none
 | k + 1, l0, a1, l2 => if (l2.length : Int) = (l0.length : Int) then (some (l2, 1)) else (if 0 ≤ (IntKind.u64.wrap ((l2.length : Int))) then (if (Go.bits .and .i64 (shr .i64 a1 (IntKind.u64.wrap ((l2.length : Int)))) 1) = 0 then ((spec_l1Own.f l2).bind fun t411 => (if t411.length < 17592186044416 then ((spec_l24Count.f k l0 a1 (t411 ++ [(-1)])).bind fun bt417 => (some (bt417.1, bt417.2))) else (none))) else (spec_l24Count.l0 k l0 a1 l2 (l2.length : Int) (([] : List Int)) 0 0)) else (none))
end
set_option maxHeartbeats 8000000 in
set_option maxRecDepth 100000 in
theorem spec_l24Count.calls (k : Nat) : ∀ (A0 : Option Addr) (c0 : Nat) (l0 : List (S29)) (a1 : Int) (P2_ : Nat → Prop) (u9000_ : Value) (l2 : List Int) (r1 : List Int) (r2 : Int) (w0 w : World) (hB : Below w0.heap.size w0 w) (hr0 : ∀ W_, Kept w W_ (fun k_ => P2_ k_) → Kd.C k29 W_ A0 l0.length l0) (hc0 : l0.length ≤ c0) (ho2 : Kd.R (Kd.int .i64) 3 w w0.heap.size P2_ u9000_ l2) (h : spec_l24Count.f k l0 a1 l2 = some (r1, r2)),
  Calls Tryd.prog 76 #[.slice A0 l0.length c0, .int .i64 a1, u9000_] w fun e w' => ∃ v0_ : Value, e = .returned (.tuple #[v0_, .int .i64 r2]) ∧ Kd.R (Kd.int .i64) 3 w' w0.heap.size (fun k_ => (P2_ k_ ∨ w.heap.size ≤ k_)) v0_ r1 ∧ Below w0.heap.size w0 w' ∧ Kept w w' (fun k_ => P2_ k_) := by
 induction k using Nat.strongRecOn with
 | _ k ih =>
 intro A0 c0 l0 a1 P2_ u9000_ l2 r1 r2 w0 w hB hr0 hc0 ho2 h
 cases k with
 | zero => exact absurd h (by simp [spec_l24Count.f])
 | succ k =>
 simp only [spec_l24Count.f] at h
 have HR0 := Aside0.mk hr0
 have HC0 := Aside0.mk hc0
 clear hr0 hc0
 have HO2 := Aside0.mk (show Kd.R (Kd.int .i64) 3 w w0.heap.size (fun k_ => (P2_ k_ ∨ w.heap.size ≤ k_)) u9000_ l2 from Kd.R_mono ho2 (fun k_ hk => (.inl hk)))
 have HK := Aside0.mk (Kept.refl w (fun k_ => P2_ k_))
 have HW0 := Aside0.mk hB.size
 have HB := Aside0.mk hB
 clear hB
 have H : (if (l2.length : Int) = (l0.length : Int) then (some (l2, 1)) else (if 0 ≤ (IntKind.u64.wrap ((l2.length : Int))) then (if (Go.bits .and .i64 (shr .i64 a1 (IntKind.u64.wrap ((l2.length : Int)))) 1) = 0 then ((spec_l1Own.f l2).bind fun t411 => (if t411.length < 17592186044416 then ((spec_l24Count.f k l0 a1 (t411 ++ [(-1)])).bind fun bt417 => (some (bt417.1, bt417.2))) else (none))) else (spec_l24Count.l0 k l0 a1 l2 (l2.length : Int) (([] : List Int)) 0 0)) else (none))) = some (r1, r2) := h
 clear h
 by_cases c4 : (l2.length : Int) = (l0.length : Int)
 ·
  rw [if_pos c4] at H
  have c4b0 : ((l2.length : Int) == (l0.length : Int)) = true := beq_iff_eq.mpr c4
  have c4b1 : ((l2.length : Int) != (l0.length : Int)) = false := bne_eq_false_iff_eq.mpr c4
  have c4b2 : (l2.length == l0.length) = true := by first | simpa using c4 | (simp at c4 ⊢; omega)
  clear c4
  simp only [Option.some.injEq, Prod.mk.injEq] at H
  obtain ⟨rfl, rfl⟩ := H
  obtain ⟨Ao5, co5, eo5⟩ := Kd.R_slice HO2.out
  subst eo5
  go_enter Tryd.func76, Tryd.ntmps76
  go_wp2
  go_ret2
  exact ⟨_, rr_, kr_ HO2.out, lb0_ HB.out, kt_ HK.out⟩
 ·
  rw [if_neg c4] at H
  have c4b0 : ((l2.length : Int) == (l0.length : Int)) = false := beq_eq_false_iff_ne.mpr c4
  have c4b1 : ((l2.length : Int) != (l0.length : Int)) = true := bne_iff_ne.mpr c4
  have c4b2 : (l2.length == l0.length) = false := by first | simpa using c4 | (simp at c4 ⊢; omega)
  obtain ⟨ji6, hji6⟩ : ∃ j_ : Int, (IntKind.u64.wrap ((l2.length : Int))) = j_ := ⟨_, rfl⟩
  replace H : (if 0 ≤ (ji6) then (if (Go.bits .and .i64 (shr .i64 a1 (ji6)) 1) = 0 then ((spec_l1Own.f l2).bind fun t411 => (if t411.length < 17592186044416 then ((spec_l24Count.f k l0 a1 (t411 ++ [(-1)])).bind fun bt417 => (some (bt417.1, bt417.2))) else (none))) else (spec_l24Count.l0 k l0 a1 l2 (l2.length : Int) (([] : List Int)) 0 0)) else (none)) = some (r1, r2) := by first | (rw [hji6] at H; exact H) | (simp only [hji6] at H ⊢; exact H)
  by_cases c7 : 0 ≤ (ji6)
  ·
   rw [if_pos c7] at H
   have c7b0 := eq_true c7
   have c7b1 : decide (0 ≤ (ji6)) = true := decide_eq_true c7
   clear c7
   obtain ⟨ji8, hji8⟩ : ∃ j_ : Int, (shr .i64 a1 (ji6)) = j_ := ⟨_, rfl⟩
   replace H : (if (Go.bits .and .i64 (ji8) 1) = 0 then ((spec_l1Own.f l2).bind fun t411 => (if t411.length < 17592186044416 then ((spec_l24Count.f k l0 a1 (t411 ++ [(-1)])).bind fun bt417 => (some (bt417.1, bt417.2))) else (none))) else (spec_l24Count.l0 k l0 a1 l2 (l2.length : Int) (([] : List Int)) 0 0)) = some (r1, r2) := by first | (rw [hji8] at H; exact H) | (simp only [hji8] at H ⊢; exact H)
   have hji8_ : (a1 / 2 ^ min (ji6).toNat 64) = ji8 := hji8
   have hji8z : (ji6) ≤ 64 → (a1 / 2 ^ (ji6).toNat) = ji8 := shr_small hji8
   by_cases c9 : (Go.bits .and .i64 (ji8) 1) = 0
   ·
    rw [if_pos c9] at H
    have c9b0 : ((Go.bits .and .i64 (ji8) 1) == 0) = true := beq_iff_eq.mpr c9
    have c9b1 : ((Go.bits .and .i64 (ji8) 1) != 0) = false := bne_eq_false_iff_eq.mpr c9
    clear c9
    replace H := Option.bind_eq_some_iff.mp H
    obtain ⟨t411, A100, H⟩ := H
    replace H : (if t411.length < 17592186044416 then ((spec_l24Count.f k l0 a1 (t411 ++ [(-1)])).bind fun bt417 => (some (bt417.1, bt417.2))) else (none)) = some (r1, r2) := H
    have A10 := Aside0.mk A100
    clear A100
    by_cases c11 : t411.length < 17592186044416
    ·
     rw [if_pos c11] at H
     have LMc11 := Aside0.mk c11
     clear c11
     obtain ⟨y414, hy414⟩ : ∃ y_ : List Int, y_ = (t411 ++ [(-1)]) := ⟨_, rfl⟩
     replace H : ((spec_l24Count.f k l0 a1 y414).bind fun bt417 => (some (bt417.1, bt417.2))) = some (r1, r2) := by first | (rw [hy414]; with_reducible exact H) | (have H2_ := (Option.bind_some _ _).symm.trans H; rw [hy414]; with_reducible exact H2_) | (have H2_ := (Option.bind_some _ _).symm.trans H; with_reducible exact H2_) | with_reducible exact H | (rw [hy414]; exact H) | exact H
     have Ny414 := Aside0.mk hy414
     clear hy414
     replace H := Option.bind_eq_some_iff.mp H
     obtain ⟨⟨t417, t420⟩, A120, H⟩ := H
     replace H : (some (t417, t420)) = some (r1, r2) := H
     have A12 := Aside0.mk A120
     clear A120
     simp only [Option.some.injEq, Prod.mk.injEq] at H
     obtain ⟨rfl, rfl⟩ := H
     obtain ⟨Ao13, co13, eo13⟩ := Kd.R_slice HO2.out
     subst eo13
     go_enter Tryd.func76, Tryd.ntmps76
     go_wp2_with (first | ((with_reducible refine gate_callee (f := 101) rfl ?_); refine ga_ (some 34) Tryd.func101 #[.slice Ao13 l2.length co13] ?_; (with_reducible refine (spec_l1Own.calls _ _ l2 t411 _ ?side1 ?side2 A10.out).mono ?_); (case side1 => exact kc_ (Kd.R_reads' HO2.out).2.2); (case side2 => exact (Kd.R_reads' HO2.out).2.1); rintro e w14 ⟨v412, rfl, ho0, hb⟩; refine ⟨_, rfl, ?_⟩; have HO413 := Aside0.mk (Kd.R_lower (Kd.R_new' (Kd.R_newM (M := fun k_ => (P2_ k_ ∨ w.heap.size ≤ k_)) ho0 (by first | exact HK.out.1 | exact (show Kept w _ (fun k_ => P2_ k_) from kt_ HK.out).1) (fun k_ h_ => .inr h_)) (Kd.R_lt (kr_ HO2.out))) (below_size (lb0_ HB.out))); replace HO2 := Aside0.mk (Kd.R_elder' (kr_ HO2.out) (Kd.R_base ho0) hb); replace HK := Aside0.mk (Kept.below (S := (fun k_ => P2_ k_)) (kt_ HK.out) hb); replace HB := Aside0.mk (below_step (lb0_ HB.out) hb); (try clear hb); (try clear hb2); (try clear hk); (try clear hi); (try clear ho0)) | ((with_reducible refine gate_builtin (b := .append) (xs := #[.tmp 34, .tmp 35]) rfl ?_); at_builtin; refine Kd.R_append (Kd.int .i64) (w0 := w0) w0.heap.size rfl (.tmp 34) (.tmp 35) 40 3 (.int .i64 0) 8 rfl Tryd.underlying40 info3 rfl (by decide) (by omega) v412 t411 (-1) [.int .i64 (-1)] (fun k_ => (P2_ k_ ∨ w.heap.size ≤ k_) ∧ some k_ ≠ (.slice Ao13 l2.length co13 : Value).ownBlock) (fun _ => False) rfl rfl ?aP (fun _ hk => hk.elim) ?aF ?aO ?aB ?aS ?aL ?_; (case aP => exact rfl); (case aB => exact (lb0_ HB.out)); (case aF => exact (fun k_ hk => ⟨(.inr (Nat.le_trans (by first | exact HK.out.1 | exact (show Kept w _ (fun k_ => P2_ k_) from kt_ HK.out).1) hk)), Kd.fresh' (Kd.R_lt (kr_ HO2.out)) k_ hk⟩)); (case aO => exact (krm_ HO413.out (fun _ hk => ⟨hk.1.1, hk.2⟩))); (case aS => exact (below_size (lb0_ HB.out))); (case aL => have := LMc11.out; omega); intro v415 w15 ho hb hg hat; rw [← Ny414.out] at ho; replace HO2 := Aside0.mk (Kd.R_after (ok := (fun k_ => (P2_ k_ ∨ w.heap.size ≤ k_))) (kr_ HO2.out) hg hat); replace HB := Aside0.mk (hb); replace HK := Aside0.mk (Kept.of_grown (S := (fun k_ => P2_ k_)) hg (kt_ HK.out) (fun k_ e_ => (HO413.out.1 k_ e_).1.1)); have HO416 := Aside0.mk (ho); clear HO413; clear ho hb hg hat; obtain ⟨Ao16, co16, eo16⟩ := Kd.R_slice HO416.out; subst eo16) | ((with_reducible refine gate_callee (f := 76) rfl ?_); refine ga_ (some 37) Tryd.func76 #[.slice A0 l0.length c0, .int .i64 a1, .slice Ao16 y414.length co16] ?_; (with_reducible refine (ih k (by omega) _ _ l0 a1 (fun k_ => some k_ = (.slice Ao16 y414.length co16 : Value).ownBlock) (.slice Ao16 y414.length co16) y414 t417 t420 w0 _ ?side1 ?side2 ?side3 ?side4 A12.out).mono ?_); (case side1 => exact lb0_ HB.out); (case side2 => exact Kd.C_kept_call HR0.out (kt_ HK.out) (fun k_ hs_ => (fun e_ => (HO416.out.1 k_ e_.symm).1) hs_)); (case side3 => exact HC0.out); (case side4 => exact Kd.R_tight rfl HO416.out); rintro e w17 ⟨v418, rfl, ho0, hb, hkp⟩; refine ⟨_, rfl, ?_⟩; have HO419 := Aside0.mk (Kd.R_mono (ok' := fun k_ => (P2_ k_ ∨ w.heap.size ≤ k_) ∧ some k_ ≠ (.slice Ao13 l2.length co13 : Value).ownBlock) ho0 (fun k_ hk_ => ⟨Or.elim hk_ (fun hs_ => (HO416.out.1 k_ (hs_).symm).1) (fun hn_ => (.inr (Nat.le_trans (by first | exact HK.out.1 | exact (show Kept w _ (fun k_ => P2_ k_) from kt_ HK.out).1) hn_))), Or.elim hk_ (fun hs_ => fun e_ => (((HO2.out).1 k_ e_.symm).2) hs_) (fun hn_ => (Kd.fresh' (Kd.R_lt (kr_ HO2.out)) k_ hn_))⟩)); replace HO2 := Aside0.mk (Kd.R_mono (ok' := fun k_ => (P2_ k_ ∨ w.heap.size ≤ k_) ∧ some k_ ≠ (v418 : Value).ownBlock) (Kd.R_keptB (HO2.out) hkp (fun k_ hk_ hs_ => (hk_.2) hs_)) (fun k_ hk_ => ⟨hk_.1.1, fun e_ => Or.elim (ho0.1 k_ e_.symm) (fun hs_ => hk_.2.1 hs_) (fun hn_ => Nat.not_le.2 hk_.2.2 hn_)⟩)); replace HK := Aside0.mk (Kept.then_ (S := (fun k_ => P2_ k_)) (kt_ HK.out) hkp (fun k_ hs_ => (fun e_ => (HO416.out.1 k_ e_.symm).1) hs_)); replace HB := Aside0.mk (hb); clear HO416; (try clear hb); (try clear hkp); (try clear ho0)))
     go_ret2
     exact ⟨_, by first | rfl | (simp [errW_none, errW_some] <;> rfl) | (simp only [← hji6, ← hji8]; first | rfl | (simp [errW_none, errW_some] <;> rfl)) | (simp [*, errW_none, errW_some] <;> rfl), krm_ HO419.out (fun _ hk => hk.1), lb0_ HB.out, kt_ HK.out⟩
    ·
     rw [if_neg c11] at H
     exact absurd H (by simp)
   ·
    rw [if_neg c9] at H
    have c9b0 : ((Go.bits .and .i64 (ji8) 1) == 0) = false := beq_eq_false_iff_ne.mpr c9
    have c9b1 : ((Go.bits .and .i64 (ji8) 1) != 0) = true := bne_iff_ne.mpr c9
    obtain ⟨y421, hy421⟩ : ∃ y_ : List Int, y_ = (([] : List Int)) := ⟨_, rfl⟩
    replace H : (spec_l24Count.l0 k l0 a1 l2 (l2.length : Int) y421 0 0) = some (r1, r2) := by first | (rw [hy421]; with_reducible exact H) | (have H2_ := (Option.bind_some _ _).symm.trans H; rw [hy421]; with_reducible exact H2_) | (have H2_ := (Option.bind_some _ _).symm.trans H; with_reducible exact H2_) | with_reducible exact H | (rw [hy421]; exact H) | exact H
    have Ny421 := Aside0.mk hy421
    clear hy421
    have H' := Aside0.mk H
    clear H
    obtain ⟨Ao18, co18, eo18⟩ := Kd.R_slice HO2.out
    subst eo18
    go_enter Tryd.func76, Tryd.ntmps76
    go_wp2_with (first | ((with_reducible refine gate_dst (N := 42) rfl ?_); refine Kd.R_lit (Kd.int .i64) _ 3 ?hg (N := 42) ?hd (xs := ([] : List Int)) (inner := []) (ok := fun _ => True) (okp := fun _ => True) ?hr ?hp (fun _ hk => hk) trivial (Below.refl _ _) (Nat.le_refl _) (by simp) ?_; (case hd => rfl); (case hg => rfl); (case hr => first | (go_simp; done) | (go_simp; rfl)); (case hp => exact (Reps.none _ _)); intro v422 w19 ho20 hb hg_ hnew_; clear hg_ hnew_; replace ho20 := ry_ Ny421.out ho20; have HO423 := Aside0.mk (Kd.R_lower (Kd.R_new' (Kd.R_newM (M := fun k_ => (P2_ k_ ∨ w.heap.size ≤ k_)) ho20 (by first | exact HK.out.1 | exact (show Kept w _ (fun k_ => P2_ k_) from kt_ HK.out).1) (fun k_ h_ => .inr h_)) (Kd.R_lt (kr_ HO2.out))) (below_size (lb0_ HB.out))); replace HO2 := Aside0.mk (Kd.R_elder' (kr_ HO2.out) (Kd.R_base ho20) hb); replace HK := Aside0.mk (Kept.below (S := (fun k_ => P2_ k_)) (kt_ HK.out) hb); replace HB := Aside0.mk (below_step (lb0_ HB.out) hb); clear hb ho20))
    go_loopg [11, 12, 13] k (fun kq v11 v12 v13 w' => ∃ (x11_1 : List Int) (x12_1 : Int) (x13_1 : Int), v12 = .int .i64 x12_1 ∧ v13 = .int .i64 x13_1 ∧ Aside0 (spec_l24Count.l0 kq l0 a1 l2 (l2.length : Int) x11_1 x12_1 x13_1 = some (r1, r2)) ∧ Aside0 (kq ≤ k) ∧ Aside0 (Kd.R (Kd.int .i64) 3 w' w0.heap.size (fun k_ => (P2_ k_ ∨ w.heap.size ≤ k_) ∧ some k_ ≠ (v11 : Value).ownBlock) (.slice Ao18 l2.length co18) l2) ∧ Aside0 (Kd.R (Kd.int .i64) 3 w' w0.heap.size (fun k_ => (P2_ k_ ∨ w.heap.size ≤ k_) ∧ some k_ ≠ ((.slice Ao18 l2.length co18) : Value).ownBlock) v11 x11_1) ∧ Aside0 (Kept w w' (fun k_ => P2_ k_)) ∧ Aside0 (Below w0.heap.size w0 w'))
    case atStart => exact ⟨(y421), (0), (0), (by first | rfl | (simp; done) | (simp [*]; done)), (by first | rfl | (simp; done) | (simp [*]; done)), H', ⟨Nat.le_refl _⟩, ⟨kr_ HO2.out⟩, ⟨krm_ HO423.out (fun _ hk => ⟨hk.1.1, hk.2⟩)⟩, ⟨kt_ HK.out⟩, ⟨lb0_ HB.out⟩⟩
    case round =>
     clear H'
     try clear c1
     try clear p2
     try clear c4
     try clear c4b0
     try clear c4b1
     try clear c4b2
     try clear c7
     try clear c7b0
     try clear c7b1
     try clear c9
     try clear c9b0
     try clear c9b1
     try clear c10
     try clear c11
     obtain ⟨x11_1, x12_1, x13_1, rfl, rfl, HA, HK1, HO_2, HO_11, HK, HB⟩ := hrel
     cases gk with
     | zero => exact absurd HA.out (by simp [spec_l24Count.l0])
     | succ k1 =>
      have H := HA.out
      clear HA
      simp only [spec_l24Count.l0] at H
      by_cases c21 : x13_1 < 4
      ·
       rw [if_pos c21] at H
       have c21b0 : decide (x13_1 < 4) = true := decide_eq_true c21
       clear c21
       replace H := Option.bind_eq_some_iff.mp H
       obtain ⟨t424, A220, H⟩ := H
       replace H : (if t424.length < 17592186044416 then ((some (t424 ++ [x13_1] : List Int)).bind fun y427 => ((spec_l24May.f k1 l0 y427 (l2.length : Int)).bind fun t430 => (if t430 = true then ((spec_l24Count.f k1 l0 a1 y427).bind fun bt431 => (if x12_1 = 0 then (if bt431.2 > 0 then (spec_l24Count.l0 k1 l0 a1 l2 (l2.length : Int) bt431.1 (wrap64 (x12_1 + bt431.2)) (wrap64 (x13_1 + 1))) else (spec_l24Count.l0 k1 l0 a1 l2 (l2.length : Int) x11_1 (wrap64 (x12_1 + bt431.2)) (wrap64 (x13_1 + 1)))) else (spec_l24Count.l0 k1 l0 a1 l2 (l2.length : Int) x11_1 (wrap64 (x12_1 + bt431.2)) (wrap64 (x13_1 + 1))))) else (spec_l24Count.l0 k1 l0 a1 l2 (l2.length : Int) x11_1 x12_1 (wrap64 (x13_1 + 1)))))) else (none)) = some (r1, r2) := H
       have A22 := Aside0.mk A220
       clear A220
       by_cases c23 : t424.length < 17592186044416
       ·
        rw [if_pos c23] at H
        have LMc23 := Aside0.mk c23; clear c23
        obtain ⟨y427, hy427⟩ : ∃ y_ : List Int, y_ = (t424 ++ [x13_1]) := ⟨_, rfl⟩
        replace H : ((spec_l24May.f k1 l0 y427 (l2.length : Int)).bind fun t430 => (if t430 = true then ((spec_l24Count.f k1 l0 a1 y427).bind fun bt431 => (if x12_1 = 0 then (if bt431.2 > 0 then (spec_l24Count.l0 k1 l0 a1 l2 (l2.length : Int) bt431.1 (wrap64 (x12_1 + bt431.2)) (wrap64 (x13_1 + 1))) else (spec_l24Count.l0 k1 l0 a1 l2 (l2.length : Int) x11_1 (wrap64 (x12_1 + bt431.2)) (wrap64 (x13_1 + 1)))) else (spec_l24Count.l0 k1 l0 a1 l2 (l2.length : Int) x11_1 (wrap64 (x12_1 + bt431.2)) (wrap64 (x13_1 + 1))))) else (spec_l24Count.l0 k1 l0 a1 l2 (l2.length : Int) x11_1 x12_1 (wrap64 (x13_1 + 1))))) = some (r1, r2) := by first | (rw [hy427]; with_reducible exact H) | (have H2_ := (Option.bind_some _ _).symm.trans H; rw [hy427]; with_reducible exact H2_) | (have H2_ := (Option.bind_some _ _).symm.trans H; with_reducible exact H2_) | with_reducible exact H | (rw [hy427]; exact H) | exact H
        have Ny427 := Aside0.mk hy427; clear hy427; replace H := Option.bind_eq_some_iff.mp H; obtain ⟨t430, A240, H⟩ := H; replace H : (if t430 = true then ((spec_l24Count.f k1 l0 a1 y427).bind fun bt431 => (if x12_1 = 0 then (if bt431.2 > 0 then (spec_l24Count.l0 k1 l0 a1 l2 (l2.length : Int) bt431.1 (wrap64 (x12_1 + bt431.2)) (wrap64 (x13_1 + 1))) else (spec_l24Count.l0 k1 l0 a1 l2 (l2.length : Int) x11_1 (wrap64 (x12_1 + bt431.2)) (wrap64 (x13_1 + 1)))) else (spec_l24Count.l0 k1 l0 a1 l2 (l2.length : Int) x11_1 (wrap64 (x12_1 + bt431.2)) (wrap64 (x13_1 + 1))))) else (spec_l24Count.l0 k1 l0 a1 l2 (l2.length : Int) x11_1 x12_1 (wrap64 (x13_1 + 1)))) = some (r1, r2) := H; have A24 := Aside0.mk A240; clear A240
        by_cases c25 : t430 = true
        ·
         subst c25
         have H1 : ((spec_l24Count.f k1 l0 a1 y427).bind fun bt431 => (if x12_1 = 0 then (if bt431.2 > 0 then (spec_l24Count.l0 k1 l0 a1 l2 (l2.length : Int) bt431.1 (wrap64 (x12_1 + bt431.2)) (wrap64 (x13_1 + 1))) else (spec_l24Count.l0 k1 l0 a1 l2 (l2.length : Int) x11_1 (wrap64 (x12_1 + bt431.2)) (wrap64 (x13_1 + 1)))) else (spec_l24Count.l0 k1 l0 a1 l2 (l2.length : Int) x11_1 (wrap64 (x12_1 + bt431.2)) (wrap64 (x13_1 + 1))))) = some (r1, r2) := by rw [if_pos rfl] at H; exact H
         clear H; have H := H1; clear H1; replace H := Option.bind_eq_some_iff.mp H; obtain ⟨⟨t431, t434⟩, A260, H⟩ := H; replace H : (if x12_1 = 0 then (if t434 > 0 then (spec_l24Count.l0 k1 l0 a1 l2 (l2.length : Int) t431 (wrap64 (x12_1 + t434)) (wrap64 (x13_1 + 1))) else (spec_l24Count.l0 k1 l0 a1 l2 (l2.length : Int) x11_1 (wrap64 (x12_1 + t434)) (wrap64 (x13_1 + 1)))) else (spec_l24Count.l0 k1 l0 a1 l2 (l2.length : Int) x11_1 (wrap64 (x12_1 + t434)) (wrap64 (x13_1 + 1)))) = some (r1, r2) := H; have A26 := Aside0.mk A260; clear A260
         by_cases c27 : x12_1 = 0
         ·
          rw [if_pos c27] at H
          have c27b0 : (x12_1 == 0) = true := beq_iff_eq.mpr c27; have c27b1 : (x12_1 != 0) = false := bne_eq_false_iff_eq.mpr c27; clear c27
          by_cases c28 : t434 > 0
          ·
           rw [if_pos c28] at H
           have c28b0 : decide (0 < t434) = true := decide_eq_true c28; clear c28; have H' := Aside0.mk H; clear H
           go_wp2_with (first | ((with_reducible refine gate_callee (f := 101) rfl ?_); refine ga_ (some 48) Tryd.func101 #[.slice Ao18 l2.length co18] ?_; (with_reducible refine (spec_l1Own.calls _ _ l2 t424 _ ?side1 ?side2 A22.out).mono ?_); (case side1 => exact kc_ (Kd.R_reads' HO_2.out).2.2); (case side2 => exact (Kd.R_reads' HO_2.out).2.1); rintro e w29 ⟨v425, rfl, ho0, hb⟩; refine ⟨_, rfl, ?_⟩; have HO426 := Aside0.mk (Kd.R_lower (Kd.R_new' (Kd.R_new' (Kd.R_newM (M := fun k_ => (P2_ k_ ∨ w.heap.size ≤ k_)) ho0 (by first | exact HK.out.1 | exact (show Kept w _ (fun k_ => P2_ k_) from kt_ HK.out).1) (fun k_ h_ => .inr h_)) (Kd.R_lt (kr_ HO_2.out))) (Kd.R_lt (kr_ HO_11.out))) (below_size (lb0_ HB.out))); replace HO_2 := Aside0.mk (Kd.R_elder' (kr_ HO_2.out) (Kd.R_base ho0) hb); replace HO_11 := Aside0.mk (Kd.R_elder' (kr_ HO_11.out) (Kd.R_base ho0) hb); replace HK := Aside0.mk (Kept.below (S := (fun k_ => P2_ k_)) (kt_ HK.out) hb); replace HB := Aside0.mk (below_step (lb0_ HB.out) hb); (try clear hb); (try clear hb2); (try clear hk); (try clear hi); (try clear ho0)) | ((with_reducible refine gate_builtin (b := .append) (xs := #[.tmp 48, .tmp 50]) rfl ?_); at_builtin; refine Kd.R_append (Kd.int .i64) (w0 := w0) w0.heap.size rfl (.tmp 48) (.tmp 50) 40 3 (.int .i64 0) 8 rfl Tryd.underlying40 info3 rfl (by decide) (by omega) v425 t424 x13_1 [.int .i64 x13_1] (fun k_ => (P2_ k_ ∨ w.heap.size ≤ k_) ∧ some k_ ≠ (.slice Ao18 l2.length co18 : Value).ownBlock ∧ some k_ ≠ (u11 : Value).ownBlock) (fun _ => False) rfl rfl ?aP (fun _ hk => hk.elim) ?aF ?aO ?aB ?aS ?aL ?_; (case aP => exact rfl); (case aB => exact (lb0_ HB.out)); (case aF => exact (fun k_ hk => ⟨(.inr (Nat.le_trans (by first | exact HK.out.1 | exact (show Kept w _ (fun k_ => P2_ k_) from kt_ HK.out).1) hk)), Kd.fresh' (Kd.R_lt (kr_ HO_2.out)) k_ hk, Kd.fresh' (Kd.R_lt (kr_ HO_11.out)) k_ hk⟩)); (case aO => exact (krm_ HO426.out (fun _ hk => ⟨hk.1.1.1, ⟨hk.1.2, hk.2⟩⟩))); (case aS => exact (below_size (lb0_ HB.out))); (case aL => have := LMc23.out; omega); intro v428 w30 ho hb hg hat; rw [← Ny427.out] at ho; replace HO_2 := Aside0.mk (Kd.R_after (ok := (fun k_ => (P2_ k_ ∨ w.heap.size ≤ k_) ∧ some k_ ≠ (u11 : Value).ownBlock)) (kr_ HO_2.out) hg hat); replace HO_11 := Aside0.mk (Kd.R_after (ok := (fun k_ => (P2_ k_ ∨ w.heap.size ≤ k_) ∧ some k_ ≠ (.slice Ao18 l2.length co18 : Value).ownBlock)) (kr_ HO_11.out) hg hat); replace HB := Aside0.mk (hb); replace HK := Aside0.mk (Kept.of_grown (S := (fun k_ => P2_ k_)) hg (kt_ HK.out) (fun k_ e_ => (HO426.out.1 k_ e_).1.1.1)); have HO429 := Aside0.mk (ho); clear HO426; clear ho hb hg hat; obtain ⟨Ao31, co31, eo31⟩ := Kd.R_slice HO429.out; subst eo31) | ((with_reducible refine gate_callee (f := 64) rfl ?_); refine ga_ (some 55) Tryd.func64 #[.slice A0 l0.length c0, .slice Ao31 y427.length co31, .int .i64 (l2.length : Int)] ?_; (with_reducible refine (spec_l24May.calls k1 _ _ l0 _ _ y427 (l2.length : Int) true _ ?side1 ?side2 ?side3 ?side4 A24.out).mono ?_); (case side1 => exact Kd.C_kept_now HR0.out (kt_ HK.out)); (case side2 => exact HC0.out); (case side3 => exact kc_ (Kd.R_reads' HO429.out).2.2); (case side4 => exact (Kd.R_reads' HO429.out).2.1); rintro e w32 ⟨rfl, hb⟩; refine ⟨_, rfl, ?_⟩; replace HO_2 := Aside0.mk (Kd.R_below (kr_ HO_2.out) hb); replace HO_11 := Aside0.mk (Kd.R_below (kr_ HO_11.out) hb); replace HO429 := Aside0.mk (Kd.R_below (kr_ HO429.out) hb); replace HK := Aside0.mk (Kept.below (S := (fun k_ => P2_ k_)) (kt_ HK.out) hb); replace HB := Aside0.mk (below_step (lb0_ HB.out) hb); (try clear hb); (try clear hb2); (try clear hk); (try clear hi)) | ((with_reducible refine gate_callee (f := 76) rfl ?_); refine ga_ (some 61) Tryd.func76 #[.slice A0 l0.length c0, .int .i64 a1, .slice Ao31 y427.length co31] ?_; (with_reducible refine (ih k1 (by have := HK1.out; omega) _ _ l0 a1 (fun k_ => some k_ = (.slice Ao31 y427.length co31 : Value).ownBlock) (.slice Ao31 y427.length co31) y427 t431 t434 w0 _ ?side1 ?side2 ?side3 ?side4 A26.out).mono ?_); (case side1 => exact lb0_ HB.out); (case side2 => exact Kd.C_kept_call HR0.out (kt_ HK.out) (fun k_ hs_ => (fun e_ => (HO429.out.1 k_ e_.symm).1) hs_)); (case side3 => exact HC0.out); (case side4 => exact Kd.R_tight rfl HO429.out); rintro e w33 ⟨v432, rfl, ho0, hb, hkp⟩; refine ⟨_, rfl, ?_⟩; have HO433 := Aside0.mk (Kd.R_mono (ok' := fun k_ => (P2_ k_ ∨ w.heap.size ≤ k_) ∧ some k_ ≠ (.slice Ao18 l2.length co18 : Value).ownBlock ∧ some k_ ≠ (u11 : Value).ownBlock) ho0 (fun k_ hk_ => ⟨Or.elim hk_ (fun hs_ => (HO429.out.1 k_ (hs_).symm).1) (fun hn_ => (.inr (Nat.le_trans (by first | exact HK.out.1 | exact (show Kept w _ (fun k_ => P2_ k_) from kt_ HK.out).1) hn_))), Or.elim hk_ (fun hs_ => fun e_ => (((HO_2.out).1 k_ e_.symm).2) hs_) (fun hn_ => (Kd.fresh' (Kd.R_lt (kr_ HO_2.out)) k_ hn_)), Or.elim hk_ (fun hs_ => fun e_ => (((HO_11.out).1 k_ e_.symm).2) hs_) (fun hn_ => (Kd.fresh' (Kd.R_lt (kr_ HO_11.out)) k_ hn_))⟩)); replace HO_2 := Aside0.mk (Kd.R_mono (ok' := fun k_ => (P2_ k_ ∨ w.heap.size ≤ k_) ∧ some k_ ≠ (u11 : Value).ownBlock ∧ some k_ ≠ (v432 : Value).ownBlock) (Kd.R_keptB (HO_2.out) hkp (fun k_ hk_ hs_ => (hk_.2) hs_)) (fun k_ hk_ => ⟨hk_.1.1.1, hk_.1.1.2, fun e_ => Or.elim (ho0.1 k_ e_.symm) (fun hs_ => hk_.2.1 hs_) (fun hn_ => Nat.not_le.2 hk_.2.2 hn_)⟩)); replace HO_11 := Aside0.mk (Kd.R_mono (ok' := fun k_ => (P2_ k_ ∨ w.heap.size ≤ k_) ∧ some k_ ≠ (.slice Ao18 l2.length co18 : Value).ownBlock ∧ some k_ ≠ (v432 : Value).ownBlock) (Kd.R_keptB (HO_11.out) hkp (fun k_ hk_ hs_ => (hk_.2) hs_)) (fun k_ hk_ => ⟨hk_.1.1.1, hk_.1.1.2, fun e_ => Or.elim (ho0.1 k_ e_.symm) (fun hs_ => hk_.2.1 hs_) (fun hn_ => Nat.not_le.2 hk_.2.2 hn_)⟩)); replace HK := Aside0.mk (Kept.then_ (S := (fun k_ => P2_ k_)) (kt_ HK.out) hkp (fun k_ hs_ => (fun e_ => (HO429.out.1 k_ e_.symm).1) hs_)); replace HB := Aside0.mk (hb); clear HO429; (try clear hb); (try clear hkp); (try clear ho0)))
           go_roundg k1
           case measure => have := HK1.out; omega
           case rel => exact ⟨(t431), (wrap64 (x12_1 + t434)), (wrap64 (x13_1 + 1)), (by first | rfl | (simp; done) | (simp [*]; done)), (by first | rfl | (simp; done) | (simp [*]; done)), H', ⟨by have := HK1.out; omega⟩, ⟨krm_ HO_2.out (fun _ hk => ⟨hk.1, hk.2.2⟩)⟩, ⟨krm_ HO433.out (fun _ hk => ⟨hk.1, hk.2.1⟩)⟩, ⟨kt_ HK.out⟩, ⟨lb0_ HB.out⟩⟩
          ·
           rw [if_neg c28] at H
           have c28b0 : decide (0 < t434) = false := decide_eq_false c28; clear c28; have H' := Aside0.mk H; clear H
           go_wp2_with (first | ((with_reducible refine gate_callee (f := 101) rfl ?_); refine ga_ (some 48) Tryd.func101 #[.slice Ao18 l2.length co18] ?_; (with_reducible refine (spec_l1Own.calls _ _ l2 t424 _ ?side1 ?side2 A22.out).mono ?_); (case side1 => exact kc_ (Kd.R_reads' HO_2.out).2.2); (case side2 => exact (Kd.R_reads' HO_2.out).2.1); rintro e w34 ⟨v425, rfl, ho0, hb⟩; refine ⟨_, rfl, ?_⟩; have HO426 := Aside0.mk (Kd.R_lower (Kd.R_new' (Kd.R_new' (Kd.R_newM (M := fun k_ => (P2_ k_ ∨ w.heap.size ≤ k_)) ho0 (by first | exact HK.out.1 | exact (show Kept w _ (fun k_ => P2_ k_) from kt_ HK.out).1) (fun k_ h_ => .inr h_)) (Kd.R_lt (kr_ HO_2.out))) (Kd.R_lt (kr_ HO_11.out))) (below_size (lb0_ HB.out))); replace HO_2 := Aside0.mk (Kd.R_elder' (kr_ HO_2.out) (Kd.R_base ho0) hb); replace HO_11 := Aside0.mk (Kd.R_elder' (kr_ HO_11.out) (Kd.R_base ho0) hb); replace HK := Aside0.mk (Kept.below (S := (fun k_ => P2_ k_)) (kt_ HK.out) hb); replace HB := Aside0.mk (below_step (lb0_ HB.out) hb); (try clear hb); (try clear hb2); (try clear hk); (try clear hi); (try clear ho0)) | ((with_reducible refine gate_builtin (b := .append) (xs := #[.tmp 48, .tmp 50]) rfl ?_); at_builtin; refine Kd.R_append (Kd.int .i64) (w0 := w0) w0.heap.size rfl (.tmp 48) (.tmp 50) 40 3 (.int .i64 0) 8 rfl Tryd.underlying40 info3 rfl (by decide) (by omega) v425 t424 x13_1 [.int .i64 x13_1] (fun k_ => (P2_ k_ ∨ w.heap.size ≤ k_) ∧ some k_ ≠ (.slice Ao18 l2.length co18 : Value).ownBlock ∧ some k_ ≠ (u11 : Value).ownBlock) (fun _ => False) rfl rfl ?aP (fun _ hk => hk.elim) ?aF ?aO ?aB ?aS ?aL ?_; (case aP => exact rfl); (case aB => exact (lb0_ HB.out)); (case aF => exact (fun k_ hk => ⟨(.inr (Nat.le_trans (by first | exact HK.out.1 | exact (show Kept w _ (fun k_ => P2_ k_) from kt_ HK.out).1) hk)), Kd.fresh' (Kd.R_lt (kr_ HO_2.out)) k_ hk, Kd.fresh' (Kd.R_lt (kr_ HO_11.out)) k_ hk⟩)); (case aO => exact (krm_ HO426.out (fun _ hk => ⟨hk.1.1.1, ⟨hk.1.2, hk.2⟩⟩))); (case aS => exact (below_size (lb0_ HB.out))); (case aL => have := LMc23.out; omega); intro v428 w35 ho hb hg hat; rw [← Ny427.out] at ho; replace HO_2 := Aside0.mk (Kd.R_after (ok := (fun k_ => (P2_ k_ ∨ w.heap.size ≤ k_) ∧ some k_ ≠ (u11 : Value).ownBlock)) (kr_ HO_2.out) hg hat); replace HO_11 := Aside0.mk (Kd.R_after (ok := (fun k_ => (P2_ k_ ∨ w.heap.size ≤ k_) ∧ some k_ ≠ (.slice Ao18 l2.length co18 : Value).ownBlock)) (kr_ HO_11.out) hg hat); replace HB := Aside0.mk (hb); replace HK := Aside0.mk (Kept.of_grown (S := (fun k_ => P2_ k_)) hg (kt_ HK.out) (fun k_ e_ => (HO426.out.1 k_ e_).1.1.1)); have HO429 := Aside0.mk (ho); clear HO426; clear ho hb hg hat; obtain ⟨Ao36, co36, eo36⟩ := Kd.R_slice HO429.out; subst eo36) | ((with_reducible refine gate_callee (f := 64) rfl ?_); refine ga_ (some 55) Tryd.func64 #[.slice A0 l0.length c0, .slice Ao36 y427.length co36, .int .i64 (l2.length : Int)] ?_; (with_reducible refine (spec_l24May.calls k1 _ _ l0 _ _ y427 (l2.length : Int) true _ ?side1 ?side2 ?side3 ?side4 A24.out).mono ?_); (case side1 => exact Kd.C_kept_now HR0.out (kt_ HK.out)); (case side2 => exact HC0.out); (case side3 => exact kc_ (Kd.R_reads' HO429.out).2.2); (case side4 => exact (Kd.R_reads' HO429.out).2.1); rintro e w37 ⟨rfl, hb⟩; refine ⟨_, rfl, ?_⟩; replace HO_2 := Aside0.mk (Kd.R_below (kr_ HO_2.out) hb); replace HO_11 := Aside0.mk (Kd.R_below (kr_ HO_11.out) hb); replace HO429 := Aside0.mk (Kd.R_below (kr_ HO429.out) hb); replace HK := Aside0.mk (Kept.below (S := (fun k_ => P2_ k_)) (kt_ HK.out) hb); replace HB := Aside0.mk (below_step (lb0_ HB.out) hb); (try clear hb); (try clear hb2); (try clear hk); (try clear hi)) | ((with_reducible refine gate_callee (f := 76) rfl ?_); refine ga_ (some 61) Tryd.func76 #[.slice A0 l0.length c0, .int .i64 a1, .slice Ao36 y427.length co36] ?_; (with_reducible refine (ih k1 (by have := HK1.out; omega) _ _ l0 a1 (fun k_ => some k_ = (.slice Ao36 y427.length co36 : Value).ownBlock) (.slice Ao36 y427.length co36) y427 t431 t434 w0 _ ?side1 ?side2 ?side3 ?side4 A26.out).mono ?_); (case side1 => exact lb0_ HB.out); (case side2 => exact Kd.C_kept_call HR0.out (kt_ HK.out) (fun k_ hs_ => (fun e_ => (HO429.out.1 k_ e_.symm).1) hs_)); (case side3 => exact HC0.out); (case side4 => exact Kd.R_tight rfl HO429.out); rintro e w38 ⟨v432, rfl, ho0, hb, hkp⟩; refine ⟨_, rfl, ?_⟩; have HO433 := Aside0.mk (Kd.R_mono (ok' := fun k_ => (P2_ k_ ∨ w.heap.size ≤ k_) ∧ some k_ ≠ (.slice Ao18 l2.length co18 : Value).ownBlock ∧ some k_ ≠ (u11 : Value).ownBlock) ho0 (fun k_ hk_ => ⟨Or.elim hk_ (fun hs_ => (HO429.out.1 k_ (hs_).symm).1) (fun hn_ => (.inr (Nat.le_trans (by first | exact HK.out.1 | exact (show Kept w _ (fun k_ => P2_ k_) from kt_ HK.out).1) hn_))), Or.elim hk_ (fun hs_ => fun e_ => (((HO_2.out).1 k_ e_.symm).2) hs_) (fun hn_ => (Kd.fresh' (Kd.R_lt (kr_ HO_2.out)) k_ hn_)), Or.elim hk_ (fun hs_ => fun e_ => (((HO_11.out).1 k_ e_.symm).2) hs_) (fun hn_ => (Kd.fresh' (Kd.R_lt (kr_ HO_11.out)) k_ hn_))⟩)); replace HO_2 := Aside0.mk (Kd.R_mono (ok' := fun k_ => (P2_ k_ ∨ w.heap.size ≤ k_) ∧ some k_ ≠ (u11 : Value).ownBlock ∧ some k_ ≠ (v432 : Value).ownBlock) (Kd.R_keptB (HO_2.out) hkp (fun k_ hk_ hs_ => (hk_.2) hs_)) (fun k_ hk_ => ⟨hk_.1.1.1, hk_.1.1.2, fun e_ => Or.elim (ho0.1 k_ e_.symm) (fun hs_ => hk_.2.1 hs_) (fun hn_ => Nat.not_le.2 hk_.2.2 hn_)⟩)); replace HO_11 := Aside0.mk (Kd.R_mono (ok' := fun k_ => (P2_ k_ ∨ w.heap.size ≤ k_) ∧ some k_ ≠ (.slice Ao18 l2.length co18 : Value).ownBlock ∧ some k_ ≠ (v432 : Value).ownBlock) (Kd.R_keptB (HO_11.out) hkp (fun k_ hk_ hs_ => (hk_.2) hs_)) (fun k_ hk_ => ⟨hk_.1.1.1, hk_.1.1.2, fun e_ => Or.elim (ho0.1 k_ e_.symm) (fun hs_ => hk_.2.1 hs_) (fun hn_ => Nat.not_le.2 hk_.2.2 hn_)⟩)); replace HK := Aside0.mk (Kept.then_ (S := (fun k_ => P2_ k_)) (kt_ HK.out) hkp (fun k_ hs_ => (fun e_ => (HO429.out.1 k_ e_.symm).1) hs_)); replace HB := Aside0.mk (hb); clear HO429; (try clear hb); (try clear hkp); (try clear ho0)))
           go_roundg k1
           case measure => have := HK1.out; omega
           case rel => exact ⟨(x11_1), (wrap64 (x12_1 + t434)), (wrap64 (x13_1 + 1)), (by first | rfl | (simp; done) | (simp [*]; done)), (by first | rfl | (simp; done) | (simp [*]; done)), H', ⟨by have := HK1.out; omega⟩, ⟨krm_ HO_2.out (fun _ hk => ⟨hk.1, hk.2.1⟩)⟩, ⟨krm_ HO_11.out (fun _ hk => ⟨hk.1, hk.2.1⟩)⟩, ⟨kt_ HK.out⟩, ⟨lb0_ HB.out⟩⟩
         ·
          rw [if_neg c27] at H
          have c27b0 : (x12_1 == 0) = false := beq_eq_false_iff_ne.mpr c27; have c27b1 : (x12_1 != 0) = true := bne_iff_ne.mpr c27; have H' := Aside0.mk H; clear H
          go_wp2_with (first | ((with_reducible refine gate_callee (f := 101) rfl ?_); refine ga_ (some 48) Tryd.func101 #[.slice Ao18 l2.length co18] ?_; (with_reducible refine (spec_l1Own.calls _ _ l2 t424 _ ?side1 ?side2 A22.out).mono ?_); (case side1 => exact kc_ (Kd.R_reads' HO_2.out).2.2); (case side2 => exact (Kd.R_reads' HO_2.out).2.1); rintro e w39 ⟨v425, rfl, ho0, hb⟩; refine ⟨_, rfl, ?_⟩; have HO426 := Aside0.mk (Kd.R_lower (Kd.R_new' (Kd.R_new' (Kd.R_newM (M := fun k_ => (P2_ k_ ∨ w.heap.size ≤ k_)) ho0 (by first | exact HK.out.1 | exact (show Kept w _ (fun k_ => P2_ k_) from kt_ HK.out).1) (fun k_ h_ => .inr h_)) (Kd.R_lt (kr_ HO_2.out))) (Kd.R_lt (kr_ HO_11.out))) (below_size (lb0_ HB.out))); replace HO_2 := Aside0.mk (Kd.R_elder' (kr_ HO_2.out) (Kd.R_base ho0) hb); replace HO_11 := Aside0.mk (Kd.R_elder' (kr_ HO_11.out) (Kd.R_base ho0) hb); replace HK := Aside0.mk (Kept.below (S := (fun k_ => P2_ k_)) (kt_ HK.out) hb); replace HB := Aside0.mk (below_step (lb0_ HB.out) hb); (try clear hb); (try clear hb2); (try clear hk); (try clear hi); (try clear ho0)) | ((with_reducible refine gate_builtin (b := .append) (xs := #[.tmp 48, .tmp 50]) rfl ?_); at_builtin; refine Kd.R_append (Kd.int .i64) (w0 := w0) w0.heap.size rfl (.tmp 48) (.tmp 50) 40 3 (.int .i64 0) 8 rfl Tryd.underlying40 info3 rfl (by decide) (by omega) v425 t424 x13_1 [.int .i64 x13_1] (fun k_ => (P2_ k_ ∨ w.heap.size ≤ k_) ∧ some k_ ≠ (.slice Ao18 l2.length co18 : Value).ownBlock ∧ some k_ ≠ (u11 : Value).ownBlock) (fun _ => False) rfl rfl ?aP (fun _ hk => hk.elim) ?aF ?aO ?aB ?aS ?aL ?_; (case aP => exact rfl); (case aB => exact (lb0_ HB.out)); (case aF => exact (fun k_ hk => ⟨(.inr (Nat.le_trans (by first | exact HK.out.1 | exact (show Kept w _ (fun k_ => P2_ k_) from kt_ HK.out).1) hk)), Kd.fresh' (Kd.R_lt (kr_ HO_2.out)) k_ hk, Kd.fresh' (Kd.R_lt (kr_ HO_11.out)) k_ hk⟩)); (case aO => exact (krm_ HO426.out (fun _ hk => ⟨hk.1.1.1, ⟨hk.1.2, hk.2⟩⟩))); (case aS => exact (below_size (lb0_ HB.out))); (case aL => have := LMc23.out; omega); intro v428 w40 ho hb hg hat; rw [← Ny427.out] at ho; replace HO_2 := Aside0.mk (Kd.R_after (ok := (fun k_ => (P2_ k_ ∨ w.heap.size ≤ k_) ∧ some k_ ≠ (u11 : Value).ownBlock)) (kr_ HO_2.out) hg hat); replace HO_11 := Aside0.mk (Kd.R_after (ok := (fun k_ => (P2_ k_ ∨ w.heap.size ≤ k_) ∧ some k_ ≠ (.slice Ao18 l2.length co18 : Value).ownBlock)) (kr_ HO_11.out) hg hat); replace HB := Aside0.mk (hb); replace HK := Aside0.mk (Kept.of_grown (S := (fun k_ => P2_ k_)) hg (kt_ HK.out) (fun k_ e_ => (HO426.out.1 k_ e_).1.1.1)); have HO429 := Aside0.mk (ho); clear HO426; clear ho hb hg hat; obtain ⟨Ao41, co41, eo41⟩ := Kd.R_slice HO429.out; subst eo41) | ((with_reducible refine gate_callee (f := 64) rfl ?_); refine ga_ (some 55) Tryd.func64 #[.slice A0 l0.length c0, .slice Ao41 y427.length co41, .int .i64 (l2.length : Int)] ?_; (with_reducible refine (spec_l24May.calls k1 _ _ l0 _ _ y427 (l2.length : Int) true _ ?side1 ?side2 ?side3 ?side4 A24.out).mono ?_); (case side1 => exact Kd.C_kept_now HR0.out (kt_ HK.out)); (case side2 => exact HC0.out); (case side3 => exact kc_ (Kd.R_reads' HO429.out).2.2); (case side4 => exact (Kd.R_reads' HO429.out).2.1); rintro e w42 ⟨rfl, hb⟩; refine ⟨_, rfl, ?_⟩; replace HO_2 := Aside0.mk (Kd.R_below (kr_ HO_2.out) hb); replace HO_11 := Aside0.mk (Kd.R_below (kr_ HO_11.out) hb); replace HO429 := Aside0.mk (Kd.R_below (kr_ HO429.out) hb); replace HK := Aside0.mk (Kept.below (S := (fun k_ => P2_ k_)) (kt_ HK.out) hb); replace HB := Aside0.mk (below_step (lb0_ HB.out) hb); (try clear hb); (try clear hb2); (try clear hk); (try clear hi)) | ((with_reducible refine gate_callee (f := 76) rfl ?_); refine ga_ (some 61) Tryd.func76 #[.slice A0 l0.length c0, .int .i64 a1, .slice Ao41 y427.length co41] ?_; (with_reducible refine (ih k1 (by have := HK1.out; omega) _ _ l0 a1 (fun k_ => some k_ = (.slice Ao41 y427.length co41 : Value).ownBlock) (.slice Ao41 y427.length co41) y427 t431 t434 w0 _ ?side1 ?side2 ?side3 ?side4 A26.out).mono ?_); (case side1 => exact lb0_ HB.out); (case side2 => exact Kd.C_kept_call HR0.out (kt_ HK.out) (fun k_ hs_ => (fun e_ => (HO429.out.1 k_ e_.symm).1) hs_)); (case side3 => exact HC0.out); (case side4 => exact Kd.R_tight rfl HO429.out); rintro e w43 ⟨v432, rfl, ho0, hb, hkp⟩; refine ⟨_, rfl, ?_⟩; have HO433 := Aside0.mk (Kd.R_mono (ok' := fun k_ => (P2_ k_ ∨ w.heap.size ≤ k_) ∧ some k_ ≠ (.slice Ao18 l2.length co18 : Value).ownBlock ∧ some k_ ≠ (u11 : Value).ownBlock) ho0 (fun k_ hk_ => ⟨Or.elim hk_ (fun hs_ => (HO429.out.1 k_ (hs_).symm).1) (fun hn_ => (.inr (Nat.le_trans (by first | exact HK.out.1 | exact (show Kept w _ (fun k_ => P2_ k_) from kt_ HK.out).1) hn_))), Or.elim hk_ (fun hs_ => fun e_ => (((HO_2.out).1 k_ e_.symm).2) hs_) (fun hn_ => (Kd.fresh' (Kd.R_lt (kr_ HO_2.out)) k_ hn_)), Or.elim hk_ (fun hs_ => fun e_ => (((HO_11.out).1 k_ e_.symm).2) hs_) (fun hn_ => (Kd.fresh' (Kd.R_lt (kr_ HO_11.out)) k_ hn_))⟩)); replace HO_2 := Aside0.mk (Kd.R_mono (ok' := fun k_ => (P2_ k_ ∨ w.heap.size ≤ k_) ∧ some k_ ≠ (u11 : Value).ownBlock ∧ some k_ ≠ (v432 : Value).ownBlock) (Kd.R_keptB (HO_2.out) hkp (fun k_ hk_ hs_ => (hk_.2) hs_)) (fun k_ hk_ => ⟨hk_.1.1.1, hk_.1.1.2, fun e_ => Or.elim (ho0.1 k_ e_.symm) (fun hs_ => hk_.2.1 hs_) (fun hn_ => Nat.not_le.2 hk_.2.2 hn_)⟩)); replace HO_11 := Aside0.mk (Kd.R_mono (ok' := fun k_ => (P2_ k_ ∨ w.heap.size ≤ k_) ∧ some k_ ≠ (.slice Ao18 l2.length co18 : Value).ownBlock ∧ some k_ ≠ (v432 : Value).ownBlock) (Kd.R_keptB (HO_11.out) hkp (fun k_ hk_ hs_ => (hk_.2) hs_)) (fun k_ hk_ => ⟨hk_.1.1.1, hk_.1.1.2, fun e_ => Or.elim (ho0.1 k_ e_.symm) (fun hs_ => hk_.2.1 hs_) (fun hn_ => Nat.not_le.2 hk_.2.2 hn_)⟩)); replace HK := Aside0.mk (Kept.then_ (S := (fun k_ => P2_ k_)) (kt_ HK.out) hkp (fun k_ hs_ => (fun e_ => (HO429.out.1 k_ e_.symm).1) hs_)); replace HB := Aside0.mk (hb); clear HO429; (try clear hb); (try clear hkp); (try clear ho0)))
          go_roundg k1
          case measure => have := HK1.out; omega
          case rel => exact ⟨(x11_1), (wrap64 (x12_1 + t434)), (wrap64 (x13_1 + 1)), (by first | rfl | (simp; done) | (simp [*]; done)), (by first | rfl | (simp; done) | (simp [*]; done)), H', ⟨by have := HK1.out; omega⟩, ⟨krm_ HO_2.out (fun _ hk => ⟨hk.1, hk.2.1⟩)⟩, ⟨krm_ HO_11.out (fun _ hk => ⟨hk.1, hk.2.1⟩)⟩, ⟨kt_ HK.out⟩, ⟨lb0_ HB.out⟩⟩
        ·
         replace c25 := Bool.eq_false_iff.mpr c25; subst c25
         have H1 : (spec_l24Count.l0 k1 l0 a1 l2 (l2.length : Int) x11_1 x12_1 (wrap64 (x13_1 + 1))) = some (r1, r2) := by rw [if_neg (show ¬ (false = true) by decide)] at H; exact H
         clear H; have H := H1; clear H1; have H' := Aside0.mk H; clear H
         go_wp2_with (first | ((with_reducible refine gate_callee (f := 101) rfl ?_); refine ga_ (some 48) Tryd.func101 #[.slice Ao18 l2.length co18] ?_; (with_reducible refine (spec_l1Own.calls _ _ l2 t424 _ ?side1 ?side2 A22.out).mono ?_); (case side1 => exact kc_ (Kd.R_reads' HO_2.out).2.2); (case side2 => exact (Kd.R_reads' HO_2.out).2.1); rintro e w44 ⟨v425, rfl, ho0, hb⟩; refine ⟨_, rfl, ?_⟩; have HO426 := Aside0.mk (Kd.R_lower (Kd.R_new' (Kd.R_new' (Kd.R_newM (M := fun k_ => (P2_ k_ ∨ w.heap.size ≤ k_)) ho0 (by first | exact HK.out.1 | exact (show Kept w _ (fun k_ => P2_ k_) from kt_ HK.out).1) (fun k_ h_ => .inr h_)) (Kd.R_lt (kr_ HO_2.out))) (Kd.R_lt (kr_ HO_11.out))) (below_size (lb0_ HB.out))); replace HO_2 := Aside0.mk (Kd.R_elder' (kr_ HO_2.out) (Kd.R_base ho0) hb); replace HO_11 := Aside0.mk (Kd.R_elder' (kr_ HO_11.out) (Kd.R_base ho0) hb); replace HK := Aside0.mk (Kept.below (S := (fun k_ => P2_ k_)) (kt_ HK.out) hb); replace HB := Aside0.mk (below_step (lb0_ HB.out) hb); (try clear hb); (try clear hb2); (try clear hk); (try clear hi); (try clear ho0)) | ((with_reducible refine gate_builtin (b := .append) (xs := #[.tmp 48, .tmp 50]) rfl ?_); at_builtin; refine Kd.R_append (Kd.int .i64) (w0 := w0) w0.heap.size rfl (.tmp 48) (.tmp 50) 40 3 (.int .i64 0) 8 rfl Tryd.underlying40 info3 rfl (by decide) (by omega) v425 t424 x13_1 [.int .i64 x13_1] (fun k_ => (P2_ k_ ∨ w.heap.size ≤ k_) ∧ some k_ ≠ (.slice Ao18 l2.length co18 : Value).ownBlock ∧ some k_ ≠ (u11 : Value).ownBlock) (fun _ => False) rfl rfl ?aP (fun _ hk => hk.elim) ?aF ?aO ?aB ?aS ?aL ?_; (case aP => exact rfl); (case aB => exact (lb0_ HB.out)); (case aF => exact (fun k_ hk => ⟨(.inr (Nat.le_trans (by first | exact HK.out.1 | exact (show Kept w _ (fun k_ => P2_ k_) from kt_ HK.out).1) hk)), Kd.fresh' (Kd.R_lt (kr_ HO_2.out)) k_ hk, Kd.fresh' (Kd.R_lt (kr_ HO_11.out)) k_ hk⟩)); (case aO => exact (krm_ HO426.out (fun _ hk => ⟨hk.1.1.1, ⟨hk.1.2, hk.2⟩⟩))); (case aS => exact (below_size (lb0_ HB.out))); (case aL => have := LMc23.out; omega); intro v428 w45 ho hb hg hat; rw [← Ny427.out] at ho; replace HO_2 := Aside0.mk (Kd.R_after (ok := (fun k_ => (P2_ k_ ∨ w.heap.size ≤ k_) ∧ some k_ ≠ (u11 : Value).ownBlock)) (kr_ HO_2.out) hg hat); replace HO_11 := Aside0.mk (Kd.R_after (ok := (fun k_ => (P2_ k_ ∨ w.heap.size ≤ k_) ∧ some k_ ≠ (.slice Ao18 l2.length co18 : Value).ownBlock)) (kr_ HO_11.out) hg hat); replace HB := Aside0.mk (hb); replace HK := Aside0.mk (Kept.of_grown (S := (fun k_ => P2_ k_)) hg (kt_ HK.out) (fun k_ e_ => (HO426.out.1 k_ e_).1.1.1)); have HO429 := Aside0.mk (ho); clear HO426; clear ho hb hg hat; obtain ⟨Ao46, co46, eo46⟩ := Kd.R_slice HO429.out; subst eo46) | ((with_reducible refine gate_callee (f := 64) rfl ?_); refine ga_ (some 55) Tryd.func64 #[.slice A0 l0.length c0, .slice Ao46 y427.length co46, .int .i64 (l2.length : Int)] ?_; (with_reducible refine (spec_l24May.calls k1 _ _ l0 _ _ y427 (l2.length : Int) false _ ?side1 ?side2 ?side3 ?side4 A24.out).mono ?_); (case side1 => exact Kd.C_kept_now HR0.out (kt_ HK.out)); (case side2 => exact HC0.out); (case side3 => exact kc_ (Kd.R_reads' HO429.out).2.2); (case side4 => exact (Kd.R_reads' HO429.out).2.1); rintro e w47 ⟨rfl, hb⟩; refine ⟨_, rfl, ?_⟩; replace HO_2 := Aside0.mk (Kd.R_below (kr_ HO_2.out) hb); replace HO_11 := Aside0.mk (Kd.R_below (kr_ HO_11.out) hb); replace HO429 := Aside0.mk (Kd.R_below (kr_ HO429.out) hb); replace HK := Aside0.mk (Kept.below (S := (fun k_ => P2_ k_)) (kt_ HK.out) hb); replace HB := Aside0.mk (below_step (lb0_ HB.out) hb); (try clear hb); (try clear hb2); (try clear hk); (try clear hi)))
         go_roundg k1
         case measure => have := HK1.out; omega
         case rel => exact ⟨(x11_1), (x12_1), (wrap64 (x13_1 + 1)), (by first | rfl | (simp; done) | (simp [*]; done)), (by first | rfl | (simp; done) | (simp [*]; done)), H', ⟨by have := HK1.out; omega⟩, ⟨krm_ HO_2.out (fun _ hk => ⟨hk.1.1, hk.1.2⟩)⟩, ⟨krm_ HO_11.out (fun _ hk => ⟨hk.1.1, hk.1.2⟩)⟩, ⟨kt_ HK.out⟩, ⟨lb0_ HB.out⟩⟩
       ·
        rw [if_neg c23] at H
        exact absurd H (by simp)
      ·
       rw [if_neg c21] at H
       have c21b0 : decide (x13_1 < 4) = false := decide_eq_false c21
       clear c21
       simp only [Option.some.injEq, Prod.mk.injEq] at H
       obtain ⟨rfl, rfl⟩ := H
       go_wp2
       go_ret2
       exact ⟨_, by first | rfl | (simp [errW_none, errW_some] <;> rfl) | (simp only [← hji6, ← hji8]; first | rfl | (simp [errW_none, errW_some] <;> rfl)) | (simp [*, errW_none, errW_some] <;> rfl), krm_ HO_11.out (fun _ hk => hk.1), lb0_ HB.out, kt_ HK.out⟩
  ·
   rw [if_neg c7] at H
   exact absurd H (by simp)
mutual
def spec_l5Less.l0 : Nat → List Int → List Int → Int → Option (Bool)
 | 0, _, _, _ => none
 | k + 1, x0, x1, x5 => if x5 < (x0.length : Int) then (spec_l5Less.j1 k x0 x1 x5 (decide (x5 < (x1.length : Int)))) else (spec_l5Less.j1 k x0 x1 x5 false)
def spec_l5Less.j1 : Nat → List Int → List Int → Int → Bool → Option (Bool)
 | 0, _, _, _, _ => none
 | k + 1, x0, x1, x5, x15 => if x15 = true then (if 0 ≤ x5 then (if x5 < (x0.length : Int) then (if x5 < (x1.length : Int) then (if (rd x0 x5) = (rd x1 x5) then (spec_l5Less.l0 k x0 x1 (wrap64 (x5 + 1))) else (some (decide ((rd x0 x5) < (rd x1 x5))))) else (none)) else (none)) else (none)) else (some (decide ((x0.length : Int) < (x1.length : Int))))
end
def spec_l5Less.f (k : Nat) (l0 : List Int) (l1 : List Int) : Option (Bool) := spec_l5Less.l0 k l0 l1 0
set_option maxHeartbeats 8000000 in
set_option maxRecDepth 100000 in
theorem spec_l5Less.calls (k : Nat) (A0 : Option Addr) (c0 : Nat) (l0 : List Int) (A1 : Option Addr) (c1 : Nat) (l1 : List Int) (r : Bool) (w : World) (hr0 : Kd.C (Kd.int .i64) w A0 l0.length l0) (hc0 : l0.length ≤ c0) (hr1 : Kd.C (Kd.int .i64) w A1 l1.length l1) (hc1 : l1.length ≤ c1) (h : spec_l5Less.f k l0 l1 = some r) :
  Calls Tryd.prog 81 #[.slice A0 l0.length c0, .slice A1 l1.length c1] w fun e w' => e = .returned (.bool r) ∧ Drawn0 w w' := by
 have HR0 := Aside0.mk hr0
 have HC0 := Aside0.mk hc0
 clear hr0 hc0
 have HR1 := Aside0.mk hr1
 have HC1 := Aside0.mk hc1
 clear hr1 hc1
 have H : (spec_l5Less.l0 k l0 l1 0) = some r := h
 clear h
 have H' := Aside0.mk H
 clear H
 go_enter Tryd.func81, Tryd.ntmps81
 go_wp2
 repeat (go_quiet (fail); try go_wp2)
 go_loopg [5] k (fun kq v5 w' => ∃ (x5_1 : Int), v5 = .int .i64 x5_1 ∧ Aside0 (spec_l5Less.l0 kq l0 l1 x5_1 = some r) ∧ Aside0 (kq ≤ k) ∧ Drawn0 w w')
 case atStart => exact ⟨(0), (by first | rfl | (simp; done) | (simp [*]; done)), H', ⟨Nat.le_refl _⟩, by repeat (first | exact Drawn0.refl _ | apply Drawn0.step)⟩
 case round =>
  clear H'
  try clear c1
  try clear p2
  obtain ⟨x5_1, rfl, HA, HK1, ⟨m1, rfl⟩⟩ := hrel
  cases gk with
  | zero => exact absurd HA.out (by simp [spec_l5Less.l0])
  | succ k1 =>
   have H := HA.out
   clear HA
   simp only [spec_l5Less.l0] at H
   have HC3 := Aside0.mk H
   clear H
   go_upto_region 2 with (fail)
   repeat (go_quiet (fail); go_upto_region 2 with (fail))
   go_cut [15] (fun v15 wc => ∃ (kq : Nat) (x15_2 : Bool), v15 = .bool x15_2 ∧ Aside0 (spec_l5Less.j1 kq l0 l1 x5_1 x15_2 = some r) ∧ Aside0 (kq ≤ k1) ∧ Drawn0 w wc)
   case first =>
    have H := HC3.out
    clear HC3
    by_cases c4 : x5_1 < (l0.length : Int)
    ·
     rw [if_pos c4] at H
     have c4b0 : decide (x5_1 < (l0.length : Int)) = true := decide_eq_true c4
     clear c4
     (first | rw [c4b0] | (simp only [i64_w, i32_w]; rw [c4b0]) | skip)
     have H' := Aside0.mk H
     clear H
     go_wp2
     repeat (go_quiet (fail); try go_wp2)
     go_meet
     case rel => exact ⟨_, (decide (x5_1 < (l1.length : Int))), (by first | rfl | (simp; done) | (simp [*]; done)), H', ⟨by have := HK1.out; first | omega | exact Nat.le_refl _⟩, by repeat (first | exact Drawn0.refl _ | apply Drawn0.step)⟩
    ·
     rw [if_neg c4] at H
     have c4b0 : decide (x5_1 < (l0.length : Int)) = false := decide_eq_false c4
     clear c4
     (first | rw [c4b0] | (simp only [i64_w, i32_w]; rw [c4b0]) | skip)
     have H' := Aside0.mk H
     clear H
     go_wp2
     repeat (go_quiet (fail); try go_wp2)
     go_meet
     case rel => exact ⟨_, (false), (by first | rfl | (simp; done) | (simp [*]; done)), H', ⟨by have := HK1.out; first | omega | exact Nat.le_refl _⟩, by repeat (first | exact Drawn0.refl _ | apply Drawn0.step)⟩
   case rest =>
    clear HC3
    try clear c1
    try clear p2
    try clear c4
    try clear c4b0
    try clear p2
    obtain ⟨kq, x15_2, rfl, HA, HJ2, ⟨mc2, rfl⟩⟩ := hcut
    cases kq with
    | zero => exact absurd HA.out (by simp [spec_l5Less.j1])
    | succ kj2 =>
     have H := HA.out
     clear HA
     simp only [spec_l5Less.j1] at H
     by_cases c5 : x15_2 = true
     ·
      subst c5
      have H1 : (if 0 ≤ x5_1 then (if x5_1 < (l0.length : Int) then (if x5_1 < (l1.length : Int) then (if (rd l0 x5_1) = (rd l1 x5_1) then (spec_l5Less.l0 kj2 l0 l1 (wrap64 (x5_1 + 1))) else (some (decide ((rd l0 x5_1) < (rd l1 x5_1))))) else (none)) else (none)) else (none)) = some r := by rw [if_pos rfl] at H; exact H
      clear H
      have H := H1
      clear H1
      by_cases c6 : 0 ≤ x5_1
      ·
       rw [if_pos c6] at H
       have c6b0 : decide (0 ≤ x5_1) = true := decide_eq_true c6
       clear c6
       by_cases c7 : x5_1 < (l0.length : Int)
       ·
        rw [if_pos c7] at H
        have c7b0 : decide (x5_1 < (l0.length : Int)) = true := decide_eq_true c7; clear c7
        by_cases c8 : x5_1 < (l1.length : Int)
        ·
         rw [if_pos c8] at H
         have c8b0 : decide (x5_1 < (l1.length : Int)) = true := decide_eq_true c8; clear c8
         by_cases c9 : (rd l0 x5_1) = (rd l1 x5_1)
         ·
          rw [if_pos c9] at H
          have c9b0 : ((rd l0 x5_1) == (rd l1 x5_1)) = true := beq_iff_eq.mpr c9; have c9b1 : ((rd l0 x5_1) != (rd l1 x5_1)) = false := bne_eq_false_iff_eq.mpr c9; clear c9; have H' := Aside0.mk H; clear H; have p515 : 0 ≤ (x5_1 : Int) := dt_; have q515 : x5_1 < (l0.length : Int) := dt_; obtain ⟨ad515, e515, hx515_0⟩ := Kd.at_int HR0.out x5_1 p515 q515
          cases e515
          replace p515 := eq_true p515; replace q515 := eq_true q515; have p516 : 0 ≤ (x5_1 : Int) := dt_; have q516 : x5_1 < (l1.length : Int) := dt_; obtain ⟨ad516, e516, hx516_0⟩ := Kd.at_int HR1.out x5_1 p516 q516
          cases e516
          replace p516 := eq_true p516; replace q516 := eq_true q516
          go_wp2
          repeat (go_quiet (fail); try go_wp2)
          go_roundg kj2
          case measure => have := HK1.out; have := HJ2.out; omega
          case rel => exact ⟨(wrap64 (x5_1 + 1)), (by first | rfl | (simp; done) | (simp [*]; done)), H', ⟨by have := HK1.out; have := HJ2.out; omega⟩, by repeat (first | exact Drawn0.refl _ | apply Drawn0.step)⟩
         ·
          rw [if_neg c9] at H
          have c9b0 : ((rd l0 x5_1) == (rd l1 x5_1)) = false := beq_eq_false_iff_ne.mpr c9; have c9b1 : ((rd l0 x5_1) != (rd l1 x5_1)) = true := bne_iff_ne.mpr c9; obtain rfl := Option.some.inj H; have p515 : 0 ≤ (x5_1 : Int) := dt_; have q515 : x5_1 < (l0.length : Int) := dt_; obtain ⟨ad515, e515, hx515_0⟩ := Kd.at_int HR0.out x5_1 p515 q515
          cases e515
          replace p515 := eq_true p515; replace q515 := eq_true q515; have p516 : 0 ≤ (x5_1 : Int) := dt_; have q516 : x5_1 < (l1.length : Int) := dt_; obtain ⟨ad516, e516, hx516_0⟩ := Kd.at_int HR1.out x5_1 p516 q516
          cases e516
          replace p516 := eq_true p516; replace q516 := eq_true q516; have p517 : 0 ≤ (x5_1 : Int) := dt_; have q517 : x5_1 < (l0.length : Int) := dt_; obtain ⟨ad517, e517, hx517_0⟩ := Kd.at_int HR0.out x5_1 p517 q517
          obtain rfl : ad515 = ad517 := (by injection e517)
          replace p517 := eq_true p517; replace q517 := eq_true q517; have p518 : 0 ≤ (x5_1 : Int) := dt_; have q518 : x5_1 < (l1.length : Int) := dt_; obtain ⟨ad518, e518, hx518_0⟩ := Kd.at_int HR1.out x5_1 p518 q518
          obtain rfl : ad516 = ad518 := (by injection e518)
          replace p518 := eq_true p518; replace q518 := eq_true q518
          go_wp2
          repeat (go_quiet (fail); try go_wp2)
          go_ret
          exact ⟨by first | rfl | (simp; done) | (simp [*]; done), by repeat (first | exact Drawn0.refl _ | apply Drawn0.step)⟩
        ·
         rw [if_neg c8] at H
         exact absurd H (by simp)
       ·
        rw [if_neg c7] at H
        exact absurd H (by simp)
      ·
       rw [if_neg c6] at H
       exact absurd H (by simp)
     ·
      replace c5 := Bool.eq_false_iff.mpr c5
      subst c5
      have H1 : (some (decide ((l0.length : Int) < (l1.length : Int)))) = some r := by rw [if_neg (show ¬ (false = true) by decide)] at H; exact H
      clear H
      have H := H1
      clear H1
      obtain rfl := Option.some.inj H
      go_wp2
      repeat (go_quiet (fail); try go_wp2)
      go_ret
      exact ⟨by first | rfl | (simp; done) | (simp [*]; done), by repeat (first | exact Drawn0.refl _ | apply Drawn0.step)⟩
end Go.Proofs.YtjkcfpmonpkhhaaDoor.Pr

