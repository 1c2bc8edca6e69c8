/-
What is proved: parts of the law FnLog: what the functions that it reaches compute, and the plain law.
Conditions: those of each theorem.
-/
import Derived.ArgAppend
import Derived.Below
import Derived.BigQuiet
import Derived.Deep.AppendLies
import Derived.Deep.CutBlock
import Derived.Deep.DeepCutAuto
import Derived.Deep.Draws
import Derived.Deep.LoopGhost
import Derived.Deep.OwnRows
import Derived.Deep.QuietTactic
import Derived.Deep.RegionHeld3
import Derived.Deep.RegionLaw
import Derived.KernelRfl
import Derived.Laws.BitsLemmas
import Derived.Laws.BytesArg
import Derived.Laws.CopyOwn
import Derived.Laws.Cover1
import Derived.Laws.IdiomCopy
import Derived.Laws.IdiomStrings
import Derived.Laws.MakeOwn
import Derived.Laws.OwnMore
import Derived.Laws.Rows
import Derived.Laws.Slices
import Derived.Lib.AppendStr
import Derived.Lib.ConvBytes
import Derived.Maps.AppendAt
import Derived.OrdersHeld
import Derived.OwnWalk
import Derived.RowKit
import Derived.RowKit3
import Derived.Shelf.Abstract
import Derived.Shelf.LaysM
import Derived.Shelf.Strconv.Itoa3
import Derived.Shelf.Strings.Search2
import Derived.StillTailTactics
import Derived.Tactics
import Derived.Test.YtdpinnhgkocjhaaDoorProg
import Derived.WalkKit
import Derived.WideLaws
import Derived.Test.YtdpinnhgkocjhaaDoorCFnLog0
namespace Go.Proofs
open Go.Shelf
def Tryd.laysM171_ren : Go.Shelf.Ren := ⟨fun | 171 => 76 | 243 => 80 | 246 => 84 | 283 => 89 | 284 => 90 | 285 => 91 | 286 => 92 | 129 => 96 | 317 => 95 | 318 => 97 | 319 => 98 | 320 => 99 | 337 => 100 | 338 => 101 | n => n, fun | 3 => 3 | 9 => 9 | 2 => 2 | 4 => 4 | 171 => 102 | 0 => 0 | 53 => 72 | 37 => 53 | 5 => 5 | 173 => 105 | 212 => 111 | 51 => 107 | 20 => 20 | 213 => 112 | 46 => 97 | 232 => 115 | 233 => 116 | n => n, fun | 17 => 1 | 18 => 2 | 19 => 3 | n => n⟩
theorem Tryd.laysM171 : Go.Proofs.LaysM.n171 Tryd.prog Tryd.laysM171_ren := {
 mixed := by kernel_rfl
 f129 := Tryd.func96.trans (congrArg some (by kernel_rfl))
 f171 := Tryd.func76.trans (congrArg some (by kernel_rfl))
 f243 := Tryd.func80.trans (congrArg some (by kernel_rfl))
 f246 := Tryd.func84.trans (congrArg some (by kernel_rfl))
 f283 := Tryd.func89.trans (congrArg some (by kernel_rfl))
 f284 := Tryd.func90.trans (congrArg some (by kernel_rfl))
 f285 := Tryd.func91.trans (congrArg some (by kernel_rfl))
 f286 := Tryd.func92.trans (congrArg some (by kernel_rfl))
 f317 := Tryd.func95.trans (congrArg some (by kernel_rfl))
 f318 := Tryd.func97.trans (congrArg some (by kernel_rfl))
 f319 := Tryd.func98.trans (congrArg some (by kernel_rfl))
 f320 := Tryd.func99.trans (congrArg some (by kernel_rfl))
 f337 := Tryd.func100.trans (congrArg some (by kernel_rfl))
 f338 := Tryd.func101.trans (congrArg some (by kernel_rfl))
 t0 := Tryd.underlying0
 a0 := Tryd.isAgg0
 z0 := Tryd.sizeOf0
 v0 := Tryd.zeroValue0
 t2 := Tryd.underlying2
 a2 := Tryd.isAgg2
 z2 := Tryd.sizeOf2
 v2 := Tryd.zeroValue2
 t3 := Tryd.underlying3
 a3 := Tryd.isAgg3
 z3 := Tryd.sizeOf3
 v3 := Tryd.zeroValue3
 t4 := Tryd.underlying4
 a4 := Tryd.isAgg4
 z4 := Tryd.sizeOf4
 v4 := Tryd.zeroValue4
 t5 := Tryd.underlying5
 a5 := Tryd.isAgg5
 z5 := Tryd.sizeOf5
 v5 := Tryd.zeroValue5
 t9 := Tryd.underlying9
 a9 := Tryd.isAgg9
 z9 := Tryd.sizeOf9
 v9 := Tryd.zeroValue9
 t20 := Tryd.underlying20
 a20 := Tryd.isAgg20
 z20 := Tryd.sizeOf20
 v20 := Tryd.zeroValue20
 t37 := Tryd.underlying53
 a37 := Tryd.isAgg53
 z37 := Tryd.sizeOf53
 v37 := Tryd.zeroValue53
 t46 := Tryd.underlying97
 a46 := Tryd.isAgg97
 z46 := Tryd.sizeOf97
 v46 := Tryd.zeroValue97
 t51 := Tryd.underlying107
 a51 := Tryd.isAgg107
 z51 := Tryd.sizeOf107
 v51 := Tryd.zeroValue107
 t53 := Tryd.underlying72
 a53 := Tryd.isAgg72
 z53 := Tryd.sizeOf72
 v53 := Tryd.zeroValue72
 t171 := Tryd.underlying102
 a171 := Tryd.isAgg102
 z171 := Tryd.sizeOf102
 v171 := Tryd.zeroValue102
 t173 := Tryd.underlying105
 a173 := Tryd.isAgg105
 z173 := Tryd.sizeOf105
 v173 := Tryd.zeroValue105
 t212 := Tryd.underlying111
 a212 := Tryd.isAgg111
 z212 := Tryd.sizeOf111
 v212 := Tryd.zeroValue111
 t213 := Tryd.underlying112
 a213 := Tryd.isAgg112
 z213 := Tryd.sizeOf112
 t232 := Tryd.underlying115
 a232 := Tryd.isAgg115
 z232 := Tryd.sizeOf115
 v232 := Tryd.zeroValue115
 t233 := Tryd.underlying116
 a233 := Tryd.isAgg116
 z233 := Tryd.sizeOf116
 v233 := Tryd.zeroValue116
 g17 := by kernel_rfl
 g18 := by kernel_rfl
 g19 := by kernel_rfl
 i0 := by kernel_rfl
 i2 := by kernel_rfl
 i3 := by kernel_rfl
 i4 := by kernel_rfl
 i5 := by kernel_rfl
 i9 := by kernel_rfl
 i20 := by kernel_rfl
 i37 := by kernel_rfl
 i46 := by kernel_rfl
 i51 := by kernel_rfl
 i53 := by kernel_rfl
 i171 := by kernel_rfl
 i173 := by kernel_rfl
 i212 := by kernel_rfl
 i232 := by kernel_rfl
 i233 := by kernel_rfl
 m17 := by kernel_rfl
 m18 := by kernel_rfl
 m19 := by kernel_rfl }
open Go.RowKit Go.Sort Go.Lib in
theorem Tryd.strconv_Itoa (n : Int) (h0 : -9223372036854775808 ≤ n) (h1 : n ≤ 9223372036854775807) (w : World) (htab : Lib.TabIs Tryd.prog w "internal/strconv.uint64pow10" .u64 Lib.pow10Tab) :
  Calls Tryd.prog 76 #[.int .i64 n] w fun e w' => e = .returned (.string ⟨(Lib.itoa n).toArray⟩) ∧ ∃ k os, w' = grow (w.drewN k) os := Any.strconv_Itoa Tryd.laysM171 n h0 h1 w htab
def Tryd.lays219_ren : Go.Shelf.Ren := ⟨fun | 219 => 83 | 217 => 85 | 225 => 86 | 224 => 87 | 267 => 88 | 266 => 93 | 314 => 94 | n => n, fun | 9 => 9 | 3 => 3 | 4 => 4 | 5 => 5 | 46 => 97 | 146 => 108 | 51 => 107 | n => n, fun | 1 => 0 | n => n⟩
theorem Tryd.lays219 : Go.Proofs.Lays.n219 Tryd.prog Tryd.lays219_ren := {
 mixed := by kernel_rfl
 f217 := Tryd.func85.trans (congrArg some (by kernel_rfl))
 f219 := Tryd.func83.trans (congrArg some (by kernel_rfl))
 f224 := Tryd.func87.trans (congrArg some (by kernel_rfl))
 f225 := Tryd.func86.trans (congrArg some (by kernel_rfl))
 f266 := Tryd.func93.trans (congrArg some (by kernel_rfl))
 f267 := Tryd.func88.trans (congrArg some (by kernel_rfl))
 f314 := Tryd.func94.trans (congrArg some (by kernel_rfl))
 t3 := Tryd.underlying3
 a3 := Tryd.isAgg3
 z3 := Tryd.sizeOf3
 v3 := Tryd.zeroValue3
 t4 := Tryd.underlying4
 a4 := Tryd.isAgg4
 z4 := Tryd.sizeOf4
 v4 := Tryd.zeroValue4
 t5 := Tryd.underlying5
 a5 := Tryd.isAgg5
 z5 := Tryd.sizeOf5
 v5 := Tryd.zeroValue5
 t9 := Tryd.underlying9
 a9 := Tryd.isAgg9
 z9 := Tryd.sizeOf9
 v9 := Tryd.zeroValue9
 t46 := Tryd.underlying97
 a46 := Tryd.isAgg97
 z46 := Tryd.sizeOf97
 v46 := Tryd.zeroValue97
 t51 := Tryd.underlying107
 a51 := Tryd.isAgg107
 z51 := Tryd.sizeOf107
 v51 := Tryd.zeroValue107
 t146 := Tryd.underlying108
 a146 := Tryd.isAgg108
 z146 := Tryd.sizeOf108
 v146 := Tryd.zeroValue108
 g1 := by kernel_rfl }
open Go.RowKit Go.Lib in
theorem Tryd.stringslite_Index_one (s : ByteArray) (c : UInt8) (w : World) :
  Calls Tryd.prog 83 #[.string s, .string ⟨#[c]⟩] w fun e w' => e = .returned (.int .i64 (Lib.indexByte s.data.toList c)) ∧ w' = w := Any.stringslite_Index_one Tryd.lays219 s c w
end Go.Proofs

namespace Go.Proofs.YtdpinnhgkocjhaaDoor.Pr
open Go.RowKit Go.Proofs.YtdpinnhgkocjhaaDoorW.PrintWords Go.Proofs.YtdpinnhgkocjhaaDoorW.PrintLast Go.Proofs.YtdpinnhgkocjhaaDoorW.PrintMore
attribute [local go_sem] max2_int min2_int max_two min_two max_three min_three max_four min_four   -- for this text's walks alone
set_option linter.unusedVariables false
set_option linter.unusedSimpArgs false
def errW : Option Int → Value
 | none => .nilIface
 | some c => .iface 0 (.int .i64 c)
theorem errW_none : errW none = .nilIface := rfl
theorem errW_some (c : Int) : errW (some c) = .iface 0 (.int .i64 c) := rfl
theorem info3 : (Tryd.prog.info? 3).map (fun i => (i.zero, i.size, i.bytes)) = some (some (.int .i64 0), 1, 8) := by kernel_rfl
theorem info5 : (Tryd.prog.info? 5).map (fun i => (i.zero, i.size, i.bytes)) = some (some (.int .u8 0), 1, 1) := by kernel_rfl
theorem info9 : (Tryd.prog.info? 9).map (fun i => (i.zero, i.size, i.bytes)) = some (some (.string ⟨#[]⟩), 1, 16) := by kernel_rfl
theorem info27 : (Tryd.prog.info? 27).map (fun i => (i.zero, i.size, i.bytes)) = some (some (.agg #[(.string ⟨#[]⟩), (.string ⟨#[]⟩)]), 2, 32) := by kernel_rfl
structure S27 where
 f0 : ByteArray
 f1 : ByteArray
def z27 : S27 := ⟨(⟨#[]⟩ : ByteArray), (⟨#[]⟩ : ByteArray)⟩
def k27 : Kd S27 := Kd.iso (Kd.pair Kd.string Kd.string) (fun x : S27 => (x.f0, x.f1))
theorem k27_open {w : World} {x : S27} {cs : List Value} (h : k27.K w x cs) : cs = [.string x.f0, .string x.f1] := by
 obtain ⟨_, _, rfl, rfl, rfl⟩ := h
 exact rfl
theorem k27_mkM (w : World) (base : Nat) (ok : Nat → Prop) (x : S27)  : k27.M w base ok x [.string x.f0, .string x.f1] := ⟨[.string x.f0], [.string x.f1], rfl, rfl, rfl⟩
def rd_T27 (xs : List S27) (i : Int) : S27 := xs.getD i.toNat z27
theorem at_T27 {w : World} {A : Option Addr} {n : Nat} {xs : List S27} (h : Kd.C k27 w A n xs) (i : Int) (h0 : 0 ≤ i) (h1 : i < n) : ∃ ad , A = some ad ∧ w.cell? (ad.add (i.toNat * 2)) = some (.string (rd_T27 xs i).f0) ∧ w.cell? ⟨(ad.add (i.toNat * 2)).block, (ad.add (i.toNat * 2)).off + 1, none⟩ = some (.string (rd_T27 xs i).f1) := by
 obtain ⟨ad, c, e, _, hK, hc0⟩ := Kd.C_get h z27 i h0 h1
 have hc : ∀ j u, c[j]? = some u → w.cell? (ad.add (i.toNat * 2 + j)) = some u := hc0
 obtain rfl := k27_open hK
 exact ⟨ad, e, hc 0 _ rfl, by rw [← add_field _ _ 1 (by omega)]; exact hc 1 _ rfl⟩
theorem eqA27 (d : Nat) (w : World) (x0 y0 : ByteArray) (x1 y1 : ByteArray) :
  (Op.equalIn (d + 2) 27 (.agg #[.string x0, .string x1]) (.agg #[.string y0, .string y1])).run Tryd.prog w = .ok (x0.toList == y0.toList && (x1.toList == y1.toList)) w := by
 refine eqA_of Tryd.underlying27 (by kernel_rfl) ?_
 refine eqf_cons (by rfl) (by go_simp; rfl) (by go_simp; rfl) (by go_simp) ?_
 exact eqf_last (by rfl) (by go_simp; rfl) (by go_simp; rfl) (by go_simp)
theorem eqA31 (d : Nat) (w : World) (x0 y0 : ByteArray) (x1 y1 : ByteArray) (x2 y2 : Int) :
  (Op.equalIn (d + 2) 31 (.agg #[.string x0, .string x1, .int .i64 x2]) (.agg #[.string y0, .string y1, .int .i64 y2])).run Tryd.prog w = .ok (x0.toList == y0.toList && (x1.toList == y1.toList && (x2 == y2))) w := by
 refine eqA_of Tryd.underlying31 (by kernel_rfl) ?_
 refine eqf_cons (by rfl) (by go_simp; rfl) (by go_simp; rfl) (by go_simp) ?_
 refine eqf_cons (by rfl) (by go_simp; rfl) (by go_simp; rfl) (by go_simp) ?_
 exact eqf_last (by rfl) (by go_simp; rfl) (by go_simp; rfl) (by go_simp)
def sc (a b : ByteArray) : ByteArray := a ++ b
theorem sc_in (a b : ByteArray) : a ++ b = sc a b := rfl
def sx (a : ByteArray) (i j : Nat) : ByteArray := a.extract i j
theorem sx_in (a : ByteArray) (i j : Nat) : a.extract i j = sx a i j := rfl
def impl_within.f (a0 : Int) (a1 : Int) (a2 : Int) : Option (Bool) := if a0 ≥ a1 then (some (decide (a0 ≤ a2))) else (some false)
set_option maxHeartbeats 8000000 in
set_option maxRecDepth 100000 in
theorem impl_within.calls (a0 : Int) (a1 : Int) (a2 : Int) (r : Bool) (w : World) (h : impl_within.f a0 a1 a2 = some r) :
  Calls Tryd.prog 45 #[.int .i64 a0, .int .i64 a1, .int .i64 a2] w fun e w' => e = .returned (.bool r) ∧ Drawn0 w w' := by
 have H : (if a0 ≥ a1 then (some (decide (a0 ≤ a2))) else (some false)) = some r := h
 clear h
 by_cases c4 : a0 ≥ a1
 ·
  rw [if_pos c4] at H
  have c4b0 : decide (a1 ≤ a0) = true := decide_eq_true c4
  clear c4
  obtain rfl := Option.some.inj H
  go_enter Tryd.func45, Tryd.ntmps45
  go_wp2
  go_ret
  exact ⟨by first | rfl | (simp; done) | (simp [*]; done), by repeat (first | exact Drawn0.refl _ | apply Drawn0.step)⟩
 ·
  rw [if_neg c4] at H
  have c4b0 : decide (a1 ≤ a0) = false := decide_eq_false c4
  clear c4
  obtain rfl := Option.some.inj H
  go_enter Tryd.func45, Tryd.ntmps45
  go_wp2
  go_ret
  exact ⟨by first | rfl | (simp; done) | (simp [*]; done), by repeat (first | exact Drawn0.refl _ | apply Drawn0.step)⟩
end Go.Proofs.YtdpinnhgkocjhaaDoor.Pr

namespace Go.Proofs.YtdpinnhgkocjhaaDoor.Pr
open Go.RowKit Go.Proofs.YtdpinnhgkocjhaaDoorW.PrintWords Go.Proofs.YtdpinnhgkocjhaaDoorW.PrintLast Go.Proofs.YtdpinnhgkocjhaaDoorW.PrintMore
set_option linter.unusedVariables false
set_option linter.unusedSimpArgs false
section
variable {P : Program} {md : Region.Mode} {ops : Array Oper} {Q : Exit → Act → World → Prop} {S : World → Prop} {ds : List Nat} {T : Bool × List (List Nat × List Nat)}
theorem pz_ {fuel : Nat} {l : Array Bool} {a : Act} {w : World} {oi : Oper} {v : Value} {a' : Act} (HT : Aside0 (rtab md ops = T)) (i : Nat) (N : Option Tmp) (l' : Array Bool) (h : wpAnyLast P md ops Q S ds fuel l' a' w)
  (hi : ops[i]? = some oi := by exact rfl) (hN : oi.dst = N := by exact rfl) (hc : anyT T l.toList l'.toList i = true := by kernel_rfl) (hQ : ∀ c a w, Q (.panic c) (a.put oi.dst v) w → Q (.panic c) a w := by exact fun _ _ _ h => h)
  (hy : Yields P ops oi v a := by exact Or.inl ⟨by rfl, by intro w'; go_simp; with_reducible rfl⟩) (ha : a.put N v = a' := by simp only [Act.put, List.setIfInBounds_toArray, List.set_cons_zero, List.set_cons_succ, i64_w, i32_w]; rfl) :
  wpAnyLast P md ops Q S ds (fuel + 1) l a w := pure_ l' hi hN (any_of HT.out hc) hQ hy ha h
theorem ga_ {rest : List Oper} {oi : Oper} {a : Act} {w : World} {f : FuncId} {fn : Func} {ar : Array Operand} {ts : Array TypeId} (N : Option Tmp) (hf : P.funcs[f]? = some fn) (args : Array Value) (h : Calls P f args w fun e w' => ∃ v, e = .returned v ∧ wpList P ops Q rest (a.put N v) w')
  (hd : oi.dst = N := by exact rfl) (hg : oi.guard = none := by exact rfl) (hname : (fn.name == "runtime.NumGoroutine") = false := by kernel_rfl) (hb : fn.body.isSome = true := by exact rfl) (hop : oi.op = .call { callee := .value (.func f), args := ar, argTypes := ts } := by exact rfl)
  (hargs : ar.map a.eval = args := by (try simp only [List.map_toArray, List.map_cons, List.map_nil]); first | done | rfl | (simp only [List.length_drop, List.length_take]; rfl)) : wpList P ops Q (oi :: rest) a w := goesL_ N hd hg hf hname hb args hop hargs h
end
theorem lb0_ {n : Nat} {w w0 w1 : World} (HB : Below n w w0) (h : Below n w w0 → Below n w w1 := by intro HB_; repeat (first | (with_reducible first | exact HB_ | apply below_alloc | apply pw_below_drewN | apply below_drew1) | exact HB_)) : Below n w w1 := h HB
theorem lb1_ {n : Nat} {w w0 w1 : World} {A : Prop} (HB : Below n w w0) (G : A) (h : Below n w w0 → A → Below n w w1 := by intro HB_ G_; repeat (first | (with_reducible first | exact HB_ | apply below_alloc | apply pw_below_drewN | apply below_drew1 | refine below_set ?_ G_) | exact HB_)) : Below n w w1 := h HB G
theorem lb2_ {n : Nat} {w w0 w1 : World} {A B : Prop} (HB : Below n w w0) (G : A) (H : B) (h : Below n w w0 → A → B → Below n w w1 := by intro HB_ G_ H_; repeat (first | (with_reducible first | exact HB_ | apply below_alloc | apply pw_below_drewN | apply below_drew1 | refine below_set ?_ G_ | refine below_set ?_ H_) | exact HB_)) : Below n w w1 := h HB G H
theorem rr_ {α : Sort _} {a b : α} (h : a = b := by first | rfl | (simp [errW_none, errW_some] <;> rfl) | (simp [*, errW_none, errW_some] <;> rfl)) : a = b := h
theorem kr_ {α : Type} {d : Kd α} {e base : Nat} {w w1 : World} {ok : Nat → Prop} {v : Value} {xs : List α} (h : d.R e w base ok v xs) (hh : d.R e w base ok v xs → d.R e w1 base ok v xs := by intro h_; (with_reducible repeat (first | apply Kd.R_alloc | apply Kd.R_drewN | apply Kd.R_drew)); exact h_) : d.R e w1 base ok v xs := hh h
theorem kc_ {α : Type} {d : Kd α} {w w1 : World} {A : Option Addr} {n : Nat} {xs : List α} (h : d.C w A n xs) (hh : d.C w A n xs → d.C w1 A n xs := by intro h_; repeat (first | exact h_ | (with_reducible refine Kd.C_alloc ?_ _) | (with_reducible refine Kd.C_drewN ?_ _) | (with_reducible refine Kd.C_drew ?_))) : d.C w1 A n xs := hh h
theorem bk_ {w w1 : World} {g : Nat} {o : Obj} (h : w.heap[g]? = some o) (hh : w.heap[g]? = some o → w1.heap[g]? = some o := by intro h_; (with_reducible repeat (first | refine blk_drewN ?_ _ | refine blk_drew ?_ | refine blk_alloc ?_ _)); exact h_) : w1.heap[g]? = some o := hh h
theorem dt_ {p : Prop} [inst : Decidable p] (h : decide p = true := by first | (with_reducible assumption) | assumption) : p := of_decide_eq_true h
section
variable {P : Program} {md : Region.Mode} {ops : Array Oper} {Q : Exit → Act → World → Prop} {S : World → Prop} {ds : List Nat}
theorem na_ {fuel : Nat} {l : Array Bool} {a a' : Act} {w : World} (h : wpAnyLast P md ops Q S ds fuel l a' w) (ha : a = a' := by show Act.put _ (some _) _ = _; simp only [Act.put, List.setIfInBounds_toArray, List.set_cons_zero, List.set_cons_succ, i64_w, i32_w]; rfl) : wpAnyLast P md ops Q S ds fuel l a w := norm_ ha h
end
theorem bz_ {w W : World} {g : Nat} (hg : g = W.heap.size) (h : Below w.heap.size w W) : w.heap.size ≤ g := by rw [hg]; exact h.size
theorem lb3_ {n : Nat} {w w0 w1 : World} {A B C : Prop} (HB : Below n w w0) (G : A) (H : B) (I : C) (h : Below n w w0 → A → B → C → Below n w w1 := by intro HB_ G_ H_ I_; repeat (first | (with_reducible first | exact HB_ | apply below_alloc | apply pw_below_drewN | apply below_drew1 | refine below_set ?_ G_ | refine below_set ?_ H_ | refine below_set ?_ I_) | exact HB_)) : Below n w w1 := h HB G H I
theorem kb0_ {w w0 w1 : World} {g : Nat} {row : Option Nat} (h : KeepBut w w0 g row) (hh : KeepBut w w0 g row → KeepBut w w1 g row := by intro h_; repeat (first | (with_reducible first | exact h_ | apply KeepBut.set_ | apply keep_drewN | apply keep_drew | apply keep_alloc) | exact h_)) : KeepBut w w1 g row := hh h
theorem kb1_ {w w0 w1 : World} {g : Nat} {row : Option Nat} {A : Prop} (h : KeepBut w w0 g row) (G : A) (hh : KeepBut w w0 g row → A → KeepBut w w1 g row := by intro h_ G_; repeat (first | (with_reducible first | exact h_ | apply KeepBut.set_ | apply keep_drewN | apply keep_drew | apply keep_alloc | refine keep_far ?_ G_ _) | exact h_)) : KeepBut w w1 g row := hh h G
theorem kb2_ {w w0 w1 : World} {g : Nat} {row : Option Nat} {A B : Prop} (h : KeepBut w w0 g row) (G : A) (H : B) (hh : KeepBut w w0 g row → A → B → KeepBut w w1 g row := by intro h_ G_ H_; repeat (first | (with_reducible first | exact h_ | apply KeepBut.set_ | apply keep_drewN | apply keep_drew | apply keep_alloc | refine keep_far ?_ G_ _ | refine keep_far ?_ H_ _) | exact h_)) : KeepBut w w1 g row := hh h G H
theorem krm_ {α : Type} {d : Kd α} {e base : Nat} {w w1 : World} {ok ok' : Nat → Prop} {v : Value} {xs : List α} (h : d.R e w base ok v xs) (hm : ∀ k, ok k → ok' k) (hh : d.R e w base ok v xs → d.R e w1 base ok v xs := by intro h_; (with_reducible repeat (first | apply Kd.R_alloc | apply Kd.R_drewN | apply Kd.R_drew)); exact h_) : d.R e w1 base ok' v xs := Kd.R_mono (hh h) hm
theorem bb_ {w1 w2 : World} {g : Nat} {o : Obj} (h : w1.heap[g]? = some o) (hb : Below w1.heap.size w1 w2) : w2.heap[g]? = some o := blk_below h hb
theorem ry_ {α : Type} {d : Kd α} {e base : Nat} {w : World} {ok : Nat → Prop} {v : Value} {xs ys : List α} (he : ys = xs) (h : d.R e w base ok v xs) : d.R e w base ok v ys := by rw [he]; exact h
section
variable {P : Program} {ops : Array Oper} {Q : Exit → Act → World → Prop}
theorem gs_ {oi : Oper} {N : Option Tmp} {a : Act} {w : World} {K : Act → World → Prop} {f : FuncId} {fn : Func} {ar : Array Operand} {ts : Array TypeId} (hf : P.funcs[f]? = some fn) (args : Array Value) (h : Calls P f args w fun e w' => ∃ v, e = .returned v ∧ K (a.put N v) w')
  (hname : (fn.name == "runtime.NumGoroutine") = false := by kernel_rfl) (hb : fn.body.isSome = true := by exact rfl) (hw : Region.wanted oi (yielded ops a.tmps) = true := by rfl) (hN : oi.dst = N := by exact rfl) (hop : oi.op = .call { callee := .value (.func f), args := ar, argTypes := ts } := by exact rfl)
  (hargs : ar.map a.eval = args := by (try simp only [List.map_toArray, List.map_cons, List.map_nil]); first | done | rfl | (simp only [List.length_drop, List.length_take]; rfl)) : if Region.wanted oi (yielded ops a.tmps) = true then Oper.wp P oi a w K Q else K (a.put N undef) w := goes_ hf hname hb args hw hN hop hargs h
end
theorem cz2_ {w : World} {g : Nat} {t : TypeId} {a0 a1 : Value} (h : w.heap[g]? = some (.cells #[a0, a1] t (0, 0))) : w.cell? ⟨g, 0, none⟩ = some a0 ∧ w.cell? ⟨g, 1, none⟩ = some a1 := ⟨(blk_cell h 0).trans rfl, (blk_cell h 1).trans rfl⟩
theorem fz2_ {w : World} {g : Nat} {t : TypeId} {a0 a1 : Value} (h : w.heap[g]? = some (.cells #[a0, a1] t (0, 0))) : w.frozen? ⟨g, 0, none⟩ = false ∧ w.frozen? ⟨g, 1, none⟩ = false := ⟨blk_frozen h 0, blk_frozen h 1⟩
theorem cz3_ {w : World} {g : Nat} {t : TypeId} {a0 a1 a2 : Value} (h : w.heap[g]? = some (.cells #[a0, a1, a2] t (0, 0))) : w.cell? ⟨g, 0, none⟩ = some a0 ∧ w.cell? ⟨g, 1, none⟩ = some a1 ∧ w.cell? ⟨g, 2, none⟩ = some a2 := ⟨(blk_cell h 0).trans rfl, (blk_cell h 1).trans rfl, (blk_cell h 2).trans rfl⟩
theorem fz3_ {w : World} {g : Nat} {t : TypeId} {a0 a1 a2 : Value} (h : w.heap[g]? = some (.cells #[a0, a1, a2] t (0, 0))) : w.frozen? ⟨g, 0, none⟩ = false ∧ w.frozen? ⟨g, 1, none⟩ = false ∧ w.frozen? ⟨g, 2, none⟩ = false := ⟨blk_frozen h 0, blk_frozen h 1, blk_frozen h 2⟩
end Go.Proofs.YtdpinnhgkocjhaaDoor.Pr

namespace Go.Proofs.YtdpinnhgkocjhaaDoor.Pr
open Go.RowKit Go.Proofs.YtdpinnhgkocjhaaDoorW.PrintWords Go.Proofs.YtdpinnhgkocjhaaDoorW.PrintLast Go.Proofs.YtdpinnhgkocjhaaDoorW.PrintMore
attribute [local go_sem] max2_int min2_int max_two min_two max_three min_three max_four min_four   -- for this text's walks alone
set_option linter.unusedVariables false
set_option linter.unusedSimpArgs false
def impl_isPlain.l0 : Nat → ByteArray → Int → Int → Option (Bool)
 | 0, _, _, _ => none
 | k + 1, x0, x5, x6 => if x6 < x5 then (if 0 ≤ x6 then (if x6 < (x0.size : Int) then ((impl_within.f (wrap64 (bt x0 x6)) 32 126).bind fun t121 => (if t121 = true then (if (bt x0 x6) = 35 then (some false) else (impl_isPlain.l0 k x0 x5 (wrap64 (x6 + 1)))) else (some false))) else (none)) else (none)) else (some true)
def impl_isPlain.f (k : Nat) (a0 : ByteArray) : Option (Bool) := impl_isPlain.l0 k a0 (a0.size : Int) 0
set_option maxHeartbeats 8000000 in
set_option maxRecDepth 100000 in
theorem impl_isPlain.calls (k : Nat) (a0 : ByteArray) (r : Bool) (w : World) (h : impl_isPlain.f k a0 = some r) :
  Calls Tryd.prog 58 #[.string a0] w fun e w' => e = .returned (.bool r) ∧ Drawn0 w w' := by
 have H : (impl_isPlain.l0 k a0 (a0.size : Int) 0) = some r := h
 clear h
 have H' := Aside0.mk H
 clear H
 go_enter Tryd.func58, Tryd.ntmps58
 go_wp2
 go_loopg [6] k (fun kq v6 w' => ∃ (x6_1 : Int), v6 = .int .i64 x6_1 ∧ Aside0 (impl_isPlain.l0 kq a0 (a0.size : Int) x6_1 = some r) ∧ Aside0 (kq ≤ k) ∧ Drawn0 w w')
 case atStart => exact ⟨(0), (by first | rfl | (simp; done) | (simp [*]; done)), H', ⟨Nat.le_refl _⟩, by repeat (first | exact Drawn0.refl _ | apply Drawn0.step)⟩
 case round =>
  clear H'
  obtain ⟨x6_1, rfl, HA, HK1, ⟨m1, rfl⟩⟩ := hrel
  cases gk with
  | zero => exact absurd HA.out (by simp [impl_isPlain.l0])
  | succ k1 =>
   have H := HA.out
   clear HA
   simp only [impl_isPlain.l0] at H
   by_cases c2 : x6_1 < (a0.size : Int)
   ·
    rw [if_pos c2] at H
    have c2b0 : decide (x6_1 < (a0.size : Int)) = true := decide_eq_true c2
    clear c2
    by_cases c3 : 0 ≤ x6_1
    ·
     rw [if_pos c3] at H
     have c3b0 : decide (0 ≤ x6_1) = true := decide_eq_true c3
     clear c3
     by_cases c4 : x6_1 < (a0.size : Int)
     ·
      rw [if_pos c4] at H
      have c4b0 : decide (x6_1 < (a0.size : Int)) = true := decide_eq_true c4
      clear c4
      replace H := Option.bind_eq_some_iff.mp H
      obtain ⟨t121, A60, H⟩ := H
      replace H : (if t121 = true then (if (bt a0 x6_1) = 35 then (some false) else (impl_isPlain.l0 k1 a0 (a0.size : Int) (wrap64 (x6_1 + 1)))) else (some false)) = some r := H
      have A6 := Aside0.mk A60
      clear A60
      by_cases c7 : t121 = true
      ·
       subst c7
       have H1 : (if (bt a0 x6_1) = 35 then (some false) else (impl_isPlain.l0 k1 a0 (a0.size : Int) (wrap64 (x6_1 + 1)))) = some r := by rw [if_pos rfl] at H; exact H
       clear H
       have H := H1
       clear H1
       by_cases c9 : (bt a0 x6_1) = 35
       ·
        rw [if_pos c9] at H
        have c9b0 : ((bt a0 x6_1) == 35) = true := beq_iff_eq.mpr c9; have c9b1 : ((bt a0 x6_1) != 35) = false := bne_eq_false_iff_eq.mpr c9; clear c9; obtain rfl := Option.some.inj H; have p5 : 0 ≤ (x6_1 : Int) := dt_; have q5 : x6_1 < (a0.size : Int) := dt_; have hx5 := bt_at a0 x6_1; replace p5 := eq_true p5; replace q5 := eq_true q5
        go_wp2_with (first | ((with_reducible refine gate_callee (f := 45) rfl ?_); refine ga_ (some 13) Tryd.func45 #[.int .i64 (wrap64 (bt a0 x6_1)), .int .i64 32, .int .i64 126] ?_; (with_reducible refine (impl_within.calls (wrap64 (bt a0 x6_1)) 32 126 true _ A6.out).mono ?_); rintro e w' ⟨rfl, ⟨nd, rfl⟩⟩; refine ⟨_, rfl, ?_⟩; have p8 : 0 ≤ (x6_1 : Int) := dt_; have q8 : x6_1 < (a0.size : Int) := dt_; have hx8 := bt_at a0 x6_1; replace p8 := eq_true p8; replace q8 := eq_true q8))
        go_ret
        exact ⟨by first | rfl | (simp; done) | (simp [*]; done), by repeat (first | exact Drawn0.refl _ | apply Drawn0.step)⟩
       ·
        rw [if_neg c9] at H
        have c9b0 : ((bt a0 x6_1) == 35) = false := beq_eq_false_iff_ne.mpr c9; have c9b1 : ((bt a0 x6_1) != 35) = true := bne_iff_ne.mpr c9; have H' := Aside0.mk H; clear H; have p5 : 0 ≤ (x6_1 : Int) := dt_; have q5 : x6_1 < (a0.size : Int) := dt_; have hx5 := bt_at a0 x6_1; replace p5 := eq_true p5; replace q5 := eq_true q5
        go_wp2_with (first | ((with_reducible refine gate_callee (f := 45) rfl ?_); refine ga_ (some 13) Tryd.func45 #[.int .i64 (wrap64 (bt a0 x6_1)), .int .i64 32, .int .i64 126] ?_; (with_reducible refine (impl_within.calls (wrap64 (bt a0 x6_1)) 32 126 true _ A6.out).mono ?_); rintro e w' ⟨rfl, ⟨nd, rfl⟩⟩; refine ⟨_, rfl, ?_⟩; have p8 : 0 ≤ (x6_1 : Int) := dt_; have q8 : x6_1 < (a0.size : Int) := dt_; have hx8 := bt_at a0 x6_1; replace p8 := eq_true p8; replace q8 := eq_true q8))
        go_roundg k1
        case measure => have := HK1.out; omega
        case rel => exact ⟨(wrap64 (x6_1 + 1)), (by first | rfl | (simp; done) | (simp [*]; done)), H', ⟨by have := HK1.out; omega⟩, by repeat (first | exact Drawn0.refl _ | apply Drawn0.step)⟩
      ·
       replace c7 := Bool.eq_false_iff.mpr c7
       subst c7
       have H1 : (some false) = some r := by rw [if_neg (show ¬ (false = true) by decide)] at H; exact H
       clear H
       have H := H1
       clear H1
       obtain rfl := Option.some.inj H
       have p5 : 0 ≤ (x6_1 : Int) := dt_
       have q5 : x6_1 < (a0.size : Int) := dt_
       have hx5 := bt_at a0 x6_1
       replace p5 := eq_true p5
       replace q5 := eq_true q5
       go_wp2_with (first | ((with_reducible refine gate_callee (f := 45) rfl ?_); refine ga_ (some 13) Tryd.func45 #[.int .i64 (wrap64 (bt a0 x6_1)), .int .i64 32, .int .i64 126] ?_; (with_reducible refine (impl_within.calls (wrap64 (bt a0 x6_1)) 32 126 false _ A6.out).mono ?_); rintro e w' ⟨rfl, ⟨nd, rfl⟩⟩; refine ⟨_, rfl, ?_⟩))
       go_ret
       exact ⟨by first | rfl | (simp; done) | (simp [*]; done), by repeat (first | exact Drawn0.refl _ | apply Drawn0.step)⟩
     ·
      rw [if_neg c4] at H
      exact absurd H (by simp)
    ·
     rw [if_neg c3] at H
     exact absurd H (by simp)
   ·
    rw [if_neg c2] at H
    have c2b0 : decide (x6_1 < (a0.size : Int)) = false := decide_eq_false c2
    clear c2
    obtain rfl := Option.some.inj H
    go_wp2
    go_ret
    exact ⟨by first | rfl | (simp; done) | (simp [*]; done), by repeat (first | exact Drawn0.refl _ | apply Drawn0.step)⟩
def stringslite_Index.f (a0 : ByteArray) (a1 : ByteArray) : Option Int := if a1.size = 1 then some (Lib.indexByte a0.data.toList (a1.data.toList.headD 0)) else none
theorem stringslite_Index.calls (a0 : ByteArray) (a1 : ByteArray) (r : Int) (w : World) (h : stringslite_Index.f a0 a1 = some r) :
  Calls Tryd.prog 83 #[.string a0, .string a1] w fun e w' => e = .returned (.int .i64 r) ∧ Drawn0 w w' := by
 unfold stringslite_Index.f at h
 by_cases h0 : a1.size = 1
 ·
  rw [if_pos h0] at h
  obtain rfl := Option.some.inj h
  obtain ⟨⟨l⟩⟩ := a1
  match l, h0 with
  | [c], _ =>
   refine (Tryd.stringslite_Index_one a0 c w).mono ?_
   rintro e w' ⟨rfl, rfl⟩
   exact ⟨rfl, Drawn0.refl _⟩
 ·
  rw [if_neg h0] at h
  cases h
def strings_Index.f (a0 : ByteArray) (a1 : ByteArray) : Option (Int) := (stringslite_Index.f a0 a1).bind fun t124 => (some t124)
set_option maxHeartbeats 8000000 in
set_option maxRecDepth 100000 in
theorem strings_Index.calls (a0 : ByteArray) (a1 : ByteArray) (r : Int) (w : World) (h : strings_Index.f a0 a1 = some r) :
  Calls Tryd.prog 79 #[.string a0, .string a1] w fun e w' => e = .returned (.int .i64 r) ∧ Drawn0 w w' := by
 have H : ((stringslite_Index.f a0 a1).bind fun t124 => (some t124)) = some r := h
 clear h
 replace H := Option.bind_eq_some_iff.mp H
 obtain ⟨t124, A30, H⟩ := H
 replace H : (some t124) = some r := H
 have A3 := Aside0.mk A30
 clear A30
 obtain rfl := Option.some.inj H
 go_enter Tryd.func79, Tryd.ntmps79
 go_wp2_with (first | ((with_reducible refine gate_callee (f := 83) rfl ?_); refine ga_ (some 7) Tryd.func83 #[.string a0, .string a1] ?_; (with_reducible refine (stringslite_Index.calls a0 a1 t124 _ A3.out).mono ?_); rintro e w' ⟨rfl, ⟨nd, rfl⟩⟩; refine ⟨_, rfl, ?_⟩))
 go_ret
 exact ⟨by first | rfl | (simp; done) | (simp [*]; done), by repeat (first | exact Drawn0.refl _ | apply Drawn0.step)⟩
def strings_Contains.f (a0 : ByteArray) (a1 : ByteArray) : Option (Bool) := (strings_Index.f a0 a1).bind fun t125 => (some (decide (t125 ≥ 0)))
set_option maxHeartbeats 8000000 in
set_option maxRecDepth 100000 in
theorem strings_Contains.calls (a0 : ByteArray) (a1 : ByteArray) (r : Bool) (w : World) (h : strings_Contains.f a0 a1 = some r) :
  Calls Tryd.prog 74 #[.string a0, .string a1] w fun e w' => e = .returned (.bool r) ∧ Drawn0 w w' := by
 have H : ((strings_Index.f a0 a1).bind fun t125 => (some (decide (t125 ≥ 0)))) = some r := h
 clear h
 replace H := Option.bind_eq_some_iff.mp H
 obtain ⟨t125, A30, H⟩ := H
 replace H : (some (decide (t125 ≥ 0))) = some r := H
 have A3 := Aside0.mk A30
 clear A30
 obtain rfl := Option.some.inj H
 go_enter Tryd.func74, Tryd.ntmps74
 go_wp2_with (first | ((with_reducible refine gate_callee (f := 79) rfl ?_); refine ga_ (some 7) Tryd.func79 #[.string a0, .string a1] ?_; (with_reducible refine (strings_Index.calls a0 a1 t125 _ A3.out).mono ?_); rintro e w' ⟨rfl, ⟨nd, rfl⟩⟩; refine ⟨_, rfl, ?_⟩))
 go_ret
 exact ⟨by first | rfl | (simp; done) | (simp [*]; done), by repeat (first | exact Drawn0.refl _ | apply Drawn0.step)⟩
def impl_isCommand.f (k : Nat) (a0 : ByteArray) : Option (Bool) := (impl_within.f (a0.size : Int) 1 160).bind fun t126 => (if t126 = true then ((impl_isPlain.f k a0).bind fun t127 => (if t127 = true then ((strings_Contains.f a0 (⟨#[64]⟩ : ByteArray)).bind fun t128 => (some (!t128))) else (some false))) else (some false))
set_option maxHeartbeats 8000000 in
set_option maxRecDepth 100000 in
theorem impl_isCommand.calls (k : Nat) (a0 : ByteArray) (r : Bool) (w : World) (h : impl_isCommand.f k a0 = some r) :
  Calls Tryd.prog 57 #[.string a0] w fun e w' => e = .returned (.bool r) ∧ Drawn0 w w' := by
 have H : ((impl_within.f (a0.size : Int) 1 160).bind fun t126 => (if t126 = true then ((impl_isPlain.f k a0).bind fun t127 => (if t127 = true then ((strings_Contains.f a0 (⟨#[64]⟩ : ByteArray)).bind fun t128 => (some (!t128))) else (some false))) else (some false))) = some r := h
 clear h
 replace H := Option.bind_eq_some_iff.mp H
 obtain ⟨t126, A20, H⟩ := H
 replace H : (if t126 = true then ((impl_isPlain.f k a0).bind fun t127 => (if t127 = true then ((strings_Contains.f a0 (⟨#[64]⟩ : ByteArray)).bind fun t128 => (some (!t128))) else (some false))) else (some false)) = some r := H
 have A2 := Aside0.mk A20
 clear A20
 by_cases c3 : t126 = true
 ·
  subst c3
  have H1 : ((impl_isPlain.f k a0).bind fun t127 => (if t127 = true then ((strings_Contains.f a0 (⟨#[64]⟩ : ByteArray)).bind fun t128 => (some (!t128))) else (some false))) = some r := by rw [if_pos rfl] at H; exact H
  clear H
  have H := H1
  clear H1
  replace H := Option.bind_eq_some_iff.mp H
  obtain ⟨t127, A40, H⟩ := H
  replace H : (if t127 = true then ((strings_Contains.f a0 (⟨#[64]⟩ : ByteArray)).bind fun t128 => (some (!t128))) else (some false)) = some r := H
  have A4 := Aside0.mk A40
  clear A40
  by_cases c5 : t127 = true
  ·
   subst c5
   have H1 : ((strings_Contains.f a0 (⟨#[64]⟩ : ByteArray)).bind fun t128 => (some (!t128))) = some r := by rw [if_pos rfl] at H; exact H
   clear H
   have H := H1
   clear H1
   replace H := Option.bind_eq_some_iff.mp H
   obtain ⟨t128, A60, H⟩ := H
   replace H : (some (!t128)) = some r := H
   have A6 := Aside0.mk A60
   clear A60
   obtain rfl := Option.some.inj H
   go_enter Tryd.func57, Tryd.ntmps57
   go_wp2_with (first | ((with_reducible refine gate_callee (f := 45) rfl ?_); refine ga_ (some 5) Tryd.func45 #[.int .i64 (a0.size : Int), .int .i64 1, .int .i64 160] ?_; (with_reducible refine (impl_within.calls (a0.size : Int) 1 160 true _ A2.out).mono ?_); rintro e w' ⟨rfl, ⟨nd, rfl⟩⟩; refine ⟨_, rfl, ?_⟩) | (go_at_call 58; (with_reducible refine (impl_isPlain.calls k a0 true _ A4.out).mono ?_); rintro e w' ⟨rfl, ⟨nd, rfl⟩⟩) | (go_at_call 74; (with_reducible refine (strings_Contains.calls a0 (⟨#[64]⟩ : ByteArray) t128 _ A6.out).mono ?_); rintro e w' ⟨rfl, ⟨nd, rfl⟩⟩))
   go_ret
   exact ⟨by first | rfl | (simp; done) | (simp [*]; done), by repeat (first | exact Drawn0.refl _ | apply Drawn0.step)⟩
  ·
   replace c5 := Bool.eq_false_iff.mpr c5
   subst c5
   have H1 : (some false) = some r := by rw [if_neg (show ¬ (false = true) by decide)] at H; exact H
   clear H
   have H := H1
   clear H1
   obtain rfl := Option.some.inj H
   go_enter Tryd.func57, Tryd.ntmps57
   go_wp2_with (first | ((with_reducible refine gate_callee (f := 45) rfl ?_); refine ga_ (some 5) Tryd.func45 #[.int .i64 (a0.size : Int), .int .i64 1, .int .i64 160] ?_; (with_reducible refine (impl_within.calls (a0.size : Int) 1 160 true _ A2.out).mono ?_); rintro e w' ⟨rfl, ⟨nd, rfl⟩⟩; refine ⟨_, rfl, ?_⟩) | (go_at_call 58; (with_reducible refine (impl_isPlain.calls k a0 false _ A4.out).mono ?_); rintro e w' ⟨rfl, ⟨nd, rfl⟩⟩))
   go_ret
   exact ⟨by first | rfl | (simp; done) | (simp [*]; done), by repeat (first | exact Drawn0.refl _ | apply Drawn0.step)⟩
 ·
  replace c3 := Bool.eq_false_iff.mpr c3
  subst c3
  have H1 : (some false) = some r := by rw [if_neg (show ¬ (false = true) by decide)] at H; exact H
  clear H
  have H := H1
  clear H1
  obtain rfl := Option.some.inj H
  go_enter Tryd.func57, Tryd.ntmps57
  go_wp2_with (first | ((with_reducible refine gate_callee (f := 45) rfl ?_); refine ga_ (some 5) Tryd.func45 #[.int .i64 (a0.size : Int), .int .i64 1, .int .i64 160] ?_; (with_reducible refine (impl_within.calls (a0.size : Int) 1 160 false _ A2.out).mono ?_); rintro e w' ⟨rfl, ⟨nd, rfl⟩⟩; refine ⟨_, rfl, ?_⟩))
  go_ret
  exact ⟨by first | rfl | (simp; done) | (simp [*]; done), by repeat (first | exact Drawn0.refl _ | apply Drawn0.step)⟩
def impl_IsValidRecord.f (k : Nat) (a0_0 : ByteArray) (a0_1 : ByteArray) : Option (Bool) := (impl_isCommand.f k a0_0).bind fun t130 => (if t130 = true then (if (a0_1.size : Int) ≤ 200 then ((impl_isPlain.f k a0_1).bind fun t131 => (some t131)) else (some false)) else (some false))
set_option maxHeartbeats 8000000 in
set_option maxRecDepth 100000 in
theorem impl_IsValidRecord.calls (k : Nat) (a0_0 : ByteArray) (a0_1 : ByteArray) (r : Bool) (w : World) (h : impl_IsValidRecord.f k a0_0 a0_1 = some r) :
  Calls Tryd.prog 37 #[.agg #[.string a0_0, .string a0_1]] w fun e w' => e = .returned (.bool r) ∧ Below w.heap.size w w' := by
 have hu27 := Tryd.underlying27
 have HB := Aside0.mk (Below.refl w.heap.size w)
 have H : ((impl_isCommand.f k a0_0).bind fun t130 => (if t130 = true then (if (a0_1.size : Int) ≤ 200 then ((impl_isPlain.f k a0_1).bind fun t131 => (some t131)) else (some false)) else (some false))) = some r := h
 clear h
 replace H := Option.bind_eq_some_iff.mp H
 obtain ⟨t130, A20, H⟩ := H
 replace H : (if t130 = true then (if (a0_1.size : Int) ≤ 200 then ((impl_isPlain.f k a0_1).bind fun t131 => (some t131)) else (some false)) else (some false)) = some r := H
 have A2 := Aside0.mk A20
 clear A20
 by_cases c3 : t130 = true
 ·
  subst c3
  have H1 : (if (a0_1.size : Int) ≤ 200 then ((impl_isPlain.f k a0_1).bind fun t131 => (some t131)) else (some false)) = some r := by rw [if_pos rfl] at H; exact H
  clear H
  have H := H1
  clear H1
  by_cases c4 : (a0_1.size : Int) ≤ 200
  ·
   rw [if_pos c4] at H
   have c4b0 : decide ((a0_1.size : Int) ≤ 200) = true := decide_eq_true c4
   have c4b1 : decide (a0_1.size ≤ 200) = true := decide_eq_true (by omega)
   clear c4
   replace H := Option.bind_eq_some_iff.mp H
   obtain ⟨t131, A50, H⟩ := H
   replace H : (some t131) = some r := H
   have A5 := Aside0.mk A50
   clear A50
   obtain rfl := Option.some.inj H
   go_enter Tryd.func37, Tryd.ntmps37
   go_wp2_with (first | ((with_reducible refine gate_dst (N := 1) rfl ?_); (try (refine gate_guard (by rfl) ?_; dsimp only)); refine box_event ?hg (N := 1) ?hd (cs := #[.string a0_0, .string a0_1]) (t := 27) ?hr ?_; (case hd => rfl); (case hg => rfl); (case hr => first | (go_simp; done) | (go_simp; rfl)); intro gb129 hg w6 hbox hb; have BK129 := Aside0.mk (hbox); have GW129 := Aside0.mk ((bz_ hg (lb0_ HB.out))); have GE129 := Aside0.mk ((bz_ hg (lb0_ HB.out))); replace HB := Aside0.mk (below_step (lb0_ HB.out) hb); clear hb hbox hg; obtain ⟨hcz7_0, hcz7_1⟩ := cz2_ BK129.out; obtain ⟨hfz7_0, hfz7_1⟩ := fz2_ BK129.out) | ((with_reducible refine gate_callee (f := 57) rfl ?_); refine ga_ (some 5) Tryd.func57 #[.string a0_0] ?_; (with_reducible refine (impl_isCommand.calls k a0_0 true _ A2.out).mono ?_); rintro e w' ⟨rfl, ⟨nd, rfl⟩⟩; refine ⟨_, rfl, ?_⟩) | (go_at_call 58; (with_reducible refine (impl_isPlain.calls k a0_1 t131 _ A5.out).mono ?_); rintro e w' ⟨rfl, ⟨nd, rfl⟩⟩))
   go_ret
   exact ⟨rr_, lb1_ HB.out GE129.out⟩
  ·
   rw [if_neg c4] at H
   have c4b0 : decide ((a0_1.size : Int) ≤ 200) = false := decide_eq_false c4
   have c4b1 : decide (a0_1.size ≤ 200) = false := decide_eq_false (by omega)
   clear c4
   obtain rfl := Option.some.inj H
   go_enter Tryd.func37, Tryd.ntmps37
   go_wp2_with (first | ((with_reducible refine gate_dst (N := 1) rfl ?_); (try (refine gate_guard (by rfl) ?_; dsimp only)); refine box_event ?hg (N := 1) ?hd (cs := #[.string a0_0, .string a0_1]) (t := 27) ?hr ?_; (case hd => rfl); (case hg => rfl); (case hr => first | (go_simp; done) | (go_simp; rfl)); intro gb129 hg w8 hbox hb; have BK129 := Aside0.mk (hbox); have GW129 := Aside0.mk ((bz_ hg (lb0_ HB.out))); have GE129 := Aside0.mk ((bz_ hg (lb0_ HB.out))); replace HB := Aside0.mk (below_step (lb0_ HB.out) hb); clear hb hbox hg; obtain ⟨hcz9_0, hcz9_1⟩ := cz2_ BK129.out; obtain ⟨hfz9_0, hfz9_1⟩ := fz2_ BK129.out) | ((with_reducible refine gate_callee (f := 57) rfl ?_); refine ga_ (some 5) Tryd.func57 #[.string a0_0] ?_; (with_reducible refine (impl_isCommand.calls k a0_0 true _ A2.out).mono ?_); rintro e w' ⟨rfl, ⟨nd, rfl⟩⟩; refine ⟨_, rfl, ?_⟩))
   go_ret
   exact ⟨rr_, lb1_ HB.out GE129.out⟩
 ·
  replace c3 := Bool.eq_false_iff.mpr c3
  subst c3
  have H1 : (some false) = some r := by rw [if_neg (show ¬ (false = true) by decide)] at H; exact H
  clear H
  have H := H1
  clear H1
  obtain rfl := Option.some.inj H
  go_enter Tryd.func37, Tryd.ntmps37
  go_wp2_with (first | ((with_reducible refine gate_dst (N := 1) rfl ?_); (try (refine gate_guard (by rfl) ?_; dsimp only)); refine box_event ?hg (N := 1) ?hd (cs := #[.string a0_0, .string a0_1]) (t := 27) ?hr ?_; (case hd => rfl); (case hg => rfl); (case hr => first | (go_simp; done) | (go_simp; rfl)); intro gb129 hg w10 hbox hb; have BK129 := Aside0.mk (hbox); have GW129 := Aside0.mk ((bz_ hg (lb0_ HB.out))); have GE129 := Aside0.mk ((bz_ hg (lb0_ HB.out))); replace HB := Aside0.mk (below_step (lb0_ HB.out) hb); clear hb hbox hg; obtain ⟨hcz11_0, hcz11_1⟩ := cz2_ BK129.out; obtain ⟨hfz11_0, hfz11_1⟩ := fz2_ BK129.out) | ((with_reducible refine gate_callee (f := 57) rfl ?_); refine ga_ (some 5) Tryd.func57 #[.string a0_0] ?_; (with_reducible refine (impl_isCommand.calls k a0_0 false _ A2.out).mono ?_); rintro e w' ⟨rfl, ⟨nd, rfl⟩⟩; refine ⟨_, rfl, ?_⟩))
  go_ret
  exact ⟨rr_, lb1_ HB.out GE129.out⟩
def Tb (w : World) : Prop := ∀ w', Below w.heap.size w w' → Lib.TabIs Tryd.prog w' "internal/strconv.uint64pow10" .u64 Lib.pow10Tab
theorem Tb.step {w W : World} (h : Tb w) (hb : Below w.heap.size w W) : Tb W := fun w' hw => h w' (below_then hb hb.size hw)
theorem grow_below_ (w : World) (q : Nat) (os : Array Obj) : Below w.heap.size w (Go.Sort.grow (w.drewN q) os) :=
 ⟨rfl, rfl, rfl, by simp [Go.Sort.grow, World.drewN], fun k hk => by simp [Go.Sort.grow, World.drewN, Array.getElem?_append, hk]⟩
def strconv_Itoa_76.f (a0 : Int) : Option ByteArray := if -9223372036854775808 ≤ a0 then (if a0 ≤ 9223372036854775807 then some ⟨(Lib.itoa a0).toArray⟩ else none) else none
theorem strconv_Itoa_76.calls (a0 : Int) (r : ByteArray) (w : World) (h : strconv_Itoa_76.f a0 = some r) (hT : Tb w) :
  Calls Tryd.prog 76 #[.int .i64 a0] w fun e w' => e = .returned (.string r) ∧ Below w.heap.size w w' := by
 unfold strconv_Itoa_76.f at h
 by_cases h0 : -9223372036854775808 ≤ a0
 ·
  by_cases h1 : a0 ≤ 9223372036854775807
  ·
   rw [if_pos h0, if_pos h1] at h
   obtain rfl := Option.some.inj h
   refine (Tryd.strconv_Itoa a0 h0 h1 w (hT w (Below.refl _ _))).mono ?_
   rintro e w' ⟨rfl, q, os, rfl⟩
   exact ⟨rfl, grow_below_ w q os⟩
  ·
   rw [if_pos h0, if_neg h1] at h
   cases h
 ·
  rw [if_neg h0] at h
  cases h
def impl_decimal.f (a0 : Int) : Option (ByteArray) := (strconv_Itoa_76.f a0).bind fun t151 => (some t151)
set_option maxHeartbeats 8000000 in
set_option maxRecDepth 100000 in
theorem impl_decimal.calls (a0 : Int) (r : ByteArray) (w : World) (h : impl_decimal.f a0 = some r) (hT : Tb w) :
  Calls Tryd.prog 66 #[.int .i64 a0] w fun e w' => e = .returned (.string r) ∧ Below w.heap.size w w' := by
 have HT := Aside0.mk hT
 clear hT
 have HB := Aside0.mk (Below.refl w.heap.size w)
 have H : ((strconv_Itoa_76.f a0).bind fun t151 => (some t151)) = some r := h
 clear h
 replace H := Option.bind_eq_some_iff.mp H
 obtain ⟨t151, A20, H⟩ := H
 replace H : (some t151) = some r := H
 have A2 := Aside0.mk A20
 clear A20
 obtain rfl := Option.some.inj H
 go_enter Tryd.func66, Tryd.ntmps66
 go_wp2_with (first | ((with_reducible refine gate_callee (f := 76) rfl ?_); refine ga_ (some 4) Tryd.func76 #[.int .i64 a0] ?_; (with_reducible refine (strconv_Itoa_76.calls a0 t151 _ A2.out ?sideT).mono ?_); (case sideT => first | exact HT.out | exact Tb.step HT.out HB.out | exact Tb.step HT.out (by repeat (first | (with_reducible first | exact HB.out | apply below_alloc | apply pw_below_drewN | apply below_drew1) | exact HB.out | exact Below.refl _ _))); rintro e w3 ⟨rfl, hb⟩; refine ⟨_, rfl, ?_⟩; replace HB := Aside0.mk (below_step (lb0_ HB.out) hb); (try clear hb); (try clear hb2); (try clear hk); (try clear hi)))
 go_ret
 exact ⟨rr_, lb0_ HB.out⟩
def impl_checksum.l0 : Nat → ByteArray → Int → Int → Int → Option (Int)
 | 0, _, _, _, _ => none
 | k + 1, x0, x3, x6, x7 => if x7 < x6 then (if 0 ≤ x7 then (if x7 < (x0.size : Int) then (impl_checksum.l0 k x0 (Int.tmod (wrap64 ((wrap64 ((wrap64 (41 * x3)) + (wrap64 (bt x0 x7)))) + 1)) 999979) x6 (wrap64 (x7 + 1))) else (none)) else (none)) else (some x3)
def impl_checksum.f (k : Nat) (a0 : ByteArray) : Option (Int) := impl_checksum.l0 k a0 7 (a0.size : Int) 0
set_option maxHeartbeats 8000000 in
set_option maxRecDepth 100000 in
theorem impl_checksum.calls (k : Nat) (a0 : ByteArray) (r : Int) (w : World) (h : impl_checksum.f k a0 = some r) :
  Calls Tryd.prog 67 #[.string a0] w fun e w' => e = .returned (.int .i64 r) ∧ Drawn0 w w' := by
 have H : (impl_checksum.l0 k a0 7 (a0.size : Int) 0) = some r := h
 clear h
 have H' := Aside0.mk H
 clear H
 go_enter Tryd.func67, Tryd.ntmps67
 go_wp2
 go_loopg [3, 7] k (fun kq v3 v7 w' => ∃ (x3_1 : Int) (x7_1 : Int), v3 = .int .i64 x3_1 ∧ v7 = .int .i64 x7_1 ∧ Aside0 (impl_checksum.l0 kq a0 x3_1 (a0.size : Int) x7_1 = some r) ∧ Aside0 (kq ≤ k) ∧ Drawn0 w w')
 case atStart => exact ⟨(7), (0), (by first | rfl | (simp; done) | (simp [*]; done)), (by first | rfl | (simp; done) | (simp [*]; done)), H', ⟨Nat.le_refl _⟩, by repeat (first | exact Drawn0.refl _ | apply Drawn0.step)⟩
 case round =>
  clear H'
  obtain ⟨x3_1, x7_1, rfl, rfl, HA, HK1, ⟨m1, rfl⟩⟩ := hrel
  cases gk with
  | zero => exact absurd HA.out (by simp [impl_checksum.l0])
  | succ k1 =>
   have H := HA.out
   clear HA
   simp only [impl_checksum.l0] at H
   by_cases c2 : x7_1 < (a0.size : Int)
   ·
    rw [if_pos c2] at H
    have c2b0 : decide (x7_1 < (a0.size : Int)) = true := decide_eq_true c2
    clear c2
    by_cases c3 : 0 ≤ x7_1
    ·
     rw [if_pos c3] at H
     have c3b0 : decide (0 ≤ x7_1) = true := decide_eq_true c3
     clear c3
     by_cases c4 : x7_1 < (a0.size : Int)
     ·
      rw [if_pos c4] at H
      have c4b0 : decide (x7_1 < (a0.size : Int)) = true := decide_eq_true c4
      clear c4
      have H' := Aside0.mk H
      clear H
      have p5 : 0 ≤ (x7_1 : Int) := dt_
      have q5 : x7_1 < (a0.size : Int) := dt_
      have hx5 := bt_at a0 x7_1
      replace p5 := eq_true p5
      replace q5 := eq_true q5
      go_wp2
      go_roundg k1
      case measure => have := HK1.out; omega
      case rel => exact ⟨(Int.tmod (wrap64 ((wrap64 ((wrap64 (41 * x3_1)) + (wrap64 (bt a0 x7_1)))) + 1)) 999979), (wrap64 (x7_1 + 1)), (by first | rfl | (simp; done) | (simp [*]; done)), (by first | rfl | (simp; done) | (simp [*]; done)), H', ⟨by have := HK1.out; omega⟩, by repeat (first | exact Drawn0.refl _ | apply Drawn0.step)⟩
     ·
      rw [if_neg c4] at H
      exact absurd H (by simp)
    ·
     rw [if_neg c3] at H
     exact absurd H (by simp)
   ·
    rw [if_neg c2] at H
    have c2b0 : decide (x7_1 < (a0.size : Int)) = false := decide_eq_false c2
    clear c2
    obtain rfl := Option.some.inj H
    go_wp2
    go_ret
    exact ⟨by first | rfl | (simp; done) | (simp [*]; done), by repeat (first | exact Drawn0.refl _ | apply Drawn0.step)⟩
end Go.Proofs.YtdpinnhgkocjhaaDoor.Pr

namespace Go.Proofs.YtdpinnhgkocjhaaDoor.Pr
open Go.RowKit Go.Proofs.YtdpinnhgkocjhaaDoorW.PrintWords Go.Proofs.YtdpinnhgkocjhaaDoorW.PrintLast Go.Proofs.YtdpinnhgkocjhaaDoorW.PrintMore
attribute [local go_sem] max2_int min2_int max_two min_two max_three min_three max_four min_four sc_in sx_in   -- for this text's walks alone
set_option linter.unusedVariables false
set_option linter.unusedSimpArgs false
def impl_encode.f (k : Nat) (a0 : Int) (a1_0 : ByteArray) (a1_1 : ByteArray) : Option (ByteArray) := (impl_decimal.f a0).bind fun t153 => (if t153.size + 1 ≤ 9223372036854775807 then (if (sc t153 (⟨#[32]⟩ : ByteArray)).size + a1_0.size ≤ 9223372036854775807 then (if (sc (sc t153 (⟨#[32]⟩ : ByteArray)) a1_0).size + 1 ≤ 9223372036854775807 then (if (sc (sc (sc t153 (⟨#[32]⟩ : ByteArray)) a1_0) (⟨#[64]⟩ : ByteArray)).size + a1_1.size ≤ 9223372036854775807 then (if (sc (sc (sc (sc t153 (⟨#[32]⟩ : ByteArray)) a1_0) (⟨#[64]⟩ : ByteArray)) a1_1).size + 1 ≤ 9223372036854775807 then ((impl_checksum.f k (sc (sc (sc (sc t153 (⟨#[32]⟩ : ByteArray)) a1_0) (⟨#[64]⟩ : ByteArray)) a1_1)).bind fun t154 => ((impl_decimal.f t154).bind fun t155 => (if (sc (sc (sc (sc (sc t153 (⟨#[32]⟩ : ByteArray)) a1_0) (⟨#[64]⟩ : ByteArray)) a1_1) (⟨#[35]⟩ : ByteArray)).size + t155.size ≤ 9223372036854775807 then (if (sc (sc (sc (sc (sc (sc t153 (⟨#[32]⟩ : ByteArray)) a1_0) (⟨#[64]⟩ : ByteArray)) a1_1) (⟨#[35]⟩ : ByteArray)) t155).size + 1 ≤ 9223372036854775807 then (some (sc (sc (sc (sc (sc (sc (sc t153 (⟨#[32]⟩ : ByteArray)) a1_0) (⟨#[64]⟩ : ByteArray)) a1_1) (⟨#[35]⟩ : ByteArray)) t155) (⟨#[10]⟩ : ByteArray))) else (none)) else (none)))) else (none)) else (none)) else (none)) else (none)) else (none))
def impl_encode.T1 : Bool × List (List Nat × List Nat) := (true, [([], []), ([0], [0]), ([1], [1]), ([], []), ([3], [3]), ([2, 4], [2, 4]), ([5], [5]), ([], []), ([7], [7]), ([6, 8], [6, 8]), ([9, 1, 0, 1, 2, 3, 4, 5, 6, 7, 8, 9], [9])])
def impl_encode.B1 : List Nat := [0, 1, 3, 0, 8, 31, 63, 0, 128, 511, 1023]
theorem impl_encode.tab1 : rtab .any (opsOf Tryd.f46 1) = impl_encode.T1 := by kernel_rfl
theorem impl_encode.bits1 : waitsOk impl_encode.T1.2 impl_encode.B1 = true := by kernel_rfl
abbrev impl_encode.mk0 : Array Bool := #[false, false, false, false, false, false, false, false, false, false, false]
abbrev impl_encode.mk1 : Array Bool := #[true, false, false, false, false, false, false, false, false, false, false]
abbrev impl_encode.mk2 : Array Bool := #[true, false, false, true, false, false, false, false, false, false, false]
abbrev impl_encode.mk3 : Array Bool := #[true, false, false, true, false, false, false, true, false, false, false]
abbrev impl_encode.mk4 : Array Bool := #[true, false, false, true, true, false, false, true, false, false, false]
abbrev impl_encode.mk5 : Array Bool := #[true, false, false, true, true, false, false, true, true, false, false]
abbrev impl_encode.mk6 : Array Bool := #[true, true, false, true, true, false, false, true, true, false, false]
abbrev impl_encode.mk7 : Array Bool := #[true, true, true, true, true, false, false, true, true, false, false]
abbrev impl_encode.mk8 : Array Bool := #[true, true, true, true, true, true, false, true, true, false, false]
abbrev impl_encode.mk9 : Array Bool := #[true, true, true, true, true, true, true, true, true, false, false]
abbrev impl_encode.mk10 : Array Bool := #[true, true, true, true, true, true, true, true, true, true, false]
abbrev impl_encode.mk11 : Array Bool := #[true, true, true, true, true, true, true, true, true, true, true]
set_option maxHeartbeats 8000000 in
set_option maxRecDepth 100000 in
theorem impl_encode.calls (k : Nat) (a0 : Int) (a1_0 : ByteArray) (a1_1 : ByteArray) (r : ByteArray) (w : World) (h : impl_encode.f k a0 a1_0 a1_1 = some r) (hT : Tb w) :
  Calls Tryd.prog 46 #[.int .i64 a0, .agg #[.string a1_0, .string a1_1]] w fun e w' => e = .returned (.string r) ∧ Below w.heap.size w w' := by
 have HT := Aside0.mk hT
 clear hT
 have hu27 := Tryd.underlying27
 have HB := Aside0.mk (Below.refl w.heap.size w)
 have H : ((impl_decimal.f a0).bind fun t153 => (if t153.size + 1 ≤ 9223372036854775807 then (if (sc t153 (⟨#[32]⟩ : ByteArray)).size + a1_0.size ≤ 9223372036854775807 then (if (sc (sc t153 (⟨#[32]⟩ : ByteArray)) a1_0).size + 1 ≤ 9223372036854775807 then (if (sc (sc (sc t153 (⟨#[32]⟩ : ByteArray)) a1_0) (⟨#[64]⟩ : ByteArray)).size + a1_1.size ≤ 9223372036854775807 then (if (sc (sc (sc (sc t153 (⟨#[32]⟩ : ByteArray)) a1_0) (⟨#[64]⟩ : ByteArray)) a1_1).size + 1 ≤ 9223372036854775807 then ((impl_checksum.f k (sc (sc (sc (sc t153 (⟨#[32]⟩ : ByteArray)) a1_0) (⟨#[64]⟩ : ByteArray)) a1_1)).bind fun t154 => ((impl_decimal.f t154).bind fun t155 => (if (sc (sc (sc (sc (sc t153 (⟨#[32]⟩ : ByteArray)) a1_0) (⟨#[64]⟩ : ByteArray)) a1_1) (⟨#[35]⟩ : ByteArray)).size + t155.size ≤ 9223372036854775807 then (if (sc (sc (sc (sc (sc (sc t153 (⟨#[32]⟩ : ByteArray)) a1_0) (⟨#[64]⟩ : ByteArray)) a1_1) (⟨#[35]⟩ : ByteArray)) t155).size + 1 ≤ 9223372036854775807 then (some (sc (sc (sc (sc (sc (sc (sc t153 (⟨#[32]⟩ : ByteArray)) a1_0) (⟨#[64]⟩ : ByteArray)) a1_1) (⟨#[35]⟩ : ByteArray)) t155) (⟨#[10]⟩ : ByteArray))) else (none)) else (none)))) else (none)) else (none)) else (none)) else (none)) else (none))) = some r := h
 clear h
 replace H := Option.bind_eq_some_iff.mp H
 obtain ⟨t153, A30, H⟩ := H
 replace H : (if t153.size + 1 ≤ 9223372036854775807 then (if (sc t153 (⟨#[32]⟩ : ByteArray)).size + a1_0.size ≤ 9223372036854775807 then (if (sc (sc t153 (⟨#[32]⟩ : ByteArray)) a1_0).size + 1 ≤ 9223372036854775807 then (if (sc (sc (sc t153 (⟨#[32]⟩ : ByteArray)) a1_0) (⟨#[64]⟩ : ByteArray)).size + a1_1.size ≤ 9223372036854775807 then (if (sc (sc (sc (sc t153 (⟨#[32]⟩ : ByteArray)) a1_0) (⟨#[64]⟩ : ByteArray)) a1_1).size + 1 ≤ 9223372036854775807 then ((impl_checksum.f k (sc (sc (sc (sc t153 (⟨#[32]⟩ : ByteArray)) a1_0) (⟨#[64]⟩ : ByteArray)) a1_1)).bind fun t154 => ((impl_decimal.f t154).bind fun t155 => (if (sc (sc (sc (sc (sc t153 (⟨#[32]⟩ : ByteArray)) a1_0) (⟨#[64]⟩ : ByteArray)) a1_1) (⟨#[35]⟩ : ByteArray)).size + t155.size ≤ 9223372036854775807 then (if (sc (sc (sc (sc (sc (sc t153 (⟨#[32]⟩ : ByteArray)) a1_0) (⟨#[64]⟩ : ByteArray)) a1_1) (⟨#[35]⟩ : ByteArray)) t155).size + 1 ≤ 9223372036854775807 then (some (sc (sc (sc (sc (sc (sc (sc t153 (⟨#[32]⟩ : ByteArray)) a1_0) (⟨#[64]⟩ : ByteArray)) a1_1) (⟨#[35]⟩ : ByteArray)) t155) (⟨#[10]⟩ : ByteArray))) else (none)) else (none)))) else (none)) else (none)) else (none)) else (none)) else (none)) = some r := H
 have A3 := Aside0.mk A30
 clear A30
 by_cases c4 : t153.size + 1 ≤ 9223372036854775807
 ·
  rw [if_pos c4] at H
  have c4b0 := eq_true c4
  have c4b1 : decide (t153.size + 1 ≤ 9223372036854775807) = true := decide_eq_true c4
  try have c4b2 : (9223372036854775807 < t153.size + 1) = False := eq_false (Nat.not_lt.2 c4)
  by_cases c5 : (sc t153 (⟨#[32]⟩ : ByteArray)).size + a1_0.size ≤ 9223372036854775807
  ·
   rw [if_pos c5] at H
   have c5b0 := eq_true c5
   have c5b1 : decide ((sc t153 (⟨#[32]⟩ : ByteArray)).size + a1_0.size ≤ 9223372036854775807) = true := decide_eq_true c5
   try have c5b2 : (9223372036854775807 < (sc t153 (⟨#[32]⟩ : ByteArray)).size + a1_0.size) = False := eq_false (Nat.not_lt.2 c5)
   by_cases c6 : (sc (sc t153 (⟨#[32]⟩ : ByteArray)) a1_0).size + 1 ≤ 9223372036854775807
   ·
    rw [if_pos c6] at H
    have c6b0 := eq_true c6
    have c6b1 : decide ((sc (sc t153 (⟨#[32]⟩ : ByteArray)) a1_0).size + 1 ≤ 9223372036854775807) = true := decide_eq_true c6
    try have c6b2 : (9223372036854775807 < (sc (sc t153 (⟨#[32]⟩ : ByteArray)) a1_0).size + 1) = False := eq_false (Nat.not_lt.2 c6)
    by_cases c7 : (sc (sc (sc t153 (⟨#[32]⟩ : ByteArray)) a1_0) (⟨#[64]⟩ : ByteArray)).size + a1_1.size ≤ 9223372036854775807
    ·
     rw [if_pos c7] at H
     have c7b0 := eq_true c7
     have c7b1 : decide ((sc (sc (sc t153 (⟨#[32]⟩ : ByteArray)) a1_0) (⟨#[64]⟩ : ByteArray)).size + a1_1.size ≤ 9223372036854775807) = true := decide_eq_true c7
     try have c7b2 : (9223372036854775807 < (sc (sc (sc t153 (⟨#[32]⟩ : ByteArray)) a1_0) (⟨#[64]⟩ : ByteArray)).size + a1_1.size) = False := eq_false (Nat.not_lt.2 c7)
     by_cases c8 : (sc (sc (sc (sc t153 (⟨#[32]⟩ : ByteArray)) a1_0) (⟨#[64]⟩ : ByteArray)) a1_1).size + 1 ≤ 9223372036854775807
     ·
      rw [if_pos c8] at H
      have c8b0 := eq_true c8
      have c8b1 : decide ((sc (sc (sc (sc t153 (⟨#[32]⟩ : ByteArray)) a1_0) (⟨#[64]⟩ : ByteArray)) a1_1).size + 1 ≤ 9223372036854775807) = true := decide_eq_true c8
      try have c8b2 : (9223372036854775807 < (sc (sc (sc (sc t153 (⟨#[32]⟩ : ByteArray)) a1_0) (⟨#[64]⟩ : ByteArray)) a1_1).size + 1) = False := eq_false (Nat.not_lt.2 c8)
      replace H := Option.bind_eq_some_iff.mp H
      obtain ⟨t154, A90, H⟩ := H
      replace H : ((impl_decimal.f t154).bind fun t155 => (if (sc (sc (sc (sc (sc t153 (⟨#[32]⟩ : ByteArray)) a1_0) (⟨#[64]⟩ : ByteArray)) a1_1) (⟨#[35]⟩ : ByteArray)).size + t155.size ≤ 9223372036854775807 then (if (sc (sc (sc (sc (sc (sc t153 (⟨#[32]⟩ : ByteArray)) a1_0) (⟨#[64]⟩ : ByteArray)) a1_1) (⟨#[35]⟩ : ByteArray)) t155).size + 1 ≤ 9223372036854775807 then (some (sc (sc (sc (sc (sc (sc (sc t153 (⟨#[32]⟩ : ByteArray)) a1_0) (⟨#[64]⟩ : ByteArray)) a1_1) (⟨#[35]⟩ : ByteArray)) t155) (⟨#[10]⟩ : ByteArray))) else (none)) else (none))) = some r := H
      have A9 := Aside0.mk A90
      clear A90
      replace H := Option.bind_eq_some_iff.mp H
      obtain ⟨t155, A100, H⟩ := H
      replace H : (if (sc (sc (sc (sc (sc t153 (⟨#[32]⟩ : ByteArray)) a1_0) (⟨#[64]⟩ : ByteArray)) a1_1) (⟨#[35]⟩ : ByteArray)).size + t155.size ≤ 9223372036854775807 then (if (sc (sc (sc (sc (sc (sc t153 (⟨#[32]⟩ : ByteArray)) a1_0) (⟨#[64]⟩ : ByteArray)) a1_1) (⟨#[35]⟩ : ByteArray)) t155).size + 1 ≤ 9223372036854775807 then (some (sc (sc (sc (sc (sc (sc (sc t153 (⟨#[32]⟩ : ByteArray)) a1_0) (⟨#[64]⟩ : ByteArray)) a1_1) (⟨#[35]⟩ : ByteArray)) t155) (⟨#[10]⟩ : ByteArray))) else (none)) else (none)) = some r := H
      have A10 := Aside0.mk A100
      clear A100
      by_cases c11 : (sc (sc (sc (sc (sc t153 (⟨#[32]⟩ : ByteArray)) a1_0) (⟨#[64]⟩ : ByteArray)) a1_1) (⟨#[35]⟩ : ByteArray)).size + t155.size ≤ 9223372036854775807
      ·
       rw [if_pos c11] at H
       have c11b0 := eq_true c11
       have c11b1 : decide ((sc (sc (sc (sc (sc t153 (⟨#[32]⟩ : ByteArray)) a1_0) (⟨#[64]⟩ : ByteArray)) a1_1) (⟨#[35]⟩ : ByteArray)).size + t155.size ≤ 9223372036854775807) = true := decide_eq_true c11
       try have c11b2 : (9223372036854775807 < (sc (sc (sc (sc (sc t153 (⟨#[32]⟩ : ByteArray)) a1_0) (⟨#[64]⟩ : ByteArray)) a1_1) (⟨#[35]⟩ : ByteArray)).size + t155.size) = False := eq_false (Nat.not_lt.2 c11)
       by_cases c12 : (sc (sc (sc (sc (sc (sc t153 (⟨#[32]⟩ : ByteArray)) a1_0) (⟨#[64]⟩ : ByteArray)) a1_1) (⟨#[35]⟩ : ByteArray)) t155).size + 1 ≤ 9223372036854775807
       ·
        rw [if_pos c12] at H
        have c12b0 := eq_true c12; have c12b1 : decide ((sc (sc (sc (sc (sc (sc t153 (⟨#[32]⟩ : ByteArray)) a1_0) (⟨#[64]⟩ : ByteArray)) a1_1) (⟨#[35]⟩ : ByteArray)) t155).size + 1 ≤ 9223372036854775807) = true := decide_eq_true c12
        try have c12b2 : (9223372036854775807 < (sc (sc (sc (sc (sc (sc t153 (⟨#[32]⟩ : ByteArray)) a1_0) (⟨#[64]⟩ : ByteArray)) a1_1) (⟨#[35]⟩ : ByteArray)) t155).size + 1) = False := eq_false (Nat.not_lt.2 c12)
        obtain rfl := Option.some.inj H
        go_enter Tryd.func46, Tryd.ntmps46
        try go_wp2_with (first | ((with_reducible refine gate_dst (N := 3) rfl ?_); refine box_event ?hg (N := 3) ?hd (cs := #[.string a1_0, .string a1_1]) (t := 27) ?hr ?_; (case hd => rfl); (case hg => rfl); (case hr => first | (go_simp; done) | (go_simp; rfl)); intro gb152 hg w13 hbox hb; have BK152 := Aside0.mk (hbox); have GW152 := Aside0.mk ((bz_ hg (lb0_ HB.out))); have GE152 := Aside0.mk ((bz_ hg (lb0_ HB.out))); replace HB := Aside0.mk (below_step (lb0_ HB.out) hb); clear hb hbox hg))
        replace BK152 := Aside0.mk (blk_drew BK152.out); replace HB := Aside0.mk (below_drew1 HB.out); refine start_ (n := 11) (S := fun w' => w'.cell? ⟨gb152, 0, none⟩ = some (.string a1_0) ∧ w'.cell? ⟨gb152, 1, none⟩ = some (.string a1_1)) (ds := []) impl_encode.mk0 (by kernel_rfl) rfl rfl ⟨(blk_cell BK152.out 0).trans rfl, (blk_cell BK152.out 1).trans rfl⟩ (fun hHeld => ?_); refine with_tabW impl_encode.tab1 impl_encode.bits1 (fun HT_ HW_ => ?_); generalize w13.drew = w14 at BK152 HB hHeld ⊢; refine pz_ HT_ 0 (some 6) impl_encode.mk1 ?_; refine pz_ HT_ 3 (some 9) impl_encode.mk2 ?_; refine pz_ HT_ 7 (some 13) impl_encode.mk3 ?_; refine take_ (i := 4) (N := some 10) (v := ?_) (a' := ?_) impl_encode.mk4 rfl rfl (take_ofW HT_.out HW_.out (by kernel_rfl)) (fun _ _ _ h => h) (Or.inl ⟨by rfl, ?_⟩) hHeld ?_ ?_; rotate_left
        ·
         rintro w' ⟨s0, s1⟩; go_simp; (with_reducible rfl)
        rotate_left
        ·
         simp only [Act.put, List.setIfInBounds_toArray, List.set_cons_zero, List.set_cons_succ, i64_w, i32_w]; rfl
        refine take_ (i := 8) (N := some 14) (v := ?_) (a' := ?_) impl_encode.mk5 rfl rfl (take_ofW HT_.out HW_.out (by kernel_rfl)) (fun _ _ _ h => h) (Or.inl ⟨by rfl, ?_⟩) hHeld ?_ ?_; rotate_left
        ·
         rintro w' ⟨s0, s1⟩; go_simp; (with_reducible rfl)
        rotate_left
        ·
         simp only [Act.put, List.setIfInBounds_toArray, List.set_cons_zero, List.set_cons_succ, i64_w, i32_w]; rfl
        refine one_ (i := 1) (N := some 7) impl_encode.mk6 rfl rfl (one_of HT_.out (by kernel_rfl)) (by decide) (fun K hK => ?_); refine gs_ Tryd.func66 #[.int .i64 a0] ?_; (with_reducible refine (impl_decimal.calls a0 t153 _ A3.out ?sideT).mono ?_)
        case sideT => first | exact HT.out | exact Tb.step HT.out HB.out | exact Tb.step HT.out (by repeat (first | (with_reducible first | exact HB.out | apply below_alloc | apply pw_below_drewN | apply below_drew1 | refine below_set ?_ GE152.out) | exact HB.out | exact Below.refl _ _))
        rintro e w15 ⟨rfl, hb⟩; refine ⟨_, rfl, ?_⟩; replace BK152 := Aside0.mk (bb_ (bk_ BK152.out) hb); replace HB := Aside0.mk (below_step (lb1_ HB.out GE152.out) hb); (try clear hb); (try clear hb2); (try clear hk); (try clear hi); refine hK.out _ _ ⟨(blk_cell BK152.out 0).trans rfl, (blk_cell BK152.out 1).trans rfl⟩ (fun hHeld => ?_); clear hK K; refine na_ ?_; refine pz_ HT_ 2 (some 8) impl_encode.mk7 ?_; refine pz_ HT_ 5 (some 11) impl_encode.mk8 ?_; refine pz_ HT_ 6 (some 12) impl_encode.mk9 ?_; refine pz_ HT_ 9 (some 15) impl_encode.mk10 ?_; refine pz_ HT_ 10 (some 5) impl_encode.mk11 ?_; refine done_ (done_of HT_.out (by kernel_rfl)) ?_
        try go_wp2_with (first | ((with_reducible refine gate_callee (f := 67) rfl ?_); refine ga_ (some 19) Tryd.func67 #[.string (sc (sc (sc (sc t153 (⟨#[32]⟩ : ByteArray)) a1_0) (⟨#[64]⟩ : ByteArray)) a1_1)] ?_; (with_reducible refine (impl_checksum.calls k (sc (sc (sc (sc t153 (⟨#[32]⟩ : ByteArray)) a1_0) (⟨#[64]⟩ : ByteArray)) a1_1) t154 _ A9.out).mono ?_); rintro e w' ⟨rfl, ⟨nd, rfl⟩⟩; refine ⟨_, rfl, ?_⟩) | ((with_reducible refine gate_callee (f := 66) rfl ?_); refine ga_ (some 20) Tryd.func66 #[.int .i64 t154] ?_; (with_reducible refine (impl_decimal.calls t154 t155 _ A10.out ?sideT).mono ?_); (case sideT => first | exact HT.out | exact Tb.step HT.out HB.out | exact Tb.step HT.out (by repeat (first | (with_reducible first | exact HB.out | apply below_alloc | apply pw_below_drewN | apply below_drew1 | refine below_set ?_ GE152.out) | exact HB.out | exact Below.refl _ _))); rintro e w16 ⟨rfl, hb⟩; refine ⟨_, rfl, ?_⟩; replace BK152 := Aside0.mk (bb_ (bk_ BK152.out) hb); replace HB := Aside0.mk (below_step (lb1_ HB.out GE152.out) hb); (try clear hb); (try clear hb2); (try clear hk); (try clear hi)))
        go_ret
        exact ⟨rr_, lb1_ HB.out GE152.out⟩
       ·
        rw [if_neg c12] at H
        exact absurd H (by simp)
      ·
       rw [if_neg c11] at H
       exact absurd H (by simp)
     ·
      rw [if_neg c8] at H
      exact absurd H (by simp)
    ·
     rw [if_neg c7] at H
     exact absurd H (by simp)
   ·
    rw [if_neg c6] at H
    exact absurd H (by simp)
  ·
   rw [if_neg c5] at H
   exact absurd H (by simp)
 ·
  rw [if_neg c4] at H
  exact absurd H (by simp)
def stringslite_Cut.f (a0 : ByteArray) (a1 : ByteArray) : Option (ByteArray × ByteArray × Bool) := (stringslite_Index.f a0 a1).bind fun t212 => (if t212 ≥ 0 then (if 0 ≤ t212 then (if t212 ≤ (a0.size : Int) then (if 0 ≤ (wrap64 (t212 + (a1.size : Int))) then (if (wrap64 (t212 + (a1.size : Int))) ≤ (a0.size : Int) then (some (sx a0 (0) ((t212 : Int).toNat), sx a0 (((wrap64 (t212 + (a1.size : Int))) : Int).toNat) (a0.size), true)) else (none)) else (none)) else (none)) else (none)) else (some (a0, (⟨#[]⟩ : ByteArray), false)))
set_option maxHeartbeats 8000000 in
set_option maxRecDepth 100000 in
theorem stringslite_Cut.calls (a0 : ByteArray) (a1 : ByteArray) (r1 : ByteArray) (r2 : ByteArray) (r3 : Bool) (w : World) (h : stringslite_Cut.f a0 a1 = some (r1, r2, r3)) :
  Calls Tryd.prog 81 #[.string a0, .string a1] w fun e w' => e = .returned (.tuple #[.string r1, .string r2, .bool r3]) ∧ Drawn0 w w' := by
 have H : ((stringslite_Index.f a0 a1).bind fun t212 => (if t212 ≥ 0 then (if 0 ≤ t212 then (if t212 ≤ (a0.size : Int) then (if 0 ≤ (wrap64 (t212 + (a1.size : Int))) then (if (wrap64 (t212 + (a1.size : Int))) ≤ (a0.size : Int) then (some (sx a0 (0) ((t212 : Int).toNat), sx a0 (((wrap64 (t212 + (a1.size : Int))) : Int).toNat) (a0.size), true)) else (none)) else (none)) else (none)) else (none)) else (some (a0, (⟨#[]⟩ : ByteArray), false)))) = some (r1, r2, r3) := h
 clear h
 replace H := Option.bind_eq_some_iff.mp H
 obtain ⟨t212, A30, H⟩ := H
 replace H : (if t212 ≥ 0 then (if 0 ≤ t212 then (if t212 ≤ (a0.size : Int) then (if 0 ≤ (wrap64 (t212 + (a1.size : Int))) then (if (wrap64 (t212 + (a1.size : Int))) ≤ (a0.size : Int) then (some (sx a0 (0) ((t212 : Int).toNat), sx a0 (((wrap64 (t212 + (a1.size : Int))) : Int).toNat) (a0.size), true)) else (none)) else (none)) else (none)) else (none)) else (some (a0, (⟨#[]⟩ : ByteArray), false))) = some (r1, r2, r3) := H
 have A3 := Aside0.mk A30
 clear A30
 by_cases c4 : t212 ≥ 0
 ·
  rw [if_pos c4] at H
  have c4b0 : decide (0 ≤ t212) = true := decide_eq_true c4
  clear c4
  by_cases c5 : 0 ≤ t212
  ·
   rw [if_pos c5] at H
   have c5b0 := eq_true c5
   have c5b1 : decide (0 ≤ t212) = true := decide_eq_true c5
   clear c5
   by_cases c6 : t212 ≤ (a0.size : Int)
   ·
    rw [if_pos c6] at H
    have c6b0 := eq_true c6
    have c6b1 : decide (t212 ≤ (a0.size : Int)) = true := decide_eq_true c6
    clear c6
    obtain ⟨ji7, hji7⟩ : ∃ j_ : Int, (wrap64 (t212 + (a1.size : Int))) = j_ := ⟨_, rfl⟩
    replace H : (if 0 ≤ (ji7) then (if (ji7) ≤ (a0.size : Int) then (some (sx a0 (0) ((t212 : Int).toNat), sx a0 (((ji7) : Int).toNat) (a0.size), true)) else (none)) else (none)) = some (r1, r2, r3) := by first | (rw [hji7] at H; exact H) | (simp only [hji7] at H ⊢; exact H)
    (try rw [hji7] at A3)
    have hji7w : (IntKind.i64.wrap (t212 + (a1.size : Int))) = ji7 := (i64_w _).trans hji7
    by_cases c8 : 0 ≤ (ji7)
    ·
     rw [if_pos c8] at H
     have c8b0 := eq_true c8
     have c8b1 : decide (0 ≤ (ji7)) = true := decide_eq_true c8
     clear c8
     by_cases c9 : (ji7) ≤ (a0.size : Int)
     ·
      rw [if_pos c9] at H
      have c9b0 := eq_true c9
      have c9b1 : decide ((ji7) ≤ (a0.size : Int)) = true := decide_eq_true c9
      clear c9
      simp only [Option.some.injEq, Prod.mk.injEq] at H
      obtain ⟨rfl, rfl, rfl⟩ := H
      go_enter Tryd.func81, Tryd.ntmps81
      go_wp2_with (first | (go_at_call 83; (with_reducible refine (stringslite_Index.calls a0 a1 t212 _ A3.out).mono ?_); rintro e w' ⟨rfl, ⟨nd, rfl⟩⟩; (try first | exact ⟨rfl, _, World.drewN_drewN _ _ _⟩ | exact ⟨rfl, _, Eq.trans (World.drewN_drewN _ _ _) (congrArg (World.drewN _) (Nat.add_assoc _ _ _))⟩)))
      repeat (go_quiet (first | (go_at_call 83; (with_reducible refine (stringslite_Index.calls a0 a1 t212 _ A3.out).mono ?_); rintro e w' ⟨rfl, ⟨nd, rfl⟩⟩; (try first | exact ⟨rfl, _, World.drewN_drewN _ _ _⟩ | exact ⟨rfl, _, Eq.trans (World.drewN_drewN _ _ _) (congrArg (World.drewN _) (Nat.add_assoc _ _ _))⟩))); try go_wp2_with (first | (go_at_call 83; (with_reducible refine (stringslite_Index.calls a0 a1 t212 _ A3.out).mono ?_); rintro e w' ⟨rfl, ⟨nd, rfl⟩⟩; (try first | exact ⟨rfl, _, World.drewN_drewN _ _ _⟩ | exact ⟨rfl, _, Eq.trans (World.drewN_drewN _ _ _) (congrArg (World.drewN _) (Nat.add_assoc _ _ _))⟩))))
      go_ret3
      exact ⟨by first | rfl | (simp; done) | (simp only [← hji7] <;> (first | rfl | simp)) | (simp [*]; done), by repeat (first | exact Drawn0.refl _ | apply Drawn0.step)⟩
     ·
      rw [if_neg c9] at H
      exact absurd H (by simp)
    ·
     rw [if_neg c8] at H
     exact absurd H (by simp)
   ·
    rw [if_neg c6] at H
    exact absurd H (by simp)
  ·
   rw [if_neg c5] at H
   exact absurd H (by simp)
 ·
  rw [if_neg c4] at H
  have c4b0 : decide (0 ≤ t212) = false := decide_eq_false c4
  clear c4
  simp only [Option.some.injEq, Prod.mk.injEq] at H
  obtain ⟨rfl, rfl, rfl⟩ := H
  go_enter Tryd.func81, Tryd.ntmps81
  go_wp2_with (first | (go_at_call 83; (with_reducible refine (stringslite_Index.calls a0 a1 t212 _ A3.out).mono ?_); rintro e w' ⟨rfl, ⟨nd, rfl⟩⟩; (try first | exact ⟨rfl, _, World.drewN_drewN _ _ _⟩ | exact ⟨rfl, _, Eq.trans (World.drewN_drewN _ _ _) (congrArg (World.drewN _) (Nat.add_assoc _ _ _))⟩)))
  repeat (go_quiet (first | (go_at_call 83; (with_reducible refine (stringslite_Index.calls a0 a1 t212 _ A3.out).mono ?_); rintro e w' ⟨rfl, ⟨nd, rfl⟩⟩; (try first | exact ⟨rfl, _, World.drewN_drewN _ _ _⟩ | exact ⟨rfl, _, Eq.trans (World.drewN_drewN _ _ _) (congrArg (World.drewN _) (Nat.add_assoc _ _ _))⟩))); try go_wp2_with (first | (go_at_call 83; (with_reducible refine (stringslite_Index.calls a0 a1 t212 _ A3.out).mono ?_); rintro e w' ⟨rfl, ⟨nd, rfl⟩⟩; (try first | exact ⟨rfl, _, World.drewN_drewN _ _ _⟩ | exact ⟨rfl, _, Eq.trans (World.drewN_drewN _ _ _) (congrArg (World.drewN _) (Nat.add_assoc _ _ _))⟩))))
  go_ret3
  exact ⟨by first | rfl | (simp; done) | (simp [*]; done), by repeat (first | exact Drawn0.refl _ | apply Drawn0.step)⟩
end Go.Proofs.YtdpinnhgkocjhaaDoor.Pr

namespace Go.Proofs.YtdpinnhgkocjhaaDoor.Pr
open Go.RowKit Go.Proofs.YtdpinnhgkocjhaaDoorW.PrintWords Go.Proofs.YtdpinnhgkocjhaaDoorW.PrintLast Go.Proofs.YtdpinnhgkocjhaaDoorW.PrintMore
attribute [local go_sem] max2_int min2_int max_two min_two max_three min_three max_four min_four   -- for this text's walks alone
set_option linter.unusedVariables false
set_option linter.unusedSimpArgs false
def strings_Cut.f (a0 : ByteArray) (a1 : ByteArray) : Option (ByteArray × ByteArray × Bool) := (stringslite_Cut.f a0 a1).bind fun bt213 => (some (bt213.1, bt213.2.1, bt213.2.2))
set_option maxHeartbeats 8000000 in
set_option maxRecDepth 100000 in
theorem strings_Cut.calls (a0 : ByteArray) (a1 : ByteArray) (r1 : ByteArray) (r2 : ByteArray) (r3 : Bool) (w : World) (h : strings_Cut.f a0 a1 = some (r1, r2, r3)) :
  Calls Tryd.prog 77 #[.string a0, .string a1] w fun e w' => e = .returned (.tuple #[.string r1, .string r2, .bool r3]) ∧ Drawn0 w w' := by
 have H : ((stringslite_Cut.f a0 a1).bind fun bt213 => (some (bt213.1, bt213.2.1, bt213.2.2))) = some (r1, r2, r3) := h
 clear h
 replace H := Option.bind_eq_some_iff.mp H
 obtain ⟨⟨t213, t214, t215⟩, A30, H⟩ := H
 replace H : (some (t213, t214, t215)) = some (r1, r2, r3) := H
 have A3 := Aside0.mk A30
 clear A30
 simp only [Option.some.injEq, Prod.mk.injEq] at H
 obtain ⟨rfl, rfl, rfl⟩ := H
 go_enter Tryd.func77, Tryd.ntmps77
 go_wp2_with (first | ((with_reducible refine gate_callee (f := 81) rfl ?_); refine ga_ (some 9) Tryd.func81 #[.string a0, .string a1] ?_; (with_reducible refine (stringslite_Cut.calls a0 a1 t213 t214 t215 _ A3.out).mono ?_); rintro e w' ⟨rfl, ⟨nd, rfl⟩⟩; refine ⟨_, rfl, ?_⟩))
 go_ret3
 exact ⟨by first | rfl | (simp; done) | (simp [*]; done), by repeat (first | exact Drawn0.refl _ | apply Drawn0.step)⟩
end Go.Proofs.YtdpinnhgkocjhaaDoor.Pr

namespace Go.Proofs.YtdpinnhgkocjhaaDoor.Pr
open Go.RowKit Go.Proofs.YtdpinnhgkocjhaaDoorW.PrintWords Go.Proofs.YtdpinnhgkocjhaaDoorW.PrintLast Go.Proofs.YtdpinnhgkocjhaaDoorW.PrintMore
attribute [local go_sem] max2_int min2_int max_two min_two max_three min_three max_four min_four sc_in sx_in   -- for this text's walks alone
set_option linter.unusedVariables false
set_option linter.unusedSimpArgs false
def impl_readRecord.f (k : Nat) (a0 : Int) (a1 : ByteArray) : Option (ByteArray × ByteArray × Int × Bool) := (strings_Cut.f a1 (⟨#[10]⟩ : ByteArray)).bind fun bt217 => ((strings_Cut.f bt217.1 (⟨#[35]⟩ : ByteArray)).bind fun bt220 => ((strings_Cut.f bt220.1 (⟨#[32]⟩ : ByteArray)).bind fun bt223 => ((strings_Cut.f bt223.2.1 (⟨#[64]⟩ : ByteArray)).bind fun bt226 => (if bt217.2.2 = true then (if a0 ≥ 60 then (some ((⟨#[]⟩ : ByteArray), (⟨#[]⟩ : ByteArray), 0, false)) else ((impl_IsValidRecord.f k bt226.1 bt226.2.1).bind fun t230 => (if t230 = true then ((impl_encode.f k a0 bt226.1 bt226.2.1).bind fun t231 => (if bt217.1.size + 1 ≤ 9223372036854775807 then (if t231.toList = (sc bt217.1 (⟨#[10]⟩ : ByteArray)).toList then (some (bt226.1, bt226.2.1, wrap64 ((bt217.1.size : Int) + 1), true)) else (some ((⟨#[]⟩ : ByteArray), (⟨#[]⟩ : ByteArray), 0, false))) else (none))) else (some ((⟨#[]⟩ : ByteArray), (⟨#[]⟩ : ByteArray), 0, false))))) else (some ((⟨#[]⟩ : ByteArray), (⟨#[]⟩ : ByteArray), 0, false))))))
set_option maxHeartbeats 8000000 in
set_option maxRecDepth 100000 in
theorem impl_readRecord.calls (k : Nat) (a0 : Int) (a1 : ByteArray) (r1 : ByteArray) (r2 : ByteArray) (r3 : Int) (r4 : Bool) (w : World) (h : impl_readRecord.f k a0 a1 = some (r1, r2, r3, r4)) (hT : Tb w) :
  Calls Tryd.prog 70 #[.int .i64 a0, .string a1] w fun e w' => e = .returned (.tuple #[.agg #[.string r1, .string r2], .int .i64 r3, .bool r4]) ∧ Below w.heap.size w w' := by
 have HT := Aside0.mk hT
 clear hT
 have hu27 := Tryd.underlying27
 have HB := Aside0.mk (Below.refl w.heap.size w)
 have H : ((strings_Cut.f a1 (⟨#[10]⟩ : ByteArray)).bind fun bt217 => ((strings_Cut.f bt217.1 (⟨#[35]⟩ : ByteArray)).bind fun bt220 => ((strings_Cut.f bt220.1 (⟨#[32]⟩ : ByteArray)).bind fun bt223 => ((strings_Cut.f bt223.2.1 (⟨#[64]⟩ : ByteArray)).bind fun bt226 => (if bt217.2.2 = true then (if a0 ≥ 60 then (some ((⟨#[]⟩ : ByteArray), (⟨#[]⟩ : ByteArray), 0, false)) else ((impl_IsValidRecord.f k bt226.1 bt226.2.1).bind fun t230 => (if t230 = true then ((impl_encode.f k a0 bt226.1 bt226.2.1).bind fun t231 => (if bt217.1.size + 1 ≤ 9223372036854775807 then (if t231.toList = (sc bt217.1 (⟨#[10]⟩ : ByteArray)).toList then (some (bt226.1, bt226.2.1, wrap64 ((bt217.1.size : Int) + 1), true)) else (some ((⟨#[]⟩ : ByteArray), (⟨#[]⟩ : ByteArray), 0, false))) else (none))) else (some ((⟨#[]⟩ : ByteArray), (⟨#[]⟩ : ByteArray), 0, false))))) else (some ((⟨#[]⟩ : ByteArray), (⟨#[]⟩ : ByteArray), 0, false))))))) = some (r1, r2, r3, r4) := h
 clear h
 replace H := Option.bind_eq_some_iff.mp H
 obtain ⟨⟨t217, t218, t219⟩, A30, H⟩ := H
 replace H : ((strings_Cut.f t217 (⟨#[35]⟩ : ByteArray)).bind fun bt220 => ((strings_Cut.f bt220.1 (⟨#[32]⟩ : ByteArray)).bind fun bt223 => ((strings_Cut.f bt223.2.1 (⟨#[64]⟩ : ByteArray)).bind fun bt226 => (if t219 = true then (if a0 ≥ 60 then (some ((⟨#[]⟩ : ByteArray), (⟨#[]⟩ : ByteArray), 0, false)) else ((impl_IsValidRecord.f k bt226.1 bt226.2.1).bind fun t230 => (if t230 = true then ((impl_encode.f k a0 bt226.1 bt226.2.1).bind fun t231 => (if t217.size + 1 ≤ 9223372036854775807 then (if t231.toList = (sc t217 (⟨#[10]⟩ : ByteArray)).toList then (some (bt226.1, bt226.2.1, wrap64 ((t217.size : Int) + 1), true)) else (some ((⟨#[]⟩ : ByteArray), (⟨#[]⟩ : ByteArray), 0, false))) else (none))) else (some ((⟨#[]⟩ : ByteArray), (⟨#[]⟩ : ByteArray), 0, false))))) else (some ((⟨#[]⟩ : ByteArray), (⟨#[]⟩ : ByteArray), 0, false)))))) = some (r1, r2, r3, r4) := H
 have A3 := Aside0.mk A30
 clear A30
 replace H := Option.bind_eq_some_iff.mp H
 obtain ⟨⟨t220, t221, t222⟩, A40, H⟩ := H
 replace H : ((strings_Cut.f t220 (⟨#[32]⟩ : ByteArray)).bind fun bt223 => ((strings_Cut.f bt223.2.1 (⟨#[64]⟩ : ByteArray)).bind fun bt226 => (if t219 = true then (if a0 ≥ 60 then (some ((⟨#[]⟩ : ByteArray), (⟨#[]⟩ : ByteArray), 0, false)) else ((impl_IsValidRecord.f k bt226.1 bt226.2.1).bind fun t230 => (if t230 = true then ((impl_encode.f k a0 bt226.1 bt226.2.1).bind fun t231 => (if t217.size + 1 ≤ 9223372036854775807 then (if t231.toList = (sc t217 (⟨#[10]⟩ : ByteArray)).toList then (some (bt226.1, bt226.2.1, wrap64 ((t217.size : Int) + 1), true)) else (some ((⟨#[]⟩ : ByteArray), (⟨#[]⟩ : ByteArray), 0, false))) else (none))) else (some ((⟨#[]⟩ : ByteArray), (⟨#[]⟩ : ByteArray), 0, false))))) else (some ((⟨#[]⟩ : ByteArray), (⟨#[]⟩ : ByteArray), 0, false))))) = some (r1, r2, r3, r4) := H
 have A4 := Aside0.mk A40
 clear A40
 replace H := Option.bind_eq_some_iff.mp H
 obtain ⟨⟨t223, t224, t225⟩, A50, H⟩ := H
 replace H : ((strings_Cut.f t224 (⟨#[64]⟩ : ByteArray)).bind fun bt226 => (if t219 = true then (if a0 ≥ 60 then (some ((⟨#[]⟩ : ByteArray), (⟨#[]⟩ : ByteArray), 0, false)) else ((impl_IsValidRecord.f k bt226.1 bt226.2.1).bind fun t230 => (if t230 = true then ((impl_encode.f k a0 bt226.1 bt226.2.1).bind fun t231 => (if t217.size + 1 ≤ 9223372036854775807 then (if t231.toList = (sc t217 (⟨#[10]⟩ : ByteArray)).toList then (some (bt226.1, bt226.2.1, wrap64 ((t217.size : Int) + 1), true)) else (some ((⟨#[]⟩ : ByteArray), (⟨#[]⟩ : ByteArray), 0, false))) else (none))) else (some ((⟨#[]⟩ : ByteArray), (⟨#[]⟩ : ByteArray), 0, false))))) else (some ((⟨#[]⟩ : ByteArray), (⟨#[]⟩ : ByteArray), 0, false)))) = some (r1, r2, r3, r4) := H
 have A5 := Aside0.mk A50
 clear A50
 replace H := Option.bind_eq_some_iff.mp H
 obtain ⟨⟨t226, t227, t228⟩, A60, H⟩ := H
 replace H : (if t219 = true then (if a0 ≥ 60 then (some ((⟨#[]⟩ : ByteArray), (⟨#[]⟩ : ByteArray), 0, false)) else ((impl_IsValidRecord.f k t226 t227).bind fun t230 => (if t230 = true then ((impl_encode.f k a0 t226 t227).bind fun t231 => (if t217.size + 1 ≤ 9223372036854775807 then (if t231.toList = (sc t217 (⟨#[10]⟩ : ByteArray)).toList then (some (t226, t227, wrap64 ((t217.size : Int) + 1), true)) else (some ((⟨#[]⟩ : ByteArray), (⟨#[]⟩ : ByteArray), 0, false))) else (none))) else (some ((⟨#[]⟩ : ByteArray), (⟨#[]⟩ : ByteArray), 0, false))))) else (some ((⟨#[]⟩ : ByteArray), (⟨#[]⟩ : ByteArray), 0, false))) = some (r1, r2, r3, r4) := H
 have A6 := Aside0.mk A60
 clear A60
 by_cases c7 : t219 = true
 ·
  subst c7
  have H1 : (if a0 ≥ 60 then (some ((⟨#[]⟩ : ByteArray), (⟨#[]⟩ : ByteArray), 0, false)) else ((impl_IsValidRecord.f k t226 t227).bind fun t230 => (if t230 = true then ((impl_encode.f k a0 t226 t227).bind fun t231 => (if t217.size + 1 ≤ 9223372036854775807 then (if t231.toList = (sc t217 (⟨#[10]⟩ : ByteArray)).toList then (some (t226, t227, wrap64 ((t217.size : Int) + 1), true)) else (some ((⟨#[]⟩ : ByteArray), (⟨#[]⟩ : ByteArray), 0, false))) else (none))) else (some ((⟨#[]⟩ : ByteArray), (⟨#[]⟩ : ByteArray), 0, false))))) = some (r1, r2, r3, r4) := by rw [if_pos rfl] at H; exact H
  clear H
  have H := H1
  clear H1
  by_cases c8 : a0 ≥ 60
  ·
   rw [if_pos c8] at H
   have c8b0 : decide (60 ≤ a0) = true := decide_eq_true c8
   clear c8
   simp only [Option.some.injEq, Prod.mk.injEq] at H
   obtain ⟨rfl, rfl, rfl, rfl⟩ := H
   go_enter Tryd.func70, Tryd.ntmps70
   go_wp2_with (first | ((with_reducible refine gate_dst (N := 4) rfl ?_); refine box_event ?hg (N := 4) ?hd (cs := #[.string (⟨#[]⟩ : ByteArray), .string (⟨#[]⟩ : ByteArray)]) (t := 27) ?hr ?_; (case hd => rfl); (case hg => rfl); (case hr => first | (go_simp; done) | (go_simp; rfl)); intro gb216 hg w9 hbox hb; have BK216 := Aside0.mk (hbox); have GW216 := Aside0.mk ((bz_ hg (lb0_ HB.out))); have GE216 := Aside0.mk ((bz_ hg (lb0_ HB.out))); replace HB := Aside0.mk (below_step (lb0_ HB.out) hb); clear hb hbox hg) | ((with_reducible refine gate_callee (f := 77) rfl ?_); refine ga_ (some 22) Tryd.func77 #[.string a1, .string (⟨#[10]⟩ : ByteArray)] ?_; (with_reducible refine (strings_Cut.calls a1 (⟨#[10]⟩ : ByteArray) t217 t218 true _ A3.out).mono ?_); rintro e w' ⟨rfl, ⟨nd, rfl⟩⟩; refine ⟨_, rfl, ?_⟩; (try (rw [drewN_self w9]; generalize hq_ : World.drewN w9 _ = w9; have n0_ : Aside0 (w9.heap[gb216]? = some (.cells #[.string (⟨#[]⟩ : ByteArray), .string (⟨#[]⟩ : ByteArray)] 27 (0, 0))) := ⟨by rw [← hq_]; exact (bk_ BK216.out)⟩; have n1_ : Aside0 (Below w.heap.size w w9) := ⟨by rw [← hq_]; exact (lb1_ HB.out GE216.out)⟩; clear BK216 HB hq_; have BK216 := n0_; have HB := n1_; clear n0_ n1_))) | ((with_reducible refine gate_callee (f := 77) rfl ?_); refine ga_ (some 28) Tryd.func77 #[.string t217, .string (⟨#[35]⟩ : ByteArray)] ?_; (with_reducible refine (strings_Cut.calls t217 (⟨#[35]⟩ : ByteArray) t220 t221 t222 _ A4.out).mono ?_); rintro e w' ⟨rfl, ⟨nd, rfl⟩⟩; refine ⟨_, rfl, ?_⟩; (try (rw [drewN_self w9]; generalize hq_ : World.drewN w9 _ = w9; have n0_ : Aside0 (w9.heap[gb216]? = some (.cells #[.string (⟨#[]⟩ : ByteArray), .string (⟨#[]⟩ : ByteArray)] 27 (0, 0))) := ⟨by rw [← hq_]; exact (bk_ BK216.out)⟩; have n1_ : Aside0 (Below w.heap.size w w9) := ⟨by rw [← hq_]; exact (lb1_ HB.out GE216.out)⟩; clear BK216 HB hq_; have BK216 := n0_; have HB := n1_; clear n0_ n1_))) | ((with_reducible refine gate_callee (f := 77) rfl ?_); refine ga_ (some 34) Tryd.func77 #[.string t220, .string (⟨#[32]⟩ : ByteArray)] ?_; (with_reducible refine (strings_Cut.calls t220 (⟨#[32]⟩ : ByteArray) t223 t224 t225 _ A5.out).mono ?_); rintro e w' ⟨rfl, ⟨nd, rfl⟩⟩; refine ⟨_, rfl, ?_⟩; (try (rw [drewN_self w9]; generalize hq_ : World.drewN w9 _ = w9; have n0_ : Aside0 (w9.heap[gb216]? = some (.cells #[.string (⟨#[]⟩ : ByteArray), .string (⟨#[]⟩ : ByteArray)] 27 (0, 0))) := ⟨by rw [← hq_]; exact (bk_ BK216.out)⟩; have n1_ : Aside0 (Below w.heap.size w w9) := ⟨by rw [← hq_]; exact (lb1_ HB.out GE216.out)⟩; clear BK216 HB hq_; have BK216 := n0_; have HB := n1_; clear n0_ n1_))) | ((with_reducible refine gate_callee (f := 77) rfl ?_); refine ga_ (some 40) Tryd.func77 #[.string t224, .string (⟨#[64]⟩ : ByteArray)] ?_; (with_reducible refine (strings_Cut.calls t224 (⟨#[64]⟩ : ByteArray) t226 t227 t228 _ A6.out).mono ?_); rintro e w' ⟨rfl, ⟨nd, rfl⟩⟩; refine ⟨_, rfl, ?_⟩; (try (rw [drewN_self w9]; generalize hq_ : World.drewN w9 _ = w9; have n0_ : Aside0 (w9.heap[gb216]? = some (.cells #[.string (⟨#[]⟩ : ByteArray), .string (⟨#[]⟩ : ByteArray)] 27 (0, 0))) := ⟨by rw [← hq_]; exact (bk_ BK216.out)⟩; have n1_ : Aside0 (Below w.heap.size w w9) := ⟨by rw [← hq_]; exact (lb1_ HB.out GE216.out)⟩; clear BK216 HB hq_; have BK216 := n0_; have HB := n1_; clear n0_ n1_))) | ((with_reducible refine gate_dst (N := 19) rfl ?_); refine box_event ?hg (N := 19) ?hd (cs := #[.string (⟨#[]⟩ : ByteArray), .string (⟨#[]⟩ : ByteArray)]) (t := 27) ?hr ?_; (case hd => rfl); (case hg => rfl); (case hr => first | (go_simp; done) | (go_simp; rfl)); intro gb229 hg w10 hbox hb; have BK229 := Aside0.mk (hbox); have GW229 := Aside0.mk ((bz_ hg (lb1_ HB.out GE216.out))); have GE229 := Aside0.mk ((bz_ hg (lb1_ HB.out GE216.out))); replace HB := Aside0.mk (below_step (lb1_ HB.out GE216.out) hb); have NB216_229 := Aside0.mk ((by rw [hg]; exact Nat.ne_of_lt (blk_lt (g := gb216) (o := .cells #[.string (⟨#[]⟩ : ByteArray), .string (⟨#[]⟩ : ByteArray)] 27 (0, 0)) (bk_ BK216.out)) : gb216 ≠ gb229)); have NB229_216 := Aside0.mk ((by rw [hg]; exact Nat.ne_of_gt (blk_lt (g := gb216) (o := .cells #[.string (⟨#[]⟩ : ByteArray), .string (⟨#[]⟩ : ByteArray)] 27 (0, 0)) (bk_ BK216.out)) : gb229 ≠ gb216)); replace BK216 := Aside0.mk (bb_ (bk_ BK216.out) hb); clear hb hbox hg; have hnb11 := NB229_216.out; have hnc11 := NB216_229.out; obtain ⟨hcz12_0, hcz12_1⟩ := cz2_ BK229.out; obtain ⟨hfz12_0, hfz12_1⟩ := fz2_ BK229.out; obtain ⟨hcz13_0, hcz13_1⟩ := cz2_ BK216.out; obtain ⟨hfz13_0, hfz13_1⟩ := fz2_ BK216.out))
   refine bodyPost_ret (results_ctt rfl _ _ gb216 27 #[.string (⟨#[]⟩ : ByteArray), .string (⟨#[]⟩ : ByteArray)] (0, 0) _ rfl (by (with_reducible repeat (first | refine blk_drewN ?_ _ | refine blk_drew ?_ | refine blk_alloc ?_ _)); refine blk_put (cs := #[.string (⟨#[]⟩ : ByteArray), .string (⟨#[]⟩ : ByteArray)]) ?_ 1 _ rfl; (with_reducible repeat (first | refine blk_drewN ?_ _ | refine blk_drew ?_ | refine blk_alloc ?_ _)); refine blk_put (cs := #[.string (⟨#[]⟩ : ByteArray), .string (⟨#[]⟩ : ByteArray)]) ?_ 0 _ rfl; (with_reducible repeat (first | refine blk_drewN ?_ _ | refine blk_drew ?_ | refine blk_alloc ?_ _)); refine blk_far ?_ NB216_229.out _; (with_reducible repeat (first | refine blk_drewN ?_ _ | refine blk_drew ?_ | refine blk_alloc ?_ _)); refine blk_far ?_ NB216_229.out _; (with_reducible repeat (first | refine blk_drewN ?_ _ | refine blk_drew ?_ | refine blk_alloc ?_ _)); exact BK216.out) Tryd.underlying27 rfl (by kernel_rfl)) rfl ?_
   exact ⟨by first | rfl | (simp [errW_none, errW_some] <;> rfl) | (simp [*, errW_none, errW_some] <;> rfl) | (have hw_ : ∀ n : Nat, (n + 1 ≤ 9223372036854775807) → wrap64 ((n : Int) + 1) = (n : Int) + 1 := fun n hn => by unfold wrap64; omega); (rw [hw_ _ (by first | assumption | omega)]); rfl, lb2_ HB.out GE216.out GE229.out⟩
  ·
   rw [if_neg c8] at H
   have c8b0 : decide (60 ≤ a0) = false := decide_eq_false c8
   clear c8
   replace H := Option.bind_eq_some_iff.mp H
   obtain ⟨t230, A140, H⟩ := H
   replace H : (if t230 = true then ((impl_encode.f k a0 t226 t227).bind fun t231 => (if t217.size + 1 ≤ 9223372036854775807 then (if t231.toList = (sc t217 (⟨#[10]⟩ : ByteArray)).toList then (some (t226, t227, wrap64 ((t217.size : Int) + 1), true)) else (some ((⟨#[]⟩ : ByteArray), (⟨#[]⟩ : ByteArray), 0, false))) else (none))) else (some ((⟨#[]⟩ : ByteArray), (⟨#[]⟩ : ByteArray), 0, false))) = some (r1, r2, r3, r4) := H
   have A14 := Aside0.mk A140
   clear A140
   by_cases c15 : t230 = true
   ·
    subst c15
    have H1 : ((impl_encode.f k a0 t226 t227).bind fun t231 => (if t217.size + 1 ≤ 9223372036854775807 then (if t231.toList = (sc t217 (⟨#[10]⟩ : ByteArray)).toList then (some (t226, t227, wrap64 ((t217.size : Int) + 1), true)) else (some ((⟨#[]⟩ : ByteArray), (⟨#[]⟩ : ByteArray), 0, false))) else (none))) = some (r1, r2, r3, r4) := by rw [if_pos rfl] at H; exact H
    clear H
    have H := H1
    clear H1
    replace H := Option.bind_eq_some_iff.mp H
    obtain ⟨t231, A160, H⟩ := H
    replace H : (if t217.size + 1 ≤ 9223372036854775807 then (if t231.toList = (sc t217 (⟨#[10]⟩ : ByteArray)).toList then (some (t226, t227, wrap64 ((t217.size : Int) + 1), true)) else (some ((⟨#[]⟩ : ByteArray), (⟨#[]⟩ : ByteArray), 0, false))) else (none)) = some (r1, r2, r3, r4) := H
    have A16 := Aside0.mk A160
    clear A160
    by_cases c17 : t217.size + 1 ≤ 9223372036854775807
    ·
     rw [if_pos c17] at H
     have c17b0 := eq_true c17
     have c17b1 : decide (t217.size + 1 ≤ 9223372036854775807) = true := decide_eq_true c17
     try have c17b2 : (9223372036854775807 < t217.size + 1) = False := eq_false (Nat.not_lt.2 c17)
     by_cases c18 : t231.toList = (sc t217 (⟨#[10]⟩ : ByteArray)).toList
     ·
      rw [if_pos c18] at H
      have c18b0 : (t231.toList == (sc t217 (⟨#[10]⟩ : ByteArray)).toList) = true := beq_iff_eq.mpr c18
      have c18b1 : (t231.toList != (sc t217 (⟨#[10]⟩ : ByteArray)).toList) = false := bne_eq_false_iff_eq.mpr c18
      clear c18
      simp only [Option.some.injEq, Prod.mk.injEq] at H
      obtain ⟨rfl, rfl, rfl, rfl⟩ := H
      go_enter Tryd.func70, Tryd.ntmps70
      go_wp2_with (first | ((with_reducible refine gate_dst (N := 4) rfl ?_); refine box_event ?hg (N := 4) ?hd (cs := #[.string (⟨#[]⟩ : ByteArray), .string (⟨#[]⟩ : ByteArray)]) (t := 27) ?hr ?_; (case hd => rfl); (case hg => rfl); (case hr => first | (go_simp; done) | (go_simp; rfl)); intro gb216 hg w19 hbox hb; have BK216 := Aside0.mk (hbox); have GW216 := Aside0.mk ((bz_ hg (lb0_ HB.out))); have GE216 := Aside0.mk ((bz_ hg (lb0_ HB.out))); replace HB := Aside0.mk (below_step (lb0_ HB.out) hb); clear hb hbox hg) | ((with_reducible refine gate_callee (f := 77) rfl ?_); refine ga_ (some 22) Tryd.func77 #[.string a1, .string (⟨#[10]⟩ : ByteArray)] ?_; (with_reducible refine (strings_Cut.calls a1 (⟨#[10]⟩ : ByteArray) t217 t218 true _ A3.out).mono ?_); rintro e w' ⟨rfl, ⟨nd, rfl⟩⟩; refine ⟨_, rfl, ?_⟩; (try (rw [drewN_self w19]; generalize hq_ : World.drewN w19 _ = w19; have n0_ : Aside0 (w19.heap[gb216]? = some (.cells #[.string (⟨#[]⟩ : ByteArray), .string (⟨#[]⟩ : ByteArray)] 27 (0, 0))) := ⟨by rw [← hq_]; exact (bk_ BK216.out)⟩; have n1_ : Aside0 (Below w.heap.size w w19) := ⟨by rw [← hq_]; exact (lb1_ HB.out GE216.out)⟩; clear BK216 HB hq_; have BK216 := n0_; have HB := n1_; clear n0_ n1_))) | ((with_reducible refine gate_callee (f := 77) rfl ?_); refine ga_ (some 28) Tryd.func77 #[.string t217, .string (⟨#[35]⟩ : ByteArray)] ?_; (with_reducible refine (strings_Cut.calls t217 (⟨#[35]⟩ : ByteArray) t220 t221 t222 _ A4.out).mono ?_); rintro e w' ⟨rfl, ⟨nd, rfl⟩⟩; refine ⟨_, rfl, ?_⟩; (try (rw [drewN_self w19]; generalize hq_ : World.drewN w19 _ = w19; have n0_ : Aside0 (w19.heap[gb216]? = some (.cells #[.string (⟨#[]⟩ : ByteArray), .string (⟨#[]⟩ : ByteArray)] 27 (0, 0))) := ⟨by rw [← hq_]; exact (bk_ BK216.out)⟩; have n1_ : Aside0 (Below w.heap.size w w19) := ⟨by rw [← hq_]; exact (lb1_ HB.out GE216.out)⟩; clear BK216 HB hq_; have BK216 := n0_; have HB := n1_; clear n0_ n1_))) | ((with_reducible refine gate_callee (f := 77) rfl ?_); refine ga_ (some 34) Tryd.func77 #[.string t220, .string (⟨#[32]⟩ : ByteArray)] ?_; (with_reducible refine (strings_Cut.calls t220 (⟨#[32]⟩ : ByteArray) t223 t224 t225 _ A5.out).mono ?_); rintro e w' ⟨rfl, ⟨nd, rfl⟩⟩; refine ⟨_, rfl, ?_⟩; (try (rw [drewN_self w19]; generalize hq_ : World.drewN w19 _ = w19; have n0_ : Aside0 (w19.heap[gb216]? = some (.cells #[.string (⟨#[]⟩ : ByteArray), .string (⟨#[]⟩ : ByteArray)] 27 (0, 0))) := ⟨by rw [← hq_]; exact (bk_ BK216.out)⟩; have n1_ : Aside0 (Below w.heap.size w w19) := ⟨by rw [← hq_]; exact (lb1_ HB.out GE216.out)⟩; clear BK216 HB hq_; have BK216 := n0_; have HB := n1_; clear n0_ n1_))) | ((with_reducible refine gate_callee (f := 77) rfl ?_); refine ga_ (some 40) Tryd.func77 #[.string t224, .string (⟨#[64]⟩ : ByteArray)] ?_; (with_reducible refine (strings_Cut.calls t224 (⟨#[64]⟩ : ByteArray) t226 t227 t228 _ A6.out).mono ?_); rintro e w' ⟨rfl, ⟨nd, rfl⟩⟩; refine ⟨_, rfl, ?_⟩; (try (rw [drewN_self w19]; generalize hq_ : World.drewN w19 _ = w19; have n0_ : Aside0 (w19.heap[gb216]? = some (.cells #[.string (⟨#[]⟩ : ByteArray), .string (⟨#[]⟩ : ByteArray)] 27 (0, 0))) := ⟨by rw [← hq_]; exact (bk_ BK216.out)⟩; have n1_ : Aside0 (Below w.heap.size w w19) := ⟨by rw [← hq_]; exact (lb1_ HB.out GE216.out)⟩; clear BK216 HB hq_; have BK216 := n0_; have HB := n1_; clear n0_ n1_))) | ((with_reducible refine gate_dst (N := 19) rfl ?_); refine box_event ?hg (N := 19) ?hd (cs := #[.string (⟨#[]⟩ : ByteArray), .string (⟨#[]⟩ : ByteArray)]) (t := 27) ?hr ?_; (case hd => rfl); (case hg => rfl); (case hr => first | (go_simp; done) | (go_simp; rfl)); intro gb229 hg w20 hbox hb; have BK229 := Aside0.mk (hbox); have GW229 := Aside0.mk ((bz_ hg (lb1_ HB.out GE216.out))); have GE229 := Aside0.mk ((bz_ hg (lb1_ HB.out GE216.out))); replace HB := Aside0.mk (below_step (lb1_ HB.out GE216.out) hb); have NB216_229 := Aside0.mk ((by rw [hg]; exact Nat.ne_of_lt (blk_lt (g := gb216) (o := .cells #[.string (⟨#[]⟩ : ByteArray), .string (⟨#[]⟩ : ByteArray)] 27 (0, 0)) (bk_ BK216.out)) : gb216 ≠ gb229)); have NB229_216 := Aside0.mk ((by rw [hg]; exact Nat.ne_of_gt (blk_lt (g := gb216) (o := .cells #[.string (⟨#[]⟩ : ByteArray), .string (⟨#[]⟩ : ByteArray)] 27 (0, 0)) (bk_ BK216.out)) : gb229 ≠ gb216)); replace BK216 := Aside0.mk (bb_ (bk_ BK216.out) hb); clear hb hbox hg; have hnb21 := NB229_216.out; have hnc21 := NB216_229.out; obtain ⟨hcz22_0, hcz22_1⟩ := cz2_ BK229.out; obtain ⟨hfz22_0, hfz22_1⟩ := fz2_ BK229.out) | (go_at_call 37; (with_reducible refine (impl_IsValidRecord.calls k t226 t227 true _ A14.out).mono ?_); rintro e w23 ⟨rfl, hb⟩; replace BK216 := Aside0.mk (blk_below (g := gb216) (o := .cells #[.string (⟨#[]⟩ : ByteArray), .string (⟨#[]⟩ : ByteArray)] 27 (0, 0)) (by (with_reducible repeat (first | refine blk_drewN ?_ _ | refine blk_drew ?_ | refine blk_alloc ?_ _)); refine blk_far ?_ NB216_229.out _; (with_reducible repeat (first | refine blk_drewN ?_ _ | refine blk_drew ?_ | refine blk_alloc ?_ _)); refine blk_far ?_ NB216_229.out _; (with_reducible repeat (first | refine blk_drewN ?_ _ | refine blk_drew ?_ | refine blk_alloc ?_ _)); exact BK216.out) hb); replace BK229 := Aside0.mk (blk_below (g := gb229) (o := .cells #[.string t226, .string t227] 27 (0, 0)) (by (with_reducible repeat (first | refine blk_drewN ?_ _ | refine blk_drew ?_ | refine blk_alloc ?_ _)); refine blk_put (cs := #[.string t226, .string (⟨#[]⟩ : ByteArray)]) ?_ 1 _ rfl; (with_reducible repeat (first | refine blk_drewN ?_ _ | refine blk_drew ?_ | refine blk_alloc ?_ _)); refine blk_put (cs := #[.string (⟨#[]⟩ : ByteArray), .string (⟨#[]⟩ : ByteArray)]) ?_ 0 _ rfl; (with_reducible repeat (first | refine blk_drewN ?_ _ | refine blk_drew ?_ | refine blk_alloc ?_ _)); exact BK229.out) hb); replace HB := Aside0.mk (below_step (lb2_ HB.out GE216.out GE229.out) hb); (try clear hb); (try clear hb2); (try clear hk); (try clear hi); obtain ⟨hcz24_0, hcz24_1⟩ := cz2_ BK229.out; obtain ⟨hfz24_0, hfz24_1⟩ := fz2_ BK229.out) | (go_at_call 46; (with_reducible refine (impl_encode.calls k a0 t226 t227 t231 _ A16.out ?sideT).mono ?_); (case sideT => first | exact HT.out | exact Tb.step HT.out HB.out | exact Tb.step HT.out (by repeat (first | (with_reducible first | exact HB.out | apply below_alloc | apply pw_below_drewN | apply below_drew1 | refine below_set ?_ GE216.out | refine below_set ?_ GE229.out) | exact HB.out | exact Below.refl _ _))); rintro e w25 ⟨rfl, hb⟩; replace BK216 := Aside0.mk (bb_ (bk_ BK216.out) hb); replace BK229 := Aside0.mk (bb_ (bk_ BK229.out) hb); replace HB := Aside0.mk (below_step (lb2_ HB.out GE216.out GE229.out) hb); (try clear hb); (try clear hb2); (try clear hk); (try clear hi); obtain ⟨hcz26_0, hcz26_1⟩ := cz2_ BK229.out; obtain ⟨hfz26_0, hfz26_1⟩ := fz2_ BK229.out; obtain ⟨hcz27_0, hcz27_1⟩ := cz2_ BK216.out; obtain ⟨hfz27_0, hfz27_1⟩ := fz2_ BK216.out))
      refine bodyPost_ret (results_ctt rfl _ _ gb216 27 #[.string t226, .string t227] (0, 0) _ rfl (by (with_reducible repeat (first | refine blk_drewN ?_ _ | refine blk_drew ?_ | refine blk_alloc ?_ _)); refine blk_put (cs := #[.string t226, .string (⟨#[]⟩ : ByteArray)]) ?_ 1 _ rfl; (with_reducible repeat (first | refine blk_drewN ?_ _ | refine blk_drew ?_ | refine blk_alloc ?_ _)); refine blk_put (cs := #[.string (⟨#[]⟩ : ByteArray), .string (⟨#[]⟩ : ByteArray)]) ?_ 0 _ rfl; (with_reducible repeat (first | refine blk_drewN ?_ _ | refine blk_drew ?_ | refine blk_alloc ?_ _)); exact BK216.out) Tryd.underlying27 rfl (by kernel_rfl)) rfl ?_
      exact ⟨by first | rfl | (simp [errW_none, errW_some] <;> rfl) | (simp [*, errW_none, errW_some] <;> rfl) | (have hw_ : ∀ n : Nat, (n + 1 ≤ 9223372036854775807) → wrap64 ((n : Int) + 1) = (n : Int) + 1 := fun n hn => by unfold wrap64; omega); (rw [hw_ _ (by first | assumption | omega)]); rfl, lb2_ HB.out GE216.out GE229.out⟩
     ·
      rw [if_neg c18] at H
      have c18b0 : (t231.toList == (sc t217 (⟨#[10]⟩ : ByteArray)).toList) = false := beq_eq_false_iff_ne.mpr c18
      have c18b1 : (t231.toList != (sc t217 (⟨#[10]⟩ : ByteArray)).toList) = true := bne_iff_ne.mpr c18
      simp only [Option.some.injEq, Prod.mk.injEq] at H
      obtain ⟨rfl, rfl, rfl, rfl⟩ := H
      go_enter Tryd.func70, Tryd.ntmps70
      go_wp2_with (first | ((with_reducible refine gate_dst (N := 4) rfl ?_); refine box_event ?hg (N := 4) ?hd (cs := #[.string (⟨#[]⟩ : ByteArray), .string (⟨#[]⟩ : ByteArray)]) (t := 27) ?hr ?_; (case hd => rfl); (case hg => rfl); (case hr => first | (go_simp; done) | (go_simp; rfl)); intro gb216 hg w28 hbox hb; have BK216 := Aside0.mk (hbox); have GW216 := Aside0.mk ((bz_ hg (lb0_ HB.out))); have GE216 := Aside0.mk ((bz_ hg (lb0_ HB.out))); replace HB := Aside0.mk (below_step (lb0_ HB.out) hb); clear hb hbox hg) | ((with_reducible refine gate_callee (f := 77) rfl ?_); refine ga_ (some 22) Tryd.func77 #[.string a1, .string (⟨#[10]⟩ : ByteArray)] ?_; (with_reducible refine (strings_Cut.calls a1 (⟨#[10]⟩ : ByteArray) t217 t218 true _ A3.out).mono ?_); rintro e w' ⟨rfl, ⟨nd, rfl⟩⟩; refine ⟨_, rfl, ?_⟩; (try (rw [drewN_self w28]; generalize hq_ : World.drewN w28 _ = w28; have n0_ : Aside0 (w28.heap[gb216]? = some (.cells #[.string (⟨#[]⟩ : ByteArray), .string (⟨#[]⟩ : ByteArray)] 27 (0, 0))) := ⟨by rw [← hq_]; exact (bk_ BK216.out)⟩; have n1_ : Aside0 (Below w.heap.size w w28) := ⟨by rw [← hq_]; exact (lb1_ HB.out GE216.out)⟩; clear BK216 HB hq_; have BK216 := n0_; have HB := n1_; clear n0_ n1_))) | ((with_reducible refine gate_callee (f := 77) rfl ?_); refine ga_ (some 28) Tryd.func77 #[.string t217, .string (⟨#[35]⟩ : ByteArray)] ?_; (with_reducible refine (strings_Cut.calls t217 (⟨#[35]⟩ : ByteArray) t220 t221 t222 _ A4.out).mono ?_); rintro e w' ⟨rfl, ⟨nd, rfl⟩⟩; refine ⟨_, rfl, ?_⟩; (try (rw [drewN_self w28]; generalize hq_ : World.drewN w28 _ = w28; have n0_ : Aside0 (w28.heap[gb216]? = some (.cells #[.string (⟨#[]⟩ : ByteArray), .string (⟨#[]⟩ : ByteArray)] 27 (0, 0))) := ⟨by rw [← hq_]; exact (bk_ BK216.out)⟩; have n1_ : Aside0 (Below w.heap.size w w28) := ⟨by rw [← hq_]; exact (lb1_ HB.out GE216.out)⟩; clear BK216 HB hq_; have BK216 := n0_; have HB := n1_; clear n0_ n1_))) | ((with_reducible refine gate_callee (f := 77) rfl ?_); refine ga_ (some 34) Tryd.func77 #[.string t220, .string (⟨#[32]⟩ : ByteArray)] ?_; (with_reducible refine (strings_Cut.calls t220 (⟨#[32]⟩ : ByteArray) t223 t224 t225 _ A5.out).mono ?_); rintro e w' ⟨rfl, ⟨nd, rfl⟩⟩; refine ⟨_, rfl, ?_⟩; (try (rw [drewN_self w28]; generalize hq_ : World.drewN w28 _ = w28; have n0_ : Aside0 (w28.heap[gb216]? = some (.cells #[.string (⟨#[]⟩ : ByteArray), .string (⟨#[]⟩ : ByteArray)] 27 (0, 0))) := ⟨by rw [← hq_]; exact (bk_ BK216.out)⟩; have n1_ : Aside0 (Below w.heap.size w w28) := ⟨by rw [← hq_]; exact (lb1_ HB.out GE216.out)⟩; clear BK216 HB hq_; have BK216 := n0_; have HB := n1_; clear n0_ n1_))) | ((with_reducible refine gate_callee (f := 77) rfl ?_); refine ga_ (some 40) Tryd.func77 #[.string t224, .string (⟨#[64]⟩ : ByteArray)] ?_; (with_reducible refine (strings_Cut.calls t224 (⟨#[64]⟩ : ByteArray) t226 t227 t228 _ A6.out).mono ?_); rintro e w' ⟨rfl, ⟨nd, rfl⟩⟩; refine ⟨_, rfl, ?_⟩; (try (rw [drewN_self w28]; generalize hq_ : World.drewN w28 _ = w28; have n0_ : Aside0 (w28.heap[gb216]? = some (.cells #[.string (⟨#[]⟩ : ByteArray), .string (⟨#[]⟩ : ByteArray)] 27 (0, 0))) := ⟨by rw [← hq_]; exact (bk_ BK216.out)⟩; have n1_ : Aside0 (Below w.heap.size w w28) := ⟨by rw [← hq_]; exact (lb1_ HB.out GE216.out)⟩; clear BK216 HB hq_; have BK216 := n0_; have HB := n1_; clear n0_ n1_))) | ((with_reducible refine gate_dst (N := 19) rfl ?_); refine box_event ?hg (N := 19) ?hd (cs := #[.string (⟨#[]⟩ : ByteArray), .string (⟨#[]⟩ : ByteArray)]) (t := 27) ?hr ?_; (case hd => rfl); (case hg => rfl); (case hr => first | (go_simp; done) | (go_simp; rfl)); intro gb229 hg w29 hbox hb; have BK229 := Aside0.mk (hbox); have GW229 := Aside0.mk ((bz_ hg (lb1_ HB.out GE216.out))); have GE229 := Aside0.mk ((bz_ hg (lb1_ HB.out GE216.out))); replace HB := Aside0.mk (below_step (lb1_ HB.out GE216.out) hb); have NB216_229 := Aside0.mk ((by rw [hg]; exact Nat.ne_of_lt (blk_lt (g := gb216) (o := .cells #[.string (⟨#[]⟩ : ByteArray), .string (⟨#[]⟩ : ByteArray)] 27 (0, 0)) (bk_ BK216.out)) : gb216 ≠ gb229)); have NB229_216 := Aside0.mk ((by rw [hg]; exact Nat.ne_of_gt (blk_lt (g := gb216) (o := .cells #[.string (⟨#[]⟩ : ByteArray), .string (⟨#[]⟩ : ByteArray)] 27 (0, 0)) (bk_ BK216.out)) : gb229 ≠ gb216)); replace BK216 := Aside0.mk (bb_ (bk_ BK216.out) hb); clear hb hbox hg; have hnb30 := NB229_216.out; have hnc30 := NB216_229.out; obtain ⟨hcz31_0, hcz31_1⟩ := cz2_ BK229.out; obtain ⟨hfz31_0, hfz31_1⟩ := fz2_ BK229.out) | (go_at_call 37; (with_reducible refine (impl_IsValidRecord.calls k t226 t227 true _ A14.out).mono ?_); rintro e w32 ⟨rfl, hb⟩; replace BK216 := Aside0.mk (blk_below (g := gb216) (o := .cells #[.string (⟨#[]⟩ : ByteArray), .string (⟨#[]⟩ : ByteArray)] 27 (0, 0)) (by (with_reducible repeat (first | refine blk_drewN ?_ _ | refine blk_drew ?_ | refine blk_alloc ?_ _)); refine blk_far ?_ NB216_229.out _; (with_reducible repeat (first | refine blk_drewN ?_ _ | refine blk_drew ?_ | refine blk_alloc ?_ _)); refine blk_far ?_ NB216_229.out _; (with_reducible repeat (first | refine blk_drewN ?_ _ | refine blk_drew ?_ | refine blk_alloc ?_ _)); exact BK216.out) hb); replace BK229 := Aside0.mk (blk_below (g := gb229) (o := .cells #[.string t226, .string t227] 27 (0, 0)) (by (with_reducible repeat (first | refine blk_drewN ?_ _ | refine blk_drew ?_ | refine blk_alloc ?_ _)); refine blk_put (cs := #[.string t226, .string (⟨#[]⟩ : ByteArray)]) ?_ 1 _ rfl; (with_reducible repeat (first | refine blk_drewN ?_ _ | refine blk_drew ?_ | refine blk_alloc ?_ _)); refine blk_put (cs := #[.string (⟨#[]⟩ : ByteArray), .string (⟨#[]⟩ : ByteArray)]) ?_ 0 _ rfl; (with_reducible repeat (first | refine blk_drewN ?_ _ | refine blk_drew ?_ | refine blk_alloc ?_ _)); exact BK229.out) hb); replace HB := Aside0.mk (below_step (lb2_ HB.out GE216.out GE229.out) hb); (try clear hb); (try clear hb2); (try clear hk); (try clear hi); obtain ⟨hcz33_0, hcz33_1⟩ := cz2_ BK229.out; obtain ⟨hfz33_0, hfz33_1⟩ := fz2_ BK229.out) | (go_at_call 46; (with_reducible refine (impl_encode.calls k a0 t226 t227 t231 _ A16.out ?sideT).mono ?_); (case sideT => first | exact HT.out | exact Tb.step HT.out HB.out | exact Tb.step HT.out (by repeat (first | (with_reducible first | exact HB.out | apply below_alloc | apply pw_below_drewN | apply below_drew1 | refine below_set ?_ GE216.out | refine below_set ?_ GE229.out) | exact HB.out | exact Below.refl _ _))); rintro e w34 ⟨rfl, hb⟩; replace BK216 := Aside0.mk (bb_ (bk_ BK216.out) hb); replace BK229 := Aside0.mk (bb_ (bk_ BK229.out) hb); replace HB := Aside0.mk (below_step (lb2_ HB.out GE216.out GE229.out) hb); (try clear hb); (try clear hb2); (try clear hk); (try clear hi); obtain ⟨hcz35_0, hcz35_1⟩ := cz2_ BK216.out; obtain ⟨hfz35_0, hfz35_1⟩ := fz2_ BK216.out))
      refine bodyPost_ret (results_ctt rfl _ _ gb216 27 #[.string (⟨#[]⟩ : ByteArray), .string (⟨#[]⟩ : ByteArray)] (0, 0) _ rfl (by (with_reducible repeat (first | refine blk_drewN ?_ _ | refine blk_drew ?_ | refine blk_alloc ?_ _)); refine blk_put (cs := #[.string (⟨#[]⟩ : ByteArray), .string (⟨#[]⟩ : ByteArray)]) ?_ 1 _ rfl; (with_reducible repeat (first | refine blk_drewN ?_ _ | refine blk_drew ?_ | refine blk_alloc ?_ _)); refine blk_put (cs := #[.string (⟨#[]⟩ : ByteArray), .string (⟨#[]⟩ : ByteArray)]) ?_ 0 _ rfl; (with_reducible repeat (first | refine blk_drewN ?_ _ | refine blk_drew ?_ | refine blk_alloc ?_ _)); exact BK216.out) Tryd.underlying27 rfl (by kernel_rfl)) rfl ?_
      exact ⟨by first | rfl | (simp [errW_none, errW_some] <;> rfl) | (simp [*, errW_none, errW_some] <;> rfl) | (have hw_ : ∀ n : Nat, (n + 1 ≤ 9223372036854775807) → wrap64 ((n : Int) + 1) = (n : Int) + 1 := fun n hn => by unfold wrap64; omega); (rw [hw_ _ (by first | assumption | omega)]); rfl, lb2_ HB.out GE216.out GE229.out⟩
    ·
     rw [if_neg c17] at H
     exact absurd H (by simp)
   ·
    replace c15 := Bool.eq_false_iff.mpr c15
    subst c15
    have H1 : (some ((⟨#[]⟩ : ByteArray), (⟨#[]⟩ : ByteArray), 0, false)) = some (r1, r2, r3, r4) := by rw [if_neg (show ¬ (false = true) by decide)] at H; exact H
    clear H
    have H := H1
    clear H1
    simp only [Option.some.injEq, Prod.mk.injEq] at H
    obtain ⟨rfl, rfl, rfl, rfl⟩ := H
    go_enter Tryd.func70, Tryd.ntmps70
    go_wp2_with (first | ((with_reducible refine gate_dst (N := 4) rfl ?_); refine box_event ?hg (N := 4) ?hd (cs := #[.string (⟨#[]⟩ : ByteArray), .string (⟨#[]⟩ : ByteArray)]) (t := 27) ?hr ?_; (case hd => rfl); (case hg => rfl); (case hr => first | (go_simp; done) | (go_simp; rfl)); intro gb216 hg w36 hbox hb; have BK216 := Aside0.mk (hbox); have GW216 := Aside0.mk ((bz_ hg (lb0_ HB.out))); have GE216 := Aside0.mk ((bz_ hg (lb0_ HB.out))); replace HB := Aside0.mk (below_step (lb0_ HB.out) hb); clear hb hbox hg) | ((with_reducible refine gate_callee (f := 77) rfl ?_); refine ga_ (some 22) Tryd.func77 #[.string a1, .string (⟨#[10]⟩ : ByteArray)] ?_; (with_reducible refine (strings_Cut.calls a1 (⟨#[10]⟩ : ByteArray) t217 t218 true _ A3.out).mono ?_); rintro e w' ⟨rfl, ⟨nd, rfl⟩⟩; refine ⟨_, rfl, ?_⟩; (try (rw [drewN_self w36]; generalize hq_ : World.drewN w36 _ = w36; have n0_ : Aside0 (w36.heap[gb216]? = some (.cells #[.string (⟨#[]⟩ : ByteArray), .string (⟨#[]⟩ : ByteArray)] 27 (0, 0))) := ⟨by rw [← hq_]; exact (bk_ BK216.out)⟩; have n1_ : Aside0 (Below w.heap.size w w36) := ⟨by rw [← hq_]; exact (lb1_ HB.out GE216.out)⟩; clear BK216 HB hq_; have BK216 := n0_; have HB := n1_; clear n0_ n1_))) | ((with_reducible refine gate_callee (f := 77) rfl ?_); refine ga_ (some 28) Tryd.func77 #[.string t217, .string (⟨#[35]⟩ : ByteArray)] ?_; (with_reducible refine (strings_Cut.calls t217 (⟨#[35]⟩ : ByteArray) t220 t221 t222 _ A4.out).mono ?_); rintro e w' ⟨rfl, ⟨nd, rfl⟩⟩; refine ⟨_, rfl, ?_⟩; (try (rw [drewN_self w36]; generalize hq_ : World.drewN w36 _ = w36; have n0_ : Aside0 (w36.heap[gb216]? = some (.cells #[.string (⟨#[]⟩ : ByteArray), .string (⟨#[]⟩ : ByteArray)] 27 (0, 0))) := ⟨by rw [← hq_]; exact (bk_ BK216.out)⟩; have n1_ : Aside0 (Below w.heap.size w w36) := ⟨by rw [← hq_]; exact (lb1_ HB.out GE216.out)⟩; clear BK216 HB hq_; have BK216 := n0_; have HB := n1_; clear n0_ n1_))) | ((with_reducible refine gate_callee (f := 77) rfl ?_); refine ga_ (some 34) Tryd.func77 #[.string t220, .string (⟨#[32]⟩ : ByteArray)] ?_; (with_reducible refine (strings_Cut.calls t220 (⟨#[32]⟩ : ByteArray) t223 t224 t225 _ A5.out).mono ?_); rintro e w' ⟨rfl, ⟨nd, rfl⟩⟩; refine ⟨_, rfl, ?_⟩; (try (rw [drewN_self w36]; generalize hq_ : World.drewN w36 _ = w36; have n0_ : Aside0 (w36.heap[gb216]? = some (.cells #[.string (⟨#[]⟩ : ByteArray), .string (⟨#[]⟩ : ByteArray)] 27 (0, 0))) := ⟨by rw [← hq_]; exact (bk_ BK216.out)⟩; have n1_ : Aside0 (Below w.heap.size w w36) := ⟨by rw [← hq_]; exact (lb1_ HB.out GE216.out)⟩; clear BK216 HB hq_; have BK216 := n0_; have HB := n1_; clear n0_ n1_))) | ((with_reducible refine gate_callee (f := 77) rfl ?_); refine ga_ (some 40) Tryd.func77 #[.string t224, .string (⟨#[64]⟩ : ByteArray)] ?_; (with_reducible refine (strings_Cut.calls t224 (⟨#[64]⟩ : ByteArray) t226 t227 t228 _ A6.out).mono ?_); rintro e w' ⟨rfl, ⟨nd, rfl⟩⟩; refine ⟨_, rfl, ?_⟩; (try (rw [drewN_self w36]; generalize hq_ : World.drewN w36 _ = w36; have n0_ : Aside0 (w36.heap[gb216]? = some (.cells #[.string (⟨#[]⟩ : ByteArray), .string (⟨#[]⟩ : ByteArray)] 27 (0, 0))) := ⟨by rw [← hq_]; exact (bk_ BK216.out)⟩; have n1_ : Aside0 (Below w.heap.size w w36) := ⟨by rw [← hq_]; exact (lb1_ HB.out GE216.out)⟩; clear BK216 HB hq_; have BK216 := n0_; have HB := n1_; clear n0_ n1_))) | ((with_reducible refine gate_dst (N := 19) rfl ?_); refine box_event ?hg (N := 19) ?hd (cs := #[.string (⟨#[]⟩ : ByteArray), .string (⟨#[]⟩ : ByteArray)]) (t := 27) ?hr ?_; (case hd => rfl); (case hg => rfl); (case hr => first | (go_simp; done) | (go_simp; rfl)); intro gb229 hg w37 hbox hb; have BK229 := Aside0.mk (hbox); have GW229 := Aside0.mk ((bz_ hg (lb1_ HB.out GE216.out))); have GE229 := Aside0.mk ((bz_ hg (lb1_ HB.out GE216.out))); replace HB := Aside0.mk (below_step (lb1_ HB.out GE216.out) hb); have NB216_229 := Aside0.mk ((by rw [hg]; exact Nat.ne_of_lt (blk_lt (g := gb216) (o := .cells #[.string (⟨#[]⟩ : ByteArray), .string (⟨#[]⟩ : ByteArray)] 27 (0, 0)) (bk_ BK216.out)) : gb216 ≠ gb229)); have NB229_216 := Aside0.mk ((by rw [hg]; exact Nat.ne_of_gt (blk_lt (g := gb216) (o := .cells #[.string (⟨#[]⟩ : ByteArray), .string (⟨#[]⟩ : ByteArray)] 27 (0, 0)) (bk_ BK216.out)) : gb229 ≠ gb216)); replace BK216 := Aside0.mk (bb_ (bk_ BK216.out) hb); clear hb hbox hg; have hnb38 := NB229_216.out; have hnc38 := NB216_229.out; obtain ⟨hcz39_0, hcz39_1⟩ := cz2_ BK229.out; obtain ⟨hfz39_0, hfz39_1⟩ := fz2_ BK229.out) | (go_at_call 37; (with_reducible refine (impl_IsValidRecord.calls k t226 t227 false _ A14.out).mono ?_); rintro e w40 ⟨rfl, hb⟩; replace BK216 := Aside0.mk (blk_below (g := gb216) (o := .cells #[.string (⟨#[]⟩ : ByteArray), .string (⟨#[]⟩ : ByteArray)] 27 (0, 0)) (by (with_reducible repeat (first | refine blk_drewN ?_ _ | refine blk_drew ?_ | refine blk_alloc ?_ _)); refine blk_far ?_ NB216_229.out _; (with_reducible repeat (first | refine blk_drewN ?_ _ | refine blk_drew ?_ | refine blk_alloc ?_ _)); refine blk_far ?_ NB216_229.out _; (with_reducible repeat (first | refine blk_drewN ?_ _ | refine blk_drew ?_ | refine blk_alloc ?_ _)); exact BK216.out) hb); replace BK229 := Aside0.mk (blk_below (g := gb229) (o := .cells #[.string t226, .string t227] 27 (0, 0)) (by (with_reducible repeat (first | refine blk_drewN ?_ _ | refine blk_drew ?_ | refine blk_alloc ?_ _)); refine blk_put (cs := #[.string t226, .string (⟨#[]⟩ : ByteArray)]) ?_ 1 _ rfl; (with_reducible repeat (first | refine blk_drewN ?_ _ | refine blk_drew ?_ | refine blk_alloc ?_ _)); refine blk_put (cs := #[.string (⟨#[]⟩ : ByteArray), .string (⟨#[]⟩ : ByteArray)]) ?_ 0 _ rfl; (with_reducible repeat (first | refine blk_drewN ?_ _ | refine blk_drew ?_ | refine blk_alloc ?_ _)); exact BK229.out) hb); replace HB := Aside0.mk (below_step (lb2_ HB.out GE216.out GE229.out) hb); (try clear hb); (try clear hb2); (try clear hk); (try clear hi); obtain ⟨hcz41_0, hcz41_1⟩ := cz2_ BK216.out; obtain ⟨hfz41_0, hfz41_1⟩ := fz2_ BK216.out))
    refine bodyPost_ret (results_ctt rfl _ _ gb216 27 #[.string (⟨#[]⟩ : ByteArray), .string (⟨#[]⟩ : ByteArray)] (0, 0) _ rfl (by (with_reducible repeat (first | refine blk_drewN ?_ _ | refine blk_drew ?_ | refine blk_alloc ?_ _)); refine blk_put (cs := #[.string (⟨#[]⟩ : ByteArray), .string (⟨#[]⟩ : ByteArray)]) ?_ 1 _ rfl; (with_reducible repeat (first | refine blk_drewN ?_ _ | refine blk_drew ?_ | refine blk_alloc ?_ _)); refine blk_put (cs := #[.string (⟨#[]⟩ : ByteArray), .string (⟨#[]⟩ : ByteArray)]) ?_ 0 _ rfl; (with_reducible repeat (first | refine blk_drewN ?_ _ | refine blk_drew ?_ | refine blk_alloc ?_ _)); exact BK216.out) Tryd.underlying27 rfl (by kernel_rfl)) rfl ?_
    exact ⟨by first | rfl | (simp [errW_none, errW_some] <;> rfl) | (simp [*, errW_none, errW_some] <;> rfl) | (have hw_ : ∀ n : Nat, (n + 1 ≤ 9223372036854775807) → wrap64 ((n : Int) + 1) = (n : Int) + 1 := fun n hn => by unfold wrap64; omega); (rw [hw_ _ (by first | assumption | omega)]); rfl, lb2_ HB.out GE216.out GE229.out⟩
 ·
  replace c7 := Bool.eq_false_iff.mpr c7
  subst c7
  have H1 : (some ((⟨#[]⟩ : ByteArray), (⟨#[]⟩ : ByteArray), 0, false)) = some (r1, r2, r3, r4) := by rw [if_neg (show ¬ (false = true) by decide)] at H; exact H
  clear H
  have H := H1
  clear H1
  simp only [Option.some.injEq, Prod.mk.injEq] at H
  obtain ⟨rfl, rfl, rfl, rfl⟩ := H
  go_enter Tryd.func70, Tryd.ntmps70
  go_wp2_with (first | ((with_reducible refine gate_dst (N := 4) rfl ?_); refine box_event ?hg (N := 4) ?hd (cs := #[.string (⟨#[]⟩ : ByteArray), .string (⟨#[]⟩ : ByteArray)]) (t := 27) ?hr ?_; (case hd => rfl); (case hg => rfl); (case hr => first | (go_simp; done) | (go_simp; rfl)); intro gb216 hg w42 hbox hb; have BK216 := Aside0.mk (hbox); have GW216 := Aside0.mk ((bz_ hg (lb0_ HB.out))); have GE216 := Aside0.mk ((bz_ hg (lb0_ HB.out))); replace HB := Aside0.mk (below_step (lb0_ HB.out) hb); clear hb hbox hg) | ((with_reducible refine gate_callee (f := 77) rfl ?_); refine ga_ (some 22) Tryd.func77 #[.string a1, .string (⟨#[10]⟩ : ByteArray)] ?_; (with_reducible refine (strings_Cut.calls a1 (⟨#[10]⟩ : ByteArray) t217 t218 false _ A3.out).mono ?_); rintro e w' ⟨rfl, ⟨nd, rfl⟩⟩; refine ⟨_, rfl, ?_⟩; (try (rw [drewN_self w42]; generalize hq_ : World.drewN w42 _ = w42; have n0_ : Aside0 (w42.heap[gb216]? = some (.cells #[.string (⟨#[]⟩ : ByteArray), .string (⟨#[]⟩ : ByteArray)] 27 (0, 0))) := ⟨by rw [← hq_]; exact (bk_ BK216.out)⟩; have n1_ : Aside0 (Below w.heap.size w w42) := ⟨by rw [← hq_]; exact (lb1_ HB.out GE216.out)⟩; clear BK216 HB hq_; have BK216 := n0_; have HB := n1_; clear n0_ n1_))) | ((with_reducible refine gate_callee (f := 77) rfl ?_); refine ga_ (some 28) Tryd.func77 #[.string t217, .string (⟨#[35]⟩ : ByteArray)] ?_; (with_reducible refine (strings_Cut.calls t217 (⟨#[35]⟩ : ByteArray) t220 t221 t222 _ A4.out).mono ?_); rintro e w' ⟨rfl, ⟨nd, rfl⟩⟩; refine ⟨_, rfl, ?_⟩; (try (rw [drewN_self w42]; generalize hq_ : World.drewN w42 _ = w42; have n0_ : Aside0 (w42.heap[gb216]? = some (.cells #[.string (⟨#[]⟩ : ByteArray), .string (⟨#[]⟩ : ByteArray)] 27 (0, 0))) := ⟨by rw [← hq_]; exact (bk_ BK216.out)⟩; have n1_ : Aside0 (Below w.heap.size w w42) := ⟨by rw [← hq_]; exact (lb1_ HB.out GE216.out)⟩; clear BK216 HB hq_; have BK216 := n0_; have HB := n1_; clear n0_ n1_))) | ((with_reducible refine gate_callee (f := 77) rfl ?_); refine ga_ (some 34) Tryd.func77 #[.string t220, .string (⟨#[32]⟩ : ByteArray)] ?_; (with_reducible refine (strings_Cut.calls t220 (⟨#[32]⟩ : ByteArray) t223 t224 t225 _ A5.out).mono ?_); rintro e w' ⟨rfl, ⟨nd, rfl⟩⟩; refine ⟨_, rfl, ?_⟩; (try (rw [drewN_self w42]; generalize hq_ : World.drewN w42 _ = w42; have n0_ : Aside0 (w42.heap[gb216]? = some (.cells #[.string (⟨#[]⟩ : ByteArray), .string (⟨#[]⟩ : ByteArray)] 27 (0, 0))) := ⟨by rw [← hq_]; exact (bk_ BK216.out)⟩; have n1_ : Aside0 (Below w.heap.size w w42) := ⟨by rw [← hq_]; exact (lb1_ HB.out GE216.out)⟩; clear BK216 HB hq_; have BK216 := n0_; have HB := n1_; clear n0_ n1_))) | ((with_reducible refine gate_callee (f := 77) rfl ?_); refine ga_ (some 40) Tryd.func77 #[.string t224, .string (⟨#[64]⟩ : ByteArray)] ?_; (with_reducible refine (strings_Cut.calls t224 (⟨#[64]⟩ : ByteArray) t226 t227 t228 _ A6.out).mono ?_); rintro e w' ⟨rfl, ⟨nd, rfl⟩⟩; refine ⟨_, rfl, ?_⟩; (try (rw [drewN_self w42]; generalize hq_ : World.drewN w42 _ = w42; have n0_ : Aside0 (w42.heap[gb216]? = some (.cells #[.string (⟨#[]⟩ : ByteArray), .string (⟨#[]⟩ : ByteArray)] 27 (0, 0))) := ⟨by rw [← hq_]; exact (bk_ BK216.out)⟩; have n1_ : Aside0 (Below w.heap.size w w42) := ⟨by rw [← hq_]; exact (lb1_ HB.out GE216.out)⟩; clear BK216 HB hq_; have BK216 := n0_; have HB := n1_; clear n0_ n1_))) | ((with_reducible refine gate_dst (N := 19) rfl ?_); refine box_event ?hg (N := 19) ?hd (cs := #[.string (⟨#[]⟩ : ByteArray), .string (⟨#[]⟩ : ByteArray)]) (t := 27) ?hr ?_; (case hd => rfl); (case hg => rfl); (case hr => first | (go_simp; done) | (go_simp; rfl)); intro gb229 hg w43 hbox hb; have BK229 := Aside0.mk (hbox); have GW229 := Aside0.mk ((bz_ hg (lb1_ HB.out GE216.out))); have GE229 := Aside0.mk ((bz_ hg (lb1_ HB.out GE216.out))); replace HB := Aside0.mk (below_step (lb1_ HB.out GE216.out) hb); have NB216_229 := Aside0.mk ((by rw [hg]; exact Nat.ne_of_lt (blk_lt (g := gb216) (o := .cells #[.string (⟨#[]⟩ : ByteArray), .string (⟨#[]⟩ : ByteArray)] 27 (0, 0)) (bk_ BK216.out)) : gb216 ≠ gb229)); have NB229_216 := Aside0.mk ((by rw [hg]; exact Nat.ne_of_gt (blk_lt (g := gb216) (o := .cells #[.string (⟨#[]⟩ : ByteArray), .string (⟨#[]⟩ : ByteArray)] 27 (0, 0)) (bk_ BK216.out)) : gb229 ≠ gb216)); replace BK216 := Aside0.mk (bb_ (bk_ BK216.out) hb); clear hb hbox hg; have hnb44 := NB229_216.out; have hnc44 := NB216_229.out; obtain ⟨hcz45_0, hcz45_1⟩ := cz2_ BK229.out; obtain ⟨hfz45_0, hfz45_1⟩ := fz2_ BK229.out; obtain ⟨hcz46_0, hcz46_1⟩ := cz2_ BK216.out; obtain ⟨hfz46_0, hfz46_1⟩ := fz2_ BK216.out))
  refine bodyPost_ret (results_ctt rfl _ _ gb216 27 #[.string (⟨#[]⟩ : ByteArray), .string (⟨#[]⟩ : ByteArray)] (0, 0) _ rfl (by (with_reducible repeat (first | refine blk_drewN ?_ _ | refine blk_drew ?_ | refine blk_alloc ?_ _)); refine blk_put (cs := #[.string (⟨#[]⟩ : ByteArray), .string (⟨#[]⟩ : ByteArray)]) ?_ 1 _ rfl; (with_reducible repeat (first | refine blk_drewN ?_ _ | refine blk_drew ?_ | refine blk_alloc ?_ _)); refine blk_put (cs := #[.string (⟨#[]⟩ : ByteArray), .string (⟨#[]⟩ : ByteArray)]) ?_ 0 _ rfl; (with_reducible repeat (first | refine blk_drewN ?_ _ | refine blk_drew ?_ | refine blk_alloc ?_ _)); refine blk_far ?_ NB216_229.out _; (with_reducible repeat (first | refine blk_drewN ?_ _ | refine blk_drew ?_ | refine blk_alloc ?_ _)); refine blk_far ?_ NB216_229.out _; (with_reducible repeat (first | refine blk_drewN ?_ _ | refine blk_drew ?_ | refine blk_alloc ?_ _)); exact BK216.out) Tryd.underlying27 rfl (by kernel_rfl)) rfl ?_
  exact ⟨by first | rfl | (simp [errW_none, errW_some] <;> rfl) | (simp [*, errW_none, errW_some] <;> rfl) | (have hw_ : ∀ n : Nat, (n + 1 ≤ 9223372036854775807) → wrap64 ((n : Int) + 1) = (n : Int) + 1 := fun n hn => by unfold wrap64; omega); (rw [hw_ _ (by first | assumption | omega)]); rfl, lb2_ HB.out GE216.out GE229.out⟩
end Go.Proofs.YtdpinnhgkocjhaaDoor.Pr

namespace Go.Proofs.YtdpinnhgkocjhaaDoor.Pr
open Go.RowKit Go.Proofs.YtdpinnhgkocjhaaDoorW.PrintWords Go.Proofs.YtdpinnhgkocjhaaDoorW.PrintLast Go.Proofs.YtdpinnhgkocjhaaDoorW.PrintMore
set_option linter.unusedVariables false
set_option linter.unusedSimpArgs false
theorem kg_ {α : Type} {d : Kd α} {e base g t : Nat} {w w1 : World} {ok : Nat → Prop} {v : Value} {xs : List α} {cs : Array Value} (h : d.R e w base ok v xs) (B : w.heap[g]? = some (.cells cs t (0, 0))) (ht : ∀ q, q ∈ e :: d.E → q ≠ t := by decide) (hh : d.R e w base (fun k => ok k ∧ k ≠ g) v xs → d.R e w1 base (fun k => ok k ∧ k ≠ g) v xs := by intro h_; (repeat (with_reducible first | exact h_ | apply Kd.R_alloc | apply Kd.R_drewN | apply Kd.R_drew | refine Kd.R_far ?_ (fun _ hk => hk.2) _))) : d.R e w1 base ok v xs := Kd.R_mono (hh (Kd.R_types h B ht)) (fun _ h_ => h_.1)
end Go.Proofs.YtdpinnhgkocjhaaDoor.Pr

namespace Go.Proofs.YtdpinnhgkocjhaaDoor.Pr
open Go.RowKit Go.Proofs.YtdpinnhgkocjhaaDoorW.PrintWords Go.Proofs.YtdpinnhgkocjhaaDoorW.PrintLast Go.Proofs.YtdpinnhgkocjhaaDoorW.PrintMore
attribute [local go_sem] max2_int min2_int max_two min_two max_three min_three max_four min_four sc_in sx_in   -- for this text's walks alone
set_option linter.unusedVariables false
set_option linter.unusedSimpArgs false
def impl_readRecords.l0 : Nat → ByteArray → List (S27) → List Int → Option ((List (S27)) × List Int)
 | 0, _, _, _ => none
 | k + 1, x0, x4, x5 => if 0 ≤ (wrap64 ((x5.length : Int) - 1)) then (if (wrap64 ((x5.length : Int) - 1)) < (x5.length : Int) then (if 0 ≤ (rd x5 (wrap64 ((x5.length : Int) - 1))) then (if (rd x5 (wrap64 ((x5.length : Int) - 1))) ≤ (x0.size : Int) then ((impl_readRecord.f k (x4.length : Int) (sx x0 (((rd x5 (wrap64 ((x5.length : Int) - 1))) : Int).toNat) (x0.size))).bind fun bt236 => (if bt236.2.2.2 = true then (if x4.length < 4398046511104 then (if x5.length < 17592186044416 then (impl_readRecords.l0 k x0 (x4 ++ [(⟨bt236.1, bt236.2.1⟩ : S27)]) (x5 ++ [wrap64 ((rd x5 (wrap64 ((x5.length : Int) - 1))) + bt236.2.2.1)])) else (none)) else (none)) else (some (x4, x5)))) else (none)) else (none)) else (none)) else (none)
def impl_readRecords.f (k : Nat) (a0 : ByteArray) : Option ((List (S27)) × List Int) := impl_readRecords.l0 k a0 ([] : List (S27)) (([0] : List Int))
set_option maxHeartbeats 8000000 in
set_option maxRecDepth 100000 in
theorem impl_readRecords.calls (k : Nat) (a0 : ByteArray) (r1 : List (S27)) (r2 : List Int) (w : World) (h : impl_readRecords.f k a0 = some (r1, r2)) (hT : Tb w) :
  Calls Tryd.prog 48 #[.string a0] w fun e w' => ∃ v0_ v1_ : Value, e = .returned (.tuple #[v0_, v1_]) ∧ Kd.R k27 27 w' w.heap.size (fun _ => True) v0_ r1 ∧ Kd.R (Kd.int .i64) 3 w' w.heap.size (fun _ => True) v1_ r2 ∧ Below w.heap.size w w' := by
 have HT := Aside0.mk hT
 clear hT
 have hu27 := Tryd.underlying27
 have HB := Aside0.mk (Below.refl w.heap.size w)
 have H : (impl_readRecords.l0 k a0 ([] : List (S27)) (([0] : List Int))) = some (r1, r2) := h
 clear h
 obtain ⟨y232, hy232⟩ : ∃ y_ : List Int, y_ = (([0] : List Int)) := ⟨_, rfl⟩
 replace H : (impl_readRecords.l0 k a0 ([] : List (S27)) y232) = some (r1, r2) := by first | (rw [hy232]; with_reducible exact H) | (have H2_ := (Option.bind_some _ _).symm.trans H; rw [hy232]; with_reducible exact H2_) | (have H2_ := (Option.bind_some _ _).symm.trans H; with_reducible exact H2_) | with_reducible exact H | (rw [hy232]; exact H) | exact H
 have Ny232 := Aside0.mk hy232
 clear hy232
 have H' := Aside0.mk H
 clear H
 go_enter Tryd.func48, Tryd.ntmps48
 go_wp2_with (first | ((with_reducible refine gate_dst (N := 10) rfl ?_); refine Kd.R_lit (Kd.int .i64) _ 3 ?hg (N := 10) ?hd (xs := ([0] : List Int)) (inner := [.int .i64 0]) (ok := fun _ => True) (okp := fun _ => True) ?hr ?hp (fun _ hk => hk) trivial (Below.refl _ _) (Nat.le_refl _) (by simp) ?_; (case hd => rfl); (case hg => rfl); (case hr => first | (go_simp; done) | (go_simp; rfl)); (case hp => exact (Reps.one (show Kd.M (Kd.int .i64) _ _ _ 0 [.int .i64 0] from rfl) (Reps.none _ _))); intro v233 w2 ho3 hb hg_ hnew_; clear hg_ hnew_; replace ho3 := ry_ Ny232.out ho3; have HO234 := Aside0.mk (Kd.R_lower ho3 (below_size (lb0_ HB.out))); replace HB := Aside0.mk (below_step (lb0_ HB.out) hb); clear hb ho3))
 go_loopg [4, 5] k (fun kq v4 v5 w' => ∃ (x4_1 : List (S27)) (x5_1 : List Int), Aside0 (impl_readRecords.l0 kq a0 x4_1 x5_1 = some (r1, r2)) ∧ Aside0 (kq ≤ k) ∧ Aside0 (Kd.R k27 27 w' w.heap.size (fun _ => True) v4 x4_1) ∧ Aside0 (Kd.R (Kd.int .i64) 3 w' w.heap.size (fun _ => True) v5 x5_1) ∧ Aside0 (Below w.heap.size w w'))
 case atStart => exact ⟨(([] : List (S27))), (y232), H', ⟨Nat.le_refl _⟩, ⟨by first | exact Kd.R_nil _ _ _ _ _ | exact Kd.N_nil _ _ _ _ _ | exact Kd.V_nil _ _ _ _ _ | exact Kd.Q_nil _ _ _ _ _ | exact Kd.S_nil _ _ _ _ _⟩, ⟨kr_ HO234.out⟩, ⟨lb0_ HB.out⟩⟩
 case round =>
  clear H'
  try clear p2
  obtain ⟨x4_1, x5_1, HA, HK1, HO_4, HO_5, HB⟩ := hrel
  cases gk with
  | zero => exact absurd HA.out (by simp [impl_readRecords.l0])
  | succ k1 =>
   have H := HA.out
   clear HA
   simp only [impl_readRecords.l0] at H
   obtain ⟨ji4, hji4⟩ : ∃ j_ : Int, (wrap64 ((x5_1.length : Int) - 1)) = j_ := ⟨_, rfl⟩
   replace H : (if 0 ≤ (ji4) then (if (ji4) < (x5_1.length : Int) then (if 0 ≤ (rd x5_1 (ji4)) then (if (rd x5_1 (ji4)) ≤ (a0.size : Int) then ((impl_readRecord.f k1 (x4_1.length : Int) (sx a0 (((rd x5_1 (ji4)) : Int).toNat) (a0.size))).bind fun bt236 => (if bt236.2.2.2 = true then (if x4_1.length < 4398046511104 then (if x5_1.length < 17592186044416 then (impl_readRecords.l0 k1 a0 (x4_1 ++ [(⟨bt236.1, bt236.2.1⟩ : S27)]) (x5_1 ++ [wrap64 ((rd x5_1 (ji4)) + bt236.2.2.1)])) else (none)) else (none)) else (some (x4_1, x5_1)))) else (none)) else (none)) else (none)) else (none)) = some (r1, r2) := by first | (rw [hji4] at H; exact H) | (simp only [hji4] at H ⊢; exact H)
   have hji4w : (IntKind.i64.wrap ((x5_1.length : Int) - 1)) = ji4 := (i64_w _).trans hji4
   by_cases c5 : 0 ≤ (ji4)
   ·
    rw [if_pos c5] at H
    have c5b0 : decide (0 ≤ (ji4)) = true := decide_eq_true c5
    clear c5
    by_cases c6 : (ji4) < (x5_1.length : Int)
    ·
     rw [if_pos c6] at H
     have c6b0 : decide ((ji4) < (x5_1.length : Int)) = true := decide_eq_true c6
     clear c6
     by_cases c7 : 0 ≤ (rd x5_1 (ji4))
     ·
      rw [if_pos c7] at H
      have c7b0 := eq_true c7
      have c7b1 : decide (0 ≤ (rd x5_1 (ji4))) = true := decide_eq_true c7
      clear c7
      by_cases c8 : (rd x5_1 (ji4)) ≤ (a0.size : Int)
      ·
       rw [if_pos c8] at H
       have c8b0 := eq_true c8
       have c8b1 : decide ((rd x5_1 (ji4)) ≤ (a0.size : Int)) = true := decide_eq_true c8
       clear c8
       replace H := Option.bind_eq_some_iff.mp H
       obtain ⟨⟨t236, t237, t238, t239⟩, A90, H⟩ := H
       replace H : (if t239 = true then (if x4_1.length < 4398046511104 then (if x5_1.length < 17592186044416 then (impl_readRecords.l0 k1 a0 (x4_1 ++ [(⟨t236, t237⟩ : S27)]) (x5_1 ++ [wrap64 ((rd x5_1 (ji4)) + t238)])) else (none)) else (none)) else (some (x4_1, x5_1))) = some (r1, r2) := H
       have A9 := Aside0.mk A90
       clear A90
       by_cases c10 : t239 = true
       ·
        subst c10
        have H1 : (if x4_1.length < 4398046511104 then (if x5_1.length < 17592186044416 then (impl_readRecords.l0 k1 a0 (x4_1 ++ [(⟨t236, t237⟩ : S27)]) (x5_1 ++ [wrap64 ((rd x5_1 (ji4)) + t238)])) else (none)) else (none)) = some (r1, r2) := by rw [if_pos rfl] at H; exact H
        clear H; have H := H1; clear H1
        by_cases c11 : x4_1.length < 4398046511104
        ·
         rw [if_pos c11] at H
         have LMc11 := Aside0.mk c11; clear c11
         obtain ⟨y241, hy241⟩ : ∃ y_ : List (S27), y_ = (x4_1 ++ [(⟨t236, t237⟩ : S27)]) := ⟨_, rfl⟩
         replace H : (if x5_1.length < 17592186044416 then (impl_readRecords.l0 k1 a0 y241 (x5_1 ++ [wrap64 ((rd x5_1 (ji4)) + t238)])) else (none)) = some (r1, r2) := by first | (rw [hy241]; with_reducible exact H) | (have H2_ := (Option.bind_some _ _).symm.trans H; rw [hy241]; with_reducible exact H2_) | (have H2_ := (Option.bind_some _ _).symm.trans H; with_reducible exact H2_) | with_reducible exact H | (rw [hy241]; exact H) | exact H
         have Ny241 := Aside0.mk hy241; clear hy241
         by_cases c12 : x5_1.length < 17592186044416
         ·
          rw [if_pos c12] at H
          have LMc12 := Aside0.mk c12; clear c12
          obtain ⟨y244, hy244⟩ : ∃ y_ : List Int, y_ = (x5_1 ++ [wrap64 ((rd x5_1 (ji4)) + t238)]) := ⟨_, rfl⟩
          replace H : (impl_readRecords.l0 k1 a0 y241 y244) = some (r1, r2) := by first | (rw [hy244]; with_reducible exact H) | (have H2_ := (Option.bind_some _ _).symm.trans H; rw [hy244]; with_reducible exact H2_) | (have H2_ := (Option.bind_some _ _).symm.trans H; with_reducible exact H2_) | with_reducible exact H | (rw [hy244]; exact H) | exact H
          have Ny244 := Aside0.mk hy244; clear hy244; have H' := Aside0.mk H; clear H; obtain ⟨Ao13, co13, eo13⟩ := Kd.R_slice HO_5.out; subst eo13; have p235 : 0 ≤ ((ji4) : Int) := dt_; have q235 : (ji4) < (x5_1.length : Int) := dt_; obtain ⟨ad235, e235, hx235_0⟩ := Kd.at_int (Kd.R_reads' HO_5.out).2.2 (ji4) p235 q235
          cases e235
          replace p235 := eq_true p235; replace q235 := eq_true q235; obtain ⟨Ao14, co14, eo14⟩ := Kd.R_slice HO_4.out; subst eo14
          go_wp2_with (first | ((with_reducible refine gate_callee (f := 70) rfl ?_); refine goesL_ (some 23) rfl rfl Tryd.func70 (by kernel_rfl) rfl #[.int .i64 (x4_1.length : Int), .string (sx a0 (((rd x5_1 (ji4)) : Int).toNat) (a0.size))] rfl (by (try simp only [List.map_toArray, List.map_cons, List.map_nil]); first | done | (simp only [hji4]; rfl) | rfl | (simp only [List.length_drop, List.length_take]; rfl)) ?_; (with_reducible refine (impl_readRecord.calls k1 (x4_1.length : Int) (sx a0 (((rd x5_1 (ji4)) : Int).toNat) (a0.size)) t236 t237 t238 true _ A9.out ?sideT).mono ?_); (case sideT => first | exact HT.out | exact Tb.step HT.out HB.out | exact Tb.step HT.out (by repeat (first | (with_reducible first | exact HB.out | apply below_alloc | apply pw_below_drewN | apply below_drew1 | refine below_set ?_ GE240.out) | exact HB.out | exact Below.refl _ _))); rintro e w15 ⟨rfl, hb⟩; refine ⟨_, rfl, ?_⟩; replace HO_4 := Aside0.mk (Kd.R_below (kr_ HO_4.out) hb); replace HO_5 := Aside0.mk (Kd.R_below (kr_ HO_5.out) hb); replace HB := Aside0.mk (below_step (lb0_ HB.out) hb); (try clear hb); (try clear hb2); (try clear hk); (try clear hi)) | ((with_reducible refine gate_dst (N := 7) rfl ?_); refine box_event ?hg (N := 7) ?hd (cs := #[.string (⟨#[]⟩ : ByteArray), .string (⟨#[]⟩ : ByteArray)]) (t := 27) ?hr ?_; (case hd => rfl); (case hg => rfl); (case hr => first | (go_simp; done) | (go_simp; rfl)); intro gb240 hg w16 hbox hb; replace HO_4 := Aside0.mk (Kd.R_below (Kd.R_elderB (kr_ HO_4.out) gb240 (Nat.le_of_eq hg.symm)) hb); replace HO_5 := Aside0.mk (Kd.R_below (kr_ HO_5.out) hb); have BK240 := Aside0.mk (hbox); have GW240 := Aside0.mk ((bz_ hg (lb0_ HB.out))); have GE240 := Aside0.mk ((bz_ hg (lb0_ HB.out))); replace HB := Aside0.mk (below_step (lb0_ HB.out) hb); clear hb hbox hg; obtain ⟨hcz17_0, hcz17_1⟩ := cz2_ BK240.out; obtain ⟨hfz17_0, hfz17_1⟩ := fz2_ BK240.out) | ((with_reducible refine gate_builtin (b := .append) (xs := #[.tmp 31, .tmp 33]) rfl ?_); at_builtin; refine Kd.R_append k27 (w0 := w) w.heap.size rfl (.tmp 31) (.tmp 33) 48 27 (.agg #[(.string ⟨#[]⟩), (.string ⟨#[]⟩)]) 32 rfl Tryd.underlying48 info27 rfl (by decide) (by omega) (.slice Ao14 x4_1.length co14) x4_1 (⟨t236, t237⟩ : S27) [.string t236, .string t237] (fun k_ => k_ ≠ gb240) (fun _ => False) rfl (by first | (go_simp; done) | (go_simp; rfl)) ?aP (fun _ hk => hk.elim) ?aF ?aO ?aB ?aS ?aL ?_; (case aP => exact k27_mkM _ _ _ (⟨t236, t237⟩ : S27)); (case aB => exact (lb1_ HB.out GE240.out)); (case aF => exact (fun k_ hk => Kd.freshB (g := gb240) (o := .cells #[.string t236, .string t237] 27 (0, 0)) (by (with_reducible repeat (first | refine blk_drewN ?_ _ | refine blk_drew ?_ | refine blk_alloc ?_ _)); refine blk_put (cs := #[.string t236, .string (⟨#[]⟩ : ByteArray)]) ?_ 1 _ rfl; (with_reducible repeat (first | refine blk_drewN ?_ _ | refine blk_drew ?_ | refine blk_alloc ?_ _)); refine blk_put (cs := #[.string (⟨#[]⟩ : ByteArray), .string (⟨#[]⟩ : ByteArray)]) ?_ 0 _ rfl; (with_reducible repeat (first | refine blk_drewN ?_ _ | refine blk_drew ?_ | refine blk_alloc ?_ _)); exact BK240.out) k_ hk)); (case aO => exact (by (with_reducible repeat (first | apply Kd.R_alloc | apply Kd.R_drewN | apply Kd.R_drew)); exact Kd.R_mono (Kd.R_far (p := ⟨gb240, 1, none⟩) (Kd.R_far (p := ⟨gb240, 0, none⟩) (Kd.R_mono HO_4.out (fun k_ hk => (⟨hk, hk.2⟩ : _ ∧ k_ ≠ gb240))) (fun _ hk => hk.2) (.string t236)) (fun _ hk => hk.2) (.string t237)) (fun _ hk => hk.1.2))); (case aS => exact (below_size (lb1_ HB.out GE240.out))); (case aL => have := LMc11.out; omega); intro v242 w18 ho hb hg hat; rw [← Ny241.out] at ho; replace HO_5 := Aside0.mk (Kd.R_over' (kg_ HO_5.out BK240.out) (Kd.R_typed (by (with_reducible repeat (first | apply Kd.R_alloc | apply Kd.R_drewN | apply Kd.R_drew)); exact (Kd.R_mono (Kd.R_far (p := ⟨gb240, 1, none⟩) (Kd.R_far (p := ⟨gb240, 0, none⟩) (Kd.R_mono HO_4.out (fun k_ hk => (⟨hk, hk.2⟩ : _ ∧ k_ ≠ gb240))) (fun _ hk => hk.2) (.string t236)) (fun _ hk => hk.2) (.string t237)) (fun _ h_ => h_.1)))) (by decide) hg); replace BK240 := Aside0.mk (blk_grown (g := gb240) (o := .cells #[.string t236, .string t237] 27 (0, 0)) (by (with_reducible repeat (first | refine blk_drewN ?_ _ | refine blk_drew ?_ | refine blk_alloc ?_ _)); refine blk_put (cs := #[.string t236, .string (⟨#[]⟩ : ByteArray)]) ?_ 1 _ rfl; (with_reducible repeat (first | refine blk_drewN ?_ _ | refine blk_drew ?_ | refine blk_alloc ?_ _)); refine blk_put (cs := #[.string (⟨#[]⟩ : ByteArray), .string (⟨#[]⟩ : ByteArray)]) ?_ 0 _ rfl; (with_reducible repeat (first | refine blk_drewN ?_ _ | refine blk_drew ?_ | refine blk_alloc ?_ _)); exact BK240.out) hg (Kd.R_away HO_4.out (fun _ hk => hk.2))); replace HB := Aside0.mk (hb); have HO243 := Aside0.mk (ho); clear HO_4; clear ho hb hg hat) | ((with_reducible refine gate_builtin (b := .append) (xs := #[.tmp 35, .tmp 39]) rfl ?_); at_builtin; refine Kd.R_append (Kd.int .i64) (w0 := w) w.heap.size rfl (.tmp 35) (.tmp 39) 66 3 (.int .i64 0) 8 rfl Tryd.underlying66 info3 rfl (by decide) (by omega) (.slice (some ad235) x5_1.length co13) x5_1 (wrap64 ((rd x5_1 (ji4)) + t238)) [.int .i64 (wrap64 ((rd x5_1 (ji4)) + t238))] (fun _ => True) (fun _ => False) rfl rfl ?aP (fun _ hk => hk.elim) ?aF ?aO ?aB ?aS ?aL ?_; (case aP => exact rfl); (case aB => exact (lb1_ HB.out GE240.out)); (case aF => exact (fun _ _ => trivial)); (case aO => exact (kr_ HO_5.out)); (case aS => exact (below_size (lb1_ HB.out GE240.out))); (case aL => have := LMc12.out; omega); intro v245 w19 ho hb hg hat; rw [← Ny244.out] at ho; replace BK240 := Aside0.mk (blk_grown (g := gb240) (o := .cells #[.string t236, .string t237] 27 (0, 0)) (bk_ BK240.out) hg (Kd.R_ne HO_5.out BK240.out (by decide))); replace HO243 := Aside0.mk (Kd.R_over' (kr_ HO243.out) (Kd.R_typed (kr_ HO_5.out)) (by decide) hg); replace HB := Aside0.mk (hb); have HO246 := Aside0.mk (ho); clear HO_5; clear ho hb hg hat))
          go_roundg k1
          case measure => have := HK1.out; omega
          case rel => exact ⟨(y241), (y244), H', ⟨by have := HK1.out; omega⟩, ⟨krm_ HO243.out (fun _ hk => trivial)⟩, ⟨kr_ HO246.out⟩, ⟨lb1_ HB.out GE240.out⟩⟩
         ·
          rw [if_neg c12] at H
          exact absurd H (by simp)
        ·
         rw [if_neg c11] at H
         exact absurd H (by simp)
       ·
        replace c10 := Bool.eq_false_iff.mpr c10; subst c10
        have H1 : (some (x4_1, x5_1)) = some (r1, r2) := by rw [if_neg (show ¬ (false = true) by decide)] at H; exact H
        clear H; have H := H1; clear H1; simp only [Option.some.injEq, Prod.mk.injEq] at H; obtain ⟨rfl, rfl⟩ := H; obtain ⟨Ao20, co20, eo20⟩ := Kd.R_slice HO_5.out; subst eo20; have p235 : 0 ≤ ((ji4) : Int) := dt_; have q235 : (ji4) < (x5_1.length : Int) := dt_; obtain ⟨ad235, e235, hx235_0⟩ := Kd.at_int (Kd.R_reads' HO_5.out).2.2 (ji4) p235 q235
        cases e235
        replace p235 := eq_true p235; replace q235 := eq_true q235; obtain ⟨Ao21, co21, eo21⟩ := Kd.R_slice HO_4.out; subst eo21
        go_wp2_with (first | ((with_reducible refine gate_callee (f := 70) rfl ?_); refine goesL_ (some 23) rfl rfl Tryd.func70 (by kernel_rfl) rfl #[.int .i64 (x4_1.length : Int), .string (sx a0 (((rd x5_1 (ji4)) : Int).toNat) (a0.size))] rfl (by (try simp only [List.map_toArray, List.map_cons, List.map_nil]); first | done | (simp only [hji4]; rfl) | rfl | (simp only [List.length_drop, List.length_take]; rfl)) ?_; (with_reducible refine (impl_readRecord.calls k1 (x4_1.length : Int) (sx a0 (((rd x5_1 (ji4)) : Int).toNat) (a0.size)) t236 t237 t238 false _ A9.out ?sideT).mono ?_); (case sideT => first | exact HT.out | exact Tb.step HT.out HB.out | exact Tb.step HT.out (by repeat (first | (with_reducible first | exact HB.out | apply below_alloc | apply pw_below_drewN | apply below_drew1 | refine below_set ?_ GE240.out) | exact HB.out | exact Below.refl _ _))); rintro e w22 ⟨rfl, hb⟩; refine ⟨_, rfl, ?_⟩; replace HO_4 := Aside0.mk (Kd.R_below (kr_ HO_4.out) hb); replace HO_5 := Aside0.mk (Kd.R_below (kr_ HO_5.out) hb); replace HB := Aside0.mk (below_step (lb0_ HB.out) hb); (try clear hb); (try clear hb2); (try clear hk); (try clear hi)) | ((with_reducible refine gate_dst (N := 7) rfl ?_); refine box_event ?hg (N := 7) ?hd (cs := #[.string (⟨#[]⟩ : ByteArray), .string (⟨#[]⟩ : ByteArray)]) (t := 27) ?hr ?_; (case hd => rfl); (case hg => rfl); (case hr => first | (go_simp; done) | (go_simp; rfl)); intro gb240 hg w23 hbox hb; replace HO_4 := Aside0.mk (Kd.R_below (Kd.R_elderB (kr_ HO_4.out) gb240 (Nat.le_of_eq hg.symm)) hb); replace HO_5 := Aside0.mk (Kd.R_below (kr_ HO_5.out) hb); have BK240 := Aside0.mk (hbox); have GW240 := Aside0.mk ((bz_ hg (lb0_ HB.out))); have GE240 := Aside0.mk ((bz_ hg (lb0_ HB.out))); replace HB := Aside0.mk (below_step (lb0_ HB.out) hb); clear hb hbox hg; obtain ⟨hcz24_0, hcz24_1⟩ := cz2_ BK240.out; obtain ⟨hfz24_0, hfz24_1⟩ := fz2_ BK240.out))
        go_ret2
        exact ⟨_, _, by first | rfl | (simp [errW_none, errW_some] <;> rfl) | (simp only [← hji4]; first | rfl | (simp [errW_none, errW_some] <;> rfl)) | (simp [*, errW_none, errW_some] <;> rfl), by (with_reducible repeat (first | apply Kd.R_alloc | apply Kd.R_drewN | apply Kd.R_drew)); exact Kd.R_mono (Kd.R_far (p := ⟨gb240, 1, none⟩) (Kd.R_far (p := ⟨gb240, 0, none⟩) (Kd.R_mono HO_4.out (fun k_ hk => (⟨hk, hk.2⟩ : _ ∧ k_ ≠ gb240))) (fun _ hk => hk.2) (.string t236)) (fun _ hk => hk.2) (.string t237)) (fun _ hk => trivial), by (with_reducible repeat (first | apply Kd.R_alloc | apply Kd.R_drewN | apply Kd.R_drew)); exact Kd.R_mono (Kd.R_far (p := ⟨gb240, 1, none⟩) (Kd.R_far (p := ⟨gb240, 0, none⟩) (Kd.R_types HO_5.out BK240.out (by decide)) (fun _ hk => hk.2) (.string t236)) (fun _ hk => hk.2) (.string t237)) (fun _ hk => trivial), lb1_ HB.out GE240.out⟩
      ·
       rw [if_neg c8] at H
       exact absurd H (by simp)
     ·
      rw [if_neg c7] at H
      exact absurd H (by simp)
    ·
     rw [if_neg c6] at H
     exact absurd H (by simp)
   ·
    rw [if_neg c5] at H
    exact absurd H (by simp)
def impl_RecoverLog.f (k : Nat) (a0 : ByteArray) : Option (ByteArray × ByteArray × Int × Int × Bool) := if (a0.size : Int) > 30000 then (some ((⟨#[]⟩ : ByteArray), (⟨#[]⟩ : ByteArray), 0, 0, false)) else ((impl_readRecords.f k a0).bind fun bt248 => (if 0 ≤ (wrap64 ((bt248.2.length : Int) - 1)) then (if (wrap64 ((bt248.2.length : Int) - 1)) < (bt248.2.length : Int) then (if 0 ≤ (rd bt248.2 (wrap64 ((bt248.2.length : Int) - 1))) then (if (rd bt248.2 (wrap64 ((bt248.2.length : Int) - 1))) ≤ (a0.size : Int) then (some (sx a0 (0) (((rd bt248.2 (wrap64 ((bt248.2.length : Int) - 1))) : Int).toNat), (⟨#[]⟩ : ByteArray), (bt248.1.length : Int), rd bt248.2 (wrap64 ((bt248.2.length : Int) - 1)), true)) else (none)) else (none)) else (none)) else (none)))
set_option maxHeartbeats 8000000 in
set_option maxRecDepth 100000 in
theorem impl_RecoverLog.calls (k : Nat) (a0 : ByteArray) (r1 : ByteArray) (r2 : ByteArray) (r3 : Int) (r4 : Int) (r5 : Bool) (w : World) (h : impl_RecoverLog.f k a0 = some (r1, r2, r3, r4, r5)) (hT : Tb w) :
  Calls Tryd.prog 18 #[.string a0] w fun e w' => e = .returned (.tuple #[.agg #[.string r1, .string r2, .int .i64 r3], .int .i64 r4, .bool r5]) ∧ Below w.heap.size w w' := by
 have HT := Aside0.mk hT
 clear hT
 have hu31 := Tryd.underlying31
 have HB := Aside0.mk (Below.refl w.heap.size w)
 have H : (if (a0.size : Int) > 30000 then (some ((⟨#[]⟩ : ByteArray), (⟨#[]⟩ : ByteArray), 0, 0, false)) else ((impl_readRecords.f k a0).bind fun bt248 => (if 0 ≤ (wrap64 ((bt248.2.length : Int) - 1)) then (if (wrap64 ((bt248.2.length : Int) - 1)) < (bt248.2.length : Int) then (if 0 ≤ (rd bt248.2 (wrap64 ((bt248.2.length : Int) - 1))) then (if (rd bt248.2 (wrap64 ((bt248.2.length : Int) - 1))) ≤ (a0.size : Int) then (some (sx a0 (0) (((rd bt248.2 (wrap64 ((bt248.2.length : Int) - 1))) : Int).toNat), (⟨#[]⟩ : ByteArray), (bt248.1.length : Int), rd bt248.2 (wrap64 ((bt248.2.length : Int) - 1)), true)) else (none)) else (none)) else (none)) else (none)))) = some (r1, r2, r3, r4, r5) := h
 clear h
 by_cases c2 : (a0.size : Int) > 30000
 ·
  rw [if_pos c2] at H
  have c2b0 : decide (30000 < (a0.size : Int)) = true := decide_eq_true c2
  have c2b1 : decide (30000 < a0.size) = true := decide_eq_true (by omega)
  clear c2
  simp only [Option.some.injEq, Prod.mk.injEq] at H
  obtain ⟨rfl, rfl, rfl, rfl, rfl⟩ := H
  go_enter Tryd.func18, Tryd.ntmps18
  go_wp2_with (first | ((with_reducible refine gate_dst (N := 2) rfl ?_); refine box_event ?hg (N := 2) ?hd (cs := #[.string (⟨#[]⟩ : ByteArray), .string (⟨#[]⟩ : ByteArray), .int .i64 0]) (t := 31) ?hr ?_; (case hd => rfl); (case hg => rfl); (case hr => first | (go_simp; done) | (go_simp; rfl)); intro gb247 hg w3 hbox hb; have BK247 := Aside0.mk (hbox); have GW247 := Aside0.mk ((bz_ hg (lb0_ HB.out))); have GE247 := Aside0.mk ((bz_ hg (lb0_ HB.out))); replace HB := Aside0.mk (below_step (lb0_ HB.out) hb); clear hb hbox hg; obtain ⟨hcz4_0, hcz4_1, hcz4_2⟩ := cz3_ BK247.out; obtain ⟨hfz4_0, hfz4_1, hfz4_2⟩ := fz3_ BK247.out))
  refine bodyPost_ret (results_ctt rfl _ _ gb247 31 #[.string (⟨#[]⟩ : ByteArray), .string (⟨#[]⟩ : ByteArray), .int .i64 0] (0, 0) _ rfl (by (with_reducible repeat (first | refine blk_drewN ?_ _ | refine blk_drew ?_ | refine blk_alloc ?_ _)); refine blk_put (cs := #[.string (⟨#[]⟩ : ByteArray), .string (⟨#[]⟩ : ByteArray), .int .i64 0]) ?_ 2 _ rfl; (with_reducible repeat (first | refine blk_drewN ?_ _ | refine blk_drew ?_ | refine blk_alloc ?_ _)); refine blk_put (cs := #[.string (⟨#[]⟩ : ByteArray), .string (⟨#[]⟩ : ByteArray), .int .i64 0]) ?_ 1 _ rfl; (with_reducible repeat (first | refine blk_drewN ?_ _ | refine blk_drew ?_ | refine blk_alloc ?_ _)); refine blk_put (cs := #[.string (⟨#[]⟩ : ByteArray), .string (⟨#[]⟩ : ByteArray), .int .i64 0]) ?_ 0 _ rfl; (with_reducible repeat (first | refine blk_drewN ?_ _ | refine blk_drew ?_ | refine blk_alloc ?_ _)); exact BK247.out) Tryd.underlying31 rfl (by kernel_rfl)) rfl ?_
  exact ⟨rr_, lb1_ HB.out GE247.out⟩
 ·
  rw [if_neg c2] at H
  have c2b0 : decide (30000 < (a0.size : Int)) = false := decide_eq_false c2
  have c2b1 : decide (30000 < a0.size) = false := decide_eq_false (by omega)
  clear c2
  replace H := Option.bind_eq_some_iff.mp H
  obtain ⟨⟨t248, t249⟩, A50, H⟩ := H
  replace H : (if 0 ≤ (wrap64 ((t249.length : Int) - 1)) then (if (wrap64 ((t249.length : Int) - 1)) < (t249.length : Int) then (if 0 ≤ (rd t249 (wrap64 ((t249.length : Int) - 1))) then (if (rd t249 (wrap64 ((t249.length : Int) - 1))) ≤ (a0.size : Int) then (some (sx a0 (0) (((rd t249 (wrap64 ((t249.length : Int) - 1))) : Int).toNat), (⟨#[]⟩ : ByteArray), (t248.length : Int), rd t249 (wrap64 ((t249.length : Int) - 1)), true)) else (none)) else (none)) else (none)) else (none)) = some (r1, r2, r3, r4, r5) := H
  have A5 := Aside0.mk A50
  clear A50
  obtain ⟨ji6, hji6⟩ : ∃ j_ : Int, (wrap64 ((t249.length : Int) - 1)) = j_ := ⟨_, rfl⟩
  replace H : (if 0 ≤ (ji6) then (if (ji6) < (t249.length : Int) then (if 0 ≤ (rd t249 (ji6)) then (if (rd t249 (ji6)) ≤ (a0.size : Int) then (some (sx a0 (0) (((rd t249 (ji6)) : Int).toNat), (⟨#[]⟩ : ByteArray), (t248.length : Int), rd t249 (ji6), true)) else (none)) else (none)) else (none)) else (none)) = some (r1, r2, r3, r4, r5) := by first | (rw [hji6] at H; exact H) | (simp only [hji6] at H ⊢; exact H)
  (try rw [hji6] at A5)
  have hji6w : (IntKind.i64.wrap ((t249.length : Int) - 1)) = ji6 := (i64_w _).trans hji6
  by_cases c7 : 0 ≤ (ji6)
  ·
   rw [if_pos c7] at H
   have c7b0 : decide (0 ≤ (ji6)) = true := decide_eq_true c7
   clear c7
   by_cases c8 : (ji6) < (t249.length : Int)
   ·
    rw [if_pos c8] at H
    have c8b0 : decide ((ji6) < (t249.length : Int)) = true := decide_eq_true c8
    clear c8
    by_cases c9 : 0 ≤ (rd t249 (ji6))
    ·
     rw [if_pos c9] at H
     have c9b0 := eq_true c9
     have c9b1 : decide (0 ≤ (rd t249 (ji6))) = true := decide_eq_true c9
     clear c9
     by_cases c10 : (rd t249 (ji6)) ≤ (a0.size : Int)
     ·
      rw [if_pos c10] at H
      have c10b0 := eq_true c10
      have c10b1 : decide ((rd t249 (ji6)) ≤ (a0.size : Int)) = true := decide_eq_true c10
      clear c10
      simp only [Option.some.injEq, Prod.mk.injEq] at H
      obtain ⟨rfl, rfl, rfl, rfl, rfl⟩ := H
      go_enter Tryd.func18, Tryd.ntmps18
      go_wp2_with (first | ((with_reducible refine gate_dst (N := 2) rfl ?_); refine box_event ?hg (N := 2) ?hd (cs := #[.string (⟨#[]⟩ : ByteArray), .string (⟨#[]⟩ : ByteArray), .int .i64 0]) (t := 31) ?hr ?_; (case hd => rfl); (case hg => rfl); (case hr => first | (go_simp; done) | (go_simp; rfl)); intro gb247 hg w11 hbox hb; have BK247 := Aside0.mk (hbox); have GW247 := Aside0.mk ((bz_ hg (lb0_ HB.out))); have GE247 := Aside0.mk ((bz_ hg (lb0_ HB.out))); replace HB := Aside0.mk (below_step (lb0_ HB.out) hb); clear hb hbox hg) | ((with_reducible refine gate_callee (f := 48) rfl ?_); refine ga_ (some 14) Tryd.func48 #[.string a0] ?_; (with_reducible refine (impl_readRecords.calls k a0 t248 t249 _ A5.out ?sideT).mono ?_); (case sideT => first | exact HT.out | exact Tb.step HT.out HB.out | exact Tb.step HT.out (by repeat (first | (with_reducible first | exact HB.out | apply below_alloc | apply pw_below_drewN | apply below_drew1 | refine below_set ?_ GE247.out) | exact HB.out | exact Below.refl _ _))); rintro e w12 ⟨v250, v252, rfl, ho0, ho1, hb⟩; refine ⟨_, rfl, ?_⟩; have HO251 := Aside0.mk (Kd.R_lower ho0 (below_size (lb1_ HB.out GE247.out))); have HO253 := Aside0.mk (Kd.R_lower ho1 (below_size (lb1_ HB.out GE247.out))); replace BK247 := Aside0.mk (bb_ (bk_ BK247.out) hb); replace HB := Aside0.mk (below_step (lb1_ HB.out GE247.out) hb); (try clear hb); (try clear hb2); (try clear hk); (try clear hi); (try clear ho0); (try clear ho1); obtain ⟨Ao13, co13, eo13⟩ := Kd.R_slice HO253.out; subst eo13; have p254 : 0 ≤ ((ji6) : Int) := dt_; have q254 : (ji6) < (t249.length : Int) := dt_; obtain ⟨ad254, e254, hx254_0⟩ := Kd.at_int (Kd.R_reads' HO253.out).2.2 (ji6) p254 q254; cases e254; replace p254 := eq_true p254; replace q254 := eq_true q254; obtain ⟨Ao14, co14, eo14⟩ := Kd.R_slice HO251.out; subst eo14; obtain ⟨hcz15_0, hcz15_1, hcz15_2⟩ := cz3_ BK247.out; obtain ⟨hfz15_0, hfz15_1, hfz15_2⟩ := fz3_ BK247.out))
      refine bodyPost_ret (results_ctt rfl _ _ gb247 31 #[.string (sx a0 (0) (((rd t249 (ji6)) : Int).toNat)), .string (⟨#[]⟩ : ByteArray), .int .i64 (t248.length : Int)] (0, 0) _ rfl (by (with_reducible repeat (first | refine blk_drewN ?_ _ | refine blk_drew ?_ | refine blk_alloc ?_ _)); refine blk_put (cs := #[.string (sx a0 (0) (((rd t249 (ji6)) : Int).toNat)), .string (⟨#[]⟩ : ByteArray), .int .i64 0]) ?_ 2 _ rfl; (with_reducible repeat (first | refine blk_drewN ?_ _ | refine blk_drew ?_ | refine blk_alloc ?_ _)); refine blk_put (cs := #[.string (sx a0 (0) (((rd t249 (ji6)) : Int).toNat)), .string (⟨#[]⟩ : ByteArray), .int .i64 0]) ?_ 1 _ rfl; (with_reducible repeat (first | refine blk_drewN ?_ _ | refine blk_drew ?_ | refine blk_alloc ?_ _)); refine blk_put (cs := #[.string (⟨#[]⟩ : ByteArray), .string (⟨#[]⟩ : ByteArray), .int .i64 0]) ?_ 0 _ rfl; (with_reducible repeat (first | refine blk_drewN ?_ _ | refine blk_drew ?_ | refine blk_alloc ?_ _)); exact BK247.out) Tryd.underlying31 rfl (by kernel_rfl)) rfl ?_
      exact ⟨by first | rfl | (simp [errW_none, errW_some] <;> rfl) | (simp only [← hji6]; first | rfl | (simp [errW_none, errW_some] <;> rfl)) | (simp [*, errW_none, errW_some] <;> rfl), lb1_ HB.out GE247.out⟩
     ·
      rw [if_neg c10] at H
      exact absurd H (by simp)
    ·
     rw [if_neg c9] at H
     exact absurd H (by simp)
   ·
    rw [if_neg c8] at H
    exact absurd H (by simp)
  ·
   rw [if_neg c7] at H
   exact absurd H (by simp)
def spec_l1Split.l0 : Nat → ByteArray → Int → List ByteArray → Int → Int → Option (List ByteArray)
 | 0, _, _, _, _, _ => none
 | k + 1, x0, x1, x5, x6, x7 => if x7 < (x0.size : Int) then (if 0 ≤ x7 then (if (bt x0 x7) = x1 then (if 0 ≤ x6 then (if x6 ≤ x7 then (if x7 ≤ (x0.size : Int) then (if x5.length < 8796093022208 then (spec_l1Split.l0 k x0 x1 (x5 ++ [sx x0 ((x6 : Int).toNat) ((x7 : Int).toNat)]) (wrap64 (x7 + 1)) (wrap64 (x7 + 1))) else (none)) else (none)) else (none)) else (none)) else (spec_l1Split.l0 k x0 x1 x5 x6 (wrap64 (x7 + 1)))) else (none)) else (if 0 ≤ x6 then (if x6 ≤ (x0.size : Int) then (if x5.length < 8796093022208 then (some (x5 ++ [sx x0 ((x6 : Int).toNat) (x0.size)])) else (none)) else (none)) else (none))
def spec_l1Split.f (k : Nat) (a0 : ByteArray) (a1 : Int) : Option (List ByteArray) := spec_l1Split.l0 k a0 a1 (([] : List ByteArray)) 0 0
set_option maxHeartbeats 8000000 in
set_option maxRecDepth 100000 in
theorem spec_l1Split.calls (k : Nat) (a0 : ByteArray) (a1 : Int) (r : List ByteArray) (w : World) (h : spec_l1Split.f k a0 a1 = some r) :
  Calls Tryd.prog 68 #[.string a0, .int .u8 a1] w fun e w' => ∃ v0_ : Value, e = .returned (v0_) ∧ Kd.R Kd.string 9 w' w.heap.size (fun _ => True) v0_ r ∧ Below w.heap.size w w' := by
 have HB := Aside0.mk (Below.refl w.heap.size w)
 have H : (spec_l1Split.l0 k a0 a1 (([] : List ByteArray)) 0 0) = some r := h
 clear h
 obtain ⟨y170, hy170⟩ : ∃ y_ : List ByteArray, y_ = (([] : List ByteArray)) := ⟨_, rfl⟩
 replace H : (spec_l1Split.l0 k a0 a1 y170 0 0) = some r := by first | (rw [hy170]; with_reducible exact H) | (have H2_ := (Option.bind_some _ _).symm.trans H; rw [hy170]; with_reducible exact H2_) | (have H2_ := (Option.bind_some _ _).symm.trans H; with_reducible exact H2_) | with_reducible exact H | (rw [hy170]; exact H) | exact H
 have Ny170 := Aside0.mk hy170
 clear hy170
 have H' := Aside0.mk H
 clear H
 go_enter Tryd.func68, Tryd.ntmps68
 go_wp2_with (first | ((with_reducible refine gate_dst (N := 8) rfl ?_); refine Kd.R_lit Kd.string _ 9 ?hg (N := 8) ?hd (xs := ([] : List ByteArray)) (inner := []) (ok := fun _ => True) (okp := fun _ => True) ?hr ?hp (fun _ hk => hk) trivial (Below.refl _ _) (Nat.le_refl _) (by simp) ?_; (case hd => rfl); (case hg => rfl); (case hr => first | (go_simp; done) | (go_simp; rfl)); (case hp => exact (Reps.none _ _)); intro v171 w3 ho4 hb hg_ hnew_; clear hg_ hnew_; replace ho4 := ry_ Ny170.out ho4; have HO172 := Aside0.mk (Kd.R_lower ho4 (below_size (lb0_ HB.out))); replace HB := Aside0.mk (below_step (lb0_ HB.out) hb); clear hb ho4))
 go_loopg [5, 6, 7] k (fun kq v5 v6 v7 w' => ∃ (x5_1 : List ByteArray) (x6_1 : Int) (x7_1 : Int), v6 = .int .i64 x6_1 ∧ v7 = .int .i64 x7_1 ∧ Aside0 (spec_l1Split.l0 kq a0 a1 x5_1 x6_1 x7_1 = some r) ∧ Aside0 (kq ≤ k) ∧ Aside0 (Kd.R Kd.string 9 w' w.heap.size (fun _ => True) v5 x5_1) ∧ Aside0 (Below w.heap.size w w'))
 case atStart => exact ⟨(y170), (0), (0), (by first | rfl | (simp; done) | (simp [*]; done)), (by first | rfl | (simp; done) | (simp [*]; done)), H', ⟨Nat.le_refl _⟩, ⟨kr_ HO172.out⟩, ⟨lb0_ HB.out⟩⟩
 case round =>
  clear H'
  try clear p2
  obtain ⟨x5_1, x6_1, x7_1, rfl, rfl, HA, HK1, HO_5, HB⟩ := hrel
  cases gk with
  | zero => exact absurd HA.out (by simp [spec_l1Split.l0])
  | succ k1 =>
   have H := HA.out
   clear HA
   simp only [spec_l1Split.l0] at H
   by_cases c5 : x7_1 < (a0.size : Int)
   ·
    rw [if_pos c5] at H
    have c5b0 : decide (x7_1 < (a0.size : Int)) = true := decide_eq_true c5
    clear c5
    by_cases c6 : 0 ≤ x7_1
    ·
     rw [if_pos c6] at H
     have c6b0 : decide (0 ≤ x7_1) = true := decide_eq_true c6
     clear c6
     by_cases c8 : (bt a0 x7_1) = a1
     ·
      rw [if_pos c8] at H
      have c8b0 : ((bt a0 x7_1) == a1) = true := beq_iff_eq.mpr c8
      have c8b1 : ((bt a0 x7_1) != a1) = false := bne_eq_false_iff_eq.mpr c8
      clear c8
      by_cases c9 : 0 ≤ x6_1
      ·
       rw [if_pos c9] at H
       have c9b0 := eq_true c9
       have c9b1 : decide (0 ≤ x6_1) = true := decide_eq_true c9
       clear c9
       by_cases c10 : x6_1 ≤ x7_1
       ·
        rw [if_pos c10] at H
        have c10b0 := eq_true c10; have c10b1 : decide (x6_1 ≤ x7_1) = true := decide_eq_true c10; clear c10
        by_cases c11 : x7_1 ≤ (a0.size : Int)
        ·
         rw [if_pos c11] at H
         have c11b0 := eq_true c11; have c11b1 : decide (x7_1 ≤ (a0.size : Int)) = true := decide_eq_true c11; clear c11
         by_cases c12 : x5_1.length < 8796093022208
         ·
          rw [if_pos c12] at H
          have LMc12 := Aside0.mk c12; clear c12
          obtain ⟨y173, hy173⟩ : ∃ y_ : List ByteArray, y_ = (x5_1 ++ [sx a0 ((x6_1 : Int).toNat) ((x7_1 : Int).toNat)]) := ⟨_, rfl⟩
          replace H : (spec_l1Split.l0 k1 a0 a1 y173 (wrap64 (x7_1 + 1)) (wrap64 (x7_1 + 1))) = some r := by first | (rw [hy173]; with_reducible exact H) | (have H2_ := (Option.bind_some _ _).symm.trans H; rw [hy173]; with_reducible exact H2_) | (have H2_ := (Option.bind_some _ _).symm.trans H; with_reducible exact H2_) | with_reducible exact H | (rw [hy173]; exact H) | exact H
          have Ny173 := Aside0.mk hy173; clear hy173; have H' := Aside0.mk H; clear H; have p7 : 0 ≤ (x7_1 : Int) := dt_; have q7 : x7_1 < (a0.size : Int) := dt_; have hx7 := bt_at a0 x7_1; replace p7 := eq_true p7; replace q7 := eq_true q7
          go_wp2_with (first | ((with_reducible refine gate_builtin (b := .append) (xs := #[.tmp 20, .tmp 25]) rfl ?_); at_builtin; refine Kd.R_append Kd.string (w0 := w) w.heap.size rfl (.tmp 20) (.tmp 25) 85 9 (.string ⟨#[]⟩) 16 rfl Tryd.underlying85 info9 rfl (by decide) (by omega) u5 x5_1 (sx a0 ((x6_1 : Int).toNat) ((x7_1 : Int).toNat)) [.string (sx a0 ((x6_1 : Int).toNat) ((x7_1 : Int).toNat))] (fun _ => True) (fun _ => False) rfl rfl ?aP (fun _ hk => hk.elim) ?aF ?aO ?aB ?aS ?aL ?_; (case aP => exact rfl); (case aB => exact (lb0_ HB.out)); (case aF => exact (fun _ _ => trivial)); (case aO => exact (kr_ HO_5.out)); (case aS => exact (below_size (lb0_ HB.out))); (case aL => have := LMc12.out; omega); intro v174 w13 ho hb hg hat; rw [← Ny173.out] at ho; replace HB := Aside0.mk (hb); have HO175 := Aside0.mk (ho); clear HO_5; clear ho hb hg hat))
          go_roundg k1
          case measure => have := HK1.out; omega
          case rel => exact ⟨(y173), (wrap64 (x7_1 + 1)), (wrap64 (x7_1 + 1)), (by first | rfl | (simp; done) | (simp [*]; done)), (by first | rfl | (simp; done) | (simp [*]; done)), H', ⟨by have := HK1.out; omega⟩, ⟨kr_ HO175.out⟩, ⟨lb0_ HB.out⟩⟩
         ·
          rw [if_neg c12] at H
          exact absurd H (by simp)
        ·
         rw [if_neg c11] at H
         exact absurd H (by simp)
       ·
        rw [if_neg c10] at H
        exact absurd H (by simp)
      ·
       rw [if_neg c9] at H
       exact absurd H (by simp)
     ·
      rw [if_neg c8] at H
      have c8b0 : ((bt a0 x7_1) == a1) = false := beq_eq_false_iff_ne.mpr c8
      have c8b1 : ((bt a0 x7_1) != a1) = true := bne_iff_ne.mpr c8
      have H' := Aside0.mk H
      clear H
      have p7 : 0 ≤ (x7_1 : Int) := dt_
      have q7 : x7_1 < (a0.size : Int) := dt_
      have hx7 := bt_at a0 x7_1
      replace p7 := eq_true p7
      replace q7 := eq_true q7
      go_wp2
      go_roundg k1
      case measure => have := HK1.out; omega
      case rel => exact ⟨(x5_1), (x6_1), (wrap64 (x7_1 + 1)), (by first | rfl | (simp; done) | (simp [*]; done)), (by first | rfl | (simp; done) | (simp [*]; done)), H', ⟨by have := HK1.out; omega⟩, ⟨kr_ HO_5.out⟩, ⟨lb0_ HB.out⟩⟩
    ·
     rw [if_neg c6] at H
     exact absurd H (by simp)
   ·
    rw [if_neg c5] at H
    have c5b0 : decide (x7_1 < (a0.size : Int)) = false := decide_eq_false c5
    clear c5
    by_cases c14 : 0 ≤ x6_1
    ·
     rw [if_pos c14] at H
     have c14b0 := eq_true c14
     have c14b1 : decide (0 ≤ x6_1) = true := decide_eq_true c14
     clear c14
     by_cases c15 : x6_1 ≤ (a0.size : Int)
     ·
      rw [if_pos c15] at H
      have c15b0 := eq_true c15
      have c15b1 : decide (x6_1 ≤ (a0.size : Int)) = true := decide_eq_true c15
      clear c15
      by_cases c16 : x5_1.length < 8796093022208
      ·
       rw [if_pos c16] at H
       have LMc16 := Aside0.mk c16
       clear c16
       obtain ⟨y176, hy176⟩ : ∃ y_ : List ByteArray, y_ = (x5_1 ++ [sx a0 ((x6_1 : Int).toNat) (a0.size)]) := ⟨_, rfl⟩
       replace H : (some y176) = some r := by first | (rw [hy176]; with_reducible exact H) | (have H2_ := (Option.bind_some _ _).symm.trans H; rw [hy176]; with_reducible exact H2_) | (have H2_ := (Option.bind_some _ _).symm.trans H; with_reducible exact H2_) | with_reducible exact H | (rw [hy176]; exact H) | exact H
       have Ny176 := Aside0.mk hy176
       clear hy176
       obtain rfl := Option.some.inj H
       go_wp2_with (first | ((with_reducible refine gate_builtin (b := .append) (xs := #[.tmp 29, .tmp 33]) rfl ?_); at_builtin; refine Kd.R_append Kd.string (w0 := w) w.heap.size rfl (.tmp 29) (.tmp 33) 85 9 (.string ⟨#[]⟩) 16 rfl Tryd.underlying85 info9 rfl (by decide) (by omega) u5 x5_1 (sx a0 ((x6_1 : Int).toNat) (a0.size)) [.string (sx a0 ((x6_1 : Int).toNat) (a0.size))] (fun _ => True) (fun _ => False) rfl rfl ?aP (fun _ hk => hk.elim) ?aF ?aO ?aB ?aS ?aL ?_; (case aP => exact rfl); (case aB => exact (lb0_ HB.out)); (case aF => exact (fun _ _ => trivial)); (case aO => exact (kr_ HO_5.out)); (case aS => exact (below_size (lb0_ HB.out))); (case aL => have := LMc16.out; omega); intro v177 w17 ho hb hg hat; rw [← Ny176.out] at ho; replace HB := Aside0.mk (hb); have HO178 := Aside0.mk (ho); clear HO_5; clear ho hb hg hat))
       go_ret
       exact ⟨_, rr_, kr_ HO178.out, lb0_ HB.out⟩
      ·
       rw [if_neg c16] at H
       exact absurd H (by simp)
     ·
      rw [if_neg c15] at H
      exact absurd H (by simp)
    ·
     rw [if_neg c14] at H
     exact absurd H (by simp)
end Go.Proofs.YtdpinnhgkocjhaaDoor.Pr

namespace Go.Proofs.YtdpinnhgkocjhaaDoor.Pr
open Go.RowKit Go.Proofs.YtdpinnhgkocjhaaDoorW.PrintWords Go.Proofs.YtdpinnhgkocjhaaDoorW.PrintLast Go.Proofs.YtdpinnhgkocjhaaDoorW.PrintMore
attribute [local go_sem] max2_int min2_int max_two min_two max_three min_three max_four min_four   -- for this text's walks alone
set_option linter.unusedVariables false
set_option linter.unusedSimpArgs false
def spec_l1In.f (a0 : Int) (a1 : Int) (a2 : Int) : Option (Bool) := if a0 ≥ a1 then (some (decide (a0 ≤ a2))) else (some false)
set_option maxHeartbeats 8000000 in
set_option maxRecDepth 100000 in
theorem spec_l1In.calls (a0 : Int) (a1 : Int) (a2 : Int) (r : Bool) (w : World) (h : spec_l1In.f a0 a1 a2 = some r) :
  Calls Tryd.prog 42 #[.int .i64 a0, .int .i64 a1, .int .i64 a2] w fun e w' => e = .returned (.bool r) ∧ Drawn0 w w' := by
 have H : (if a0 ≥ a1 then (some (decide (a0 ≤ a2))) else (some false)) = some r := h
 clear h
 by_cases c4 : a0 ≥ a1
 ·
  rw [if_pos c4] at H
  have c4b0 : decide (a1 ≤ a0) = true := decide_eq_true c4
  clear c4
  obtain rfl := Option.some.inj H
  go_enter Tryd.func42, Tryd.ntmps42
  go_wp2
  go_ret
  exact ⟨by first | rfl | (simp; done) | (simp [*]; done), by repeat (first | exact Drawn0.refl _ | apply Drawn0.step)⟩
 ·
  rw [if_neg c4] at H
  have c4b0 : decide (a1 ≤ a0) = false := decide_eq_false c4
  clear c4
  obtain rfl := Option.some.inj H
  go_enter Tryd.func42, Tryd.ntmps42
  go_wp2
  go_ret
  exact ⟨by first | rfl | (simp; done) | (simp [*]; done), by repeat (first | exact Drawn0.refl _ | apply Drawn0.step)⟩
def spec_l27Plain.l0 : Nat → ByteArray → Int → Int → Option (Bool)
 | 0, _, _, _ => none
 | k + 1, x0, x1, x5 => if x5 < (x0.size : Int) then (if 0 ≤ x5 then ((spec_l1In.f (wrap64 (bt x0 x5)) 32 126).bind fun t102 => (if t102 = true then (if (bt x0 x5) = 35 then (some false) else (spec_l27Plain.l0 k x0 x1 (wrap64 (x5 + 1)))) else (some false))) else (none)) else (some (decide ((x0.size : Int) ≤ x1)))
def spec_l27Plain.f (k : Nat) (a0 : ByteArray) (a1 : Int) : Option (Bool) := spec_l27Plain.l0 k a0 a1 0
set_option maxHeartbeats 8000000 in
set_option maxRecDepth 100000 in
theorem spec_l27Plain.calls (k : Nat) (a0 : ByteArray) (a1 : Int) (r : Bool) (w : World) (h : spec_l27Plain.f k a0 a1 = some r) :
  Calls Tryd.prog 62 #[.string a0, .int .i64 a1] w fun e w' => e = .returned (.bool r) ∧ Drawn0 w w' := by
 have H : (spec_l27Plain.l0 k a0 a1 0) = some r := h
 clear h
 have H' := Aside0.mk H
 clear H
 go_enter Tryd.func62, Tryd.ntmps62
 go_wp2
 go_loopg [5] k (fun kq v5 w' => ∃ (x5_1 : Int), v5 = .int .i64 x5_1 ∧ Aside0 (spec_l27Plain.l0 kq a0 a1 x5_1 = some r) ∧ Aside0 (kq ≤ k) ∧ Drawn0 w w')
 case atStart => exact ⟨(0), (by first | rfl | (simp; done) | (simp [*]; done)), H', ⟨Nat.le_refl _⟩, by repeat (first | exact Drawn0.refl _ | apply Drawn0.step)⟩
 case round =>
  clear H'
  try clear p2
  obtain ⟨x5_1, rfl, HA, HK1, ⟨m1, rfl⟩⟩ := hrel
  cases gk with
  | zero => exact absurd HA.out (by simp [spec_l27Plain.l0])
  | succ k1 =>
   have H := HA.out
   clear HA
   simp only [spec_l27Plain.l0] at H
   by_cases c3 : x5_1 < (a0.size : Int)
   ·
    rw [if_pos c3] at H
    have c3b0 : decide (x5_1 < (a0.size : Int)) = true := decide_eq_true c3
    clear c3
    by_cases c4 : 0 ≤ x5_1
    ·
     rw [if_pos c4] at H
     have c4b0 : decide (0 ≤ x5_1) = true := decide_eq_true c4
     clear c4
     replace H := Option.bind_eq_some_iff.mp H
     obtain ⟨t102, A60, H⟩ := H
     replace H : (if t102 = true then (if (bt a0 x5_1) = 35 then (some false) else (spec_l27Plain.l0 k1 a0 a1 (wrap64 (x5_1 + 1)))) else (some false)) = some r := H
     have A6 := Aside0.mk A60
     clear A60
     by_cases c7 : t102 = true
     ·
      subst c7
      have H1 : (if (bt a0 x5_1) = 35 then (some false) else (spec_l27Plain.l0 k1 a0 a1 (wrap64 (x5_1 + 1)))) = some r := by rw [if_pos rfl] at H; exact H
      clear H
      have H := H1
      clear H1
      by_cases c9 : (bt a0 x5_1) = 35
      ·
       rw [if_pos c9] at H
       have c9b0 : ((bt a0 x5_1) == 35) = true := beq_iff_eq.mpr c9
       have c9b1 : ((bt a0 x5_1) != 35) = false := bne_eq_false_iff_eq.mpr c9
       clear c9
       obtain rfl := Option.some.inj H
       have p5 : 0 ≤ (x5_1 : Int) := dt_
       have q5 : x5_1 < (a0.size : Int) := dt_
       have hx5 := bt_at a0 x5_1
       replace p5 := eq_true p5
       replace q5 := eq_true q5
       go_wp2_with (first | ((with_reducible refine gate_callee (f := 42) rfl ?_); refine ga_ (some 16) Tryd.func42 #[.int .i64 (wrap64 (bt a0 x5_1)), .int .i64 32, .int .i64 126] ?_; (with_reducible refine (spec_l1In.calls (wrap64 (bt a0 x5_1)) 32 126 true _ A6.out).mono ?_); rintro e w' ⟨rfl, ⟨nd, rfl⟩⟩; refine ⟨_, rfl, ?_⟩; have p8 : 0 ≤ (x5_1 : Int) := dt_; have q8 : x5_1 < (a0.size : Int) := dt_; have hx8 := bt_at a0 x5_1; replace p8 := eq_true p8; replace q8 := eq_true q8))
       go_ret
       exact ⟨by first | rfl | (simp; done) | (simp [*]; done), by repeat (first | exact Drawn0.refl _ | apply Drawn0.step)⟩
      ·
       rw [if_neg c9] at H
       have c9b0 : ((bt a0 x5_1) == 35) = false := beq_eq_false_iff_ne.mpr c9
       have c9b1 : ((bt a0 x5_1) != 35) = true := bne_iff_ne.mpr c9
       have H' := Aside0.mk H
       clear H
       have p5 : 0 ≤ (x5_1 : Int) := dt_
       have q5 : x5_1 < (a0.size : Int) := dt_
       have hx5 := bt_at a0 x5_1
       replace p5 := eq_true p5
       replace q5 := eq_true q5
       go_wp2_with (first | ((with_reducible refine gate_callee (f := 42) rfl ?_); refine ga_ (some 16) Tryd.func42 #[.int .i64 (wrap64 (bt a0 x5_1)), .int .i64 32, .int .i64 126] ?_; (with_reducible refine (spec_l1In.calls (wrap64 (bt a0 x5_1)) 32 126 true _ A6.out).mono ?_); rintro e w' ⟨rfl, ⟨nd, rfl⟩⟩; refine ⟨_, rfl, ?_⟩; have p8 : 0 ≤ (x5_1 : Int) := dt_; have q8 : x5_1 < (a0.size : Int) := dt_; have hx8 := bt_at a0 x5_1; replace p8 := eq_true p8; replace q8 := eq_true q8))
       go_roundg k1
       case measure => have := HK1.out; omega
       case rel => exact ⟨(wrap64 (x5_1 + 1)), (by first | rfl | (simp; done) | (simp [*]; done)), H', ⟨by have := HK1.out; omega⟩, by repeat (first | exact Drawn0.refl _ | apply Drawn0.step)⟩
     ·
      replace c7 := Bool.eq_false_iff.mpr c7
      subst c7
      have H1 : (some false) = some r := by rw [if_neg (show ¬ (false = true) by decide)] at H; exact H
      clear H
      have H := H1
      clear H1
      obtain rfl := Option.some.inj H
      have p5 : 0 ≤ (x5_1 : Int) := dt_
      have q5 : x5_1 < (a0.size : Int) := dt_
      have hx5 := bt_at a0 x5_1
      replace p5 := eq_true p5
      replace q5 := eq_true q5
      go_wp2_with (first | ((with_reducible refine gate_callee (f := 42) rfl ?_); refine ga_ (some 16) Tryd.func42 #[.int .i64 (wrap64 (bt a0 x5_1)), .int .i64 32, .int .i64 126] ?_; (with_reducible refine (spec_l1In.calls (wrap64 (bt a0 x5_1)) 32 126 false _ A6.out).mono ?_); rintro e w' ⟨rfl, ⟨nd, rfl⟩⟩; refine ⟨_, rfl, ?_⟩))
      go_ret
      exact ⟨by first | rfl | (simp; done) | (simp [*]; done), by repeat (first | exact Drawn0.refl _ | apply Drawn0.step)⟩
    ·
     rw [if_neg c4] at H
     exact absurd H (by simp)
   ·
    rw [if_neg c3] at H
    have c3b0 : decide (x5_1 < (a0.size : Int)) = false := decide_eq_false c3
    clear c3
    obtain rfl := Option.some.inj H
    go_wp2
    go_ret
    exact ⟨by first | rfl | (simp; done) | (simp [*]; done), by repeat (first | exact Drawn0.refl _ | apply Drawn0.step)⟩
def spec_l1Stands.l0 : Nat → ByteArray → Int → Int → Option (Bool)
 | 0, _, _, _ => none
 | k + 1, x0, x1, x5 => if x5 < (x0.size : Int) then (if 0 ≤ x5 then (if (bt x0 x5) = x1 then (some true) else (spec_l1Stands.l0 k x0 x1 (wrap64 (x5 + 1)))) else (none)) else (some false)
def spec_l1Stands.f (k : Nat) (a0 : ByteArray) (a1 : Int) : Option (Bool) := spec_l1Stands.l0 k a0 a1 0
set_option maxHeartbeats 8000000 in
set_option maxRecDepth 100000 in
theorem spec_l1Stands.calls (k : Nat) (a0 : ByteArray) (a1 : Int) (r : Bool) (w : World) (h : spec_l1Stands.f k a0 a1 = some r) :
  Calls Tryd.prog 63 #[.string a0, .int .u8 a1] w fun e w' => e = .returned (.bool r) ∧ Drawn0 w w' := by
 have H : (spec_l1Stands.l0 k a0 a1 0) = some r := h
 clear h
 have H' := Aside0.mk H
 clear H
 go_enter Tryd.func63, Tryd.ntmps63
 go_wp2
 go_loopg [5] k (fun kq v5 w' => ∃ (x5_1 : Int), v5 = .int .i64 x5_1 ∧ Aside0 (spec_l1Stands.l0 kq a0 a1 x5_1 = some r) ∧ Aside0 (kq ≤ k) ∧ Drawn0 w w')
 case atStart => exact ⟨(0), (by first | rfl | (simp; done) | (simp [*]; done)), H', ⟨Nat.le_refl _⟩, by repeat (first | exact Drawn0.refl _ | apply Drawn0.step)⟩
 case round =>
  clear H'
  try clear p2
  obtain ⟨x5_1, rfl, HA, HK1, ⟨m1, rfl⟩⟩ := hrel
  cases gk with
  | zero => exact absurd HA.out (by simp [spec_l1Stands.l0])
  | succ k1 =>
   have H := HA.out
   clear HA
   simp only [spec_l1Stands.l0] at H
   by_cases c3 : x5_1 < (a0.size : Int)
   ·
    rw [if_pos c3] at H
    have c3b0 : decide (x5_1 < (a0.size : Int)) = true := decide_eq_true c3
    clear c3
    by_cases c4 : 0 ≤ x5_1
    ·
     rw [if_pos c4] at H
     have c4b0 : decide (0 ≤ x5_1) = true := decide_eq_true c4
     clear c4
     by_cases c6 : (bt a0 x5_1) = a1
     ·
      rw [if_pos c6] at H
      have c6b0 : ((bt a0 x5_1) == a1) = true := beq_iff_eq.mpr c6
      have c6b1 : ((bt a0 x5_1) != a1) = false := bne_eq_false_iff_eq.mpr c6
      clear c6
      obtain rfl := Option.some.inj H
      have p5 : 0 ≤ (x5_1 : Int) := dt_
      have q5 : x5_1 < (a0.size : Int) := dt_
      have hx5 := bt_at a0 x5_1
      replace p5 := eq_true p5
      replace q5 := eq_true q5
      go_wp2
      go_ret
      exact ⟨by first | rfl | (simp; done) | (simp [*]; done), by repeat (first | exact Drawn0.refl _ | apply Drawn0.step)⟩
     ·
      rw [if_neg c6] at H
      have c6b0 : ((bt a0 x5_1) == a1) = false := beq_eq_false_iff_ne.mpr c6
      have c6b1 : ((bt a0 x5_1) != a1) = true := bne_iff_ne.mpr c6
      have H' := Aside0.mk H
      clear H
      have p5 : 0 ≤ (x5_1 : Int) := dt_
      have q5 : x5_1 < (a0.size : Int) := dt_
      have hx5 := bt_at a0 x5_1
      replace p5 := eq_true p5
      replace q5 := eq_true q5
      go_wp2
      go_roundg k1
      case measure => have := HK1.out; omega
      case rel => exact ⟨(wrap64 (x5_1 + 1)), (by first | rfl | (simp; done) | (simp [*]; done)), H', ⟨by have := HK1.out; omega⟩, by repeat (first | exact Drawn0.refl _ | apply Drawn0.step)⟩
    ·
     rw [if_neg c4] at H
     exact absurd H (by simp)
   ·
    rw [if_neg c3] at H
    have c3b0 : decide (x5_1 < (a0.size : Int)) = false := decide_eq_false c3
    clear c3
    obtain rfl := Option.some.inj H
    go_wp2
    go_ret
    exact ⟨by first | rfl | (simp; done) | (simp [*]; done), by repeat (first | exact Drawn0.refl _ | apply Drawn0.step)⟩
def spec_l27Good.f (k : Nat) (a0_0 : ByteArray) (a0_1 : ByteArray) : Option (Bool) := if a0_0.toList = ([] : List UInt8) then (some false) else ((spec_l27Plain.f k a0_0 160).bind fun t104 => (if t104 = true then ((spec_l1Stands.f k a0_0 64).bind fun t105 => (if t105 = true then (some false) else ((spec_l27Plain.f k a0_1 200).bind fun t106 => (some t106)))) else (some false)))
set_option maxHeartbeats 8000000 in
set_option maxRecDepth 100000 in
theorem spec_l27Good.calls (k : Nat) (a0_0 : ByteArray) (a0_1 : ByteArray) (r : Bool) (w : World) (h : spec_l27Good.f k a0_0 a0_1 = some r) :
  Calls Tryd.prog 43 #[.agg #[.string a0_0, .string a0_1]] w fun e w' => e = .returned (.bool r) ∧ Below w.heap.size w w' := by
 have hu27 := Tryd.underlying27
 have HB := Aside0.mk (Below.refl w.heap.size w)
 have H : (if a0_0.toList = ([] : List UInt8) then (some false) else ((spec_l27Plain.f k a0_0 160).bind fun t104 => (if t104 = true then ((spec_l1Stands.f k a0_0 64).bind fun t105 => (if t105 = true then (some false) else ((spec_l27Plain.f k a0_1 200).bind fun t106 => (some t106)))) else (some false)))) = some r := h
 clear h
 by_cases c2 : a0_0.toList = ([] : List UInt8)
 ·
  rw [if_pos c2] at H
  have c2b0 : (a0_0.toList == ([] : List UInt8)) = true := beq_iff_eq.mpr c2
  have c2b1 : (a0_0.toList != ([] : List UInt8)) = false := bne_eq_false_iff_eq.mpr c2
  clear c2
  obtain rfl := Option.some.inj H
  go_enter Tryd.func43, Tryd.ntmps43
  go_wp2_with (first | ((with_reducible refine gate_dst (N := 1) rfl ?_); refine box_event ?hg (N := 1) ?hd (cs := #[.string a0_0, .string a0_1]) (t := 27) ?hr ?_; (case hd => rfl); (case hg => rfl); (case hr => first | (go_simp; done) | (go_simp; rfl)); intro gb103 hg w3 hbox hb; have BK103 := Aside0.mk (hbox); have GW103 := Aside0.mk ((bz_ hg (lb0_ HB.out))); have GE103 := Aside0.mk ((bz_ hg (lb0_ HB.out))); replace HB := Aside0.mk (below_step (lb0_ HB.out) hb); clear hb hbox hg; obtain ⟨hcz4_0, hcz4_1⟩ := cz2_ BK103.out; obtain ⟨hfz4_0, hfz4_1⟩ := fz2_ BK103.out))
  go_ret
  exact ⟨rr_, lb1_ HB.out GE103.out⟩
 ·
  rw [if_neg c2] at H
  have c2b0 : (a0_0.toList == ([] : List UInt8)) = false := beq_eq_false_iff_ne.mpr c2
  have c2b1 : (a0_0.toList != ([] : List UInt8)) = true := bne_iff_ne.mpr c2
  replace H := Option.bind_eq_some_iff.mp H
  obtain ⟨t104, A50, H⟩ := H
  replace H : (if t104 = true then ((spec_l1Stands.f k a0_0 64).bind fun t105 => (if t105 = true then (some false) else ((spec_l27Plain.f k a0_1 200).bind fun t106 => (some t106)))) else (some false)) = some r := H
  have A5 := Aside0.mk A50
  clear A50
  by_cases c6 : t104 = true
  ·
   subst c6
   have H1 : ((spec_l1Stands.f k a0_0 64).bind fun t105 => (if t105 = true then (some false) else ((spec_l27Plain.f k a0_1 200).bind fun t106 => (some t106)))) = some r := by rw [if_pos rfl] at H; exact H
   clear H
   have H := H1
   clear H1
   replace H := Option.bind_eq_some_iff.mp H
   obtain ⟨t105, A70, H⟩ := H
   replace H : (if t105 = true then (some false) else ((spec_l27Plain.f k a0_1 200).bind fun t106 => (some t106))) = some r := H
   have A7 := Aside0.mk A70
   clear A70
   by_cases c8 : t105 = true
   ·
    subst c8
    have H1 : (some false) = some r := by rw [if_pos rfl] at H; exact H
    clear H
    have H := H1
    clear H1
    obtain rfl := Option.some.inj H
    go_enter Tryd.func43, Tryd.ntmps43
    go_wp2_with (first | ((with_reducible refine gate_dst (N := 1) rfl ?_); refine box_event ?hg (N := 1) ?hd (cs := #[.string a0_0, .string a0_1]) (t := 27) ?hr ?_; (case hd => rfl); (case hg => rfl); (case hr => first | (go_simp; done) | (go_simp; rfl)); intro gb103 hg w9 hbox hb; have BK103 := Aside0.mk (hbox); have GW103 := Aside0.mk ((bz_ hg (lb0_ HB.out))); have GE103 := Aside0.mk ((bz_ hg (lb0_ HB.out))); replace HB := Aside0.mk (below_step (lb0_ HB.out) hb); clear hb hbox hg; obtain ⟨hcz10_0, hcz10_1⟩ := cz2_ BK103.out; obtain ⟨hfz10_0, hfz10_1⟩ := fz2_ BK103.out) | (go_at_call 62; (with_reducible refine (spec_l27Plain.calls k a0_0 160 true _ A5.out).mono ?_); rintro e w' ⟨rfl, ⟨nd, rfl⟩⟩) | (go_at_call 63; (with_reducible refine (spec_l1Stands.calls k a0_0 64 true _ A7.out).mono ?_); rintro e w' ⟨rfl, ⟨nd, rfl⟩⟩))
    go_ret
    exact ⟨rr_, lb1_ HB.out GE103.out⟩
   ·
    replace c8 := Bool.eq_false_iff.mpr c8
    subst c8
    have H1 : ((spec_l27Plain.f k a0_1 200).bind fun t106 => (some t106)) = some r := by rw [if_neg (show ¬ (false = true) by decide)] at H; exact H
    clear H
    have H := H1
    clear H1
    replace H := Option.bind_eq_some_iff.mp H
    obtain ⟨t106, A110, H⟩ := H
    replace H : (some t106) = some r := H
    have A11 := Aside0.mk A110
    clear A110
    obtain rfl := Option.some.inj H
    go_enter Tryd.func43, Tryd.ntmps43
    go_wp2_with (first | ((with_reducible refine gate_dst (N := 1) rfl ?_); refine box_event ?hg (N := 1) ?hd (cs := #[.string a0_0, .string a0_1]) (t := 27) ?hr ?_; (case hd => rfl); (case hg => rfl); (case hr => first | (go_simp; done) | (go_simp; rfl)); intro gb103 hg w12 hbox hb; have BK103 := Aside0.mk (hbox); have GW103 := Aside0.mk ((bz_ hg (lb0_ HB.out))); have GE103 := Aside0.mk ((bz_ hg (lb0_ HB.out))); replace HB := Aside0.mk (below_step (lb0_ HB.out) hb); clear hb hbox hg; obtain ⟨hcz13_0, hcz13_1⟩ := cz2_ BK103.out; obtain ⟨hfz13_0, hfz13_1⟩ := fz2_ BK103.out) | (go_at_call 62; (with_reducible refine (spec_l27Plain.calls k a0_0 160 true _ A5.out).mono ?_); rintro e w' ⟨rfl, ⟨nd, rfl⟩⟩) | (go_at_call 63; (with_reducible refine (spec_l1Stands.calls k a0_0 64 false _ A7.out).mono ?_); rintro e w' ⟨rfl, ⟨nd, rfl⟩⟩) | (go_at_call 62; (with_reducible refine (spec_l27Plain.calls k a0_1 200 t106 _ A11.out).mono ?_); rintro e w' ⟨rfl, ⟨nd, rfl⟩⟩))
    go_ret
    exact ⟨rr_, lb1_ HB.out GE103.out⟩
  ·
   replace c6 := Bool.eq_false_iff.mpr c6
   subst c6
   have H1 : (some false) = some r := by rw [if_neg (show ¬ (false = true) by decide)] at H; exact H
   clear H
   have H := H1
   clear H1
   obtain rfl := Option.some.inj H
   go_enter Tryd.func43, Tryd.ntmps43
   go_wp2_with (first | ((with_reducible refine gate_dst (N := 1) rfl ?_); refine box_event ?hg (N := 1) ?hd (cs := #[.string a0_0, .string a0_1]) (t := 27) ?hr ?_; (case hd => rfl); (case hg => rfl); (case hr => first | (go_simp; done) | (go_simp; rfl)); intro gb103 hg w14 hbox hb; have BK103 := Aside0.mk (hbox); have GW103 := Aside0.mk ((bz_ hg (lb0_ HB.out))); have GE103 := Aside0.mk ((bz_ hg (lb0_ HB.out))); replace HB := Aside0.mk (below_step (lb0_ HB.out) hb); clear hb hbox hg; obtain ⟨hcz15_0, hcz15_1⟩ := cz2_ BK103.out; obtain ⟨hfz15_0, hfz15_1⟩ := fz2_ BK103.out) | (go_at_call 62; (with_reducible refine (spec_l27Plain.calls k a0_0 160 false _ A5.out).mono ?_); rintro e w' ⟨rfl, ⟨nd, rfl⟩⟩))
   go_ret
   exact ⟨rr_, lb1_ HB.out GE103.out⟩
end Go.Proofs.YtdpinnhgkocjhaaDoor.Pr

namespace Go.Proofs.YtdpinnhgkocjhaaDoor.Pr
open Go.RowKit Go.Proofs.YtdpinnhgkocjhaaDoorW.PrintWords Go.Proofs.YtdpinnhgkocjhaaDoorW.PrintLast Go.Proofs.YtdpinnhgkocjhaaDoorW.PrintMore
attribute [local go_sem] max2_int min2_int max_two min_two max_three min_three max_four min_four sc_in sx_in   -- for this text's walks alone
set_option linter.unusedVariables false
set_option linter.unusedSimpArgs false
def spec_l1Num.f : Nat → Int → Option (ByteArray)
 | 0, _ => none
 | k + 1, a0 => if a0 < 0 then ((spec_l1Num.f k (wrap64 (-a0))).bind fun t107 => (if 1 + t107.size ≤ 9223372036854775807 then (some (sc (⟨#[45]⟩ : ByteArray) t107)) else (none))) else (if a0 < 10 then (if 0 ≤ a0 then (if a0 ≤ (wrap64 (a0 + 1)) then (if (wrap64 (a0 + 1)) ≤ 10 then (some (sx (⟨#[48, 49, 50, 51, 52, 53, 54, 55, 56, 57]⟩ : ByteArray) ((a0 : Int).toNat) (((wrap64 (a0 + 1)) : Int).toNat))) else (none)) else (none)) else (none)) else ((spec_l1Num.f k (wrap64 (Int.tdiv a0 10))).bind fun t108 => (if 0 ≤ (Int.tmod a0 10) then (if (Int.tmod a0 10) ≤ (wrap64 ((Int.tmod a0 10) + 1)) then (if (wrap64 ((Int.tmod a0 10) + 1)) ≤ 10 then (if t108.size + (sx (⟨#[48, 49, 50, 51, 52, 53, 54, 55, 56, 57]⟩ : ByteArray) (((Int.tmod a0 10) : Int).toNat) (((wrap64 ((Int.tmod a0 10) + 1)) : Int).toNat)).size ≤ 9223372036854775807 then (some (sc t108 (sx (⟨#[48, 49, 50, 51, 52, 53, 54, 55, 56, 57]⟩ : ByteArray) (((Int.tmod a0 10) : Int).toNat) (((wrap64 ((Int.tmod a0 10) + 1)) : Int).toNat)))) else (none)) else (none)) else (none)) else (none))))
def spec_l1Num.T5 : Bool × List (List Nat × List Nat) := (true, [([], []), ([0], [0]), ([1], [1]), ([], []), ([3], [3]), ([], []), ([5], [5]), ([6], [6]), ([4, 7], [4, 7]), ([2, 8], [2, 8]), ([9, 2, 0, 1, 2, 3, 4, 5, 6, 7, 8, 9], [9])])
def spec_l1Num.B5 : List Nat := [0, 1, 3, 0, 8, 0, 32, 96, 248, 511, 1023]
theorem spec_l1Num.tab5 : rtab .any (opsOf Tryd.f65 5) = spec_l1Num.T5 := by kernel_rfl
theorem spec_l1Num.bits5 : waitsOk spec_l1Num.T5.2 spec_l1Num.B5 = true := by kernel_rfl
abbrev spec_l1Num.mk0 : Array Bool := #[false, false, false, false, false, false, false, false, false, false, false]
abbrev spec_l1Num.mk1 : Array Bool := #[true, false, false, false, false, false, false, false, false, false, false]
abbrev spec_l1Num.mk2 : Array Bool := #[true, true, false, false, false, false, false, false, false, false, false]
abbrev spec_l1Num.mk3 : Array Bool := #[true, true, false, true, false, false, false, false, false, false, false]
abbrev spec_l1Num.mk4 : Array Bool := #[true, true, false, true, true, false, false, false, false, false, false]
abbrev spec_l1Num.mk5 : Array Bool := #[true, true, false, true, true, true, false, false, false, false, false]
abbrev spec_l1Num.mk6 : Array Bool := #[true, true, false, true, true, true, true, false, false, false, false]
abbrev spec_l1Num.mk7 : Array Bool := #[true, true, false, true, true, true, true, true, false, false, false]
abbrev spec_l1Num.mk8 : Array Bool := #[true, true, false, true, true, true, true, true, true, false, false]
abbrev spec_l1Num.mk9 : Array Bool := #[true, true, true, true, true, true, true, true, true, false, false]
abbrev spec_l1Num.mk10 : Array Bool := #[true, true, true, true, true, true, true, true, true, true, false]
abbrev spec_l1Num.mk11 : Array Bool := #[true, true, true, true, true, true, true, true, true, true, true]
set_option maxHeartbeats 8000000 in
set_option maxRecDepth 100000 in
theorem spec_l1Num.calls (k : Nat) : ∀ (a0 : Int) (r : ByteArray) (w : World) (h : spec_l1Num.f k a0 = some r),
  Calls Tryd.prog 65 #[.int .i64 a0] w fun e w' => e = .returned (.string r) ∧ Below w.heap.size w w' := by
 induction k using Nat.strongRecOn with
 | _ k ih =>
 intro a0 r w h
 cases k with
 | zero => exact absurd h (by simp [spec_l1Num.f])
 | succ k =>
 simp only [spec_l1Num.f] at h
 have HB := Aside0.mk (Below.refl w.heap.size w)
 have H : (if a0 < 0 then ((spec_l1Num.f k (wrap64 (-a0))).bind fun t107 => (if 1 + t107.size ≤ 9223372036854775807 then (some (sc (⟨#[45]⟩ : ByteArray) t107)) else (none))) else (if a0 < 10 then (if 0 ≤ a0 then (if a0 ≤ (wrap64 (a0 + 1)) then (if (wrap64 (a0 + 1)) ≤ 10 then (some (sx (⟨#[48, 49, 50, 51, 52, 53, 54, 55, 56, 57]⟩ : ByteArray) ((a0 : Int).toNat) (((wrap64 (a0 + 1)) : Int).toNat))) else (none)) else (none)) else (none)) else ((spec_l1Num.f k (wrap64 (Int.tdiv a0 10))).bind fun t108 => (if 0 ≤ (Int.tmod a0 10) then (if (Int.tmod a0 10) ≤ (wrap64 ((Int.tmod a0 10) + 1)) then (if (wrap64 ((Int.tmod a0 10) + 1)) ≤ 10 then (if t108.size + (sx (⟨#[48, 49, 50, 51, 52, 53, 54, 55, 56, 57]⟩ : ByteArray) (((Int.tmod a0 10) : Int).toNat) (((wrap64 ((Int.tmod a0 10) + 1)) : Int).toNat)).size ≤ 9223372036854775807 then (some (sc t108 (sx (⟨#[48, 49, 50, 51, 52, 53, 54, 55, 56, 57]⟩ : ByteArray) (((Int.tmod a0 10) : Int).toNat) (((wrap64 ((Int.tmod a0 10) + 1)) : Int).toNat)))) else (none)) else (none)) else (none)) else (none))))) = some r := h
 clear h
 by_cases c2 : a0 < 0
 ·
  rw [if_pos c2] at H
  have c2b0 : decide (a0 < 0) = true := decide_eq_true c2
  clear c2
  replace H := Option.bind_eq_some_iff.mp H
  obtain ⟨t107, A30, H⟩ := H
  replace H : (if 1 + t107.size ≤ 9223372036854775807 then (some (sc (⟨#[45]⟩ : ByteArray) t107)) else (none)) = some r := H
  have A3 := Aside0.mk A30
  clear A30
  by_cases c4 : 1 + t107.size ≤ 9223372036854775807
  ·
   rw [if_pos c4] at H
   have c4b0 := eq_true c4
   have c4b1 : decide (1 + t107.size ≤ 9223372036854775807) = true := decide_eq_true c4
   try have c4b2 : (9223372036854775807 < 1 + t107.size) = False := eq_false (Nat.not_lt.2 c4)
   obtain rfl := Option.some.inj H
   go_enter Tryd.func65, Tryd.ntmps65
   go_wp2_with (first | ((with_reducible refine gate_callee (f := 65) rfl ?_); refine ga_ (some 7) Tryd.func65 #[.int .i64 (wrap64 (-a0))] ?_; (with_reducible refine (ih k (by omega) (wrap64 (-a0)) t107 _ A3.out).mono ?_); rintro e w5 ⟨rfl, hb⟩; refine ⟨_, rfl, ?_⟩; replace HB := Aside0.mk (below_step (lb0_ HB.out) hb); (try clear hb); (try clear hb2); (try clear hk); (try clear hi)))
   go_ret
   exact ⟨rr_, lb0_ HB.out⟩
  ·
   rw [if_neg c4] at H
   exact absurd H (by simp)
 ·
  rw [if_neg c2] at H
  have c2b0 : decide (a0 < 0) = false := decide_eq_false c2
  clear c2
  by_cases c6 : a0 < 10
  ·
   rw [if_pos c6] at H
   have c6b0 : decide (a0 < 10) = true := decide_eq_true c6
   clear c6
   by_cases c7 : 0 ≤ a0
   ·
    rw [if_pos c7] at H
    have c7b0 := eq_true c7
    have c7b1 : decide (0 ≤ a0) = true := decide_eq_true c7
    clear c7
    by_cases c8 : a0 ≤ (wrap64 (a0 + 1))
    ·
     rw [if_pos c8] at H
     have c8b0 := eq_true c8
     have c8b1 : decide (a0 ≤ (wrap64 (a0 + 1))) = true := decide_eq_true c8
     by_cases c9 : (wrap64 (a0 + 1)) ≤ 10
     ·
      rw [if_pos c9] at H
      have c9b0 := eq_true c9
      have c9b1 : decide ((wrap64 (a0 + 1)) ≤ 10) = true := decide_eq_true c9
      obtain rfl := Option.some.inj H
      go_enter Tryd.func65, Tryd.ntmps65
      go_wp2
      go_ret
      exact ⟨rr_, lb0_ HB.out⟩
     ·
      rw [if_neg c9] at H
      exact absurd H (by simp)
    ·
     rw [if_neg c8] at H
     exact absurd H (by simp)
   ·
    rw [if_neg c7] at H
    exact absurd H (by simp)
  ·
   rw [if_neg c6] at H
   have c6b0 : decide (a0 < 10) = false := decide_eq_false c6
   clear c6
   replace H := Option.bind_eq_some_iff.mp H
   obtain ⟨t108, A100, H⟩ := H
   replace H : (if 0 ≤ (Int.tmod a0 10) then (if (Int.tmod a0 10) ≤ (wrap64 ((Int.tmod a0 10) + 1)) then (if (wrap64 ((Int.tmod a0 10) + 1)) ≤ 10 then (if t108.size + (sx (⟨#[48, 49, 50, 51, 52, 53, 54, 55, 56, 57]⟩ : ByteArray) (((Int.tmod a0 10) : Int).toNat) (((wrap64 ((Int.tmod a0 10) + 1)) : Int).toNat)).size ≤ 9223372036854775807 then (some (sc t108 (sx (⟨#[48, 49, 50, 51, 52, 53, 54, 55, 56, 57]⟩ : ByteArray) (((Int.tmod a0 10) : Int).toNat) (((wrap64 ((Int.tmod a0 10) + 1)) : Int).toNat)))) else (none)) else (none)) else (none)) else (none)) = some r := H
   have A10 := Aside0.mk A100
   clear A100
   obtain ⟨ji11, hji11⟩ : ∃ j_ : Int, (Int.tmod a0 10) = j_ := ⟨_, rfl⟩
   replace H : (if 0 ≤ (ji11) then (if (ji11) ≤ (wrap64 ((ji11) + 1)) then (if (wrap64 ((ji11) + 1)) ≤ 10 then (if t108.size + (sx (⟨#[48, 49, 50, 51, 52, 53, 54, 55, 56, 57]⟩ : ByteArray) (((ji11) : Int).toNat) (((wrap64 ((ji11) + 1)) : Int).toNat)).size ≤ 9223372036854775807 then (some (sc t108 (sx (⟨#[48, 49, 50, 51, 52, 53, 54, 55, 56, 57]⟩ : ByteArray) (((ji11) : Int).toNat) (((wrap64 ((ji11) + 1)) : Int).toNat)))) else (none)) else (none)) else (none)) else (none)) = some r := by first | (rw [hji11] at H; exact H) | (simp only [hji11] at H ⊢; exact H)
   (try rw [hji11] at A10)
   by_cases c12 : 0 ≤ (ji11)
   ·
    rw [if_pos c12] at H
    have c12b0 := eq_true c12
    have c12b1 : decide (0 ≤ (ji11)) = true := decide_eq_true c12
    clear c12
    by_cases c13 : (ji11) ≤ (wrap64 ((ji11) + 1))
    ·
     rw [if_pos c13] at H
     have c13b0 := eq_true c13
     have c13b1 : decide ((ji11) ≤ (wrap64 ((ji11) + 1))) = true := decide_eq_true c13
     by_cases c14 : (wrap64 ((ji11) + 1)) ≤ 10
     ·
      rw [if_pos c14] at H
      have c14b0 := eq_true c14
      have c14b1 : decide ((wrap64 ((ji11) + 1)) ≤ 10) = true := decide_eq_true c14
      by_cases c15 : t108.size + (sx (⟨#[48, 49, 50, 51, 52, 53, 54, 55, 56, 57]⟩ : ByteArray) (((ji11) : Int).toNat) (((wrap64 ((ji11) + 1)) : Int).toNat)).size ≤ 9223372036854775807
      ·
       rw [if_pos c15] at H
       have c15b0 := eq_true c15
       have c15b1 : decide (t108.size + (sx (⟨#[48, 49, 50, 51, 52, 53, 54, 55, 56, 57]⟩ : ByteArray) (((ji11) : Int).toNat) (((wrap64 ((ji11) + 1)) : Int).toNat)).size ≤ 9223372036854775807) = true := decide_eq_true c15
       try have c15b2 : (9223372036854775807 < t108.size + (sx (⟨#[48, 49, 50, 51, 52, 53, 54, 55, 56, 57]⟩ : ByteArray) (((ji11) : Int).toNat) (((wrap64 ((ji11) + 1)) : Int).toNat)).size) = False := eq_false (Nat.not_lt.2 c15)
       obtain rfl := Option.some.inj H
       go_enter Tryd.func65, Tryd.ntmps65
       try go_wp2
       replace HB := Aside0.mk (below_drew1 HB.out)
       refine start_ (n := 11) (S := fun w' => True) (ds := []) spec_l1Num.mk0 (by kernel_rfl) rfl rfl trivial (fun hHeld => ?_); refine with_tabW spec_l1Num.tab5 spec_l1Num.bits5 (fun HT_ HW_ => ?_)
       generalize w.drew = w16 at HB hHeld ⊢
       refine pz_ HT_ 0 (some 15) spec_l1Num.mk1 ?_
       refine pz_ HT_ 1 (some 16) spec_l1Num.mk2 ?_
       refine pz_ HT_ 3 (some 18) spec_l1Num.mk3 ?_
       refine pz_ HT_ 4 (some 19) spec_l1Num.mk4 ?_
       refine pz_ HT_ 5 (some 20) spec_l1Num.mk5 ?_
       refine pz_ HT_ 6 (some 21) spec_l1Num.mk6 ?_
       refine pz_ HT_ 7 (some 22) spec_l1Num.mk7 ?_
       refine pz_ HT_ 8 (some 23) spec_l1Num.mk8 ?_
       refine one_ (i := 2) (N := some 17) spec_l1Num.mk9 rfl rfl (one_of HT_.out (by kernel_rfl)) (by decide) (fun K hK => ?_)
       refine gs_ Tryd.func65 #[.int .i64 (wrap64 (Int.tdiv a0 10))] ?_
       with_reducible refine (ih k (by omega) (wrap64 (Int.tdiv a0 10)) t108 _ A10.out).mono ?_
       rintro e w17 ⟨rfl, hb⟩
       refine ⟨_, rfl, ?_⟩
       replace HB := Aside0.mk (below_step (lb0_ HB.out) hb)
       (try clear hb)
       (try clear hb2)
       (try clear hk)
       (try clear hi)
       refine hK.out _ _ trivial (fun hHeld => ?_)
       clear hK K
       refine na_ ?_
       refine pz_ HT_ 9 (some 24) spec_l1Num.mk10 ?_
       refine pz_ HT_ 10 (some 2) spec_l1Num.mk11 ?_
       refine done_ (done_of HT_.out (by kernel_rfl)) ?_
       try go_wp2
       go_ret
       exact ⟨by first | rfl | (simp [errW_none, errW_some] <;> rfl) | (simp only [← hji11]; first | rfl | (simp [errW_none, errW_some] <;> rfl)) | (simp [*, errW_none, errW_some] <;> rfl), lb0_ HB.out⟩
      ·
       rw [if_neg c15] at H
       exact absurd H (by simp)
     ·
      rw [if_neg c14] at H
      exact absurd H (by simp)
    ·
     rw [if_neg c13] at H
     exact absurd H (by simp)
   ·
    rw [if_neg c12] at H
    exact absurd H (by simp)
end Go.Proofs.YtdpinnhgkocjhaaDoor.Pr

namespace Go.Proofs.YtdpinnhgkocjhaaDoor.Pr
open Go.RowKit Go.Proofs.YtdpinnhgkocjhaaDoorW.PrintWords Go.Proofs.YtdpinnhgkocjhaaDoorW.PrintLast Go.Proofs.YtdpinnhgkocjhaaDoorW.PrintMore
attribute [local go_sem] max2_int min2_int max_two min_two max_three min_three max_four min_four   -- for this text's walks alone
set_option linter.unusedVariables false
set_option linter.unusedSimpArgs false
def spec_l1Sum.l0 : Nat → ByteArray → Int → Int → Option (Int)
 | 0, _, _, _ => none
 | k + 1, x0, x3, x4 => if x4 < (x0.size : Int) then (if 0 ≤ x4 then (spec_l1Sum.l0 k x0 (Int.tmod (wrap64 ((wrap64 ((wrap64 (41 * x3)) + (wrap64 (bt x0 x4)))) + 1)) 999979) (wrap64 (x4 + 1))) else (none)) else (some x3)
def spec_l1Sum.f (k : Nat) (a0 : ByteArray) : Option (Int) := spec_l1Sum.l0 k a0 7 0
set_option maxHeartbeats 8000000 in
set_option maxRecDepth 100000 in
theorem spec_l1Sum.calls (k : Nat) (a0 : ByteArray) (r : Int) (w : World) (h : spec_l1Sum.f k a0 = some r) :
  Calls Tryd.prog 75 #[.string a0] w fun e w' => e = .returned (.int .i64 r) ∧ Drawn0 w w' := by
 have H : (spec_l1Sum.l0 k a0 7 0) = some r := h
 clear h
 have H' := Aside0.mk H
 clear H
 go_enter Tryd.func75, Tryd.ntmps75
 go_wp2
 go_loopg [3, 4] k (fun kq v3 v4 w' => ∃ (x3_1 : Int) (x4_1 : Int), v3 = .int .i64 x3_1 ∧ v4 = .int .i64 x4_1 ∧ Aside0 (spec_l1Sum.l0 kq a0 x3_1 x4_1 = some r) ∧ Aside0 (kq ≤ k) ∧ Drawn0 w w')
 case atStart => exact ⟨(7), (0), (by first | rfl | (simp; done) | (simp [*]; done)), (by first | rfl | (simp; done) | (simp [*]; done)), H', ⟨Nat.le_refl _⟩, by repeat (first | exact Drawn0.refl _ | apply Drawn0.step)⟩
 case round =>
  clear H'
  obtain ⟨x3_1, x4_1, rfl, rfl, HA, HK1, ⟨m1, rfl⟩⟩ := hrel
  cases gk with
  | zero => exact absurd HA.out (by simp [spec_l1Sum.l0])
  | succ k1 =>
   have H := HA.out
   clear HA
   simp only [spec_l1Sum.l0] at H
   by_cases c2 : x4_1 < (a0.size : Int)
   ·
    rw [if_pos c2] at H
    have c2b0 : decide (x4_1 < (a0.size : Int)) = true := decide_eq_true c2
    clear c2
    by_cases c3 : 0 ≤ x4_1
    ·
     rw [if_pos c3] at H
     have c3b0 : decide (0 ≤ x4_1) = true := decide_eq_true c3
     clear c3
     have H' := Aside0.mk H
     clear H
     have p4 : 0 ≤ (x4_1 : Int) := dt_
     have q4 : x4_1 < (a0.size : Int) := dt_
     have hx4 := bt_at a0 x4_1
     replace p4 := eq_true p4
     replace q4 := eq_true q4
     go_wp2
     go_roundg k1
     case measure => have := HK1.out; omega
     case rel => exact ⟨(Int.tmod (wrap64 ((wrap64 ((wrap64 (41 * x3_1)) + (wrap64 (bt a0 x4_1)))) + 1)) 999979), (wrap64 (x4_1 + 1)), (by first | rfl | (simp; done) | (simp [*]; done)), (by first | rfl | (simp; done) | (simp [*]; done)), H', ⟨by have := HK1.out; omega⟩, by repeat (first | exact Drawn0.refl _ | apply Drawn0.step)⟩
    ·
     rw [if_neg c3] at H
     exact absurd H (by simp)
   ·
    rw [if_neg c2] at H
    have c2b0 : decide (x4_1 < (a0.size : Int)) = false := decide_eq_false c2
    clear c2
    obtain rfl := Option.some.inj H
    go_wp2
    go_ret
    exact ⟨by first | rfl | (simp; done) | (simp [*]; done), by repeat (first | exact Drawn0.refl _ | apply Drawn0.step)⟩
end Go.Proofs.YtdpinnhgkocjhaaDoor.Pr

namespace Go.Proofs.YtdpinnhgkocjhaaDoor.Pr
open Go.RowKit Go.Proofs.YtdpinnhgkocjhaaDoorW.PrintWords Go.Proofs.YtdpinnhgkocjhaaDoorW.PrintLast Go.Proofs.YtdpinnhgkocjhaaDoorW.PrintMore
attribute [local go_sem] max2_int min2_int max_two min_two max_three min_three max_four min_four sc_in sx_in   -- for this text's walks alone
set_option linter.unusedVariables false
set_option linter.unusedSimpArgs false
def spec_l1Seal.f (k : Nat) (a0 : ByteArray) : Option (ByteArray) := if a0.size + 1 ≤ 9223372036854775807 then ((spec_l1Sum.f k a0).bind fun t109 => ((spec_l1Num.f k t109).bind fun t110 => (if (sc a0 (⟨#[35]⟩ : ByteArray)).size + t110.size ≤ 9223372036854775807 then (some (sc (sc a0 (⟨#[35]⟩ : ByteArray)) t110)) else (none)))) else (none)
set_option maxHeartbeats 8000000 in
set_option maxRecDepth 100000 in
theorem spec_l1Seal.calls (k : Nat) (a0 : ByteArray) (r : ByteArray) (w : World) (h : spec_l1Seal.f k a0 = some r) :
  Calls Tryd.prog 64 #[.string a0] w fun e w' => e = .returned (.string r) ∧ Below w.heap.size w w' := by
 have HB := Aside0.mk (Below.refl w.heap.size w)
 have H : (if a0.size + 1 ≤ 9223372036854775807 then ((spec_l1Sum.f k a0).bind fun t109 => ((spec_l1Num.f k t109).bind fun t110 => (if (sc a0 (⟨#[35]⟩ : ByteArray)).size + t110.size ≤ 9223372036854775807 then (some (sc (sc a0 (⟨#[35]⟩ : ByteArray)) t110)) else (none)))) else (none)) = some r := h
 clear h
 by_cases c2 : a0.size + 1 ≤ 9223372036854775807
 ·
  rw [if_pos c2] at H
  have c2b0 := eq_true c2
  have c2b1 : decide (a0.size + 1 ≤ 9223372036854775807) = true := decide_eq_true c2
  try have c2b2 : (9223372036854775807 < a0.size + 1) = False := eq_false (Nat.not_lt.2 c2)
  replace H := Option.bind_eq_some_iff.mp H
  obtain ⟨t109, A30, H⟩ := H
  replace H : ((spec_l1Num.f k t109).bind fun t110 => (if (sc a0 (⟨#[35]⟩ : ByteArray)).size + t110.size ≤ 9223372036854775807 then (some (sc (sc a0 (⟨#[35]⟩ : ByteArray)) t110)) else (none))) = some r := H
  have A3 := Aside0.mk A30
  clear A30
  replace H := Option.bind_eq_some_iff.mp H
  obtain ⟨t110, A40, H⟩ := H
  replace H : (if (sc a0 (⟨#[35]⟩ : ByteArray)).size + t110.size ≤ 9223372036854775807 then (some (sc (sc a0 (⟨#[35]⟩ : ByteArray)) t110)) else (none)) = some r := H
  have A4 := Aside0.mk A40
  clear A40
  by_cases c5 : (sc a0 (⟨#[35]⟩ : ByteArray)).size + t110.size ≤ 9223372036854775807
  ·
   rw [if_pos c5] at H
   have c5b0 := eq_true c5
   have c5b1 : decide ((sc a0 (⟨#[35]⟩ : ByteArray)).size + t110.size ≤ 9223372036854775807) = true := decide_eq_true c5
   try have c5b2 : (9223372036854775807 < (sc a0 (⟨#[35]⟩ : ByteArray)).size + t110.size) = False := eq_false (Nat.not_lt.2 c5)
   obtain rfl := Option.some.inj H
   go_enter Tryd.func64, Tryd.ntmps64
   go_wp2_with (first | ((with_reducible refine gate_callee (f := 75) rfl ?_); refine ga_ (some 6) Tryd.func75 #[.string a0] ?_; (with_reducible refine (spec_l1Sum.calls k a0 t109 _ A3.out).mono ?_); rintro e w' ⟨rfl, ⟨nd, rfl⟩⟩; refine ⟨_, rfl, ?_⟩) | ((with_reducible refine gate_callee (f := 65) rfl ?_); refine ga_ (some 7) Tryd.func65 #[.int .i64 t109] ?_; (with_reducible refine (spec_l1Num.calls k t109 t110 _ A4.out).mono ?_); rintro e w6 ⟨rfl, hb⟩; refine ⟨_, rfl, ?_⟩; replace HB := Aside0.mk (below_step (lb0_ HB.out) hb); (try clear hb); (try clear hb2); (try clear hk); (try clear hi)))
   go_ret
   exact ⟨rr_, lb0_ HB.out⟩
  ·
   rw [if_neg c5] at H
   exact absurd H (by simp)
 ·
  rw [if_neg c2] at H
  exact absurd H (by simp)
def spec_l27Line.f (k : Nat) (a0 : Int) (a1_0 : ByteArray) (a1_1 : ByteArray) : Option (ByteArray) := (spec_l1Num.f k a0).bind fun t112 => (if t112.size + 1 ≤ 9223372036854775807 then (if (sc t112 (⟨#[32]⟩ : ByteArray)).size + a1_0.size ≤ 9223372036854775807 then (if (sc (sc t112 (⟨#[32]⟩ : ByteArray)) a1_0).size + 1 ≤ 9223372036854775807 then (if (sc (sc (sc t112 (⟨#[32]⟩ : ByteArray)) a1_0) (⟨#[64]⟩ : ByteArray)).size + a1_1.size ≤ 9223372036854775807 then ((spec_l1Seal.f k (sc (sc (sc (sc t112 (⟨#[32]⟩ : ByteArray)) a1_0) (⟨#[64]⟩ : ByteArray)) a1_1)).bind fun t113 => (if t113.size + 1 ≤ 9223372036854775807 then (some (sc t113 (⟨#[10]⟩ : ByteArray))) else (none))) else (none)) else (none)) else (none)) else (none))
def spec_l27Line.T1 : Bool × List (List Nat × List Nat) := (true, [([], []), ([0], [0]), ([1], [1]), ([], []), ([3], [3]), ([2, 4], [2, 4]), ([5], [5]), ([], []), ([7], [7]), ([6, 8], [6, 8]), ([9, 1], [9]), ([10], [10]), ([11, 10, 0, 1, 2, 3, 4, 5, 6, 7, 8, 9, 10, 11], [11])])
def spec_l27Line.B1 : List Nat := [0, 1, 3, 0, 8, 31, 63, 0, 128, 511, 1023, 2047, 4095]
theorem spec_l27Line.tab1 : rtab .any (opsOf Tryd.f44 1) = spec_l27Line.T1 := by kernel_rfl
theorem spec_l27Line.bits1 : waitsOk spec_l27Line.T1.2 spec_l27Line.B1 = true := by kernel_rfl
abbrev spec_l27Line.mk0 : Array Bool := #[false, false, false, false, false, false, false, false, false, false, false, false, false]
abbrev spec_l27Line.mk1 : Array Bool := #[true, false, false, false, false, false, false, false, false, false, false, false, false]
abbrev spec_l27Line.mk2 : Array Bool := #[true, false, false, true, false, false, false, false, false, false, false, false, false]
abbrev spec_l27Line.mk3 : Array Bool := #[true, false, false, true, false, false, false, true, false, false, false, false, false]
abbrev spec_l27Line.mk4 : Array Bool := #[true, false, false, true, true, false, false, true, false, false, false, false, false]
abbrev spec_l27Line.mk5 : Array Bool := #[true, false, false, true, true, false, false, true, true, false, false, false, false]
abbrev spec_l27Line.mk6 : Array Bool := #[true, true, false, true, true, false, false, true, true, false, false, false, false]
abbrev spec_l27Line.mk7 : Array Bool := #[true, true, true, true, true, false, false, true, true, false, false, false, false]
abbrev spec_l27Line.mk8 : Array Bool := #[true, true, true, true, true, true, false, true, true, false, false, false, false]
abbrev spec_l27Line.mk9 : Array Bool := #[true, true, true, true, true, true, true, true, true, false, false, false, false]
abbrev spec_l27Line.mk10 : Array Bool := #[true, true, true, true, true, true, true, true, true, true, false, false, false]
abbrev spec_l27Line.mk11 : Array Bool := #[true, true, true, true, true, true, true, true, true, true, true, false, false]
abbrev spec_l27Line.mk12 : Array Bool := #[true, true, true, true, true, true, true, true, true, true, true, true, false]
abbrev spec_l27Line.mk13 : Array Bool := #[true, true, true, true, true, true, true, true, true, true, true, true, true]
set_option maxHeartbeats 8000000 in
set_option maxRecDepth 100000 in
theorem spec_l27Line.calls (k : Nat) (a0 : Int) (a1_0 : ByteArray) (a1_1 : ByteArray) (r : ByteArray) (w : World) (h : spec_l27Line.f k a0 a1_0 a1_1 = some r) :
  Calls Tryd.prog 44 #[.int .i64 a0, .agg #[.string a1_0, .string a1_1]] w fun e w' => e = .returned (.string r) ∧ Below w.heap.size w w' := by
 have hu27 := Tryd.underlying27
 have HB := Aside0.mk (Below.refl w.heap.size w)
 have H : ((spec_l1Num.f k a0).bind fun t112 => (if t112.size + 1 ≤ 9223372036854775807 then (if (sc t112 (⟨#[32]⟩ : ByteArray)).size + a1_0.size ≤ 9223372036854775807 then (if (sc (sc t112 (⟨#[32]⟩ : ByteArray)) a1_0).size + 1 ≤ 9223372036854775807 then (if (sc (sc (sc t112 (⟨#[32]⟩ : ByteArray)) a1_0) (⟨#[64]⟩ : ByteArray)).size + a1_1.size ≤ 9223372036854775807 then ((spec_l1Seal.f k (sc (sc (sc (sc t112 (⟨#[32]⟩ : ByteArray)) a1_0) (⟨#[64]⟩ : ByteArray)) a1_1)).bind fun t113 => (if t113.size + 1 ≤ 9223372036854775807 then (some (sc t113 (⟨#[10]⟩ : ByteArray))) else (none))) else (none)) else (none)) else (none)) else (none))) = some r := h
 clear h
 replace H := Option.bind_eq_some_iff.mp H
 obtain ⟨t112, A30, H⟩ := H
 replace H : (if t112.size + 1 ≤ 9223372036854775807 then (if (sc t112 (⟨#[32]⟩ : ByteArray)).size + a1_0.size ≤ 9223372036854775807 then (if (sc (sc t112 (⟨#[32]⟩ : ByteArray)) a1_0).size + 1 ≤ 9223372036854775807 then (if (sc (sc (sc t112 (⟨#[32]⟩ : ByteArray)) a1_0) (⟨#[64]⟩ : ByteArray)).size + a1_1.size ≤ 9223372036854775807 then ((spec_l1Seal.f k (sc (sc (sc (sc t112 (⟨#[32]⟩ : ByteArray)) a1_0) (⟨#[64]⟩ : ByteArray)) a1_1)).bind fun t113 => (if t113.size + 1 ≤ 9223372036854775807 then (some (sc t113 (⟨#[10]⟩ : ByteArray))) else (none))) else (none)) else (none)) else (none)) else (none)) = some r := H
 have A3 := Aside0.mk A30
 clear A30
 by_cases c4 : t112.size + 1 ≤ 9223372036854775807
 ·
  rw [if_pos c4] at H
  have c4b0 := eq_true c4
  have c4b1 : decide (t112.size + 1 ≤ 9223372036854775807) = true := decide_eq_true c4
  try have c4b2 : (9223372036854775807 < t112.size + 1) = False := eq_false (Nat.not_lt.2 c4)
  by_cases c5 : (sc t112 (⟨#[32]⟩ : ByteArray)).size + a1_0.size ≤ 9223372036854775807
  ·
   rw [if_pos c5] at H
   have c5b0 := eq_true c5
   have c5b1 : decide ((sc t112 (⟨#[32]⟩ : ByteArray)).size + a1_0.size ≤ 9223372036854775807) = true := decide_eq_true c5
   try have c5b2 : (9223372036854775807 < (sc t112 (⟨#[32]⟩ : ByteArray)).size + a1_0.size) = False := eq_false (Nat.not_lt.2 c5)
   by_cases c6 : (sc (sc t112 (⟨#[32]⟩ : ByteArray)) a1_0).size + 1 ≤ 9223372036854775807
   ·
    rw [if_pos c6] at H
    have c6b0 := eq_true c6
    have c6b1 : decide ((sc (sc t112 (⟨#[32]⟩ : ByteArray)) a1_0).size + 1 ≤ 9223372036854775807) = true := decide_eq_true c6
    try have c6b2 : (9223372036854775807 < (sc (sc t112 (⟨#[32]⟩ : ByteArray)) a1_0).size + 1) = False := eq_false (Nat.not_lt.2 c6)
    by_cases c7 : (sc (sc (sc t112 (⟨#[32]⟩ : ByteArray)) a1_0) (⟨#[64]⟩ : ByteArray)).size + a1_1.size ≤ 9223372036854775807
    ·
     rw [if_pos c7] at H
     have c7b0 := eq_true c7
     have c7b1 : decide ((sc (sc (sc t112 (⟨#[32]⟩ : ByteArray)) a1_0) (⟨#[64]⟩ : ByteArray)).size + a1_1.size ≤ 9223372036854775807) = true := decide_eq_true c7
     try have c7b2 : (9223372036854775807 < (sc (sc (sc t112 (⟨#[32]⟩ : ByteArray)) a1_0) (⟨#[64]⟩ : ByteArray)).size + a1_1.size) = False := eq_false (Nat.not_lt.2 c7)
     replace H := Option.bind_eq_some_iff.mp H
     obtain ⟨t113, A80, H⟩ := H
     replace H : (if t113.size + 1 ≤ 9223372036854775807 then (some (sc t113 (⟨#[10]⟩ : ByteArray))) else (none)) = some r := H
     have A8 := Aside0.mk A80
     clear A80
     by_cases c9 : t113.size + 1 ≤ 9223372036854775807
     ·
      rw [if_pos c9] at H
      have c9b0 := eq_true c9
      have c9b1 : decide (t113.size + 1 ≤ 9223372036854775807) = true := decide_eq_true c9
      try have c9b2 : (9223372036854775807 < t113.size + 1) = False := eq_false (Nat.not_lt.2 c9)
      obtain rfl := Option.some.inj H
      go_enter Tryd.func44, Tryd.ntmps44
      try go_wp2_with (first | ((with_reducible refine gate_dst (N := 3) rfl ?_); refine box_event ?hg (N := 3) ?hd (cs := #[.string a1_0, .string a1_1]) (t := 27) ?hr ?_; (case hd => rfl); (case hg => rfl); (case hr => first | (go_simp; done) | (go_simp; rfl)); intro gb111 hg w10 hbox hb; have BK111 := Aside0.mk (hbox); have GW111 := Aside0.mk ((bz_ hg (lb0_ HB.out))); have GE111 := Aside0.mk ((bz_ hg (lb0_ HB.out))); replace HB := Aside0.mk (below_step (lb0_ HB.out) hb); clear hb hbox hg))
      replace BK111 := Aside0.mk (blk_drew BK111.out)
      replace HB := Aside0.mk (below_drew1 HB.out)
      refine start_ (n := 13) (S := fun w' => w'.cell? ⟨gb111, 0, none⟩ = some (.string a1_0) ∧ w'.cell? ⟨gb111, 1, none⟩ = some (.string a1_1)) (ds := []) spec_l27Line.mk0 (by kernel_rfl) rfl rfl ⟨(blk_cell BK111.out 0).trans rfl, (blk_cell BK111.out 1).trans rfl⟩ (fun hHeld => ?_); refine with_tabW spec_l27Line.tab1 spec_l27Line.bits1 (fun HT_ HW_ => ?_)
      generalize w10.drew = w11 at BK111 HB hHeld ⊢
      refine pz_ HT_ 0 (some 5) spec_l27Line.mk1 ?_
      refine pz_ HT_ 3 (some 8) spec_l27Line.mk2 ?_
      refine pz_ HT_ 7 (some 12) spec_l27Line.mk3 ?_
      refine take_ (i := 4) (N := some 9) (v := ?_) (a' := ?_) spec_l27Line.mk4 rfl rfl (take_ofW HT_.out HW_.out (by kernel_rfl)) (fun _ _ _ h => h) (Or.inl ⟨by rfl, ?_⟩) hHeld ?_ ?_
      rotate_left
      ·
       rintro w' ⟨s0, s1⟩
       go_simp
       with_reducible rfl
      rotate_left
      ·
       simp only [Act.put, List.setIfInBounds_toArray, List.set_cons_zero, List.set_cons_succ, i64_w, i32_w]
       rfl
      refine take_ (i := 8) (N := some 13) (v := ?_) (a' := ?_) spec_l27Line.mk5 rfl rfl (take_ofW HT_.out HW_.out (by kernel_rfl)) (fun _ _ _ h => h) (Or.inl ⟨by rfl, ?_⟩) hHeld ?_ ?_
      rotate_left
      ·
       rintro w' ⟨s0, s1⟩
       go_simp
       with_reducible rfl
      rotate_left
      ·
       simp only [Act.put, List.setIfInBounds_toArray, List.set_cons_zero, List.set_cons_succ, i64_w, i32_w]
       rfl
      refine one_ (i := 1) (N := some 6) spec_l27Line.mk6 rfl rfl (one_of HT_.out (by kernel_rfl)) (by decide) (fun K hK => ?_)
      refine gs_ Tryd.func65 #[.int .i64 a0] ?_
      with_reducible refine (spec_l1Num.calls k a0 t112 _ A3.out).mono ?_
      rintro e w12 ⟨rfl, hb⟩
      refine ⟨_, rfl, ?_⟩
      replace BK111 := Aside0.mk (bb_ (bk_ BK111.out) hb)
      replace HB := Aside0.mk (below_step (lb1_ HB.out GE111.out) hb)
      (try clear hb)
      (try clear hb2)
      (try clear hk)
      (try clear hi)
      refine hK.out _ _ ⟨(blk_cell BK111.out 0).trans rfl, (blk_cell BK111.out 1).trans rfl⟩ (fun hHeld => ?_)
      clear hK K
      refine na_ ?_
      refine pz_ HT_ 2 (some 7) spec_l27Line.mk7 ?_
      refine pz_ HT_ 5 (some 10) spec_l27Line.mk8 ?_
      refine pz_ HT_ 6 (some 11) spec_l27Line.mk9 ?_
      refine pz_ HT_ 9 (some 14) spec_l27Line.mk10 ?_
      refine one_ (i := 10) (N := some 15) spec_l27Line.mk11 rfl rfl (one_of HT_.out (by kernel_rfl)) (by decide) (fun K hK => ?_)
      refine gs_ Tryd.func64 #[.string (sc (sc (sc (sc t112 (⟨#[32]⟩ : ByteArray)) a1_0) (⟨#[64]⟩ : ByteArray)) a1_1)] ?_
      with_reducible refine (spec_l1Seal.calls k (sc (sc (sc (sc t112 (⟨#[32]⟩ : ByteArray)) a1_0) (⟨#[64]⟩ : ByteArray)) a1_1) t113 _ A8.out).mono ?_
      rintro e w13 ⟨rfl, hb⟩
      refine ⟨_, rfl, ?_⟩
      replace BK111 := Aside0.mk (bb_ (bk_ BK111.out) hb)
      replace HB := Aside0.mk (below_step (lb1_ HB.out GE111.out) hb)
      (try clear hb)
      (try clear hb2)
      (try clear hk)
      (try clear hi)
      refine hK.out _ _ ⟨(blk_cell BK111.out 0).trans rfl, (blk_cell BK111.out 1).trans rfl⟩ (fun hHeld => ?_)
      clear hK K
      refine na_ ?_
      refine pz_ HT_ 11 (some 16) spec_l27Line.mk12 ?_
      refine pz_ HT_ 12 (some 4) spec_l27Line.mk13 ?_
      refine done_ (done_of HT_.out (by kernel_rfl)) ?_
      try go_wp2
      go_ret
      exact ⟨rr_, lb1_ HB.out GE111.out⟩
     ·
      rw [if_neg c9] at H
      exact absurd H (by simp)
    ·
     rw [if_neg c7] at H
     exact absurd H (by simp)
   ·
    rw [if_neg c6] at H
    exact absurd H (by simp)
  ·
   rw [if_neg c5] at H
   exact absurd H (by simp)
 ·
  rw [if_neg c4] at H
  exact absurd H (by simp)
def spec_l27Read.j0 : Nat → ByteArray → Int → ByteArray → ByteArray → Bool → Option (ByteArray × ByteArray × Bool)
 | 0, _, _, _, _, _ => none
 | k + 1, x0, x1, x6, x7, x30 => if x30 = true then (some ((⟨#[]⟩ : ByteArray), (⟨#[]⟩ : ByteArray), false)) else (if 0 ≤ (x6.size : Int) then (if (x6.size : Int) ≤ (x7.size : Int) then ((spec_l1Split.f k (sx x7 ((x6.size)) (x7.size)) 64).bind fun t185 => (if 0 < (t185.length : Int) then (if ((rdOf ByteArray.empty t185 0).size : Int) = ((sx x7 ((x6.size)) (x7.size)).size : Int) then (some ((⟨#[]⟩ : ByteArray), (⟨#[]⟩ : ByteArray), false)) else (if 0 ≤ (wrap64 (((rdOf ByteArray.empty t185 0).size : Int) + 1)) then (if (wrap64 (((rdOf ByteArray.empty t185 0).size : Int) + 1)) ≤ ((sx x7 ((x6.size)) (x7.size)).size : Int) then ((spec_l27Good.f k (rdOf ByteArray.empty t185 0) (sx (sx x7 ((x6.size)) (x7.size)) (((wrap64 (((rdOf ByteArray.empty t185 0).size : Int) + 1)) : Int).toNat) ((sx x7 ((x6.size)) (x7.size)).size))).bind fun t190 => (if t190 = true then ((spec_l27Line.f k x1 (rdOf ByteArray.empty t185 0) (sx (sx x7 ((x6.size)) (x7.size)) (((wrap64 (((rdOf ByteArray.empty t185 0).size : Int) + 1)) : Int).toNat) ((sx x7 ((x6.size)) (x7.size)).size))).bind fun t191 => (if x0.size + 1 ≤ 9223372036854775807 then (some (rdOf ByteArray.empty t185 0, sx (sx x7 ((x6.size)) (x7.size)) (((wrap64 (((rdOf ByteArray.empty t185 0).size : Int) + 1)) : Int).toNat) ((sx x7 ((x6.size)) (x7.size)).size), (t191.toList == (sc x0 (⟨#[10]⟩ : ByteArray)).toList))) else (none))) else (some (rdOf ByteArray.empty t185 0, sx (sx x7 ((x6.size)) (x7.size)) (((wrap64 (((rdOf ByteArray.empty t185 0).size : Int) + 1)) : Int).toNat) ((sx x7 ((x6.size)) (x7.size)).size), false)))) else (none)) else (none))) else (none))) else (none)) else (none))
def spec_l27Read.f (k : Nat) (a0 : ByteArray) (a1 : Int) : Option (ByteArray × ByteArray × Bool) := (spec_l1Num.f k a1).bind fun t180 => (if t180.size + 1 ≤ 9223372036854775807 then ((spec_l1Split.f k a0 35).bind fun t181 => (if 0 < (t181.length : Int) then (if ((rdOf ByteArray.empty t181 0).size : Int) < ((sc t180 (⟨#[32]⟩ : ByteArray)).size : Int) then (spec_l27Read.j0 k a0 a1 (sc t180 (⟨#[32]⟩ : ByteArray)) (rdOf ByteArray.empty t181 0) true) else (if 0 ≤ ((sc t180 (⟨#[32]⟩ : ByteArray)).size : Int) then (if ((sc t180 (⟨#[32]⟩ : ByteArray)).size : Int) ≤ ((rdOf ByteArray.empty t181 0).size : Int) then (spec_l27Read.j0 k a0 a1 (sc t180 (⟨#[32]⟩ : ByteArray)) (rdOf ByteArray.empty t181 0) ((sx (rdOf ByteArray.empty t181 0) (0) (((sc t180 (⟨#[32]⟩ : ByteArray)).size))).toList != (sc t180 (⟨#[32]⟩ : ByteArray)).toList)) else (none)) else (none))) else (none))) else (none))
def spec_l27Read.T10 : Bool × List (List Nat × List Nat) := (true, [([], []), ([], []), ([1], [1]), ([2, 2], [2]), ([3], [3]), ([3], [3]), ([4, 5, 3, 3], [3, 4, 5]), ([3], [3]), ([7, 3], [3, 7]), ([6, 8, 3], [3, 6, 8]), ([3, 9], [3, 9]), ([0, 6, 0], [0]), ([10, 11, 0, 1, 2, 3, 4, 5, 6, 7, 8, 9, 10, 11], [10])])
def spec_l27Read.B10 : List Nat := [0, 0, 2, 6, 14, 14, 62, 14, 142, 510, 1022, 127, 4095]
theorem spec_l27Read.tab10 : rtab .any (opsOf Tryd.f69 10) = spec_l27Read.T10 := by kernel_rfl
theorem spec_l27Read.bits10 : waitsOk spec_l27Read.T10.2 spec_l27Read.B10 = true := by kernel_rfl
abbrev spec_l27Read.mk0 : Array Bool := #[false, false, false, false, false, false, false, false, false, false, false, false, false]
abbrev spec_l27Read.mk1 : Array Bool := #[true, false, false, false, false, false, false, false, false, false, false, false, false]
abbrev spec_l27Read.mk2 : Array Bool := #[true, true, false, false, false, false, false, false, false, false, false, false, false]
abbrev spec_l27Read.mk3 : Array Bool := #[true, true, true, false, false, false, false, false, false, false, false, false, false]
abbrev spec_l27Read.mk4 : Array Bool := #[true, true, true, true, false, false, false, false, false, false, false, false, false]
abbrev spec_l27Read.mk5 : Array Bool := #[true, true, true, true, true, false, false, false, false, false, false, false, false]
abbrev spec_l27Read.mk6 : Array Bool := #[true, true, true, true, true, false, false, true, false, false, false, false, false]
abbrev spec_l27Read.mk7 : Array Bool := #[true, true, true, true, true, false, false, true, true, false, false, false, false]
abbrev spec_l27Read.mk8 : Array Bool := #[true, true, true, true, true, true, false, true, true, false, false, false, false]
abbrev spec_l27Read.mk9 : Array Bool := #[true, true, true, true, true, true, true, true, true, false, false, false, false]
abbrev spec_l27Read.mk10 : Array Bool := #[true, true, true, true, true, true, true, true, true, true, false, false, false]
abbrev spec_l27Read.mk11 : Array Bool := #[true, true, true, true, true, true, true, true, true, true, true, false, false]
abbrev spec_l27Read.mk12 : Array Bool := #[true, true, true, true, true, true, true, true, true, true, true, true, false]
abbrev spec_l27Read.mk13 : Array Bool := #[true, true, true, true, true, true, true, true, true, true, true, true, true]
abbrev spec_l27Read.mk14 : Array Bool := #[true, true, true, true, true, true, false, false, false, false, false, false, false]
abbrev spec_l27Read.mk15 : Array Bool := #[true, true, true, true, true, true, true, false, false, false, false, false, false]
abbrev spec_l27Read.mk16 : Array Bool := #[true, true, true, true, true, true, true, true, false, false, false, false, false]
set_option maxHeartbeats 8000000 in
set_option maxRecDepth 100000 in
theorem spec_l27Read.calls (k : Nat) (a0 : ByteArray) (a1 : Int) (r1 : ByteArray) (r2 : ByteArray) (r3 : Bool) (w : World) (h : spec_l27Read.f k a0 a1 = some (r1, r2, r3)) :
  Calls Tryd.prog 69 #[.string a0, .int .i64 a1] w fun e w' => e = .returned (.tuple #[.agg #[.string r1, .string r2], .bool r3]) ∧ Below w.heap.size w w' := by
 have hu27 := Tryd.underlying27
 have HB := Aside0.mk (Below.refl w.heap.size w)
 have H : ((spec_l1Num.f k a1).bind fun t180 => (if t180.size + 1 ≤ 9223372036854775807 then ((spec_l1Split.f k a0 35).bind fun t181 => (if 0 < (t181.length : Int) then (if ((rdOf ByteArray.empty t181 0).size : Int) < ((sc t180 (⟨#[32]⟩ : ByteArray)).size : Int) then (spec_l27Read.j0 k a0 a1 (sc t180 (⟨#[32]⟩ : ByteArray)) (rdOf ByteArray.empty t181 0) true) else (if 0 ≤ ((sc t180 (⟨#[32]⟩ : ByteArray)).size : Int) then (if ((sc t180 (⟨#[32]⟩ : ByteArray)).size : Int) ≤ ((rdOf ByteArray.empty t181 0).size : Int) then (spec_l27Read.j0 k a0 a1 (sc t180 (⟨#[32]⟩ : ByteArray)) (rdOf ByteArray.empty t181 0) ((sx (rdOf ByteArray.empty t181 0) (0) (((sc t180 (⟨#[32]⟩ : ByteArray)).size))).toList != (sc t180 (⟨#[32]⟩ : ByteArray)).toList)) else (none)) else (none))) else (none))) else (none))) = some (r1, r2, r3) := h
 clear h
 replace H := Option.bind_eq_some_iff.mp H
 obtain ⟨t180, A30, H⟩ := H
 replace H : (if t180.size + 1 ≤ 9223372036854775807 then ((spec_l1Split.f k a0 35).bind fun t181 => (if 0 < (t181.length : Int) then (if ((rdOf ByteArray.empty t181 0).size : Int) < ((sc t180 (⟨#[32]⟩ : ByteArray)).size : Int) then (spec_l27Read.j0 k a0 a1 (sc t180 (⟨#[32]⟩ : ByteArray)) (rdOf ByteArray.empty t181 0) true) else (if 0 ≤ ((sc t180 (⟨#[32]⟩ : ByteArray)).size : Int) then (if ((sc t180 (⟨#[32]⟩ : ByteArray)).size : Int) ≤ ((rdOf ByteArray.empty t181 0).size : Int) then (spec_l27Read.j0 k a0 a1 (sc t180 (⟨#[32]⟩ : ByteArray)) (rdOf ByteArray.empty t181 0) ((sx (rdOf ByteArray.empty t181 0) (0) (((sc t180 (⟨#[32]⟩ : ByteArray)).size))).toList != (sc t180 (⟨#[32]⟩ : ByteArray)).toList)) else (none)) else (none))) else (none))) else (none)) = some (r1, r2, r3) := H
 have A3 := Aside0.mk A30
 clear A30
 by_cases c4 : t180.size + 1 ≤ 9223372036854775807
 ·
  rw [if_pos c4] at H
  have c4b0 := eq_true c4
  have c4b1 : decide (t180.size + 1 ≤ 9223372036854775807) = true := decide_eq_true c4
  try have c4b2 : (9223372036854775807 < t180.size + 1) = False := eq_false (Nat.not_lt.2 c4)
  replace H := Option.bind_eq_some_iff.mp H
  obtain ⟨t181, A50, H⟩ := H
  replace H : (if 0 < (t181.length : Int) then (if ((rdOf ByteArray.empty t181 0).size : Int) < ((sc t180 (⟨#[32]⟩ : ByteArray)).size : Int) then (spec_l27Read.j0 k a0 a1 (sc t180 (⟨#[32]⟩ : ByteArray)) (rdOf ByteArray.empty t181 0) true) else (if 0 ≤ ((sc t180 (⟨#[32]⟩ : ByteArray)).size : Int) then (if ((sc t180 (⟨#[32]⟩ : ByteArray)).size : Int) ≤ ((rdOf ByteArray.empty t181 0).size : Int) then (spec_l27Read.j0 k a0 a1 (sc t180 (⟨#[32]⟩ : ByteArray)) (rdOf ByteArray.empty t181 0) ((sx (rdOf ByteArray.empty t181 0) (0) (((sc t180 (⟨#[32]⟩ : ByteArray)).size))).toList != (sc t180 (⟨#[32]⟩ : ByteArray)).toList)) else (none)) else (none))) else (none)) = some (r1, r2, r3) := H
  have A5 := Aside0.mk A50
  clear A50
  by_cases c6 : 0 < (t181.length : Int)
  ·
   rw [if_pos c6] at H
   have c6b0 : decide (0 < (t181.length : Int)) = true := decide_eq_true c6
   have c6b1 : decide (0 < t181.length) = true := decide_eq_true (by omega)
   clear c6
   have HC7 := Aside0.mk H
   clear H
   go_enter Tryd.func69, Tryd.ntmps69
   go_upto_region 3 with (first | ((with_reducible refine gate_dst (N := 4) rfl ?_); (try (refine gate_guard (by rfl) ?_; dsimp only)); refine box_event ?hg (N := 4) ?hd (cs := #[.string (⟨#[]⟩ : ByteArray), .string (⟨#[]⟩ : ByteArray)]) (t := 27) ?hr ?_; (case hd => rfl); (case hg => rfl); (case hr => first | (go_simp; done) | (go_simp; rfl)); intro gb179 hg w8 hbox hb; have BK179 := Aside0.mk (hbox); have GW179 := Aside0.mk ((bz_ hg (lb0_ HB.out))); have GE179 := Aside0.mk ((bz_ hg (lb0_ HB.out))); replace HB := Aside0.mk (below_step (lb0_ HB.out) hb); clear hb hbox hg) | ((with_reducible refine gate_callee (f := 65) rfl ?_); refine ga_ (some 12) Tryd.func65 #[.int .i64 a1] ?_; (with_reducible refine (spec_l1Num.calls k a1 t180 _ A3.out).mono ?_); rintro e w9 ⟨rfl, hb⟩; refine ⟨_, rfl, ?_⟩; replace BK179 := Aside0.mk (bb_ (bk_ BK179.out) hb); replace HB := Aside0.mk (below_step (lb1_ HB.out GE179.out) hb); (try clear hb); (try clear hb2); (try clear hk); (try clear hi)) | ((with_reducible refine gate_callee (f := 68) rfl ?_); refine ga_ (some 15) Tryd.func68 #[.string a0, .int .u8 35] ?_; (with_reducible refine (spec_l1Split.calls k a0 35 t181 _ A5.out).mono ?_); rintro e w10 ⟨v182, rfl, ho0, hb⟩; refine ⟨_, rfl, ?_⟩; have HO183 := Aside0.mk (Kd.R_lower ho0 (below_size (lb1_ HB.out GE179.out))); replace BK179 := Aside0.mk (bb_ (bk_ BK179.out) hb); replace HB := Aside0.mk (below_step (lb1_ HB.out GE179.out) hb); (try clear hb); (try clear hb2); (try clear hk); (try clear hi); (try clear ho0); obtain ⟨Ao11, co11, eo11⟩ := Kd.R_slice HO183.out; subst eo11; have p184 : 0 ≤ (0 : Int) := (by omega); have q184 : 0 < (t181.length : Int) := dt_; obtain ⟨ad184, e184, hx184_0⟩ := Kd.at_string (Kd.R_reads' HO183.out).2.2 0 p184 q184; cases e184; have qi184 : (0 < t181.length) = True := eq_true (by omega); (try rw [show ((0 : Int)).toNat = 0 from rfl] at hx184_0); (try rw [Addr.add_zero'] at hx184_0); replace p184 := eq_true p184; replace q184 := eq_true q184))
   (try simp only [Act.put, List.setIfInBounds_toArray, List.set_cons_zero, List.set_cons_succ])
   go_cut [30] (fun v30 wc => ∃ (kq : Nat) (x30_6 : Bool), v30 = .bool x30_6 ∧ Aside0 (spec_l27Read.j0 kq a0 a1 (sc t180 (⟨#[32]⟩ : ByteArray)) (rdOf ByteArray.empty t181 0) x30_6 = some (r1, r2, r3)) ∧ Aside0 (kq ≤ k) ∧ Aside0 (wc.heap[gb179]? = some (.cells #[.string (⟨#[]⟩ : ByteArray), .string (⟨#[]⟩ : ByteArray)] 27 (0, 0))) ∧ Aside0 (Below w.heap.size w wc))
   case first =>
    have H := HC7.out
    clear HC7
    by_cases c12 : ((rdOf ByteArray.empty t181 0).size : Int) < ((sc t180 (⟨#[32]⟩ : ByteArray)).size : Int)
    ·
     rw [if_pos c12] at H
     have c12b0 : decide (((rdOf ByteArray.empty t181 0).size : Int) < ((sc t180 (⟨#[32]⟩ : ByteArray)).size : Int)) = true := decide_eq_true c12
     have c12b1 : decide ((rdOf ByteArray.empty t181 0).size < (sc t180 (⟨#[32]⟩ : ByteArray)).size) = true := decide_eq_true (Int.ofNat_lt.mp c12)
     clear c12
     (first | rw [c12b0] | (simp only [i64_w, i32_w]; rw [c12b0]) | skip)
     have H' := Aside0.mk H
     clear H
     go_wp2
     go_meet
     case rel => exact ⟨_, (true), (by first | rfl | (simp; done) | (simp [*]; done)), H', ⟨by first | omega | exact Nat.le_refl _⟩, ⟨bk_ BK179.out⟩, ⟨lb1_ HB.out GE179.out⟩⟩
    ·
     rw [if_neg c12] at H
     have c12b0 : decide (((rdOf ByteArray.empty t181 0).size : Int) < ((sc t180 (⟨#[32]⟩ : ByteArray)).size : Int)) = false := decide_eq_false c12
     have c12b1 : decide ((rdOf ByteArray.empty t181 0).size < (sc t180 (⟨#[32]⟩ : ByteArray)).size) = false := decide_eq_false (fun h => c12 (Int.ofNat_lt.mpr h))
     clear c12
     (first | rw [c12b0] | (simp only [i64_w, i32_w]; rw [c12b0]) | skip)
     by_cases c13 : 0 ≤ ((sc t180 (⟨#[32]⟩ : ByteArray)).size : Int)
     ·
      rw [if_pos c13] at H
      have c13b0 := eq_true c13
      have c13b1 : decide (0 ≤ ((sc t180 (⟨#[32]⟩ : ByteArray)).size : Int)) = true := decide_eq_true c13
      clear c13
      by_cases c14 : ((sc t180 (⟨#[32]⟩ : ByteArray)).size : Int) ≤ ((rdOf ByteArray.empty t181 0).size : Int)
      ·
       rw [if_pos c14] at H
       have c14b0 := eq_true c14
       have c14b1 : decide (((sc t180 (⟨#[32]⟩ : ByteArray)).size : Int) ≤ ((rdOf ByteArray.empty t181 0).size : Int)) = true := decide_eq_true c14
       clear c14
       have H' := Aside0.mk H
       clear H
       go_wp2
       go_meet
       case rel => exact ⟨_, (((sx (rdOf ByteArray.empty t181 0) (0) (((sc t180 (⟨#[32]⟩ : ByteArray)).size))).toList != (sc t180 (⟨#[32]⟩ : ByteArray)).toList)), (by first | rfl | (simp; done) | (simp [*]; done)), H', ⟨by first | omega | exact Nat.le_refl _⟩, ⟨bk_ BK179.out⟩, ⟨lb1_ HB.out GE179.out⟩⟩
      ·
       rw [if_neg c14] at H
       exact absurd H (by simp)
     ·
      rw [if_neg c13] at H
      exact absurd H (by simp)
   case rest =>
    clear HC7
    try clear c1
    try clear p1
    try clear q1
    try clear hx1
    try clear qi1
    try clear p2
    try clear c4
    try clear c4b0
    try clear c4b1
    try clear c4b2
    try clear c6
    try clear c6b0
    try clear c6b1
    try clear c12
    try clear c12b0
    try clear c12b1
    try clear c13
    try clear c13b0
    try clear c13b1
    try clear c14
    try clear c14b0
    try clear c14b1
    try clear hx184_0
    try clear p184
    try clear q184
    obtain ⟨kq, x30_6, rfl, HA, HJ6, BK179, HB⟩ := hcut
    cases kq with
    | zero => exact absurd HA.out (by simp [spec_l27Read.j0])
    | succ kj6 =>
     have H := HA.out
     clear HA
     simp only [spec_l27Read.j0] at H
     by_cases c15 : x30_6 = true
     ·
      subst c15
      have H1 : (some ((⟨#[]⟩ : ByteArray), (⟨#[]⟩ : ByteArray), false)) = some (r1, r2, r3) := by rw [if_pos rfl] at H; exact H
      clear H
      have H := H1
      clear H1
      simp only [Option.some.injEq, Prod.mk.injEq] at H
      obtain ⟨rfl, rfl, rfl⟩ := H
      obtain ⟨hcz16_0, hcz16_1⟩ := cz2_ BK179.out
      obtain ⟨hfz16_0, hfz16_1⟩ := fz2_ BK179.out
      go_wp2
      refine bodyPost_ret (results_ct rfl _ _ gb179 27 #[.string (⟨#[]⟩ : ByteArray), .string (⟨#[]⟩ : ByteArray)] (0, 0) _ rfl (by (with_reducible repeat (first | refine blk_drewN ?_ _ | refine blk_drew ?_ | refine blk_alloc ?_ _)); refine blk_put (cs := #[.string (⟨#[]⟩ : ByteArray), .string (⟨#[]⟩ : ByteArray)]) ?_ 1 _ rfl; (with_reducible repeat (first | refine blk_drewN ?_ _ | refine blk_drew ?_ | refine blk_alloc ?_ _)); refine blk_put (cs := #[.string (⟨#[]⟩ : ByteArray), .string (⟨#[]⟩ : ByteArray)]) ?_ 0 _ rfl; (with_reducible repeat (first | refine blk_drewN ?_ _ | refine blk_drew ?_ | refine blk_alloc ?_ _)); exact BK179.out) Tryd.underlying27 rfl (by kernel_rfl)) rfl ?_
      exact ⟨by first | rfl | (simp [errW_none, errW_some] <;> rfl) | (simp [*, errW_none, errW_some] <;> rfl) | (have hw_ : ∀ n : Nat, (n + 1 ≤ 9223372036854775807) → wrap64 ((n : Int) + 1) = (n : Int) + 1 := fun n hn => by unfold wrap64; omega); (rw [hw_ _ (by first | assumption | omega)]); rfl, lb1_ HB.out GE179.out⟩
     ·
      replace c15 := Bool.eq_false_iff.mpr c15
      subst c15
      have H1 : (if 0 ≤ ((sc t180 (⟨#[32]⟩ : ByteArray)).size : Int) then (if ((sc t180 (⟨#[32]⟩ : ByteArray)).size : Int) ≤ ((rdOf ByteArray.empty t181 0).size : Int) then ((spec_l1Split.f kj6 (sx (rdOf ByteArray.empty t181 0) (((sc t180 (⟨#[32]⟩ : ByteArray)).size)) ((rdOf ByteArray.empty t181 0).size)) 64).bind fun t185 => (if 0 < (t185.length : Int) then (if ((rdOf ByteArray.empty t185 0).size : Int) = ((sx (rdOf ByteArray.empty t181 0) (((sc t180 (⟨#[32]⟩ : ByteArray)).size)) ((rdOf ByteArray.empty t181 0).size)).size : Int) then (some ((⟨#[]⟩ : ByteArray), (⟨#[]⟩ : ByteArray), false)) else (if 0 ≤ (wrap64 (((rdOf ByteArray.empty t185 0).size : Int) + 1)) then (if (wrap64 (((rdOf ByteArray.empty t185 0).size : Int) + 1)) ≤ ((sx (rdOf ByteArray.empty t181 0) (((sc t180 (⟨#[32]⟩ : ByteArray)).size)) ((rdOf ByteArray.empty t181 0).size)).size : Int) then ((spec_l27Good.f kj6 (rdOf ByteArray.empty t185 0) (sx (sx (rdOf ByteArray.empty t181 0) (((sc t180 (⟨#[32]⟩ : ByteArray)).size)) ((rdOf ByteArray.empty t181 0).size)) (((wrap64 (((rdOf ByteArray.empty t185 0).size : Int) + 1)) : Int).toNat) ((sx (rdOf ByteArray.empty t181 0) (((sc t180 (⟨#[32]⟩ : ByteArray)).size)) ((rdOf ByteArray.empty t181 0).size)).size))).bind fun t190 => (if t190 = true then ((spec_l27Line.f kj6 a1 (rdOf ByteArray.empty t185 0) (sx (sx (rdOf ByteArray.empty t181 0) (((sc t180 (⟨#[32]⟩ : ByteArray)).size)) ((rdOf ByteArray.empty t181 0).size)) (((wrap64 (((rdOf ByteArray.empty t185 0).size : Int) + 1)) : Int).toNat) ((sx (rdOf ByteArray.empty t181 0) (((sc t180 (⟨#[32]⟩ : ByteArray)).size)) ((rdOf ByteArray.empty t181 0).size)).size))).bind fun t191 => (if a0.size + 1 ≤ 9223372036854775807 then (some (rdOf ByteArray.empty t185 0, sx (sx (rdOf ByteArray.empty t181 0) (((sc t180 (⟨#[32]⟩ : ByteArray)).size)) ((rdOf ByteArray.empty t181 0).size)) (((wrap64 (((rdOf ByteArray.empty t185 0).size : Int) + 1)) : Int).toNat) ((sx (rdOf ByteArray.empty t181 0) (((sc t180 (⟨#[32]⟩ : ByteArray)).size)) ((rdOf ByteArray.empty t181 0).size)).size), (t191.toList == (sc a0 (⟨#[10]⟩ : ByteArray)).toList))) else (none))) else (some (rdOf ByteArray.empty t185 0, sx (sx (rdOf ByteArray.empty t181 0) (((sc t180 (⟨#[32]⟩ : ByteArray)).size)) ((rdOf ByteArray.empty t181 0).size)) (((wrap64 (((rdOf ByteArray.empty t185 0).size : Int) + 1)) : Int).toNat) ((sx (rdOf ByteArray.empty t181 0) (((sc t180 (⟨#[32]⟩ : ByteArray)).size)) ((rdOf ByteArray.empty t181 0).size)).size), false)))) else (none)) else (none))) else (none))) else (none)) else (none)) = some (r1, r2, r3) := by rw [if_neg (show ¬ (false = true) by decide)] at H; exact H
      clear H
      have H := H1
      clear H1
      by_cases c17 : 0 ≤ ((sc t180 (⟨#[32]⟩ : ByteArray)).size : Int)
      ·
       rw [if_pos c17] at H
       have c17b0 := eq_true c17
       have c17b1 : decide (0 ≤ ((sc t180 (⟨#[32]⟩ : ByteArray)).size : Int)) = true := decide_eq_true c17
       clear c17
       by_cases c18 : ((sc t180 (⟨#[32]⟩ : ByteArray)).size : Int) ≤ ((rdOf ByteArray.empty t181 0).size : Int)
       ·
        rw [if_pos c18] at H
        have c18b0 := eq_true c18; have c18b1 : decide (((sc t180 (⟨#[32]⟩ : ByteArray)).size : Int) ≤ ((rdOf ByteArray.empty t181 0).size : Int)) = true := decide_eq_true c18; clear c18; replace H := Option.bind_eq_some_iff.mp H; obtain ⟨t185, A190, H⟩ := H; replace H : (if 0 < (t185.length : Int) then (if ((rdOf ByteArray.empty t185 0).size : Int) = ((sx (rdOf ByteArray.empty t181 0) (((sc t180 (⟨#[32]⟩ : ByteArray)).size)) ((rdOf ByteArray.empty t181 0).size)).size : Int) then (some ((⟨#[]⟩ : ByteArray), (⟨#[]⟩ : ByteArray), false)) else (if 0 ≤ (wrap64 (((rdOf ByteArray.empty t185 0).size : Int) + 1)) then (if (wrap64 (((rdOf ByteArray.empty t185 0).size : Int) + 1)) ≤ ((sx (rdOf ByteArray.empty t181 0) (((sc t180 (⟨#[32]⟩ : ByteArray)).size)) ((rdOf ByteArray.empty t181 0).size)).size : Int) then ((spec_l27Good.f kj6 (rdOf ByteArray.empty t185 0) (sx (sx (rdOf ByteArray.empty t181 0) (((sc t180 (⟨#[32]⟩ : ByteArray)).size)) ((rdOf ByteArray.empty t181 0).size)) (((wrap64 (((rdOf ByteArray.empty t185 0).size : Int) + 1)) : Int).toNat) ((sx (rdOf ByteArray.empty t181 0) (((sc t180 (⟨#[32]⟩ : ByteArray)).size)) ((rdOf ByteArray.empty t181 0).size)).size))).bind fun t190 => (if t190 = true then ((spec_l27Line.f kj6 a1 (rdOf ByteArray.empty t185 0) (sx (sx (rdOf ByteArray.empty t181 0) (((sc t180 (⟨#[32]⟩ : ByteArray)).size)) ((rdOf ByteArray.empty t181 0).size)) (((wrap64 (((rdOf ByteArray.empty t185 0).size : Int) + 1)) : Int).toNat) ((sx (rdOf ByteArray.empty t181 0) (((sc t180 (⟨#[32]⟩ : ByteArray)).size)) ((rdOf ByteArray.empty t181 0).size)).size))).bind fun t191 => (if a0.size + 1 ≤ 9223372036854775807 then (some (rdOf ByteArray.empty t185 0, sx (sx (rdOf ByteArray.empty t181 0) (((sc t180 (⟨#[32]⟩ : ByteArray)).size)) ((rdOf ByteArray.empty t181 0).size)) (((wrap64 (((rdOf ByteArray.empty t185 0).size : Int) + 1)) : Int).toNat) ((sx (rdOf ByteArray.empty t181 0) (((sc t180 (⟨#[32]⟩ : ByteArray)).size)) ((rdOf ByteArray.empty t181 0).size)).size), (t191.toList == (sc a0 (⟨#[10]⟩ : ByteArray)).toList))) else (none))) else (some (rdOf ByteArray.empty t185 0, sx (sx (rdOf ByteArray.empty t181 0) (((sc t180 (⟨#[32]⟩ : ByteArray)).size)) ((rdOf ByteArray.empty t181 0).size)) (((wrap64 (((rdOf ByteArray.empty t185 0).size : Int) + 1)) : Int).toNat) ((sx (rdOf ByteArray.empty t181 0) (((sc t180 (⟨#[32]⟩ : ByteArray)).size)) ((rdOf ByteArray.empty t181 0).size)).size), false)))) else (none)) else (none))) else (none)) = some (r1, r2, r3) := H; have A19 := Aside0.mk A190; clear A190
        by_cases c20 : 0 < (t185.length : Int)
        ·
         rw [if_pos c20] at H
         have c20b0 : decide (0 < (t185.length : Int)) = true := decide_eq_true c20; have c20b1 : decide (0 < t185.length) = true := decide_eq_true (by omega); clear c20
         by_cases c21 : ((rdOf ByteArray.empty t185 0).size : Int) = ((sx (rdOf ByteArray.empty t181 0) (((sc t180 (⟨#[32]⟩ : ByteArray)).size)) ((rdOf ByteArray.empty t181 0).size)).size : Int)
         ·
          rw [if_pos c21] at H
          have c21b0 : (((rdOf ByteArray.empty t185 0).size : Int) == ((sx (rdOf ByteArray.empty t181 0) (((sc t180 (⟨#[32]⟩ : ByteArray)).size)) ((rdOf ByteArray.empty t181 0).size)).size : Int)) = true := beq_iff_eq.mpr c21; have c21b1 : (((rdOf ByteArray.empty t185 0).size : Int) != ((sx (rdOf ByteArray.empty t181 0) (((sc t180 (⟨#[32]⟩ : ByteArray)).size)) ((rdOf ByteArray.empty t181 0).size)).size : Int)) = false := bne_eq_false_iff_eq.mpr c21
          have c21b2 : ((rdOf ByteArray.empty t185 0).size == (sx (rdOf ByteArray.empty t181 0) (((sc t180 (⟨#[32]⟩ : ByteArray)).size)) ((rdOf ByteArray.empty t181 0).size)).size) = true := by first | simpa using c21 | (simp at c21 ⊢; omega)
          clear c21; simp only [Option.some.injEq, Prod.mk.injEq] at H; obtain ⟨rfl, rfl, rfl⟩ := H
          go_wp2_with (first | ((with_reducible refine gate_callee (f := 68) rfl ?_); refine ga_ (some 37) Tryd.func68 #[.string (sx (rdOf ByteArray.empty t181 0) (((sc t180 (⟨#[32]⟩ : ByteArray)).size)) ((rdOf ByteArray.empty t181 0).size)), .int .u8 64] ?_; (with_reducible refine (spec_l1Split.calls kj6 (sx (rdOf ByteArray.empty t181 0) (((sc t180 (⟨#[32]⟩ : ByteArray)).size)) ((rdOf ByteArray.empty t181 0).size)) 64 t185 _ A19.out).mono ?_); rintro e w22 ⟨v186, rfl, ho0, hb⟩; refine ⟨_, rfl, ?_⟩; have HO187 := Aside0.mk (Kd.R_lower ho0 (below_size (lb1_ HB.out GE179.out))); replace BK179 := Aside0.mk (bb_ (bk_ BK179.out) hb); replace HB := Aside0.mk (below_step (lb1_ HB.out GE179.out) hb); (try clear hb); (try clear hb2); (try clear hk); (try clear hi); (try clear ho0); obtain ⟨Ao23, co23, eo23⟩ := Kd.R_slice HO187.out; subst eo23; have p188 : 0 ≤ (0 : Int) := (by omega); have q188 : 0 < (t185.length : Int) := dt_; obtain ⟨ad188, e188, hx188_0⟩ := Kd.at_string (Kd.R_reads' HO187.out).2.2 0 p188 q188; cases e188; have qi188 : (0 < t185.length) = True := eq_true (by omega); (try rw [show ((0 : Int)).toNat = 0 from rfl] at hx188_0); (try rw [Addr.add_zero'] at hx188_0); replace p188 := eq_true p188; replace q188 := eq_true q188; obtain ⟨hcz24_0, hcz24_1⟩ := cz2_ BK179.out; obtain ⟨hfz24_0, hfz24_1⟩ := fz2_ BK179.out))
          refine bodyPost_ret (results_ct rfl _ _ gb179 27 #[.string (⟨#[]⟩ : ByteArray), .string (⟨#[]⟩ : ByteArray)] (0, 0) _ rfl (by (with_reducible repeat (first | refine blk_drewN ?_ _ | refine blk_drew ?_ | refine blk_alloc ?_ _)); refine blk_put (cs := #[.string (⟨#[]⟩ : ByteArray), .string (⟨#[]⟩ : ByteArray)]) ?_ 1 _ rfl; (with_reducible repeat (first | refine blk_drewN ?_ _ | refine blk_drew ?_ | refine blk_alloc ?_ _)); refine blk_put (cs := #[.string (⟨#[]⟩ : ByteArray), .string (⟨#[]⟩ : ByteArray)]) ?_ 0 _ rfl; (with_reducible repeat (first | refine blk_drewN ?_ _ | refine blk_drew ?_ | refine blk_alloc ?_ _)); exact BK179.out) Tryd.underlying27 rfl (by kernel_rfl)) rfl ?_; exact ⟨by first | rfl | (simp [errW_none, errW_some] <;> rfl) | (simp [*, errW_none, errW_some] <;> rfl) | (have hw_ : ∀ n : Nat, (n + 1 ≤ 9223372036854775807) → wrap64 ((n : Int) + 1) = (n : Int) + 1 := fun n hn => by unfold wrap64; omega); (rw [hw_ _ (by first | assumption | omega)]); rfl, lb1_ HB.out GE179.out⟩
         ·
          rw [if_neg c21] at H
          have c21b0 : (((rdOf ByteArray.empty t185 0).size : Int) == ((sx (rdOf ByteArray.empty t181 0) (((sc t180 (⟨#[32]⟩ : ByteArray)).size)) ((rdOf ByteArray.empty t181 0).size)).size : Int)) = false := beq_eq_false_iff_ne.mpr c21; have c21b1 : (((rdOf ByteArray.empty t185 0).size : Int) != ((sx (rdOf ByteArray.empty t181 0) (((sc t180 (⟨#[32]⟩ : ByteArray)).size)) ((rdOf ByteArray.empty t181 0).size)).size : Int)) = true := bne_iff_ne.mpr c21
          have c21b2 : ((rdOf ByteArray.empty t185 0).size == (sx (rdOf ByteArray.empty t181 0) (((sc t180 (⟨#[32]⟩ : ByteArray)).size)) ((rdOf ByteArray.empty t181 0).size)).size) = false := by first | simpa using c21 | (simp at c21 ⊢; omega)
          obtain ⟨ji25, hji25⟩ : ∃ j_ : Int, (wrap64 (((rdOf ByteArray.empty t185 0).size : Int) + 1)) = j_ := ⟨_, rfl⟩
          replace H : (if 0 ≤ (ji25) then (if (ji25) ≤ ((sx (rdOf ByteArray.empty t181 0) (((sc t180 (⟨#[32]⟩ : ByteArray)).size)) ((rdOf ByteArray.empty t181 0).size)).size : Int) then ((spec_l27Good.f kj6 (rdOf ByteArray.empty t185 0) (sx (sx (rdOf ByteArray.empty t181 0) (((sc t180 (⟨#[32]⟩ : ByteArray)).size)) ((rdOf ByteArray.empty t181 0).size)) (((ji25) : Int).toNat) ((sx (rdOf ByteArray.empty t181 0) (((sc t180 (⟨#[32]⟩ : ByteArray)).size)) ((rdOf ByteArray.empty t181 0).size)).size))).bind fun t190 => (if t190 = true then ((spec_l27Line.f kj6 a1 (rdOf ByteArray.empty t185 0) (sx (sx (rdOf ByteArray.empty t181 0) (((sc t180 (⟨#[32]⟩ : ByteArray)).size)) ((rdOf ByteArray.empty t181 0).size)) (((ji25) : Int).toNat) ((sx (rdOf ByteArray.empty t181 0) (((sc t180 (⟨#[32]⟩ : ByteArray)).size)) ((rdOf ByteArray.empty t181 0).size)).size))).bind fun t191 => (if a0.size + 1 ≤ 9223372036854775807 then (some (rdOf ByteArray.empty t185 0, sx (sx (rdOf ByteArray.empty t181 0) (((sc t180 (⟨#[32]⟩ : ByteArray)).size)) ((rdOf ByteArray.empty t181 0).size)) (((ji25) : Int).toNat) ((sx (rdOf ByteArray.empty t181 0) (((sc t180 (⟨#[32]⟩ : ByteArray)).size)) ((rdOf ByteArray.empty t181 0).size)).size), (t191.toList == (sc a0 (⟨#[10]⟩ : ByteArray)).toList))) else (none))) else (some (rdOf ByteArray.empty t185 0, sx (sx (rdOf ByteArray.empty t181 0) (((sc t180 (⟨#[32]⟩ : ByteArray)).size)) ((rdOf ByteArray.empty t181 0).size)) (((ji25) : Int).toNat) ((sx (rdOf ByteArray.empty t181 0) (((sc t180 (⟨#[32]⟩ : ByteArray)).size)) ((rdOf ByteArray.empty t181 0).size)).size), false)))) else (none)) else (none)) = some (r1, r2, r3) := by first | (rw [hji25] at H; exact H) | (simp only [hji25] at H ⊢; exact H)
          (try rw [hji25] at A19); have hji25w : (IntKind.i64.wrap (((rdOf ByteArray.empty t185 0).size : Int) + 1)) = ji25 := (i64_w _).trans hji25
          by_cases c26 : 0 ≤ (ji25)
          ·
           rw [if_pos c26] at H
           have c26b0 := eq_true c26; have c26b1 : decide (0 ≤ (ji25)) = true := decide_eq_true c26; clear c26
           by_cases c27 : (ji25) ≤ ((sx (rdOf ByteArray.empty t181 0) (((sc t180 (⟨#[32]⟩ : ByteArray)).size)) ((rdOf ByteArray.empty t181 0).size)).size : Int)
           ·
            rw [if_pos c27] at H
            have c27b0 := eq_true c27; have c27b1 : decide ((ji25) ≤ ((sx (rdOf ByteArray.empty t181 0) (((sc t180 (⟨#[32]⟩ : ByteArray)).size)) ((rdOf ByteArray.empty t181 0).size)).size : Int)) = true := decide_eq_true c27; clear c27; replace H := Option.bind_eq_some_iff.mp H; obtain ⟨t190, A280, H⟩ := H; replace H : (if t190 = true then ((spec_l27Line.f kj6 a1 (rdOf ByteArray.empty t185 0) (sx (sx (rdOf ByteArray.empty t181 0) (((sc t180 (⟨#[32]⟩ : ByteArray)).size)) ((rdOf ByteArray.empty t181 0).size)) (((ji25) : Int).toNat) ((sx (rdOf ByteArray.empty t181 0) (((sc t180 (⟨#[32]⟩ : ByteArray)).size)) ((rdOf ByteArray.empty t181 0).size)).size))).bind fun t191 => (if a0.size + 1 ≤ 9223372036854775807 then (some (rdOf ByteArray.empty t185 0, sx (sx (rdOf ByteArray.empty t181 0) (((sc t180 (⟨#[32]⟩ : ByteArray)).size)) ((rdOf ByteArray.empty t181 0).size)) (((ji25) : Int).toNat) ((sx (rdOf ByteArray.empty t181 0) (((sc t180 (⟨#[32]⟩ : ByteArray)).size)) ((rdOf ByteArray.empty t181 0).size)).size), (t191.toList == (sc a0 (⟨#[10]⟩ : ByteArray)).toList))) else (none))) else (some (rdOf ByteArray.empty t185 0, sx (sx (rdOf ByteArray.empty t181 0) (((sc t180 (⟨#[32]⟩ : ByteArray)).size)) ((rdOf ByteArray.empty t181 0).size)) (((ji25) : Int).toNat) ((sx (rdOf ByteArray.empty t181 0) (((sc t180 (⟨#[32]⟩ : ByteArray)).size)) ((rdOf ByteArray.empty t181 0).size)).size), false))) = some (r1, r2, r3) := H; have A28 := Aside0.mk A280; clear A280
            by_cases c29 : t190 = true
            ·
             subst c29
             have H1 : ((spec_l27Line.f kj6 a1 (rdOf ByteArray.empty t185 0) (sx (sx (rdOf ByteArray.empty t181 0) (((sc t180 (⟨#[32]⟩ : ByteArray)).size)) ((rdOf ByteArray.empty t181 0).size)) (((ji25) : Int).toNat) ((sx (rdOf ByteArray.empty t181 0) (((sc t180 (⟨#[32]⟩ : ByteArray)).size)) ((rdOf ByteArray.empty t181 0).size)).size))).bind fun t191 => (if a0.size + 1 ≤ 9223372036854775807 then (some (rdOf ByteArray.empty t185 0, sx (sx (rdOf ByteArray.empty t181 0) (((sc t180 (⟨#[32]⟩ : ByteArray)).size)) ((rdOf ByteArray.empty t181 0).size)) (((ji25) : Int).toNat) ((sx (rdOf ByteArray.empty t181 0) (((sc t180 (⟨#[32]⟩ : ByteArray)).size)) ((rdOf ByteArray.empty t181 0).size)).size), (t191.toList == (sc a0 (⟨#[10]⟩ : ByteArray)).toList))) else (none))) = some (r1, r2, r3) := by rw [if_pos rfl] at H; exact H
             clear H; have H := H1; clear H1; replace H := Option.bind_eq_some_iff.mp H; obtain ⟨t191, A300, H⟩ := H; replace H : (if a0.size + 1 ≤ 9223372036854775807 then (some (rdOf ByteArray.empty t185 0, sx (sx (rdOf ByteArray.empty t181 0) (((sc t180 (⟨#[32]⟩ : ByteArray)).size)) ((rdOf ByteArray.empty t181 0).size)) (((ji25) : Int).toNat) ((sx (rdOf ByteArray.empty t181 0) (((sc t180 (⟨#[32]⟩ : ByteArray)).size)) ((rdOf ByteArray.empty t181 0).size)).size), (t191.toList == (sc a0 (⟨#[10]⟩ : ByteArray)).toList))) else (none)) = some (r1, r2, r3) := H; have A30 := Aside0.mk A300; clear A300
             by_cases c31 : a0.size + 1 ≤ 9223372036854775807
             ·
              rw [if_pos c31] at H
              have c31b0 := eq_true c31; have c31b1 : decide (a0.size + 1 ≤ 9223372036854775807) = true := decide_eq_true c31
              try have c31b2 : (9223372036854775807 < a0.size + 1) = False := eq_false (Nat.not_lt.2 c31)
              simp only [Option.some.injEq, Prod.mk.injEq] at H; obtain ⟨rfl, rfl, rfl⟩ := H
              try go_wp2_with (first | ((with_reducible refine gate_callee (f := 68) rfl ?_); refine ga_ (some 37) Tryd.func68 #[.string (sx (rdOf ByteArray.empty t181 0) (((sc t180 (⟨#[32]⟩ : ByteArray)).size)) ((rdOf ByteArray.empty t181 0).size)), .int .u8 64] ?_; (with_reducible refine (spec_l1Split.calls kj6 (sx (rdOf ByteArray.empty t181 0) (((sc t180 (⟨#[32]⟩ : ByteArray)).size)) ((rdOf ByteArray.empty t181 0).size)) 64 t185 _ A19.out).mono ?_); rintro e w32 ⟨v186, rfl, ho0, hb⟩; refine ⟨_, rfl, ?_⟩; have HO187 := Aside0.mk (Kd.R_lower ho0 (below_size (lb1_ HB.out GE179.out))); replace BK179 := Aside0.mk (bb_ (bk_ BK179.out) hb); replace HB := Aside0.mk (below_step (lb1_ HB.out GE179.out) hb); (try clear hb); (try clear hb2); (try clear hk); (try clear hi); (try clear ho0); obtain ⟨Ao33, co33, eo33⟩ := Kd.R_slice HO187.out; subst eo33; have p188 : 0 ≤ (0 : Int) := (by omega); have q188 : 0 < (t185.length : Int) := dt_; obtain ⟨ad188, e188, hx188_0⟩ := Kd.at_string (Kd.R_reads' HO187.out).2.2 0 p188 q188; cases e188; have qi188 : (0 < t185.length) = True := eq_true (by omega); (try rw [show ((0 : Int)).toNat = 0 from rfl] at hx188_0); (try rw [Addr.add_zero'] at hx188_0); replace p188 := eq_true p188; replace q188 := eq_true q188) | ((with_reducible refine gate_dst (N := 10) rfl ?_); (try (refine gate_guard (by rfl) ?_; dsimp only)); refine box_event ?hg (N := 10) ?hd (cs := #[.string (⟨#[]⟩ : ByteArray), .string (⟨#[]⟩ : ByteArray)]) (t := 27) ?hr ?_; (case hd => rfl); (case hg => rfl); (case hr => first | (go_simp; done) | (go_simp; rfl)); intro gb189 hg w34 hbox hb; replace HO187 := Aside0.mk (Kd.R_below (kr_ HO187.out) hb); have BK189 := Aside0.mk (hbox); have GW189 := Aside0.mk ((bz_ hg (lb1_ HB.out GE179.out))); have GE189 := Aside0.mk ((bz_ hg (lb1_ HB.out GE179.out))); replace HB := Aside0.mk (below_step (lb1_ HB.out GE179.out) hb); have NB179_189 := Aside0.mk ((by rw [hg]; exact Nat.ne_of_lt (blk_lt (g := gb179) (o := .cells #[.string (⟨#[]⟩ : ByteArray), .string (⟨#[]⟩ : ByteArray)] 27 (0, 0)) (bk_ BK179.out)) : gb179 ≠ gb189)); have NB189_179 := Aside0.mk ((by rw [hg]; exact Nat.ne_of_gt (blk_lt (g := gb179) (o := .cells #[.string (⟨#[]⟩ : ByteArray), .string (⟨#[]⟩ : ByteArray)] 27 (0, 0)) (bk_ BK179.out)) : gb189 ≠ gb179)); replace BK179 := Aside0.mk (bb_ (bk_ BK179.out) hb); clear hb hbox hg; have hnb35 := NB189_179.out; have hnc35 := NB179_189.out; obtain ⟨hcz36_0, hcz36_1⟩ := cz2_ BK189.out; obtain ⟨hfz36_0, hfz36_1⟩ := fz2_ BK189.out))
              have n0_ : Aside0 (Kd.R Kd.string 9 ((w34.setCell ⟨gb189, 0, none⟩ (.string (rdOf ByteArray.empty t185 0))).setCell ⟨gb189, 1, none⟩ (.string (sx (sx (rdOf ByteArray.empty t181 0) (((sc t180 (⟨#[32]⟩ : ByteArray)).size)) ((rdOf ByteArray.empty t181 0).size)) (((ji25) : Int).toNat) ((sx (rdOf ByteArray.empty t181 0) (((sc t180 (⟨#[32]⟩ : ByteArray)).size)) ((rdOf ByteArray.empty t181 0).size)).size)))) w.heap.size (fun _ => True) (.slice (some ad188) t185.length co33) t185) := ⟨by (with_reducible repeat (first | apply Kd.R_alloc | apply Kd.R_drewN | apply Kd.R_drew)); exact Kd.R_mono (Kd.R_far (p := ⟨gb189, 1, none⟩) (Kd.R_far (p := ⟨gb189, 0, none⟩) (Kd.R_types HO187.out BK189.out (by decide)) (fun _ hk => hk.2) (.string (rdOf ByteArray.empty t185 0))) (fun _ hk => hk.2) (.string (sx (sx (rdOf ByteArray.empty t181 0) (((sc t180 (⟨#[32]⟩ : ByteArray)).size)) ((rdOf ByteArray.empty t181 0).size)) (((ji25) : Int).toNat) ((sx (rdOf ByteArray.empty t181 0) (((sc t180 (⟨#[32]⟩ : ByteArray)).size)) ((rdOf ByteArray.empty t181 0).size)).size)))) (fun _ hk => trivial)⟩
              have n1_ : Aside0 (((w34.setCell ⟨gb189, 0, none⟩ (.string (rdOf ByteArray.empty t185 0))).setCell ⟨gb189, 1, none⟩ (.string (sx (sx (rdOf ByteArray.empty t181 0) (((sc t180 (⟨#[32]⟩ : ByteArray)).size)) ((rdOf ByteArray.empty t181 0).size)) (((ji25) : Int).toNat) ((sx (rdOf ByteArray.empty t181 0) (((sc t180 (⟨#[32]⟩ : ByteArray)).size)) ((rdOf ByteArray.empty t181 0).size)).size)))).heap[gb179]? = some (.cells #[.string (⟨#[]⟩ : ByteArray), .string (⟨#[]⟩ : ByteArray)] 27 (0, 0))) := ⟨by (with_reducible repeat (first | refine blk_drewN ?_ _ | refine blk_drew ?_ | refine blk_alloc ?_ _)); refine blk_far ?_ NB179_189.out _; (with_reducible repeat (first | refine blk_drewN ?_ _ | refine blk_drew ?_ | refine blk_alloc ?_ _)); refine blk_far ?_ NB179_189.out _; (with_reducible repeat (first | refine blk_drewN ?_ _ | refine blk_drew ?_ | refine blk_alloc ?_ _)); exact BK179.out⟩
              have n2_ : Aside0 (((w34.setCell ⟨gb189, 0, none⟩ (.string (rdOf ByteArray.empty t185 0))).setCell ⟨gb189, 1, none⟩ (.string (sx (sx (rdOf ByteArray.empty t181 0) (((sc t180 (⟨#[32]⟩ : ByteArray)).size)) ((rdOf ByteArray.empty t181 0).size)) (((ji25) : Int).toNat) ((sx (rdOf ByteArray.empty t181 0) (((sc t180 (⟨#[32]⟩ : ByteArray)).size)) ((rdOf ByteArray.empty t181 0).size)).size)))).heap[gb189]? = some (.cells #[.string (rdOf ByteArray.empty t185 0), .string (sx (sx (rdOf ByteArray.empty t181 0) (((sc t180 (⟨#[32]⟩ : ByteArray)).size)) ((rdOf ByteArray.empty t181 0).size)) (((ji25) : Int).toNat) ((sx (rdOf ByteArray.empty t181 0) (((sc t180 (⟨#[32]⟩ : ByteArray)).size)) ((rdOf ByteArray.empty t181 0).size)).size))] 27 (0, 0))) := ⟨by (with_reducible repeat (first | refine blk_drewN ?_ _ | refine blk_drew ?_ | refine blk_alloc ?_ _)); refine blk_put (cs := #[.string (rdOf ByteArray.empty t185 0), .string (⟨#[]⟩ : ByteArray)]) ?_ 1 _ rfl; (with_reducible repeat (first | refine blk_drewN ?_ _ | refine blk_drew ?_ | refine blk_alloc ?_ _)); refine blk_put (cs := #[.string (⟨#[]⟩ : ByteArray), .string (⟨#[]⟩ : ByteArray)]) ?_ 0 _ rfl; (with_reducible repeat (first | refine blk_drewN ?_ _ | refine blk_drew ?_ | refine blk_alloc ?_ _)); exact BK189.out⟩
              have n3_ : Aside0 (Below w.heap.size w ((w34.setCell ⟨gb189, 0, none⟩ (.string (rdOf ByteArray.empty t185 0))).setCell ⟨gb189, 1, none⟩ (.string (sx (sx (rdOf ByteArray.empty t181 0) (((sc t180 (⟨#[32]⟩ : ByteArray)).size)) ((rdOf ByteArray.empty t181 0).size)) (((ji25) : Int).toNat) ((sx (rdOf ByteArray.empty t181 0) (((sc t180 (⟨#[32]⟩ : ByteArray)).size)) ((rdOf ByteArray.empty t181 0).size)).size))))) := ⟨lb2_ HB.out GE179.out GE189.out⟩
              (try clear HO187); (try clear BK179); (try clear BK189); (try clear HB); generalize ((w34.setCell ⟨gb189, 0, none⟩ (.string (rdOf ByteArray.empty t185 0))).setCell ⟨gb189, 1, none⟩ (.string (sx (sx (rdOf ByteArray.empty t181 0) (((sc t180 (⟨#[32]⟩ : ByteArray)).size)) ((rdOf ByteArray.empty t181 0).size)) (((ji25) : Int).toNat) ((sx (rdOf ByteArray.empty t181 0) (((sc t180 (⟨#[32]⟩ : ByteArray)).size)) ((rdOf ByteArray.empty t181 0).size)).size)))) = w37 at n0_ n1_ n2_ n3_ ⊢; have HO187 := n0_; have BK179 := n1_; have BK189 := n2_; have HB := n3_; clear n0_ n1_ n2_ n3_; replace HO187 := Aside0.mk (Kd.R_drew HO187.out); replace BK179 := Aside0.mk (blk_drew BK179.out); replace BK189 := Aside0.mk (blk_drew BK189.out); replace HB := Aside0.mk (below_drew1 HB.out); refine start_ (n := 13) (S := fun w' => w'.cell? ⟨gb189, 0, none⟩ = some (.string (rdOf ByteArray.empty t185 0)) ∧ w'.cell? ⟨gb189, 1, none⟩ = some (.string (sx (sx (rdOf ByteArray.empty t181 0) (((sc t180 (⟨#[32]⟩ : ByteArray)).size)) ((rdOf ByteArray.empty t181 0).size)) (((ji25) : Int).toNat) ((sx (rdOf ByteArray.empty t181 0) (((sc t180 (⟨#[32]⟩ : ByteArray)).size)) ((rdOf ByteArray.empty t181 0).size)).size)))) (ds := []) spec_l27Read.mk0 (by kernel_rfl) rfl rfl ⟨(blk_cell BK189.out 0).trans rfl, (blk_cell BK189.out 1).trans rfl⟩ (fun hHeld => ?_); refine with_tabW spec_l27Read.tab10 spec_l27Read.bits10 (fun HT_ HW_ => ?_); generalize w37.drew = w38 at HO187 BK179 BK189 HB hHeld ⊢; refine take_ (i := 0) (N := some 53) (v := ?_) (a' := ?_) spec_l27Read.mk1 rfl rfl (take_ofW HT_.out HW_.out (by kernel_rfl)) (fun _ _ _ h => h) (Or.inl ⟨by rfl, ?_⟩) hHeld ?_ ?_; rotate_left
              ·
               rintro w' ⟨s0, s1⟩; go_simp; (with_reducible rfl)
              rotate_left
              ·
               simp only [Act.put, List.setIfInBounds_toArray, List.set_cons_zero, List.set_cons_succ, i64_w, i32_w]; rfl
              refine take_ (i := 1) (N := some 54) (v := ?_) (a' := ?_) spec_l27Read.mk2 rfl rfl (take_ofW HT_.out HW_.out (by kernel_rfl)) (fun _ _ _ h => h) (Or.inl ⟨by rfl, ?_⟩) hHeld ?_ ?_; rotate_left
              ·
               rintro w' ⟨s0, s1⟩; go_simp; (with_reducible rfl)
              rotate_left
              ·
               simp only [Act.put, List.setIfInBounds_toArray, List.set_cons_zero, List.set_cons_succ, i64_w, i32_w]; rfl
              refine one_ (i := 2) (N := some 55) spec_l27Read.mk3 rfl rfl (one_of HT_.out (by kernel_rfl)) (by decide) (fun K hK => ?_); refine goes_ Tryd.func43 (by kernel_rfl) rfl #[.agg #[.string (rdOf ByteArray.empty t185 0), .string (sx (sx (rdOf ByteArray.empty t181 0) (((sc t180 (⟨#[32]⟩ : ByteArray)).size)) ((rdOf ByteArray.empty t181 0).size)) (((ji25) : Int).toNat) ((sx (rdOf ByteArray.empty t181 0) (((sc t180 (⟨#[32]⟩ : ByteArray)).size)) ((rdOf ByteArray.empty t181 0).size)).size))]] (by rfl) rfl rfl (by (try simp only [List.map_toArray, List.map_cons, List.map_nil]); first | done | (simp only [hji25]; rfl) | rfl | (simp only [List.length_drop, List.length_take]; rfl)) ?_; (with_reducible refine (spec_l27Good.calls kj6 (rdOf ByteArray.empty t185 0) (sx (sx (rdOf ByteArray.empty t181 0) (((sc t180 (⟨#[32]⟩ : ByteArray)).size)) ((rdOf ByteArray.empty t181 0).size)) (((ji25) : Int).toNat) ((sx (rdOf ByteArray.empty t181 0) (((sc t180 (⟨#[32]⟩ : ByteArray)).size)) ((rdOf ByteArray.empty t181 0).size)).size)) true _ A28.out).mono ?_); rintro e w39 ⟨rfl, hb⟩; refine ⟨_, rfl, ?_⟩; replace HO187 := Aside0.mk (Kd.R_below (kr_ HO187.out) hb); replace BK179 := Aside0.mk (bb_ (bk_ BK179.out) hb); replace BK189 := Aside0.mk (bb_ (bk_ BK189.out) hb); replace HB := Aside0.mk (below_step (lb2_ HB.out GE179.out GE189.out) hb); (try clear hb); (try clear hb2); (try clear hk); (try clear hi); refine hK.out _ _ ⟨(blk_cell BK189.out 0).trans rfl, (blk_cell BK189.out 1).trans rfl⟩ (fun hHeld => ?_); clear hK K; refine na_ ?_; refine pz_ HT_ 3 (some 56) spec_l27Read.mk4 ?_; refine pz_ HT_ 4 (some 57) spec_l27Read.mk5 ?_; refine pz_ HT_ 7 (some 60) spec_l27Read.mk6 ?_; refine pz_ HT_ 8 (some 61) spec_l27Read.mk7 ?_; refine take_ (i := 5) (N := some 58) (v := ?_) (a' := ?_) spec_l27Read.mk8 rfl rfl (take_ofW HT_.out HW_.out (by kernel_rfl)) (fun _ _ _ h => h) (Or.inl ⟨by rfl, ?_⟩) hHeld ?_ ?_; rotate_left
              ·
               rintro w' ⟨s0, s1⟩; go_simp; (with_reducible rfl)
              rotate_left
              ·
               simp only [Act.put, List.setIfInBounds_toArray, List.set_cons_zero, List.set_cons_succ, i64_w, i32_w]; rfl
              refine one_ (i := 6) (N := some 59) spec_l27Read.mk9 rfl rfl (one_of HT_.out (by kernel_rfl)) (by decide) (fun K hK => ?_); refine goes_ Tryd.func44 (by kernel_rfl) rfl #[.int .i64 a1, .agg #[.string (rdOf ByteArray.empty t185 0), .string (sx (sx (rdOf ByteArray.empty t181 0) (((sc t180 (⟨#[32]⟩ : ByteArray)).size)) ((rdOf ByteArray.empty t181 0).size)) (((ji25) : Int).toNat) ((sx (rdOf ByteArray.empty t181 0) (((sc t180 (⟨#[32]⟩ : ByteArray)).size)) ((rdOf ByteArray.empty t181 0).size)).size))]] (by rfl) rfl rfl (by (try simp only [List.map_toArray, List.map_cons, List.map_nil]); first | done | (simp only [hji25]; rfl) | rfl | (simp only [List.length_drop, List.length_take]; rfl)) ?_; (with_reducible refine (spec_l27Line.calls kj6 a1 (rdOf ByteArray.empty t185 0) (sx (sx (rdOf ByteArray.empty t181 0) (((sc t180 (⟨#[32]⟩ : ByteArray)).size)) ((rdOf ByteArray.empty t181 0).size)) (((ji25) : Int).toNat) ((sx (rdOf ByteArray.empty t181 0) (((sc t180 (⟨#[32]⟩ : ByteArray)).size)) ((rdOf ByteArray.empty t181 0).size)).size)) t191 _ A30.out).mono ?_); rintro e w40 ⟨rfl, hb⟩; refine ⟨_, rfl, ?_⟩; replace HO187 := Aside0.mk (Kd.R_below (kr_ HO187.out) hb); replace BK179 := Aside0.mk (bb_ (bk_ BK179.out) hb); replace BK189 := Aside0.mk (bb_ (bk_ BK189.out) hb); replace HB := Aside0.mk (below_step (lb2_ HB.out GE179.out GE189.out) hb); (try clear hb); (try clear hb2); (try clear hk); (try clear hi); refine hK.out _ _ ⟨(blk_cell BK189.out 0).trans rfl, (blk_cell BK189.out 1).trans rfl⟩ (fun hHeld => ?_); clear hK K; refine na_ ?_; refine pz_ HT_ 9 (some 62) spec_l27Read.mk10 ?_; refine pz_ HT_ 10 (some 63) spec_l27Read.mk11 ?_; refine one_ (i := 11) (N := none) spec_l27Read.mk12 rfl rfl (one_of HT_.out (by kernel_rfl)) (by decide) (fun K hK => ?_); have hs41 : w40.cell? ⟨gb179, 0, none⟩ = some (.string (⟨#[]⟩ : ByteArray)) := (blk_cell BK179.out 0).trans rfl; have hfs41 := blk_frozen BK179.out 0; have hns41_1 := NB189_179.out; have hms41_1 := NB179_189.out; have hs42 : w40.cell? ⟨gb179, 1, none⟩ = some (.string (⟨#[]⟩ : ByteArray)) := (blk_cell BK179.out 1).trans rfl; have hfs42 := blk_frozen BK179.out 1; have hns42_1 := NB189_179.out; have hms42_1 := NB179_189.out; refine skip_ (w1 := ?_) (by rfl) rfl ?_ ?_; rotate_left
              ·
               go_simp; rfl
              refine hK.out _ _ ⟨((cell_far (p := ⟨gb179, _, none⟩) NB189_179.out _).trans (((cell_far (p := ⟨gb179, _, none⟩) NB189_179.out _).trans (hHeld.1)))), ((cell_far (p := ⟨gb179, _, none⟩) NB189_179.out _).trans (((cell_far (p := ⟨gb179, _, none⟩) NB189_179.out _).trans (hHeld.2))))⟩ (fun hHeld => ?_); clear hK K; refine pz_ HT_ 12 (some 5) spec_l27Read.mk13 ?_; refine done_ (done_of HT_.out (by kernel_rfl)) ?_
              try go_wp2
              refine bodyPost_ret (results_ct rfl _ _ gb179 27 #[.string (rdOf ByteArray.empty t185 0), .string (sx (sx (rdOf ByteArray.empty t181 0) (((sc t180 (⟨#[32]⟩ : ByteArray)).size)) ((rdOf ByteArray.empty t181 0).size)) (((ji25) : Int).toNat) ((sx (rdOf ByteArray.empty t181 0) (((sc t180 (⟨#[32]⟩ : ByteArray)).size)) ((rdOf ByteArray.empty t181 0).size)).size))] (0, 0) _ rfl (by (with_reducible repeat (first | refine blk_drewN ?_ _ | refine blk_drew ?_ | refine blk_alloc ?_ _)); refine blk_put (cs := #[.string (rdOf ByteArray.empty t185 0), .string (⟨#[]⟩ : ByteArray)]) ?_ 1 _ rfl; (with_reducible repeat (first | refine blk_drewN ?_ _ | refine blk_drew ?_ | refine blk_alloc ?_ _)); refine blk_put (cs := #[.string (⟨#[]⟩ : ByteArray), .string (⟨#[]⟩ : ByteArray)]) ?_ 0 _ rfl; (with_reducible repeat (first | refine blk_drewN ?_ _ | refine blk_drew ?_ | refine blk_alloc ?_ _)); exact BK179.out) Tryd.underlying27 rfl (by kernel_rfl)) rfl ?_; exact ⟨by first | rfl | (simp [errW_none, errW_some] <;> rfl) | (simp only [← hji25]; first | rfl | (simp [errW_none, errW_some] <;> rfl)) | (simp [*, errW_none, errW_some] <;> rfl) | (have hw_ : ∀ n : Nat, (n + 1 ≤ 9223372036854775807) → wrap64 ((n : Int) + 1) = (n : Int) + 1 := fun n hn => by unfold wrap64; omega); (rw [hw_ _ (by first | assumption | omega)]); rfl, lb2_ HB.out GE179.out GE189.out⟩
             ·
              rw [if_neg c31] at H
              exact absurd H (by simp)
            ·
             replace c29 := Bool.eq_false_iff.mpr c29; subst c29
             have H1 : (some (rdOf ByteArray.empty t185 0, sx (sx (rdOf ByteArray.empty t181 0) (((sc t180 (⟨#[32]⟩ : ByteArray)).size)) ((rdOf ByteArray.empty t181 0).size)) (((ji25) : Int).toNat) ((sx (rdOf ByteArray.empty t181 0) (((sc t180 (⟨#[32]⟩ : ByteArray)).size)) ((rdOf ByteArray.empty t181 0).size)).size), false)) = some (r1, r2, r3) := by rw [if_neg (show ¬ (false = true) by decide)] at H; exact H
             clear H; have H := H1; clear H1; simp only [Option.some.injEq, Prod.mk.injEq] at H; obtain ⟨rfl, rfl, rfl⟩ := H
             try go_wp2_with (first | ((with_reducible refine gate_callee (f := 68) rfl ?_); refine ga_ (some 37) Tryd.func68 #[.string (sx (rdOf ByteArray.empty t181 0) (((sc t180 (⟨#[32]⟩ : ByteArray)).size)) ((rdOf ByteArray.empty t181 0).size)), .int .u8 64] ?_; (with_reducible refine (spec_l1Split.calls kj6 (sx (rdOf ByteArray.empty t181 0) (((sc t180 (⟨#[32]⟩ : ByteArray)).size)) ((rdOf ByteArray.empty t181 0).size)) 64 t185 _ A19.out).mono ?_); rintro e w43 ⟨v186, rfl, ho0, hb⟩; refine ⟨_, rfl, ?_⟩; have HO187 := Aside0.mk (Kd.R_lower ho0 (below_size (lb1_ HB.out GE179.out))); replace BK179 := Aside0.mk (bb_ (bk_ BK179.out) hb); replace HB := Aside0.mk (below_step (lb1_ HB.out GE179.out) hb); (try clear hb); (try clear hb2); (try clear hk); (try clear hi); (try clear ho0); obtain ⟨Ao44, co44, eo44⟩ := Kd.R_slice HO187.out; subst eo44; have p188 : 0 ≤ (0 : Int) := (by omega); have q188 : 0 < (t185.length : Int) := dt_; obtain ⟨ad188, e188, hx188_0⟩ := Kd.at_string (Kd.R_reads' HO187.out).2.2 0 p188 q188; cases e188; have qi188 : (0 < t185.length) = True := eq_true (by omega); (try rw [show ((0 : Int)).toNat = 0 from rfl] at hx188_0); (try rw [Addr.add_zero'] at hx188_0); replace p188 := eq_true p188; replace q188 := eq_true q188) | ((with_reducible refine gate_dst (N := 10) rfl ?_); (try (refine gate_guard (by rfl) ?_; dsimp only)); refine box_event ?hg (N := 10) ?hd (cs := #[.string (⟨#[]⟩ : ByteArray), .string (⟨#[]⟩ : ByteArray)]) (t := 27) ?hr ?_; (case hd => rfl); (case hg => rfl); (case hr => first | (go_simp; done) | (go_simp; rfl)); intro gb189 hg w45 hbox hb; replace HO187 := Aside0.mk (Kd.R_below (kr_ HO187.out) hb); have BK189 := Aside0.mk (hbox); have GW189 := Aside0.mk ((bz_ hg (lb1_ HB.out GE179.out))); have GE189 := Aside0.mk ((bz_ hg (lb1_ HB.out GE179.out))); replace HB := Aside0.mk (below_step (lb1_ HB.out GE179.out) hb); have NB179_189 := Aside0.mk ((by rw [hg]; exact Nat.ne_of_lt (blk_lt (g := gb179) (o := .cells #[.string (⟨#[]⟩ : ByteArray), .string (⟨#[]⟩ : ByteArray)] 27 (0, 0)) (bk_ BK179.out)) : gb179 ≠ gb189)); have NB189_179 := Aside0.mk ((by rw [hg]; exact Nat.ne_of_gt (blk_lt (g := gb179) (o := .cells #[.string (⟨#[]⟩ : ByteArray), .string (⟨#[]⟩ : ByteArray)] 27 (0, 0)) (bk_ BK179.out)) : gb189 ≠ gb179)); replace BK179 := Aside0.mk (bb_ (bk_ BK179.out) hb); clear hb hbox hg; have hnb46 := NB189_179.out; have hnc46 := NB179_189.out; obtain ⟨hcz47_0, hcz47_1⟩ := cz2_ BK189.out; obtain ⟨hfz47_0, hfz47_1⟩ := fz2_ BK189.out))
             have n0_ : Aside0 (Kd.R Kd.string 9 ((w45.setCell ⟨gb189, 0, none⟩ (.string (rdOf ByteArray.empty t185 0))).setCell ⟨gb189, 1, none⟩ (.string (sx (sx (rdOf ByteArray.empty t181 0) (((sc t180 (⟨#[32]⟩ : ByteArray)).size)) ((rdOf ByteArray.empty t181 0).size)) (((ji25) : Int).toNat) ((sx (rdOf ByteArray.empty t181 0) (((sc t180 (⟨#[32]⟩ : ByteArray)).size)) ((rdOf ByteArray.empty t181 0).size)).size)))) w.heap.size (fun _ => True) (.slice (some ad188) t185.length co44) t185) := ⟨by (with_reducible repeat (first | apply Kd.R_alloc | apply Kd.R_drewN | apply Kd.R_drew)); exact Kd.R_mono (Kd.R_far (p := ⟨gb189, 1, none⟩) (Kd.R_far (p := ⟨gb189, 0, none⟩) (Kd.R_types HO187.out BK189.out (by decide)) (fun _ hk => hk.2) (.string (rdOf ByteArray.empty t185 0))) (fun _ hk => hk.2) (.string (sx (sx (rdOf ByteArray.empty t181 0) (((sc t180 (⟨#[32]⟩ : ByteArray)).size)) ((rdOf ByteArray.empty t181 0).size)) (((ji25) : Int).toNat) ((sx (rdOf ByteArray.empty t181 0) (((sc t180 (⟨#[32]⟩ : ByteArray)).size)) ((rdOf ByteArray.empty t181 0).size)).size)))) (fun _ hk => trivial)⟩
             have n1_ : Aside0 (((w45.setCell ⟨gb189, 0, none⟩ (.string (rdOf ByteArray.empty t185 0))).setCell ⟨gb189, 1, none⟩ (.string (sx (sx (rdOf ByteArray.empty t181 0) (((sc t180 (⟨#[32]⟩ : ByteArray)).size)) ((rdOf ByteArray.empty t181 0).size)) (((ji25) : Int).toNat) ((sx (rdOf ByteArray.empty t181 0) (((sc t180 (⟨#[32]⟩ : ByteArray)).size)) ((rdOf ByteArray.empty t181 0).size)).size)))).heap[gb179]? = some (.cells #[.string (⟨#[]⟩ : ByteArray), .string (⟨#[]⟩ : ByteArray)] 27 (0, 0))) := ⟨by (with_reducible repeat (first | refine blk_drewN ?_ _ | refine blk_drew ?_ | refine blk_alloc ?_ _)); refine blk_far ?_ NB179_189.out _; (with_reducible repeat (first | refine blk_drewN ?_ _ | refine blk_drew ?_ | refine blk_alloc ?_ _)); refine blk_far ?_ NB179_189.out _; (with_reducible repeat (first | refine blk_drewN ?_ _ | refine blk_drew ?_ | refine blk_alloc ?_ _)); exact BK179.out⟩
             have n2_ : Aside0 (((w45.setCell ⟨gb189, 0, none⟩ (.string (rdOf ByteArray.empty t185 0))).setCell ⟨gb189, 1, none⟩ (.string (sx (sx (rdOf ByteArray.empty t181 0) (((sc t180 (⟨#[32]⟩ : ByteArray)).size)) ((rdOf ByteArray.empty t181 0).size)) (((ji25) : Int).toNat) ((sx (rdOf ByteArray.empty t181 0) (((sc t180 (⟨#[32]⟩ : ByteArray)).size)) ((rdOf ByteArray.empty t181 0).size)).size)))).heap[gb189]? = some (.cells #[.string (rdOf ByteArray.empty t185 0), .string (sx (sx (rdOf ByteArray.empty t181 0) (((sc t180 (⟨#[32]⟩ : ByteArray)).size)) ((rdOf ByteArray.empty t181 0).size)) (((ji25) : Int).toNat) ((sx (rdOf ByteArray.empty t181 0) (((sc t180 (⟨#[32]⟩ : ByteArray)).size)) ((rdOf ByteArray.empty t181 0).size)).size))] 27 (0, 0))) := ⟨by (with_reducible repeat (first | refine blk_drewN ?_ _ | refine blk_drew ?_ | refine blk_alloc ?_ _)); refine blk_put (cs := #[.string (rdOf ByteArray.empty t185 0), .string (⟨#[]⟩ : ByteArray)]) ?_ 1 _ rfl; (with_reducible repeat (first | refine blk_drewN ?_ _ | refine blk_drew ?_ | refine blk_alloc ?_ _)); refine blk_put (cs := #[.string (⟨#[]⟩ : ByteArray), .string (⟨#[]⟩ : ByteArray)]) ?_ 0 _ rfl; (with_reducible repeat (first | refine blk_drewN ?_ _ | refine blk_drew ?_ | refine blk_alloc ?_ _)); exact BK189.out⟩
             have n3_ : Aside0 (Below w.heap.size w ((w45.setCell ⟨gb189, 0, none⟩ (.string (rdOf ByteArray.empty t185 0))).setCell ⟨gb189, 1, none⟩ (.string (sx (sx (rdOf ByteArray.empty t181 0) (((sc t180 (⟨#[32]⟩ : ByteArray)).size)) ((rdOf ByteArray.empty t181 0).size)) (((ji25) : Int).toNat) ((sx (rdOf ByteArray.empty t181 0) (((sc t180 (⟨#[32]⟩ : ByteArray)).size)) ((rdOf ByteArray.empty t181 0).size)).size))))) := ⟨lb2_ HB.out GE179.out GE189.out⟩
             (try clear HO187); (try clear BK179); (try clear BK189); (try clear HB); generalize ((w45.setCell ⟨gb189, 0, none⟩ (.string (rdOf ByteArray.empty t185 0))).setCell ⟨gb189, 1, none⟩ (.string (sx (sx (rdOf ByteArray.empty t181 0) (((sc t180 (⟨#[32]⟩ : ByteArray)).size)) ((rdOf ByteArray.empty t181 0).size)) (((ji25) : Int).toNat) ((sx (rdOf ByteArray.empty t181 0) (((sc t180 (⟨#[32]⟩ : ByteArray)).size)) ((rdOf ByteArray.empty t181 0).size)).size)))) = w48 at n0_ n1_ n2_ n3_ ⊢; have HO187 := n0_; have BK179 := n1_; have BK189 := n2_; have HB := n3_; clear n0_ n1_ n2_ n3_; replace HO187 := Aside0.mk (Kd.R_drew HO187.out); replace BK179 := Aside0.mk (blk_drew BK179.out); replace BK189 := Aside0.mk (blk_drew BK189.out); replace HB := Aside0.mk (below_drew1 HB.out); refine start_ (n := 13) (S := fun w' => w'.cell? ⟨gb189, 0, none⟩ = some (.string (rdOf ByteArray.empty t185 0)) ∧ w'.cell? ⟨gb189, 1, none⟩ = some (.string (sx (sx (rdOf ByteArray.empty t181 0) (((sc t180 (⟨#[32]⟩ : ByteArray)).size)) ((rdOf ByteArray.empty t181 0).size)) (((ji25) : Int).toNat) ((sx (rdOf ByteArray.empty t181 0) (((sc t180 (⟨#[32]⟩ : ByteArray)).size)) ((rdOf ByteArray.empty t181 0).size)).size)))) (ds := []) spec_l27Read.mk0 (by kernel_rfl) rfl rfl ⟨(blk_cell BK189.out 0).trans rfl, (blk_cell BK189.out 1).trans rfl⟩ (fun hHeld => ?_); refine with_tabW spec_l27Read.tab10 spec_l27Read.bits10 (fun HT_ HW_ => ?_); generalize w48.drew = w49 at HO187 BK179 BK189 HB hHeld ⊢; refine take_ (i := 0) (N := some 53) (v := ?_) (a' := ?_) spec_l27Read.mk1 rfl rfl (take_ofW HT_.out HW_.out (by kernel_rfl)) (fun _ _ _ h => h) (Or.inl ⟨by rfl, ?_⟩) hHeld ?_ ?_; rotate_left
             ·
              rintro w' ⟨s0, s1⟩; go_simp; (with_reducible rfl)
             rotate_left
             ·
              simp only [Act.put, List.setIfInBounds_toArray, List.set_cons_zero, List.set_cons_succ, i64_w, i32_w]; rfl
             refine take_ (i := 1) (N := some 54) (v := ?_) (a' := ?_) spec_l27Read.mk2 rfl rfl (take_ofW HT_.out HW_.out (by kernel_rfl)) (fun _ _ _ h => h) (Or.inl ⟨by rfl, ?_⟩) hHeld ?_ ?_; rotate_left
             ·
              rintro w' ⟨s0, s1⟩; go_simp; (with_reducible rfl)
             rotate_left
             ·
              simp only [Act.put, List.setIfInBounds_toArray, List.set_cons_zero, List.set_cons_succ, i64_w, i32_w]; rfl
             refine one_ (i := 2) (N := some 55) spec_l27Read.mk3 rfl rfl (one_of HT_.out (by kernel_rfl)) (by decide) (fun K hK => ?_); refine goes_ Tryd.func43 (by kernel_rfl) rfl #[.agg #[.string (rdOf ByteArray.empty t185 0), .string (sx (sx (rdOf ByteArray.empty t181 0) (((sc t180 (⟨#[32]⟩ : ByteArray)).size)) ((rdOf ByteArray.empty t181 0).size)) (((ji25) : Int).toNat) ((sx (rdOf ByteArray.empty t181 0) (((sc t180 (⟨#[32]⟩ : ByteArray)).size)) ((rdOf ByteArray.empty t181 0).size)).size))]] (by rfl) rfl rfl (by (try simp only [List.map_toArray, List.map_cons, List.map_nil]); first | done | (simp only [hji25]; rfl) | rfl | (simp only [List.length_drop, List.length_take]; rfl)) ?_; (with_reducible refine (spec_l27Good.calls kj6 (rdOf ByteArray.empty t185 0) (sx (sx (rdOf ByteArray.empty t181 0) (((sc t180 (⟨#[32]⟩ : ByteArray)).size)) ((rdOf ByteArray.empty t181 0).size)) (((ji25) : Int).toNat) ((sx (rdOf ByteArray.empty t181 0) (((sc t180 (⟨#[32]⟩ : ByteArray)).size)) ((rdOf ByteArray.empty t181 0).size)).size)) false _ A28.out).mono ?_); rintro e w50 ⟨rfl, hb⟩; refine ⟨_, rfl, ?_⟩; replace HO187 := Aside0.mk (Kd.R_below (kr_ HO187.out) hb); replace BK179 := Aside0.mk (bb_ (bk_ BK179.out) hb); replace BK189 := Aside0.mk (bb_ (bk_ BK189.out) hb); replace HB := Aside0.mk (below_step (lb2_ HB.out GE179.out GE189.out) hb); (try clear hb); (try clear hb2); (try clear hk); (try clear hi); refine hK.out _ _ ⟨(blk_cell BK189.out 0).trans rfl, (blk_cell BK189.out 1).trans rfl⟩ (fun hHeld => ?_); clear hK K; refine na_ ?_; refine pz_ HT_ 3 (some 56) spec_l27Read.mk4 ?_; refine pure_ (i := 4) (N := some 57) (v := undef) (a' := ?_) spec_l27Read.mk5 rfl rfl (any_of HT_.out (by kernel_rfl)) (fun _ _ _ h => h) (Or.inr ⟨by rfl, rfl⟩) ?_ ?_; rotate_left
             ·
              simp only [Act.put, List.setIfInBounds_toArray, List.set_cons_zero, List.set_cons_succ, i64_w, i32_w]; rfl
             refine pure_ (i := 5) (N := some 58) (v := undef) (a' := ?_) spec_l27Read.mk14 rfl rfl (any_of HT_.out (by kernel_rfl)) (fun _ _ _ h => h) (Or.inr ⟨by rfl, rfl⟩) ?_ ?_; rotate_left
             ·
              simp only [Act.put, List.setIfInBounds_toArray, List.set_cons_zero, List.set_cons_succ, i64_w, i32_w]; rfl
             refine pure_ (i := 6) (N := some 59) (v := undef) (a' := ?_) spec_l27Read.mk15 rfl rfl (any_of HT_.out (by kernel_rfl)) (fun _ _ _ h => h) (Or.inr ⟨by rfl, rfl⟩) ?_ ?_; rotate_left
             ·
              simp only [Act.put, List.setIfInBounds_toArray, List.set_cons_zero, List.set_cons_succ, i64_w, i32_w]; rfl
             refine pure_ (i := 7) (N := some 60) (v := undef) (a' := ?_) spec_l27Read.mk16 rfl rfl (any_of HT_.out (by kernel_rfl)) (fun _ _ _ h => h) (Or.inr ⟨by rfl, rfl⟩) ?_ ?_; rotate_left
             ·
              simp only [Act.put, List.setIfInBounds_toArray, List.set_cons_zero, List.set_cons_succ, i64_w, i32_w]; rfl
             refine pure_ (i := 8) (N := some 61) (v := undef) (a' := ?_) spec_l27Read.mk9 rfl rfl (any_of HT_.out (by kernel_rfl)) (fun _ _ _ h => h) (Or.inr ⟨by rfl, rfl⟩) ?_ ?_; rotate_left
             ·
              simp only [Act.put, List.setIfInBounds_toArray, List.set_cons_zero, List.set_cons_succ, i64_w, i32_w]; rfl
             refine pure_ (i := 9) (N := some 62) (v := undef) (a' := ?_) spec_l27Read.mk10 rfl rfl (any_of HT_.out (by kernel_rfl)) (fun _ _ _ h => h) (Or.inr ⟨by rfl, rfl⟩) ?_ ?_; rotate_left
             ·
              simp only [Act.put, List.setIfInBounds_toArray, List.set_cons_zero, List.set_cons_succ, i64_w, i32_w]; rfl
             refine pz_ HT_ 10 (some 63) spec_l27Read.mk11 ?_; refine one_ (i := 11) (N := none) spec_l27Read.mk12 rfl rfl (one_of HT_.out (by kernel_rfl)) (by decide) (fun K hK => ?_); have hs51 : w50.cell? ⟨gb179, 0, none⟩ = some (.string (⟨#[]⟩ : ByteArray)) := (blk_cell BK179.out 0).trans rfl; have hfs51 := blk_frozen BK179.out 0; have hns51_1 := NB189_179.out; have hms51_1 := NB179_189.out; have hs52 : w50.cell? ⟨gb179, 1, none⟩ = some (.string (⟨#[]⟩ : ByteArray)) := (blk_cell BK179.out 1).trans rfl; have hfs52 := blk_frozen BK179.out 1; have hns52_1 := NB189_179.out; have hms52_1 := NB179_189.out; refine skip_ (w1 := ?_) (by rfl) rfl ?_ ?_; rotate_left
             ·
              go_simp; rfl
             refine hK.out _ _ ⟨((cell_far (p := ⟨gb179, _, none⟩) NB189_179.out _).trans (((cell_far (p := ⟨gb179, _, none⟩) NB189_179.out _).trans (hHeld.1)))), ((cell_far (p := ⟨gb179, _, none⟩) NB189_179.out _).trans (((cell_far (p := ⟨gb179, _, none⟩) NB189_179.out _).trans (hHeld.2))))⟩ (fun hHeld => ?_); clear hK K; refine pz_ HT_ 12 (some 5) spec_l27Read.mk13 ?_; refine done_ (done_of HT_.out (by kernel_rfl)) ?_
             try go_wp2
             refine bodyPost_ret (results_ct rfl _ _ gb179 27 #[.string (rdOf ByteArray.empty t185 0), .string (sx (sx (rdOf ByteArray.empty t181 0) (((sc t180 (⟨#[32]⟩ : ByteArray)).size)) ((rdOf ByteArray.empty t181 0).size)) (((ji25) : Int).toNat) ((sx (rdOf ByteArray.empty t181 0) (((sc t180 (⟨#[32]⟩ : ByteArray)).size)) ((rdOf ByteArray.empty t181 0).size)).size))] (0, 0) _ rfl (by (with_reducible repeat (first | refine blk_drewN ?_ _ | refine blk_drew ?_ | refine blk_alloc ?_ _)); refine blk_put (cs := #[.string (rdOf ByteArray.empty t185 0), .string (⟨#[]⟩ : ByteArray)]) ?_ 1 _ rfl; (with_reducible repeat (first | refine blk_drewN ?_ _ | refine blk_drew ?_ | refine blk_alloc ?_ _)); refine blk_put (cs := #[.string (⟨#[]⟩ : ByteArray), .string (⟨#[]⟩ : ByteArray)]) ?_ 0 _ rfl; (with_reducible repeat (first | refine blk_drewN ?_ _ | refine blk_drew ?_ | refine blk_alloc ?_ _)); exact BK179.out) Tryd.underlying27 rfl (by kernel_rfl)) rfl ?_; exact ⟨by first | rfl | (simp [errW_none, errW_some] <;> rfl) | (simp only [← hji25]; first | rfl | (simp [errW_none, errW_some] <;> rfl)) | (simp [*, errW_none, errW_some] <;> rfl) | (have hw_ : ∀ n : Nat, (n + 1 ≤ 9223372036854775807) → wrap64 ((n : Int) + 1) = (n : Int) + 1 := fun n hn => by unfold wrap64; omega); (rw [hw_ _ (by first | assumption | omega)]); rfl, lb2_ HB.out GE179.out GE189.out⟩
           ·
            rw [if_neg c27] at H
            exact absurd H (by simp)
          ·
           rw [if_neg c26] at H
           exact absurd H (by simp)
        ·
         rw [if_neg c20] at H
         exact absurd H (by simp)
       ·
        rw [if_neg c18] at H
        exact absurd H (by simp)
      ·
       rw [if_neg c17] at H
       exact absurd H (by simp)
  ·
   rw [if_neg c6] at H
   exact absurd H (by simp)
 ·
  rw [if_neg c4] at H
  exact absurd H (by simp)
end Go.Proofs.YtdpinnhgkocjhaaDoor.Pr

