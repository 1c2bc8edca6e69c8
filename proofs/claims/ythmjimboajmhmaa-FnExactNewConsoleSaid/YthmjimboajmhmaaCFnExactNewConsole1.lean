/-
What is proved: parts of the law FnExactNewConsole: what the functions that it reaches compute, and the plain law.
Conditions: those of each theorem.
-/
import Derived.ArgAppend
import Derived.Below
import Derived.BigQuiet
import Derived.Deep.AppendLies
import Derived.Deep.CutBlock
import Derived.Deep.DeepCutAuto
import Derived.Deep.Draws
import Derived.Deep.LoopGhost
import Derived.Deep.OwnRows
import Derived.Deep.QuietTactic
import Derived.Deep.RegionHeld3
import Derived.Deep.RegionLaw
import Derived.KernelRfl
import Derived.Laws.BitsLemmas
import Derived.Laws.BytesArg
import Derived.Laws.CopyOwn
import Derived.Laws.Cover1
import Derived.Laws.IdiomCopy
import Derived.Laws.MakeOwn
import Derived.Laws.OwnMore
import Derived.Laws.Rows
import Derived.Laws.Slices
import Derived.Lib.AppendStr
import Derived.Lib.ConvBytes
import Derived.Maps.AppendAt
import Derived.OrdersHeld
import Derived.OwnWalk
import Derived.RowKit
import Derived.RowKit3
import Derived.Shelf.Abstract
import Derived.StillTailTactics
import Derived.Tactics
import Derived.Test.YthmjimboajmhmaaProg
import Derived.WalkKit
import Derived.WideLaws
import Derived.Test.YthmjimboajmhmaaCFnExactNewConsole0
set_option maxHeartbeats 8000000
set_option maxRecDepth 100000
namespace Go.Proofs.Ythmjimboajmhmaa.Pr
open Go.RowKit Go.Proofs.YthmjimboajmhmaaW.PrintWords Go.Proofs.YthmjimboajmhmaaW.PrintLast Go.Proofs.YthmjimboajmhmaaW.PrintMore
attribute [local go_sem] max2_int min2_int max_two min_two max_three min_three max_four min_four   -- for this text's walks alone
set_option linter.unusedVariables false
set_option linter.unusedSimpArgs false
def errW : Option Int → Value
 | none => .nilIface
 | some c => .iface 0 (.int .i64 c)
theorem errW_none : errW none = .nilIface := rfl
theorem errW_some (c : Int) : errW (some c) = .iface 0 (.int .i64 c) := rfl
theorem info3 : (Try.prog.info? 3).map (fun i => (i.zero, i.size, i.bytes)) = some (some (.int .i64 0), 1, 8) := by kernel_rfl
theorem info4 : (Try.prog.info? 4).map (fun i => (i.zero, i.size, i.bytes)) = some (some (.bool false), 1, 1) := by kernel_rfl
theorem info37 : (Try.prog.info? 37).map (fun i => (i.zero, i.size, i.bytes)) = some (some (.agg #[(.int .i64 0), (.int .i64 0), (.int .i64 0), (.int .i64 0), (.int .i64 0)]), 5, 40) := by kernel_rfl
structure S65 where
 f0 : Int
 f1 : Int
 f2 : Int
 f3 : Int
 f4 : Int
def z65 : S65 := ⟨(0 : Int), (0 : Int), (0 : Int), (0 : Int), (0 : Int)⟩
def k65 : Kd S65 := Kd.iso (Kd.pair (Kd.int .i64) (Kd.pair (Kd.int .i64) (Kd.pair (Kd.int .i64) (Kd.pair (Kd.int .i64) (Kd.int .i64))))) (fun x : S65 => (x.f0, x.f1, x.f2, x.f3, x.f4))
theorem k65_open {w : World} {x : S65} {cs : List Value} (h : k65.K w x cs) : cs = [.int .i64 x.f0, .int .i64 x.f1, .int .i64 x.f2, .int .i64 x.f3, .int .i64 x.f4] := by
 obtain ⟨_, _, rfl, rfl, ⟨_, _, rfl, rfl, ⟨_, _, rfl, rfl, ⟨_, _, rfl, rfl, rfl⟩⟩⟩⟩ := h
 exact rfl
def rd_T65 (xs : List S65) (i : Int) : S65 := xs.getD i.toNat z65
theorem at_T65 {w : World} {A : Option Addr} {n : Nat} {xs : List S65} (h : Kd.C k65 w A n xs) (i : Int) (h0 : 0 ≤ i) (h1 : i < n) : ∃ ad , A = some ad ∧ w.cell? (ad.add (i.toNat * 5)) = some (.int .i64 (rd_T65 xs i).f0) ∧ w.cell? ⟨(ad.add (i.toNat * 5)).block, (ad.add (i.toNat * 5)).off + 1, none⟩ = some (.int .i64 (rd_T65 xs i).f1) ∧ w.cell? ⟨(ad.add (i.toNat * 5)).block, (ad.add (i.toNat * 5)).off + 2, none⟩ = some (.int .i64 (rd_T65 xs i).f2) ∧ w.cell? ⟨(ad.add (i.toNat * 5)).block, (ad.add (i.toNat * 5)).off + 3, none⟩ = some (.int .i64 (rd_T65 xs i).f3) ∧ w.cell? ⟨(ad.add (i.toNat * 5)).block, (ad.add (i.toNat * 5)).off + 4, none⟩ = some (.int .i64 (rd_T65 xs i).f4) := by
 obtain ⟨ad, c, e, _, hK, hc0⟩ := Kd.C_get h z65 i h0 h1
 have hc : ∀ j u, c[j]? = some u → w.cell? (ad.add (i.toNat * 5 + j)) = some u := hc0
 obtain rfl := k65_open hK
 exact ⟨ad, e, hc 0 _ rfl, by rw [← add_field _ _ 1 (by omega)]; exact hc 1 _ rfl, by rw [← add_field _ _ 2 (by omega)]; exact hc 2 _ rfl, by rw [← add_field _ _ 3 (by omega)]; exact hc 3 _ rfl, by rw [← add_field _ _ 4 (by omega)]; exact hc 4 _ rfl⟩
structure S37 where
 f0 : Int
 f1 : Int
 f2 : Int
 f3 : Int
 f4 : Int
def z37 : S37 := ⟨(0 : Int), (0 : Int), (0 : Int), (0 : Int), (0 : Int)⟩
def k37 : Kd S37 := Kd.iso (Kd.pair (Kd.int .i64) (Kd.pair (Kd.int .i64) (Kd.pair (Kd.int .i64) (Kd.pair (Kd.int .i64) (Kd.int .i64))))) (fun x : S37 => (x.f0, x.f1, x.f2, x.f3, x.f4))
theorem k37_open {w : World} {x : S37} {cs : List Value} (h : k37.K w x cs) : cs = [.int .i64 x.f0, .int .i64 x.f1, .int .i64 x.f2, .int .i64 x.f3, .int .i64 x.f4] := by
 obtain ⟨_, _, rfl, rfl, ⟨_, _, rfl, rfl, ⟨_, _, rfl, rfl, ⟨_, _, rfl, rfl, rfl⟩⟩⟩⟩ := h
 exact rfl
theorem k37_openM {w : World} {base : Nat} {ok : Nat → Prop} {x : S37} {cs : List Value} (h : k37.M w base ok x cs) : cs = [.int .i64 x.f0, .int .i64 x.f1, .int .i64 x.f2, .int .i64 x.f3, .int .i64 x.f4] := by
 obtain ⟨_, _, rfl, rfl, ⟨_, _, rfl, rfl, ⟨_, _, rfl, rfl, ⟨_, _, rfl, rfl, rfl⟩⟩⟩⟩ := h
 exact rfl
theorem k37_mkM (w : World) (base : Nat) (ok : Nat → Prop) (x : S37)  : k37.M w base ok x [.int .i64 x.f0, .int .i64 x.f1, .int .i64 x.f2, .int .i64 x.f3, .int .i64 x.f4] := ⟨[.int .i64 x.f0], [.int .i64 x.f1, .int .i64 x.f2, .int .i64 x.f3, .int .i64 x.f4], rfl, rfl, ⟨[.int .i64 x.f1], [.int .i64 x.f2, .int .i64 x.f3, .int .i64 x.f4], rfl, rfl, ⟨[.int .i64 x.f2], [.int .i64 x.f3, .int .i64 x.f4], rfl, rfl, ⟨[.int .i64 x.f3], [.int .i64 x.f4], rfl, rfl, rfl⟩⟩⟩⟩
def rd_T37 (xs : List S37) (i : Int) : S37 := xs.getD i.toNat z37
theorem at_T37 {w : World} {A : Option Addr} {n : Nat} {xs : List S37} (h : Kd.C k37 w A n xs) (i : Int) (h0 : 0 ≤ i) (h1 : i < n) : ∃ ad , A = some ad ∧ w.cell? (ad.add (i.toNat * 5)) = some (.int .i64 (rd_T37 xs i).f0) ∧ w.cell? ⟨(ad.add (i.toNat * 5)).block, (ad.add (i.toNat * 5)).off + 1, none⟩ = some (.int .i64 (rd_T37 xs i).f1) ∧ w.cell? ⟨(ad.add (i.toNat * 5)).block, (ad.add (i.toNat * 5)).off + 2, none⟩ = some (.int .i64 (rd_T37 xs i).f2) ∧ w.cell? ⟨(ad.add (i.toNat * 5)).block, (ad.add (i.toNat * 5)).off + 3, none⟩ = some (.int .i64 (rd_T37 xs i).f3) ∧ w.cell? ⟨(ad.add (i.toNat * 5)).block, (ad.add (i.toNat * 5)).off + 4, none⟩ = some (.int .i64 (rd_T37 xs i).f4) := by
 obtain ⟨ad, c, e, _, hK, hc0⟩ := Kd.C_get h z37 i h0 h1
 have hc : ∀ j u, c[j]? = some u → w.cell? (ad.add (i.toNat * 5 + j)) = some u := hc0
 obtain rfl := k37_open hK
 exact ⟨ad, e, hc 0 _ rfl, by rw [← add_field _ _ 1 (by omega)]; exact hc 1 _ rfl, by rw [← add_field _ _ 2 (by omega)]; exact hc 2 _ rfl, by rw [← add_field _ _ 3 (by omega)]; exact hc 3 _ rfl, by rw [← add_field _ _ 4 (by omega)]; exact hc 4 _ rfl⟩
def laws_szLegS.f (l0 : List (S65)) (a1 : Int) : Option (Int) := if (wrap64 (a1 - (l0.length : Int))) < 0 then (some (-1)) else (some (wrap64 (a1 - (l0.length : Int))))
theorem laws_szLegS.calls (A0 : Option Addr) (c0 : Nat) (l0 : List (S65)) (a1 : Int) (r : Int) (w : World) (hr0 : Kd.C k65 w A0 l0.length l0) (hc0 : l0.length ≤ c0) (h : laws_szLegS.f l0 a1 = some r) :
  Calls Try.prog 37 #[.slice A0 l0.length c0, .int .i64 a1] w fun e w' => e = .returned (.int .i64 r) ∧ Drawn0 w w' := by
 have HR0 := Aside0.mk hr0
 have HC0 := Aside0.mk hc0
 clear hr0 hc0
 have H : (if (wrap64 (a1 - (l0.length : Int))) < 0 then (some (-1)) else (some (wrap64 (a1 - (l0.length : Int))))) = some r := h
 clear h
 by_cases c3 : (wrap64 (a1 - (l0.length : Int))) < 0
 ·
  rw [if_pos c3] at H
  have c3b0 : decide ((wrap64 (a1 - (l0.length : Int))) < 0) = true := decide_eq_true c3
  clear c3
  obtain rfl := Option.some.inj H
  go_enter Try.func37, Try.ntmps37
  go_wp2
  go_ret
  exact ⟨by first | rfl | (simp; done) | (simp [*]; done), by repeat (first | exact Drawn0.refl _ | apply Drawn0.step)⟩
 ·
  rw [if_neg c3] at H
  have c3b0 : decide ((wrap64 (a1 - (l0.length : Int))) < 0) = false := decide_eq_false c3
  clear c3
  obtain rfl := Option.some.inj H
  go_enter Try.func37, Try.ntmps37
  go_wp2
  go_ret
  exact ⟨by first | rfl | (simp; done) | (simp [*]; done), by repeat (first | exact Drawn0.refl _ | apply Drawn0.step)⟩
end Go.Proofs.Ythmjimboajmhmaa.Pr

namespace Go.Proofs.Ythmjimboajmhmaa.Pr
open Go.RowKit Go.Proofs.YthmjimboajmhmaaW.PrintWords Go.Proofs.YthmjimboajmhmaaW.PrintLast Go.Proofs.YthmjimboajmhmaaW.PrintMore
set_option linter.unusedVariables false
set_option linter.unusedSimpArgs false
section
variable {P : Program} {md : Region.Mode} {ops : Array Oper} {Q : Exit → Act → World → Prop} {S : World → Prop} {ds : List Nat} {T : Bool × List (List Nat × List Nat)}
theorem pz_ {fuel : Nat} {l : Array Bool} {a : Act} {w : World} {oi : Oper} {v : Value} {a' : Act} (HT : Aside0 (rtab md ops = T)) (i : Nat) (N : Option Tmp) (l' : Array Bool) (h : wpAnyLast P md ops Q S ds fuel l' a' w)
  (hi : ops[i]? = some oi := by exact rfl) (hN : oi.dst = N := by exact rfl) (hc : anyT T l.toList l'.toList i = true := by kernel_rfl) (hQ : ∀ c a w, Q (.panic c) (a.put oi.dst v) w → Q (.panic c) a w := by exact fun _ _ _ h => h)
  (hy : Yields P ops oi v a := by exact Or.inl ⟨by rfl, by intro w'; go_simp; with_reducible rfl⟩) (ha : a.put N v = a' := by simp only [Act.put, List.setIfInBounds_toArray, List.set_cons_zero, List.set_cons_succ, i64_w, i32_w]; rfl) :
  wpAnyLast P md ops Q S ds (fuel + 1) l a w := pure_ l' hi hN (any_of HT.out hc) hQ hy ha h
theorem ga_ {rest : List Oper} {oi : Oper} {a : Act} {w : World} {f : FuncId} {fn : Func} {ar : Array Operand} {ts : Array TypeId} (N : Option Tmp) (hf : P.funcs[f]? = some fn) (args : Array Value) (h : Calls P f args w fun e w' => ∃ v, e = .returned v ∧ wpList P ops Q rest (a.put N v) w')
  (hd : oi.dst = N := by exact rfl) (hg : oi.guard = none := by exact rfl) (hname : (fn.name == "runtime.NumGoroutine") = false := by kernel_rfl) (hb : fn.body.isSome = true := by exact rfl) (hop : oi.op = .call { callee := .value (.func f), args := ar, argTypes := ts } := by exact rfl)
  (hargs : ar.map a.eval = args := by (try simp only [List.map_toArray, List.map_cons, List.map_nil]); first | done | rfl | (simp only [List.length_drop, List.length_take]; rfl)) : wpList P ops Q (oi :: rest) a w := goesL_ N hd hg hf hname hb args hop hargs h
end
theorem lb0_ {n : Nat} {w w0 w1 : World} (HB : Below n w w0) (h : Below n w w0 → Below n w w1 := by intro HB_; repeat (first | (with_reducible first | exact HB_ | apply below_alloc | apply pw_below_drewN | apply below_drew1) | exact HB_)) : Below n w w1 := h HB
theorem lb1_ {n : Nat} {w w0 w1 : World} {A : Prop} (HB : Below n w w0) (G : A) (h : Below n w w0 → A → Below n w w1 := by intro HB_ G_; repeat (first | (with_reducible first | exact HB_ | apply below_alloc | apply pw_below_drewN | apply below_drew1 | refine below_set ?_ G_) | exact HB_)) : Below n w w1 := h HB G
theorem lb2_ {n : Nat} {w w0 w1 : World} {A B : Prop} (HB : Below n w w0) (G : A) (H : B) (h : Below n w w0 → A → B → Below n w w1 := by intro HB_ G_ H_; repeat (first | (with_reducible first | exact HB_ | apply below_alloc | apply pw_below_drewN | apply below_drew1 | refine below_set ?_ G_ | refine below_set ?_ H_) | exact HB_)) : Below n w w1 := h HB G H
theorem rr_ {α : Sort _} {a b : α} (h : a = b := by first | rfl | (simp [errW_none, errW_some] <;> rfl) | (simp [*, errW_none, errW_some] <;> rfl)) : a = b := h
theorem kr_ {α : Type} {d : Kd α} {e base : Nat} {w w1 : World} {ok : Nat → Prop} {v : Value} {xs : List α} (h : d.R e w base ok v xs) (hh : d.R e w base ok v xs → d.R e w1 base ok v xs := by intro h_; (with_reducible repeat (first | apply Kd.R_alloc | apply Kd.R_drewN | apply Kd.R_drew)); exact h_) : d.R e w1 base ok v xs := hh h
theorem kc_ {α : Type} {d : Kd α} {w w1 : World} {A : Option Addr} {n : Nat} {xs : List α} (h : d.C w A n xs) (hh : d.C w A n xs → d.C w1 A n xs := by intro h_; repeat (first | exact h_ | (with_reducible refine Kd.C_alloc ?_ _) | (with_reducible refine Kd.C_drewN ?_ _) | (with_reducible refine Kd.C_drew ?_))) : d.C w1 A n xs := hh h
theorem bk_ {w w1 : World} {g : Nat} {o : Obj} (h : w.heap[g]? = some o) (hh : w.heap[g]? = some o → w1.heap[g]? = some o := by intro h_; (with_reducible repeat (first | refine blk_drewN ?_ _ | refine blk_drew ?_ | refine blk_alloc ?_ _)); exact h_) : w1.heap[g]? = some o := hh h
theorem dt_ {p : Prop} [inst : Decidable p] (h : decide p = true := by first | (with_reducible assumption) | assumption) : p := of_decide_eq_true h
theorem bc_ {w w0 : World} {a : Addr} {v : Value} (hb : Below w.heap.size w w0) (h : w.cell? a = some v) : w0.cell? a = some v := (hb.cell (World.block_lt_of_cell? w _ h)).trans h
section
variable {P : Program} {md : Region.Mode} {ops : Array Oper} {Q : Exit → Act → World → Prop} {S : World → Prop} {ds : List Nat}
theorem na_ {fuel : Nat} {l : Array Bool} {a a' : Act} {w : World} (h : wpAnyLast P md ops Q S ds fuel l a' w) (ha : a = a' := by show Act.put _ (some _) _ = _; simp only [Act.put, List.setIfInBounds_toArray, List.set_cons_zero, List.set_cons_succ, i64_w, i32_w]; rfl) : wpAnyLast P md ops Q S ds fuel l a w := norm_ ha h
theorem nb_ {fuel : Nat} {l : Array Bool} {a a' : Act} {w : World} (h : wpAnyLast P md ops Q S ds fuel l a' w) (ha : a = a' := by simp only [putAll, Act.put, List.setIfInBounds_toArray, List.set_cons_zero, List.set_cons_succ]; rfl) : wpAnyLast P md ops Q S ds fuel l a w := norm_ ha h
theorem nj_ {fuel : Nat} {l : Array Bool} {a a' : Act} {w : World} (h : wpAnyLast P md ops Q S ds fuel l a' w) (ha : a = a' := by first | (simp only [putAll, Act.put, List.setIfInBounds_toArray, List.set_cons_zero, List.set_cons_succ]; done) | (simp only [putAll, Act.put, List.setIfInBounds_toArray, List.set_cons_zero, List.set_cons_succ]; rfl)) : wpAnyLast P md ops Q S ds fuel l a w := norm_ ha h
end
theorem bz_ {w W : World} {g : Nat} (hg : g = W.heap.size) (h : Below w.heap.size w W) : w.heap.size ≤ g := by rw [hg]; exact h.size
theorem lb3_ {n : Nat} {w w0 w1 : World} {A B C : Prop} (HB : Below n w w0) (G : A) (H : B) (I : C) (h : Below n w w0 → A → B → C → Below n w w1 := by intro HB_ G_ H_ I_; repeat (first | (with_reducible first | exact HB_ | apply below_alloc | apply pw_below_drewN | apply below_drew1 | refine below_set ?_ G_ | refine below_set ?_ H_ | refine below_set ?_ I_) | exact HB_)) : Below n w w1 := h HB G H I
theorem kt_ {w w0 w1 : World} {S : Nat → Prop} (h : Kept w w0 S) (hh : Kept w w0 S → Kept w w1 S := by intro h_; repeat (first | (with_reducible first | exact h_ | apply Kept.alloc | apply Kept.drewN | apply Kept.drew) | exact h_)) : Kept w w1 S := hh h
theorem krm_ {α : Type} {d : Kd α} {e base : Nat} {w w1 : World} {ok ok' : Nat → Prop} {v : Value} {xs : List α} (h : d.R e w base ok v xs) (hm : ∀ k, ok k → ok' k) (hh : d.R e w base ok v xs → d.R e w1 base ok v xs := by intro h_; (with_reducible repeat (first | apply Kd.R_alloc | apply Kd.R_drewN | apply Kd.R_drew)); exact h_) : d.R e w1 base ok' v xs := Kd.R_mono (hh h) hm
theorem bb_ {w1 w2 : World} {g : Nat} {o : Obj} (h : w1.heap[g]? = some o) (hb : Below w1.heap.size w1 w2) : w2.heap[g]? = some o := blk_below h hb
theorem ry_ {α : Type} {d : Kd α} {e base : Nat} {w : World} {ok : Nat → Prop} {v : Value} {xs ys : List α} (he : ys = xs) (h : d.R e w base ok v xs) : d.R e w base ok v ys := by rw [he]; exact h
section
variable {P : Program} {ops : Array Oper} {Q : Exit → Act → World → Prop}
theorem gs_ {oi : Oper} {N : Option Tmp} {a : Act} {w : World} {K : Act → World → Prop} {f : FuncId} {fn : Func} {ar : Array Operand} {ts : Array TypeId} (hf : P.funcs[f]? = some fn) (args : Array Value) (h : Calls P f args w fun e w' => ∃ v, e = .returned v ∧ K (a.put N v) w')
  (hname : (fn.name == "runtime.NumGoroutine") = false := by kernel_rfl) (hb : fn.body.isSome = true := by exact rfl) (hw : Region.wanted oi (yielded ops a.tmps) = true := by rfl) (hN : oi.dst = N := by exact rfl) (hop : oi.op = .call { callee := .value (.func f), args := ar, argTypes := ts } := by exact rfl)
  (hargs : ar.map a.eval = args := by (try simp only [List.map_toArray, List.map_cons, List.map_nil]); first | done | rfl | (simp only [List.length_drop, List.length_take]; rfl)) : if Region.wanted oi (yielded ops a.tmps) = true then Oper.wp P oi a w K Q else K (a.put N undef) w := goes_ hf hname hb args hw hN hop hargs h
end
theorem cz3_ {w : World} {g : Nat} {t : TypeId} {a0 a1 a2 : Value} (h : w.heap[g]? = some (.cells #[a0, a1, a2] t (0, 0))) : w.cell? ⟨g, 0, none⟩ = some a0 ∧ w.cell? ⟨g, 1, none⟩ = some a1 ∧ w.cell? ⟨g, 2, none⟩ = some a2 := ⟨(blk_cell h 0).trans rfl, (blk_cell h 1).trans rfl, (blk_cell h 2).trans rfl⟩
theorem fz3_ {w : World} {g : Nat} {t : TypeId} {a0 a1 a2 : Value} (h : w.heap[g]? = some (.cells #[a0, a1, a2] t (0, 0))) : w.frozen? ⟨g, 0, none⟩ = false ∧ w.frozen? ⟨g, 1, none⟩ = false ∧ w.frozen? ⟨g, 2, none⟩ = false := ⟨blk_frozen h 0, blk_frozen h 1, blk_frozen h 2⟩
theorem cz5_ {w : World} {g : Nat} {t : TypeId} {a0 a1 a2 a3 a4 : Value} (h : w.heap[g]? = some (.cells #[a0, a1, a2, a3, a4] t (0, 0))) : w.cell? ⟨g, 0, none⟩ = some a0 ∧ w.cell? ⟨g, 1, none⟩ = some a1 ∧ w.cell? ⟨g, 2, none⟩ = some a2 ∧ w.cell? ⟨g, 3, none⟩ = some a3 ∧ w.cell? ⟨g, 4, none⟩ = some a4 := ⟨(blk_cell h 0).trans rfl, (blk_cell h 1).trans rfl, (blk_cell h 2).trans rfl, (blk_cell h 3).trans rfl, (blk_cell h 4).trans rfl⟩
theorem fz5_ {w : World} {g : Nat} {t : TypeId} {a0 a1 a2 a3 a4 : Value} (h : w.heap[g]? = some (.cells #[a0, a1, a2, a3, a4] t (0, 0))) : w.frozen? ⟨g, 0, none⟩ = false ∧ w.frozen? ⟨g, 1, none⟩ = false ∧ w.frozen? ⟨g, 2, none⟩ = false ∧ w.frozen? ⟨g, 3, none⟩ = false ∧ w.frozen? ⟨g, 4, none⟩ = false := ⟨blk_frozen h 0, blk_frozen h 1, blk_frozen h 2, blk_frozen h 3, blk_frozen h 4⟩
theorem cz8_ {w : World} {g : Nat} {t : TypeId} {a0 a1 a2 a3 a4 a5 a6 a7 : Value} (h : w.heap[g]? = some (.cells #[a0, a1, a2, a3, a4, a5, a6, a7] t (0, 0))) : w.cell? ⟨g, 0, none⟩ = some a0 ∧ w.cell? ⟨g, 1, none⟩ = some a1 ∧ w.cell? ⟨g, 2, none⟩ = some a2 ∧ w.cell? ⟨g, 3, none⟩ = some a3 ∧ w.cell? ⟨g, 4, none⟩ = some a4 ∧ w.cell? ⟨g, 5, none⟩ = some a5 ∧ w.cell? ⟨g, 6, none⟩ = some a6 ∧ w.cell? ⟨g, 7, none⟩ = some a7 := ⟨(blk_cell h 0).trans rfl, (blk_cell h 1).trans rfl, (blk_cell h 2).trans rfl, (blk_cell h 3).trans rfl, (blk_cell h 4).trans rfl, (blk_cell h 5).trans rfl, (blk_cell h 6).trans rfl, (blk_cell h 7).trans rfl⟩
theorem fz8_ {w : World} {g : Nat} {t : TypeId} {a0 a1 a2 a3 a4 a5 a6 a7 : Value} (h : w.heap[g]? = some (.cells #[a0, a1, a2, a3, a4, a5, a6, a7] t (0, 0))) : w.frozen? ⟨g, 0, none⟩ = false ∧ w.frozen? ⟨g, 1, none⟩ = false ∧ w.frozen? ⟨g, 2, none⟩ = false ∧ w.frozen? ⟨g, 3, none⟩ = false ∧ w.frozen? ⟨g, 4, none⟩ = false ∧ w.frozen? ⟨g, 5, none⟩ = false ∧ w.frozen? ⟨g, 6, none⟩ = false ∧ w.frozen? ⟨g, 7, none⟩ = false := ⟨blk_frozen h 0, blk_frozen h 1, blk_frozen h 2, blk_frozen h 3, blk_frozen h 4, blk_frozen h 5, blk_frozen h 6, blk_frozen h 7⟩
end Go.Proofs.Ythmjimboajmhmaa.Pr

namespace Go.Proofs.Ythmjimboajmhmaa.Pr
open Go.RowKit Go.Proofs.YthmjimboajmhmaaW.PrintWords Go.Proofs.YthmjimboajmhmaaW.PrintLast Go.Proofs.YthmjimboajmhmaaW.PrintMore
attribute [local go_sem] max2_int min2_int max_two min_two max_three min_three max_four min_four   -- for this text's walks alone
set_option linter.unusedVariables false
set_option linter.unusedSimpArgs false
def laws_toLeg.f (a0_0 : Int) (a0_1 : Int) (a0_2 : Int) (a0_3 : Int) (a0_4 : Int) : Option (Int × Int × Int × Int × Int) := some (a0_0, a0_1, a0_2, a0_3, a0_4)
theorem laws_toLeg.calls (a0_0 : Int) (a0_1 : Int) (a0_2 : Int) (a0_3 : Int) (a0_4 : Int) (r1 : Int) (r2 : Int) (r3 : Int) (r4 : Int) (r5 : Int) (w : World) (h : laws_toLeg.f a0_0 a0_1 a0_2 a0_3 a0_4 = some (r1, r2, r3, r4, r5)) :
  Calls Try.prog 89 #[.agg #[.int .i64 a0_0, .int .i64 a0_1, .int .i64 a0_2, .int .i64 a0_3, .int .i64 a0_4]] w fun e w' => e = .returned (.agg #[.int .i64 r1, .int .i64 r2, .int .i64 r3, .int .i64 r4, .int .i64 r5]) ∧ Below w.heap.size w w' := by
 have hu65 := Try.underlying65
 have hu37 := Try.underlying37
 have HB := Aside0.mk (Below.refl w.heap.size w)
 have H : (some (a0_0, a0_1, a0_2, a0_3, a0_4)) = some (r1, r2, r3, r4, r5) := h
 clear h
 simp only [Option.some.injEq, Prod.mk.injEq] at H
 obtain ⟨rfl, rfl, rfl, rfl, rfl⟩ := H
 go_enter Try.func89, Try.ntmps89
 go_wp2_with (first | ((with_reducible refine gate_dst (N := 1) rfl ?_); refine box_event ?hg (N := 1) ?hd (cs := #[.int .i64 a0_0, .int .i64 a0_1, .int .i64 a0_2, .int .i64 a0_3, .int .i64 a0_4]) (t := 65) ?hr ?_; (case hd => rfl); (case hg => rfl); (case hr => first | (go_simp; done) | (go_simp; rfl)); intro gb156 hg w2 hbox hb; have BK156 := Aside0.mk (hbox); have GW156 := Aside0.mk ((bz_ hg (lb0_ HB.out))); have GE156 := Aside0.mk ((bz_ hg (lb0_ HB.out))); replace HB := Aside0.mk (below_step (lb0_ HB.out) hb); clear hb hbox hg) | ((with_reducible refine gate_dst (N := 2) rfl ?_); refine box_event ?hg (N := 2) ?hd (cs := #[.int .i64 0, .int .i64 0, .int .i64 0, .int .i64 0, .int .i64 0]) (t := 37) ?hr ?_; (case hd => rfl); (case hg => rfl); (case hr => first | (go_simp; done) | (go_simp; rfl)); intro gb157 hg w3 hbox hb; have BK157 := Aside0.mk (hbox); have GW157 := Aside0.mk ((bz_ hg (lb1_ HB.out GE156.out))); have GE157 := Aside0.mk ((bz_ hg (lb1_ HB.out GE156.out))); replace HB := Aside0.mk (below_step (lb1_ HB.out GE156.out) hb); have NB156_157 := Aside0.mk ((by rw [hg]; exact Nat.ne_of_lt (blk_lt (g := gb156) (o := .cells #[.int .i64 a0_0, .int .i64 a0_1, .int .i64 a0_2, .int .i64 a0_3, .int .i64 a0_4] 65 (0, 0)) (bk_ BK156.out)) : gb156 ≠ gb157)); have NB157_156 := Aside0.mk ((by rw [hg]; exact Nat.ne_of_gt (blk_lt (g := gb156) (o := .cells #[.int .i64 a0_0, .int .i64 a0_1, .int .i64 a0_2, .int .i64 a0_3, .int .i64 a0_4] 65 (0, 0)) (bk_ BK156.out)) : gb157 ≠ gb156)); replace BK156 := Aside0.mk (bb_ (bk_ BK156.out) hb); clear hb hbox hg) | ((with_reducible refine gate_dst (N := 3) rfl ?_); refine box_event ?hg (N := 3) ?hd (cs := #[.int .i64 0, .int .i64 0, .int .i64 0, .int .i64 0, .int .i64 0]) (t := 37) ?hr ?_; (case hd => rfl); (case hg => rfl); (case hr => first | (go_simp; done) | (go_simp; rfl)); intro gb158 hg w4 hbox hb; have BK158 := Aside0.mk (hbox); have GW158 := Aside0.mk ((bz_ hg (lb2_ HB.out GE156.out GE157.out))); have GE158 := Aside0.mk ((bz_ hg (lb2_ HB.out GE156.out GE157.out))); replace HB := Aside0.mk (below_step (lb2_ HB.out GE156.out GE157.out) hb); have NB156_158 := Aside0.mk ((by rw [hg]; exact Nat.ne_of_lt (blk_lt (g := gb156) (o := .cells #[.int .i64 a0_0, .int .i64 a0_1, .int .i64 a0_2, .int .i64 a0_3, .int .i64 a0_4] 65 (0, 0)) (bk_ BK156.out)) : gb156 ≠ gb158)); have NB158_156 := Aside0.mk ((by rw [hg]; exact Nat.ne_of_gt (blk_lt (g := gb156) (o := .cells #[.int .i64 a0_0, .int .i64 a0_1, .int .i64 a0_2, .int .i64 a0_3, .int .i64 a0_4] 65 (0, 0)) (bk_ BK156.out)) : gb158 ≠ gb156)); replace BK156 := Aside0.mk (bb_ (bk_ BK156.out) hb); have NB157_158 := Aside0.mk ((by rw [hg]; exact Nat.ne_of_lt (blk_lt (g := gb157) (o := .cells #[.int .i64 0, .int .i64 0, .int .i64 0, .int .i64 0, .int .i64 0] 37 (0, 0)) (bk_ BK157.out)) : gb157 ≠ gb158)); have NB158_157 := Aside0.mk ((by rw [hg]; exact Nat.ne_of_gt (blk_lt (g := gb157) (o := .cells #[.int .i64 0, .int .i64 0, .int .i64 0, .int .i64 0, .int .i64 0] 37 (0, 0)) (bk_ BK157.out)) : gb158 ≠ gb157)); replace BK157 := Aside0.mk (bb_ (bk_ BK157.out) hb); clear hb hbox hg; have hnb5 := NB156_157.out; have hnc5 := NB157_156.out; have hnb6 := NB156_158.out; have hnc6 := NB158_156.out; obtain ⟨hcz7_0, hcz7_1, hcz7_2, hcz7_3, hcz7_4⟩ := cz5_ BK156.out; obtain ⟨hfz7_0, hfz7_1, hfz7_2, hfz7_3, hfz7_4⟩ := fz5_ BK156.out; have hnb8 := NB158_157.out; have hnc8 := NB157_158.out; obtain ⟨hcz9_0, hcz9_1, hcz9_2, hcz9_3, hcz9_4⟩ := cz5_ BK158.out; obtain ⟨hfz9_0, hfz9_1, hfz9_2, hfz9_3, hfz9_4⟩ := fz5_ BK158.out; obtain ⟨hcz10_0, hcz10_1, hcz10_2, hcz10_3, hcz10_4⟩ := cz5_ BK157.out; obtain ⟨hfz10_0, hfz10_1, hfz10_2, hfz10_3, hfz10_4⟩ := fz5_ BK157.out))
 refine bodyPost_ret (results_cell_row rfl _ _ gb157 37 #[.int .i64 a0_0, .int .i64 a0_1, .int .i64 a0_2, .int .i64 a0_3, .int .i64 a0_4] (0, 0) _ rfl (by (with_reducible repeat (first | refine blk_drewN ?_ _ | refine blk_drew ?_ | refine blk_alloc ?_ _)); refine blk_put (cs := #[.int .i64 a0_0, .int .i64 a0_1, .int .i64 a0_2, .int .i64 a0_3, .int .i64 0]) ?_ 4 _ rfl; (with_reducible repeat (first | refine blk_drewN ?_ _ | refine blk_drew ?_ | refine blk_alloc ?_ _)); refine blk_put (cs := #[.int .i64 a0_0, .int .i64 a0_1, .int .i64 a0_2, .int .i64 0, .int .i64 0]) ?_ 3 _ rfl; (with_reducible repeat (first | refine blk_drewN ?_ _ | refine blk_drew ?_ | refine blk_alloc ?_ _)); refine blk_put (cs := #[.int .i64 a0_0, .int .i64 a0_1, .int .i64 0, .int .i64 0, .int .i64 0]) ?_ 2 _ rfl; (with_reducible repeat (first | refine blk_drewN ?_ _ | refine blk_drew ?_ | refine blk_alloc ?_ _)); refine blk_put (cs := #[.int .i64 a0_0, .int .i64 0, .int .i64 0, .int .i64 0, .int .i64 0]) ?_ 1 _ rfl; (with_reducible repeat (first | refine blk_drewN ?_ _ | refine blk_drew ?_ | refine blk_alloc ?_ _)); refine blk_put (cs := #[.int .i64 0, .int .i64 0, .int .i64 0, .int .i64 0, .int .i64 0]) ?_ 0 _ rfl; (with_reducible repeat (first | refine blk_drewN ?_ _ | refine blk_drew ?_ | refine blk_alloc ?_ _)); refine blk_far ?_ NB157_158.out _; (with_reducible repeat (first | refine blk_drewN ?_ _ | refine blk_drew ?_ | refine blk_alloc ?_ _)); refine blk_far ?_ NB157_158.out _; (with_reducible repeat (first | refine blk_drewN ?_ _ | refine blk_drew ?_ | refine blk_alloc ?_ _)); refine blk_far ?_ NB157_158.out _; (with_reducible repeat (first | refine blk_drewN ?_ _ | refine blk_drew ?_ | refine blk_alloc ?_ _)); refine blk_far ?_ NB157_158.out _; (with_reducible repeat (first | refine blk_drewN ?_ _ | refine blk_drew ?_ | refine blk_alloc ?_ _)); refine blk_far ?_ NB157_158.out _; (with_reducible repeat (first | refine blk_drewN ?_ _ | refine blk_drew ?_ | refine blk_alloc ?_ _)); exact BK157.out) Try.underlying37 rfl (by kernel_rfl)) rfl ?_
 exact ⟨rr_, lb3_ HB.out GE156.out GE157.out GE158.out⟩
def laws_toLegS.l0 : Nat → List (S65) → List (S37) → Int → Option ((List (S37)))
 | 0, _, _, _ => none
 | k + 1, x0, x3, x4 => if x4 < (x0.length : Int) then (if 0 ≤ x4 then ((laws_toLeg.f ((rd_T65 x0 x4).f0) ((rd_T65 x0 x4).f1) ((rd_T65 x0 x4).f2) ((rd_T65 x0 x4).f3) ((rd_T65 x0 x4).f4)).bind fun bt163 => (if x4 < (x3.length : Int) then (laws_toLegS.l0 k x0 (x3.set (x4 : Int).toNat (⟨bt163.1, bt163.2.1, bt163.2.2.1, bt163.2.2.2.1, bt163.2.2.2.2⟩ : S37)) (wrap64 (x4 + 1))) else (none))) else (none)) else (some x3)
def laws_toLegS.f (k : Nat) (l0 : List (S65)) : Option ((List (S37))) := if 0 ≤ (l0.length : Int) then (if ((l0.length : Int) : Int).toNat ≤ 7036874417766 then (laws_toLegS.l0 k l0 (List.replicate ((l0.length : Int) : Int).toNat z37) 0) else (none)) else (none)
theorem laws_toLegS.calls (k : Nat) (A0 : Option Addr) (c0 : Nat) (l0 : List (S65)) (r : List (S37)) (w : World) (hr0 : Kd.C k65 w A0 l0.length l0) (hc0 : l0.length ≤ c0) (h : laws_toLegS.f k l0 = some r) :
  Calls Try.prog 38 #[.slice A0 l0.length c0] w fun e w' => ∃ v0_ : Value, e = .returned (v0_) ∧ Kd.R k37 37 w' w.heap.size (fun _ => True) v0_ r ∧ Below w.heap.size w w' := by
 have hu65 := Try.underlying65
 have hu37 := Try.underlying37
 have HR0 := Aside0.mk hr0
 have HC0 := Aside0.mk hc0
 clear hr0 hc0
 have HB := Aside0.mk (Below.refl w.heap.size w)
 have H : (if 0 ≤ (l0.length : Int) then (if ((l0.length : Int) : Int).toNat ≤ 7036874417766 then (laws_toLegS.l0 k l0 (List.replicate ((l0.length : Int) : Int).toNat z37) 0) else (none)) else (none)) = some r := h
 clear h
 by_cases c2 : 0 ≤ (l0.length : Int)
 ·
  rw [if_pos c2] at H
  have c2b0 := eq_true c2
  have c2b1 : decide (0 ≤ (l0.length : Int)) = true := decide_eq_true c2
  clear c2
  by_cases c3 : ((l0.length : Int) : Int).toNat ≤ 7036874417766
  ·
   rw [if_pos c3] at H
   have c3b0 := eq_true c3
   have c3b1 : decide (((l0.length : Int) : Int).toNat ≤ 7036874417766) = true := decide_eq_true c3
   clear c3
   obtain ⟨y159, hy159⟩ : ∃ y_ : List (S37), y_ = (List.replicate ((l0.length : Int) : Int).toNat z37) := ⟨_, rfl⟩
   replace H : (laws_toLegS.l0 k l0 y159 0) = some r := by first | (rw [hy159]; with_reducible exact H) | (have H2_ := (Option.bind_some _ _).symm.trans H; rw [hy159]; with_reducible exact H2_) | (have H2_ := (Option.bind_some _ _).symm.trans H; with_reducible exact H2_) | with_reducible exact H | (rw [hy159]; exact H) | exact H
   have Ny159 := Aside0.mk hy159
   clear hy159
   have H' := Aside0.mk H
   clear H
   go_enter Try.func38, Try.ntmps38
   go_wp2_with (first | ((with_reducible refine gate_dst (N := 7) rfl ?_); refine Kd.R_make k37 _ 37 rfl (N := 7) rfl 28 _ _ rfl (l0.length : Int) rfl rfl Try.underlying28 (.agg #[(.int .i64 0), (.int .i64 0), (.int .i64 0), (.int .i64 0), (.int .i64 0)]) 40 info37 rfl (by decide) (by omega) z37 (ok := fun _ => True) (okp := fun _ => True) (k37_mkM _ _ _ z37 ) (fun _ hk => hk) trivial (dt_) (Nat.le_trans (Nat.mul_le_mul_right _ (dt_ : (l0.length : Int).toNat ≤ 7036874417766)) (by omega)) (Below.refl _ _) (Nat.le_refl _) ?_; intro v160 w4 ho5 hb hg_ hnew_; clear hg_ hnew_; replace ho5 := ry_ Ny159.out ho5; have HO161 := Aside0.mk (Kd.R_lower ho5 (below_size (lb0_ HB.out))); replace HB := Aside0.mk (below_step (lb0_ HB.out) hb); clear hb ho5))
   go_loopg [4] k (fun kq v4 w' => ∃ (x3_1 : List (S37)) (x4_1 : Int), v4 = .int .i64 x4_1 ∧ Aside0 (laws_toLegS.l0 kq l0 x3_1 x4_1 = some r) ∧ Aside0 (kq ≤ k) ∧ Aside0 (Kd.R k37 37 w' w.heap.size (fun _ => True) v160 x3_1) ∧ Aside0 (Below w.heap.size w w'))
   case atStart => exact ⟨(y159), (0), (by first | rfl | (simp; done) | (simp [*]; done)), H', ⟨Nat.le_refl _⟩, ⟨kr_ HO161.out⟩, ⟨lb0_ HB.out⟩⟩
   case round =>
    clear H'
    try clear c2
    try clear c2b0
    try clear c2b1
    try clear p2
    try clear c3
    try clear c3b0
    try clear c3b1
    obtain ⟨x3_1, x4_1, rfl, HA, HK1, HO_3, HB⟩ := hrel
    cases gk with
    | zero => exact absurd HA.out (by simp [laws_toLegS.l0])
    | succ k1 =>
     have H := HA.out
     clear HA
     simp only [laws_toLegS.l0] at H
     by_cases c6 : x4_1 < (l0.length : Int)
     ·
      rw [if_pos c6] at H
      have c6b0 : decide (x4_1 < (l0.length : Int)) = true := decide_eq_true c6
      clear c6
      by_cases c7 : 0 ≤ x4_1
      ·
       rw [if_pos c7] at H
       have c7b0 : decide (0 ≤ x4_1) = true := decide_eq_true c7
       clear c7
       replace H := Option.bind_eq_some_iff.mp H
       obtain ⟨⟨t163, t164, t165, t166, t167⟩, A80, H⟩ := H
       replace H : (if x4_1 < (x3_1.length : Int) then (laws_toLegS.l0 k1 l0 (x3_1.set (x4_1 : Int).toNat (⟨t163, t164, t165, t166, t167⟩ : S37)) (wrap64 (x4_1 + 1))) else (none)) = some r := H
       have A8 := Aside0.mk A80
       clear A80
       by_cases c9 : x4_1 < (x3_1.length : Int)
       ·
        rw [if_pos c9] at H
        have c9b0 : decide (x4_1 < (x3_1.length : Int)) = true := decide_eq_true c9; clear c9
        obtain ⟨y168, hy168⟩ : ∃ y_ : List (S37), y_ = (x3_1.set (x4_1 : Int).toNat (⟨t163, t164, t165, t166, t167⟩ : S37)) := ⟨_, rfl⟩
        replace H : (laws_toLegS.l0 k1 l0 y168 (wrap64 (x4_1 + 1))) = some r := by first | (rw [hy168]; with_reducible exact H) | (have H2_ := (Option.bind_some _ _).symm.trans H; rw [hy168]; with_reducible exact H2_) | (have H2_ := (Option.bind_some _ _).symm.trans H; with_reducible exact H2_) | with_reducible exact H | (rw [hy168]; exact H) | exact H
        have Ny168 := Aside0.mk hy168; clear hy168; have H' := Aside0.mk H; clear H; have p162 : 0 ≤ (x4_1 : Int) := dt_; have q162 : x4_1 < (l0.length : Int) := dt_; obtain ⟨ad162, e162, hx162_0, hx162_1, hx162_2, hx162_3, hx162_4⟩ := at_T65 HR0.out x4_1 p162 q162
        cases e162
        replace hx162_0 := bc_ HB.out hx162_0; replace hx162_1 := bc_ HB.out hx162_1; replace hx162_2 := bc_ HB.out hx162_2; replace hx162_3 := bc_ HB.out hx162_3; replace hx162_4 := bc_ HB.out hx162_4; replace p162 := eq_true p162; replace q162 := eq_true q162
        go_wp2_with (first | ((with_reducible refine gate_callee (f := 89) rfl ?_); refine ga_ (some 20) Try.func89 #[.agg #[.int .i64 ((rd_T65 l0 x4_1).f0), .int .i64 ((rd_T65 l0 x4_1).f1), .int .i64 ((rd_T65 l0 x4_1).f2), .int .i64 ((rd_T65 l0 x4_1).f3), .int .i64 ((rd_T65 l0 x4_1).f4)]] ?_; (with_reducible refine (laws_toLeg.calls ((rd_T65 l0 x4_1).f0) ((rd_T65 l0 x4_1).f1) ((rd_T65 l0 x4_1).f2) ((rd_T65 l0 x4_1).f3) ((rd_T65 l0 x4_1).f4) t163 t164 t165 t166 t167 _ A8.out).mono ?_); rintro e w11 ⟨rfl, hb⟩; refine ⟨_, rfl, ?_⟩; replace HO_3 := Aside0.mk (Kd.R_below (kr_ HO_3.out) hb); replace HB := Aside0.mk (below_step (lb0_ HB.out) hb); (try clear hb); (try clear hb2); (try clear hk); (try clear hi); have p10 : 0 ≤ (x4_1 : Int) := dt_; have q10 : (x4_1 : Int) < ((x3_1.length : Int) : Int) := dt_; obtain ⟨go10, co10, eo10, gb10, gl10, cl10, HG10⟩ := Kd.R_form HO_3.out (by omega); (first | cases eo10 | (injection eo10 with ea_ en_ ec_; (first | subst ea_ | (injection ea_ with ea_; subst ea_)); subst ec_; clear en_)); have GB10 := Aside0.mk gb10; have GG10 := Aside0.mk HG10; clear gb10 gl10 HG10; obtain ⟨ce10, hcl10, hM10, hcc10, hfr10⟩ := Kd.R_elem HO_3.out z37 (x4_1 : Int) p10 q10; obtain rfl := k37_openM hM10; have hx10_0 : w11.cell? ⟨go10, (x4_1 : Int).toNat * 5, none⟩ = some (.int .i64 ((rd_T37 x3_1 x4_1).f0)) := hcc10 0 _ rfl; have hx10_1 : w11.cell? ⟨go10, (x4_1 : Int).toNat * 5 + 1, none⟩ = some (.int .i64 ((rd_T37 x3_1 x4_1).f1)) := hcc10 1 _ rfl; have hx10_2 : w11.cell? ⟨go10, (x4_1 : Int).toNat * 5 + 2, none⟩ = some (.int .i64 ((rd_T37 x3_1 x4_1).f2)) := hcc10 2 _ rfl; have hx10_3 : w11.cell? ⟨go10, (x4_1 : Int).toNat * 5 + 3, none⟩ = some (.int .i64 ((rd_T37 x3_1 x4_1).f3)) := hcc10 3 _ rfl; have hx10_4 : w11.cell? ⟨go10, (x4_1 : Int).toNat * 5 + 4, none⟩ = some (.int .i64 ((rd_T37 x3_1 x4_1).f4)) := hcc10 4 _ rfl; have hf10_0 : w11.frozen? ⟨go10, (x4_1 : Int).toNat * 5, none⟩ = false := hfr10 0; have hf10_1 : w11.frozen? ⟨go10, (x4_1 : Int).toNat * 5 + 1, none⟩ = false := hfr10 1; have hf10_2 : w11.frozen? ⟨go10, (x4_1 : Int).toNat * 5 + 2, none⟩ = false := hfr10 2; have hf10_3 : w11.frozen? ⟨go10, (x4_1 : Int).toNat * 5 + 3, none⟩ = false := hfr10 3; have hf10_4 : w11.frozen? ⟨go10, (x4_1 : Int).toNat * 5 + 4, none⟩ = false := hfr10 4; clear hcl10 hcc10 hfr10 hM10; replace p10 := eq_true p10; replace q10 := eq_true q10; have HX12 := Aside0.mk (show Kd.R k37 37 w11 w.heap.size (fun _ => True) (.slice (some ⟨go10, 0, none⟩) x3_1.length co10) x3_1 from (kr_ HO_3.out)); obtain ⟨ce12, hcl12, hM12, hcc12, hfr12⟩ := Kd.R_elem HX12.out z37 (x4_1 : Int) (dt_) (by have h_ : (x4_1 : Int) < ((x3_1.length : Int) : Int) := dt_; first | exact h_ | (have e_ := (Kd.R_reads' HO_3.out).1; omega) | simpa using h_); obtain rfl := k37_openM hM12; have HP12 := Kd.R_seg HX12.out (x4_1 : Int) (dt_) (by have h_ : (x4_1 : Int) < ((x3_1.length : Int) : Int) := dt_; first | exact h_ | (have e_ := (Kd.R_reads' HO_3.out).1; omega) | simpa using h_) (seg := [.int .i64 t163, .int .i64 t164, .int .i64 t165, .int .i64 t166, .int .i64 t167]) (j := 0) hcl12 hcc12 (show 5 ≤ 5 from by decide) (x' := (⟨t163, t164, t165, t166, t167⟩ : S37)) (k37_mkM _ _ _ (⟨t163, t164, t165, t166, t167⟩ : S37) ) (fun _ hk => hk); have hx12_0 := hcc12 0 _ rfl; (try simp only [show (k37).sz = 5 from rfl, Nat.mul_one, Nat.add_zero] at hx12_0); have hf12_0 := hfr12 0; (try simp only [show (k37).sz = 5 from rfl, Nat.mul_one, Nat.add_zero] at hf12_0); have hx12_1 := hcc12 1 _ rfl; (try simp only [show (k37).sz = 5 from rfl, Nat.mul_one, Nat.add_zero] at hx12_1); have hf12_1 := hfr12 1; (try simp only [show (k37).sz = 5 from rfl, Nat.mul_one, Nat.add_zero] at hf12_1); have hx12_2 := hcc12 2 _ rfl; (try simp only [show (k37).sz = 5 from rfl, Nat.mul_one, Nat.add_zero] at hx12_2); have hf12_2 := hfr12 2; (try simp only [show (k37).sz = 5 from rfl, Nat.mul_one, Nat.add_zero] at hf12_2); have hx12_3 := hcc12 3 _ rfl; (try simp only [show (k37).sz = 5 from rfl, Nat.mul_one, Nat.add_zero] at hx12_3); have hf12_3 := hfr12 3; (try simp only [show (k37).sz = 5 from rfl, Nat.mul_one, Nat.add_zero] at hf12_3); have hx12_4 := hcc12 4 _ rfl; (try simp only [show (k37).sz = 5 from rfl, Nat.mul_one, Nat.add_zero] at hx12_4); have hf12_4 := hfr12 4; (try simp only [show (k37).sz = 5 from rfl, Nat.mul_one, Nat.add_zero] at hf12_4); clear hcl12 hcc12 hfr12 hM12) | ((with_reducible refine gate_store (t := 37) (p := 21) rfl ?_); refine store_event (t := 37) (p := 21) (v := ?vo_w13) (w1 := (((((w11.setCell ⟨go10, (x4_1 : Int).toNat * 5, none⟩ (.int .i64 t163)).setCell ⟨go10, (x4_1 : Int).toNat * 5 + 1, none⟩ (.int .i64 t164)).setCell ⟨go10, (x4_1 : Int).toNat * 5 + 2, none⟩ (.int .i64 t165)).setCell ⟨go10, (x4_1 : Int).toNat * 5 + 3, none⟩ (.int .i64 t166)).setCell ⟨go10, (x4_1 : Int).toNat * 5 + 4, none⟩ (.int .i64 t167))) ?hg ?ho ?hn ?hr ?_; (case ho => rfl); (case hg => rfl); (case hn => rfl); (case hr => first | (go_simp; done) | (go_simp; rfl)); intro w13 hw; have hg : w11.grownBy w13 (some go10) := (by rw [hw]; exact HP12.2); have hp_ : Kd.R k37 37 w13 w.heap.size (fun _ => True) (.slice (some ⟨go10, 0, none⟩) x3_1.length co10) y168 := (by rw [hw, Ny168.out]; exact HP12.1); clear HP12; replace HO_3 := Aside0.mk (hp_); replace HB := Aside0.mk ((by rw [hw]; exact below_set (below_set (below_set (below_set (below_set (HB.out) GB10.out) GB10.out) GB10.out) GB10.out) GB10.out : Below w.heap.size w w13)); clear hg hw hp_))
        go_roundg k1
        case measure => have := HK1.out; omega
        case rel => exact ⟨(y168), (wrap64 (x4_1 + 1)), (by first | rfl | (simp; done) | (simp [*]; done)), H', ⟨by have := HK1.out; omega⟩, ⟨by (with_reducible repeat (first | apply Kd.R_alloc | apply Kd.R_drewN | apply Kd.R_drew)); first | exact HO_3.out | (rw [Ny168.out]; exact (Kd.R_putg (Kd.R_drewN HO_3.out _) _ _).1) | (rw [Ny168.out]; exact (Kd.R_putg HO_3.out _ _).1)⟩, ⟨by repeat (first | (with_reducible first | exact HB.out | apply below_alloc | apply pw_below_drewN | apply below_drew1) | exact HB.out | (first | exact below_set (pw_below_drewN HB.out _) GB10.out | exact below_set HB.out GB10.out))⟩⟩
       ·
        rw [if_neg c9] at H
        exact absurd H (by simp)
      ·
       rw [if_neg c7] at H
       exact absurd H (by simp)
     ·
      rw [if_neg c6] at H
      have c6b0 : decide (x4_1 < (l0.length : Int)) = false := decide_eq_false c6
      clear c6
      obtain rfl := Option.some.inj H
      go_wp2
      go_ret
      exact ⟨_, rr_, kr_ HO_3.out, lb0_ HB.out⟩
  ·
   rw [if_neg c3] at H
   exact absurd H (by simp)
 ·
  rw [if_neg c2] at H
  exact absurd H (by simp)
def laws_eqLeg.f (a0_0 : Int) (a0_1 : Int) (a0_2 : Int) (a0_3 : Int) (a0_4 : Int) (a1_0 : Int) (a1_1 : Int) (a1_2 : Int) (a1_3 : Int) (a1_4 : Int) : Option (Bool) := if a0_0 = a1_0 then (if a0_1 = a1_1 then (if a0_2 = a1_2 then (if a0_3 = a1_3 then (if a0_4 = a1_4 then (some true) else (some false)) else (some false)) else (some false)) else (some false)) else (some false)
theorem laws_eqLeg.calls (a0_0 : Int) (a0_1 : Int) (a0_2 : Int) (a0_3 : Int) (a0_4 : Int) (a1_0 : Int) (a1_1 : Int) (a1_2 : Int) (a1_3 : Int) (a1_4 : Int) (r : Bool) (w : World) (h : laws_eqLeg.f a0_0 a0_1 a0_2 a0_3 a0_4 a1_0 a1_1 a1_2 a1_3 a1_4 = some r) :
  Calls Try.prog 90 #[.agg #[.int .i64 a0_0, .int .i64 a0_1, .int .i64 a0_2, .int .i64 a0_3, .int .i64 a0_4], .agg #[.int .i64 a1_0, .int .i64 a1_1, .int .i64 a1_2, .int .i64 a1_3, .int .i64 a1_4]] w fun e w' => e = .returned (.bool r) ∧ Below w.heap.size w w' := by
 have hu37 := Try.underlying37
 have HB := Aside0.mk (Below.refl w.heap.size w)
 have H : (if a0_0 = a1_0 then (if a0_1 = a1_1 then (if a0_2 = a1_2 then (if a0_3 = a1_3 then (if a0_4 = a1_4 then (some true) else (some false)) else (some false)) else (some false)) else (some false)) else (some false)) = some r := h
 clear h
 by_cases c3 : a0_0 = a1_0
 ·
  rw [if_pos c3] at H
  have c3b0 : (a0_0 == a1_0) = true := beq_iff_eq.mpr c3
  have c3b1 : (a0_0 != a1_0) = false := bne_eq_false_iff_eq.mpr c3
  clear c3
  by_cases c4 : a0_1 = a1_1
  ·
   rw [if_pos c4] at H
   have c4b0 : (a0_1 == a1_1) = true := beq_iff_eq.mpr c4
   have c4b1 : (a0_1 != a1_1) = false := bne_eq_false_iff_eq.mpr c4
   clear c4
   by_cases c5 : a0_2 = a1_2
   ·
    rw [if_pos c5] at H
    have c5b0 : (a0_2 == a1_2) = true := beq_iff_eq.mpr c5
    have c5b1 : (a0_2 != a1_2) = false := bne_eq_false_iff_eq.mpr c5
    clear c5
    by_cases c6 : a0_3 = a1_3
    ·
     rw [if_pos c6] at H
     have c6b0 : (a0_3 == a1_3) = true := beq_iff_eq.mpr c6
     have c6b1 : (a0_3 != a1_3) = false := bne_eq_false_iff_eq.mpr c6
     clear c6
     by_cases c7 : a0_4 = a1_4
     ·
      rw [if_pos c7] at H
      have c7b0 : (a0_4 == a1_4) = true := beq_iff_eq.mpr c7
      have c7b1 : (a0_4 != a1_4) = false := bne_eq_false_iff_eq.mpr c7
      clear c7
      obtain rfl := Option.some.inj H
      go_enter Try.func90, Try.ntmps90
      go_wp2_with (first | ((with_reducible refine gate_dst (N := 2) rfl ?_); refine box_event ?hg (N := 2) ?hd (cs := #[.int .i64 a0_0, .int .i64 a0_1, .int .i64 a0_2, .int .i64 a0_3, .int .i64 a0_4]) (t := 37) ?hr ?_; (case hd => rfl); (case hg => rfl); (case hr => first | (go_simp; done) | (go_simp; rfl)); intro gb227 hg w8 hbox hb; have BK227 := Aside0.mk (hbox); have GW227 := Aside0.mk ((bz_ hg (lb0_ HB.out))); have GE227 := Aside0.mk ((bz_ hg (lb0_ HB.out))); replace HB := Aside0.mk (below_step (lb0_ HB.out) hb); clear hb hbox hg) | ((with_reducible refine gate_dst (N := 3) rfl ?_); refine box_event ?hg (N := 3) ?hd (cs := #[.int .i64 a1_0, .int .i64 a1_1, .int .i64 a1_2, .int .i64 a1_3, .int .i64 a1_4]) (t := 37) ?hr ?_; (case hd => rfl); (case hg => rfl); (case hr => first | (go_simp; done) | (go_simp; rfl)); intro gb228 hg w9 hbox hb; have BK228 := Aside0.mk (hbox); have GW228 := Aside0.mk ((bz_ hg (lb1_ HB.out GE227.out))); have GE228 := Aside0.mk ((bz_ hg (lb1_ HB.out GE227.out))); replace HB := Aside0.mk (below_step (lb1_ HB.out GE227.out) hb); have NB227_228 := Aside0.mk ((by rw [hg]; exact Nat.ne_of_lt (blk_lt (g := gb227) (o := .cells #[.int .i64 a0_0, .int .i64 a0_1, .int .i64 a0_2, .int .i64 a0_3, .int .i64 a0_4] 37 (0, 0)) (bk_ BK227.out)) : gb227 ≠ gb228)); have NB228_227 := Aside0.mk ((by rw [hg]; exact Nat.ne_of_gt (blk_lt (g := gb227) (o := .cells #[.int .i64 a0_0, .int .i64 a0_1, .int .i64 a0_2, .int .i64 a0_3, .int .i64 a0_4] 37 (0, 0)) (bk_ BK227.out)) : gb228 ≠ gb227)); replace BK227 := Aside0.mk (bb_ (bk_ BK227.out) hb); clear hb hbox hg; have hnb10 := NB227_228.out; have hnc10 := NB228_227.out; obtain ⟨hcz11_0, hcz11_1, hcz11_2, hcz11_3, hcz11_4⟩ := cz5_ BK227.out; obtain ⟨hfz11_0, hfz11_1, hfz11_2, hfz11_3, hfz11_4⟩ := fz5_ BK227.out; obtain ⟨hcz12_0, hcz12_1, hcz12_2, hcz12_3, hcz12_4⟩ := cz5_ BK228.out; obtain ⟨hfz12_0, hfz12_1, hfz12_2, hfz12_3, hfz12_4⟩ := fz5_ BK228.out))
      go_ret
      exact ⟨rr_, lb2_ HB.out GE227.out GE228.out⟩
     ·
      rw [if_neg c7] at H
      have c7b0 : (a0_4 == a1_4) = false := beq_eq_false_iff_ne.mpr c7
      have c7b1 : (a0_4 != a1_4) = true := bne_iff_ne.mpr c7
      obtain rfl := Option.some.inj H
      go_enter Try.func90, Try.ntmps90
      go_wp2_with (first | ((with_reducible refine gate_dst (N := 2) rfl ?_); refine box_event ?hg (N := 2) ?hd (cs := #[.int .i64 a0_0, .int .i64 a0_1, .int .i64 a0_2, .int .i64 a0_3, .int .i64 a0_4]) (t := 37) ?hr ?_; (case hd => rfl); (case hg => rfl); (case hr => first | (go_simp; done) | (go_simp; rfl)); intro gb227 hg w13 hbox hb; have BK227 := Aside0.mk (hbox); have GW227 := Aside0.mk ((bz_ hg (lb0_ HB.out))); have GE227 := Aside0.mk ((bz_ hg (lb0_ HB.out))); replace HB := Aside0.mk (below_step (lb0_ HB.out) hb); clear hb hbox hg) | ((with_reducible refine gate_dst (N := 3) rfl ?_); refine box_event ?hg (N := 3) ?hd (cs := #[.int .i64 a1_0, .int .i64 a1_1, .int .i64 a1_2, .int .i64 a1_3, .int .i64 a1_4]) (t := 37) ?hr ?_; (case hd => rfl); (case hg => rfl); (case hr => first | (go_simp; done) | (go_simp; rfl)); intro gb228 hg w14 hbox hb; have BK228 := Aside0.mk (hbox); have GW228 := Aside0.mk ((bz_ hg (lb1_ HB.out GE227.out))); have GE228 := Aside0.mk ((bz_ hg (lb1_ HB.out GE227.out))); replace HB := Aside0.mk (below_step (lb1_ HB.out GE227.out) hb); have NB227_228 := Aside0.mk ((by rw [hg]; exact Nat.ne_of_lt (blk_lt (g := gb227) (o := .cells #[.int .i64 a0_0, .int .i64 a0_1, .int .i64 a0_2, .int .i64 a0_3, .int .i64 a0_4] 37 (0, 0)) (bk_ BK227.out)) : gb227 ≠ gb228)); have NB228_227 := Aside0.mk ((by rw [hg]; exact Nat.ne_of_gt (blk_lt (g := gb227) (o := .cells #[.int .i64 a0_0, .int .i64 a0_1, .int .i64 a0_2, .int .i64 a0_3, .int .i64 a0_4] 37 (0, 0)) (bk_ BK227.out)) : gb228 ≠ gb227)); replace BK227 := Aside0.mk (bb_ (bk_ BK227.out) hb); clear hb hbox hg; have hnb15 := NB227_228.out; have hnc15 := NB228_227.out; obtain ⟨hcz16_0, hcz16_1, hcz16_2, hcz16_3, hcz16_4⟩ := cz5_ BK227.out; obtain ⟨hfz16_0, hfz16_1, hfz16_2, hfz16_3, hfz16_4⟩ := fz5_ BK227.out; obtain ⟨hcz17_0, hcz17_1, hcz17_2, hcz17_3, hcz17_4⟩ := cz5_ BK228.out; obtain ⟨hfz17_0, hfz17_1, hfz17_2, hfz17_3, hfz17_4⟩ := fz5_ BK228.out))
      go_ret
      exact ⟨rr_, lb2_ HB.out GE227.out GE228.out⟩
    ·
     rw [if_neg c6] at H
     have c6b0 : (a0_3 == a1_3) = false := beq_eq_false_iff_ne.mpr c6
     have c6b1 : (a0_3 != a1_3) = true := bne_iff_ne.mpr c6
     obtain rfl := Option.some.inj H
     go_enter Try.func90, Try.ntmps90
     go_wp2_with (first | ((with_reducible refine gate_dst (N := 2) rfl ?_); refine box_event ?hg (N := 2) ?hd (cs := #[.int .i64 a0_0, .int .i64 a0_1, .int .i64 a0_2, .int .i64 a0_3, .int .i64 a0_4]) (t := 37) ?hr ?_; (case hd => rfl); (case hg => rfl); (case hr => first | (go_simp; done) | (go_simp; rfl)); intro gb227 hg w18 hbox hb; have BK227 := Aside0.mk (hbox); have GW227 := Aside0.mk ((bz_ hg (lb0_ HB.out))); have GE227 := Aside0.mk ((bz_ hg (lb0_ HB.out))); replace HB := Aside0.mk (below_step (lb0_ HB.out) hb); clear hb hbox hg) | ((with_reducible refine gate_dst (N := 3) rfl ?_); refine box_event ?hg (N := 3) ?hd (cs := #[.int .i64 a1_0, .int .i64 a1_1, .int .i64 a1_2, .int .i64 a1_3, .int .i64 a1_4]) (t := 37) ?hr ?_; (case hd => rfl); (case hg => rfl); (case hr => first | (go_simp; done) | (go_simp; rfl)); intro gb228 hg w19 hbox hb; have BK228 := Aside0.mk (hbox); have GW228 := Aside0.mk ((bz_ hg (lb1_ HB.out GE227.out))); have GE228 := Aside0.mk ((bz_ hg (lb1_ HB.out GE227.out))); replace HB := Aside0.mk (below_step (lb1_ HB.out GE227.out) hb); have NB227_228 := Aside0.mk ((by rw [hg]; exact Nat.ne_of_lt (blk_lt (g := gb227) (o := .cells #[.int .i64 a0_0, .int .i64 a0_1, .int .i64 a0_2, .int .i64 a0_3, .int .i64 a0_4] 37 (0, 0)) (bk_ BK227.out)) : gb227 ≠ gb228)); have NB228_227 := Aside0.mk ((by rw [hg]; exact Nat.ne_of_gt (blk_lt (g := gb227) (o := .cells #[.int .i64 a0_0, .int .i64 a0_1, .int .i64 a0_2, .int .i64 a0_3, .int .i64 a0_4] 37 (0, 0)) (bk_ BK227.out)) : gb228 ≠ gb227)); replace BK227 := Aside0.mk (bb_ (bk_ BK227.out) hb); clear hb hbox hg; have hnb20 := NB227_228.out; have hnc20 := NB228_227.out; obtain ⟨hcz21_0, hcz21_1, hcz21_2, hcz21_3, hcz21_4⟩ := cz5_ BK227.out; obtain ⟨hfz21_0, hfz21_1, hfz21_2, hfz21_3, hfz21_4⟩ := fz5_ BK227.out; obtain ⟨hcz22_0, hcz22_1, hcz22_2, hcz22_3, hcz22_4⟩ := cz5_ BK228.out; obtain ⟨hfz22_0, hfz22_1, hfz22_2, hfz22_3, hfz22_4⟩ := fz5_ BK228.out))
     go_ret
     exact ⟨rr_, lb2_ HB.out GE227.out GE228.out⟩
   ·
    rw [if_neg c5] at H
    have c5b0 : (a0_2 == a1_2) = false := beq_eq_false_iff_ne.mpr c5
    have c5b1 : (a0_2 != a1_2) = true := bne_iff_ne.mpr c5
    obtain rfl := Option.some.inj H
    go_enter Try.func90, Try.ntmps90
    go_wp2_with (first | ((with_reducible refine gate_dst (N := 2) rfl ?_); refine box_event ?hg (N := 2) ?hd (cs := #[.int .i64 a0_0, .int .i64 a0_1, .int .i64 a0_2, .int .i64 a0_3, .int .i64 a0_4]) (t := 37) ?hr ?_; (case hd => rfl); (case hg => rfl); (case hr => first | (go_simp; done) | (go_simp; rfl)); intro gb227 hg w23 hbox hb; have BK227 := Aside0.mk (hbox); have GW227 := Aside0.mk ((bz_ hg (lb0_ HB.out))); have GE227 := Aside0.mk ((bz_ hg (lb0_ HB.out))); replace HB := Aside0.mk (below_step (lb0_ HB.out) hb); clear hb hbox hg) | ((with_reducible refine gate_dst (N := 3) rfl ?_); refine box_event ?hg (N := 3) ?hd (cs := #[.int .i64 a1_0, .int .i64 a1_1, .int .i64 a1_2, .int .i64 a1_3, .int .i64 a1_4]) (t := 37) ?hr ?_; (case hd => rfl); (case hg => rfl); (case hr => first | (go_simp; done) | (go_simp; rfl)); intro gb228 hg w24 hbox hb; have BK228 := Aside0.mk (hbox); have GW228 := Aside0.mk ((bz_ hg (lb1_ HB.out GE227.out))); have GE228 := Aside0.mk ((bz_ hg (lb1_ HB.out GE227.out))); replace HB := Aside0.mk (below_step (lb1_ HB.out GE227.out) hb); have NB227_228 := Aside0.mk ((by rw [hg]; exact Nat.ne_of_lt (blk_lt (g := gb227) (o := .cells #[.int .i64 a0_0, .int .i64 a0_1, .int .i64 a0_2, .int .i64 a0_3, .int .i64 a0_4] 37 (0, 0)) (bk_ BK227.out)) : gb227 ≠ gb228)); have NB228_227 := Aside0.mk ((by rw [hg]; exact Nat.ne_of_gt (blk_lt (g := gb227) (o := .cells #[.int .i64 a0_0, .int .i64 a0_1, .int .i64 a0_2, .int .i64 a0_3, .int .i64 a0_4] 37 (0, 0)) (bk_ BK227.out)) : gb228 ≠ gb227)); replace BK227 := Aside0.mk (bb_ (bk_ BK227.out) hb); clear hb hbox hg; have hnb25 := NB227_228.out; have hnc25 := NB228_227.out; obtain ⟨hcz26_0, hcz26_1, hcz26_2, hcz26_3, hcz26_4⟩ := cz5_ BK227.out; obtain ⟨hfz26_0, hfz26_1, hfz26_2, hfz26_3, hfz26_4⟩ := fz5_ BK227.out; obtain ⟨hcz27_0, hcz27_1, hcz27_2, hcz27_3, hcz27_4⟩ := cz5_ BK228.out; obtain ⟨hfz27_0, hfz27_1, hfz27_2, hfz27_3, hfz27_4⟩ := fz5_ BK228.out))
    go_ret
    exact ⟨rr_, lb2_ HB.out GE227.out GE228.out⟩
  ·
   rw [if_neg c4] at H
   have c4b0 : (a0_1 == a1_1) = false := beq_eq_false_iff_ne.mpr c4
   have c4b1 : (a0_1 != a1_1) = true := bne_iff_ne.mpr c4
   obtain rfl := Option.some.inj H
   go_enter Try.func90, Try.ntmps90
   go_wp2_with (first | ((with_reducible refine gate_dst (N := 2) rfl ?_); refine box_event ?hg (N := 2) ?hd (cs := #[.int .i64 a0_0, .int .i64 a0_1, .int .i64 a0_2, .int .i64 a0_3, .int .i64 a0_4]) (t := 37) ?hr ?_; (case hd => rfl); (case hg => rfl); (case hr => first | (go_simp; done) | (go_simp; rfl)); intro gb227 hg w28 hbox hb; have BK227 := Aside0.mk (hbox); have GW227 := Aside0.mk ((bz_ hg (lb0_ HB.out))); have GE227 := Aside0.mk ((bz_ hg (lb0_ HB.out))); replace HB := Aside0.mk (below_step (lb0_ HB.out) hb); clear hb hbox hg) | ((with_reducible refine gate_dst (N := 3) rfl ?_); refine box_event ?hg (N := 3) ?hd (cs := #[.int .i64 a1_0, .int .i64 a1_1, .int .i64 a1_2, .int .i64 a1_3, .int .i64 a1_4]) (t := 37) ?hr ?_; (case hd => rfl); (case hg => rfl); (case hr => first | (go_simp; done) | (go_simp; rfl)); intro gb228 hg w29 hbox hb; have BK228 := Aside0.mk (hbox); have GW228 := Aside0.mk ((bz_ hg (lb1_ HB.out GE227.out))); have GE228 := Aside0.mk ((bz_ hg (lb1_ HB.out GE227.out))); replace HB := Aside0.mk (below_step (lb1_ HB.out GE227.out) hb); have NB227_228 := Aside0.mk ((by rw [hg]; exact Nat.ne_of_lt (blk_lt (g := gb227) (o := .cells #[.int .i64 a0_0, .int .i64 a0_1, .int .i64 a0_2, .int .i64 a0_3, .int .i64 a0_4] 37 (0, 0)) (bk_ BK227.out)) : gb227 ≠ gb228)); have NB228_227 := Aside0.mk ((by rw [hg]; exact Nat.ne_of_gt (blk_lt (g := gb227) (o := .cells #[.int .i64 a0_0, .int .i64 a0_1, .int .i64 a0_2, .int .i64 a0_3, .int .i64 a0_4] 37 (0, 0)) (bk_ BK227.out)) : gb228 ≠ gb227)); replace BK227 := Aside0.mk (bb_ (bk_ BK227.out) hb); clear hb hbox hg; have hnb30 := NB227_228.out; have hnc30 := NB228_227.out; obtain ⟨hcz31_0, hcz31_1, hcz31_2, hcz31_3, hcz31_4⟩ := cz5_ BK227.out; obtain ⟨hfz31_0, hfz31_1, hfz31_2, hfz31_3, hfz31_4⟩ := fz5_ BK227.out; obtain ⟨hcz32_0, hcz32_1, hcz32_2, hcz32_3, hcz32_4⟩ := cz5_ BK228.out; obtain ⟨hfz32_0, hfz32_1, hfz32_2, hfz32_3, hfz32_4⟩ := fz5_ BK228.out))
   go_ret
   exact ⟨rr_, lb2_ HB.out GE227.out GE228.out⟩
 ·
  rw [if_neg c3] at H
  have c3b0 : (a0_0 == a1_0) = false := beq_eq_false_iff_ne.mpr c3
  have c3b1 : (a0_0 != a1_0) = true := bne_iff_ne.mpr c3
  obtain rfl := Option.some.inj H
  go_enter Try.func90, Try.ntmps90
  go_wp2_with (first | ((with_reducible refine gate_dst (N := 2) rfl ?_); refine box_event ?hg (N := 2) ?hd (cs := #[.int .i64 a0_0, .int .i64 a0_1, .int .i64 a0_2, .int .i64 a0_3, .int .i64 a0_4]) (t := 37) ?hr ?_; (case hd => rfl); (case hg => rfl); (case hr => first | (go_simp; done) | (go_simp; rfl)); intro gb227 hg w33 hbox hb; have BK227 := Aside0.mk (hbox); have GW227 := Aside0.mk ((bz_ hg (lb0_ HB.out))); have GE227 := Aside0.mk ((bz_ hg (lb0_ HB.out))); replace HB := Aside0.mk (below_step (lb0_ HB.out) hb); clear hb hbox hg) | ((with_reducible refine gate_dst (N := 3) rfl ?_); refine box_event ?hg (N := 3) ?hd (cs := #[.int .i64 a1_0, .int .i64 a1_1, .int .i64 a1_2, .int .i64 a1_3, .int .i64 a1_4]) (t := 37) ?hr ?_; (case hd => rfl); (case hg => rfl); (case hr => first | (go_simp; done) | (go_simp; rfl)); intro gb228 hg w34 hbox hb; have BK228 := Aside0.mk (hbox); have GW228 := Aside0.mk ((bz_ hg (lb1_ HB.out GE227.out))); have GE228 := Aside0.mk ((bz_ hg (lb1_ HB.out GE227.out))); replace HB := Aside0.mk (below_step (lb1_ HB.out GE227.out) hb); have NB227_228 := Aside0.mk ((by rw [hg]; exact Nat.ne_of_lt (blk_lt (g := gb227) (o := .cells #[.int .i64 a0_0, .int .i64 a0_1, .int .i64 a0_2, .int .i64 a0_3, .int .i64 a0_4] 37 (0, 0)) (bk_ BK227.out)) : gb227 ≠ gb228)); have NB228_227 := Aside0.mk ((by rw [hg]; exact Nat.ne_of_gt (blk_lt (g := gb227) (o := .cells #[.int .i64 a0_0, .int .i64 a0_1, .int .i64 a0_2, .int .i64 a0_3, .int .i64 a0_4] 37 (0, 0)) (bk_ BK227.out)) : gb228 ≠ gb227)); replace BK227 := Aside0.mk (bb_ (bk_ BK227.out) hb); clear hb hbox hg; have hnb35 := NB227_228.out; have hnc35 := NB228_227.out; obtain ⟨hcz36_0, hcz36_1, hcz36_2, hcz36_3, hcz36_4⟩ := cz5_ BK227.out; obtain ⟨hfz36_0, hfz36_1, hfz36_2, hfz36_3, hfz36_4⟩ := fz5_ BK227.out; obtain ⟨hcz37_0, hcz37_1, hcz37_2, hcz37_3, hcz37_4⟩ := cz5_ BK228.out; obtain ⟨hfz37_0, hfz37_1, hfz37_2, hfz37_3, hfz37_4⟩ := fz5_ BK228.out))
  go_ret
  exact ⟨rr_, lb2_ HB.out GE227.out GE228.out⟩
def laws_eqLegS.l0 : Nat → List (S37) → List (S37) → Int → Option (Bool)
 | 0, _, _, _ => none
 | k + 1, x0, x1, x5 => if x5 < (x0.length : Int) then (if 0 ≤ x5 then (if x5 < (x1.length : Int) then ((laws_eqLeg.f ((rd_T37 x0 x5).f0) ((rd_T37 x0 x5).f1) ((rd_T37 x0 x5).f2) ((rd_T37 x0 x5).f3) ((rd_T37 x0 x5).f4) ((rd_T37 x1 x5).f0) ((rd_T37 x1 x5).f1) ((rd_T37 x1 x5).f2) ((rd_T37 x1 x5).f3) ((rd_T37 x1 x5).f4)).bind fun t231 => (if t231 = true then (laws_eqLegS.l0 k x0 x1 (wrap64 (x5 + 1))) else (some false))) else (none)) else (none)) else (some true)
def laws_eqLegS.f (k : Nat) (l0 : List (S37)) (l1 : List (S37)) : Option (Bool) := if (l0.length : Int) = (l1.length : Int) then (laws_eqLegS.l0 k l0 l1 0) else (some false)
def laws_eqLegS.T6 : Bool × List (List Nat × List Nat) := (true, [([], []), ([], []), ([0, 1], [0, 1]), ([2], [2]), ([], []), ([], []), ([4, 5], [4, 5]), ([6], [6]), ([3, 7], [3, 7]), ([8], [8])])
def laws_eqLegS.B6 : List Nat := [0, 0, 3, 7, 0, 0, 48, 112, 255, 511]
theorem laws_eqLegS.tab6 : rtab .any (opsOf Try.f39 6) = laws_eqLegS.T6 := by kernel_rfl
theorem laws_eqLegS.bits6 : waitsOk laws_eqLegS.T6.2 laws_eqLegS.B6 = true := by kernel_rfl
abbrev laws_eqLegS.mk0 : Array Bool := #[false, false, false, false, false, false, false, false, false, false]
abbrev laws_eqLegS.mk1 : Array Bool := #[true, false, false, false, false, false, false, false, false, false]
abbrev laws_eqLegS.mk2 : Array Bool := #[true, true, false, false, false, false, false, false, false, false]
abbrev laws_eqLegS.mk3 : Array Bool := #[true, true, true, false, false, false, false, false, false, false]
abbrev laws_eqLegS.mk4 : Array Bool := #[true, true, true, false, true, false, false, false, false, false]
abbrev laws_eqLegS.mk5 : Array Bool := #[true, true, true, false, true, true, false, false, false, false]
abbrev laws_eqLegS.mk6 : Array Bool := #[true, true, true, false, true, true, true, false, false, false]
abbrev laws_eqLegS.mk7 : Array Bool := #[true, true, true, true, true, true, true, false, false, false]
abbrev laws_eqLegS.mk8 : Array Bool := #[true, true, true, true, true, true, true, true, false, false]
abbrev laws_eqLegS.mk9 : Array Bool := #[true, true, true, true, true, true, true, true, true, false]
abbrev laws_eqLegS.mk10 : Array Bool := #[true, true, true, true, true, true, true, true, true, true]
theorem laws_eqLegS.calls (k : Nat) (A0 : Option Addr) (c0 : Nat) (l0 : List (S37)) (A1 : Option Addr) (c1 : Nat) (l1 : List (S37)) (r : Bool) (w : World) (hr0 : Kd.C k37 w A0 l0.length l0) (hc0 : l0.length ≤ c0) (hr1 : Kd.C k37 w A1 l1.length l1) (hc1 : l1.length ≤ c1) (h : laws_eqLegS.f k l0 l1 = some r) :
  Calls Try.prog 39 #[.slice A0 l0.length c0, .slice A1 l1.length c1] w fun e w' => e = .returned (.bool r) ∧ Below w.heap.size w w' := by
 have hu37 := Try.underlying37
 have HR0 := Aside0.mk hr0
 have HC0 := Aside0.mk hc0
 clear hr0 hc0
 have HR1 := Aside0.mk hr1
 have HC1 := Aside0.mk hc1
 clear hr1 hc1
 have HB := Aside0.mk (Below.refl w.heap.size w)
 have H : (if (l0.length : Int) = (l1.length : Int) then (laws_eqLegS.l0 k l0 l1 0) else (some false)) = some r := h
 clear h
 by_cases c3 : (l0.length : Int) = (l1.length : Int)
 ·
  rw [if_pos c3] at H
  have c3b0 : ((l0.length : Int) == (l1.length : Int)) = true := beq_iff_eq.mpr c3
  have c3b1 : ((l0.length : Int) != (l1.length : Int)) = false := bne_eq_false_iff_eq.mpr c3
  have c3b2 : (l0.length == l1.length) = true := by first | simpa using c3 | (simp at c3 ⊢; omega)
  clear c3
  have H' := Aside0.mk H
  clear H
  go_enter Try.func39, Try.ntmps39
  go_wp2
  go_loopg [5] k (fun kq v5 w' => ∃ (x5_1 : Int), v5 = .int .i64 x5_1 ∧ Aside0 (laws_eqLegS.l0 kq l0 l1 x5_1 = some r) ∧ Aside0 (kq ≤ k) ∧ Aside0 (Below w.heap.size w w'))
  case atStart => exact ⟨(0), (by first | rfl | (simp; done) | (simp [*]; done)), H', ⟨Nat.le_refl _⟩, ⟨lb0_ HB.out⟩⟩
  case round =>
   clear H'
   try clear c1
   try clear p2
   try clear c3
   try clear c3b0
   try clear c3b1
   try clear c3b2
   obtain ⟨x5_1, rfl, HA, HK1, HB⟩ := hrel
   cases gk with
   | zero => exact absurd HA.out (by simp [laws_eqLegS.l0])
   | succ k1 =>
    have H := HA.out
    clear HA
    simp only [laws_eqLegS.l0] at H
    by_cases c4 : x5_1 < (l0.length : Int)
    ·
     rw [if_pos c4] at H
     have c4b0 : decide (x5_1 < (l0.length : Int)) = true := decide_eq_true c4
     clear c4
     by_cases c5 : 0 ≤ x5_1
     ·
      rw [if_pos c5] at H
      have c5b0 : decide (0 ≤ x5_1) = true := decide_eq_true c5
      clear c5
      by_cases c6 : x5_1 < (l1.length : Int)
      ·
       rw [if_pos c6] at H
       have c6b0 : decide (x5_1 < (l1.length : Int)) = true := decide_eq_true c6
       clear c6
       replace H := Option.bind_eq_some_iff.mp H
       obtain ⟨t231, A70, H⟩ := H
       replace H : (if t231 = true then (laws_eqLegS.l0 k1 l0 l1 (wrap64 (x5_1 + 1))) else (some false)) = some r := H
       have A7 := Aside0.mk A70
       clear A70
       by_cases c8 : t231 = true
       ·
        subst c8
        have H1 : (laws_eqLegS.l0 k1 l0 l1 (wrap64 (x5_1 + 1))) = some r := by rw [if_pos rfl] at H; exact H
        clear H; have H := H1; clear H1; have H' := Aside0.mk H; clear H
        try go_wp2
        replace HB := Aside0.mk (below_drew1 HB.out); have p229 : 0 ≤ (x5_1 : Int) := dt_; have q229 : x5_1 < (l0.length : Int) := dt_; obtain ⟨ad229, e229, hx229_0, hx229_1, hx229_2, hx229_3, hx229_4⟩ := at_T37 HR0.out x5_1 p229 q229; have hw229_4 := hx229_4; have hw229_3 := hx229_3; have hw229_2 := hx229_2; have hw229_1 := hx229_1; have hw229_0 := hx229_0
        cases e229
        replace hx229_0 := bc_ HB.out hx229_0; replace hx229_1 := bc_ HB.out hx229_1; replace hx229_2 := bc_ HB.out hx229_2; replace hx229_3 := bc_ HB.out hx229_3; replace hx229_4 := bc_ HB.out hx229_4; replace p229 := eq_true p229; replace q229 := eq_true q229; have p230 : 0 ≤ (x5_1 : Int) := dt_; have q230 : x5_1 < (l1.length : Int) := dt_; obtain ⟨ad230, e230, hx230_0, hx230_1, hx230_2, hx230_3, hx230_4⟩ := at_T37 HR1.out x5_1 p230 q230; have hw230_4 := hx230_4; have hw230_3 := hx230_3; have hw230_2 := hx230_2; have hw230_1 := hx230_1; have hw230_0 := hx230_0
        cases e230
        replace hx230_0 := bc_ HB.out hx230_0; replace hx230_1 := bc_ HB.out hx230_1; replace hx230_2 := bc_ HB.out hx230_2; replace hx230_3 := bc_ HB.out hx230_3; replace hx230_4 := bc_ HB.out hx230_4; replace p230 := eq_true p230; replace q230 := eq_true q230; refine start_ (n := 10) (S := fun w' => w'.cell? (ad229.add ((x5_1).toNat * 5)) = some (.int .i64 ((rd_T37 l0 x5_1).f0)) ∧ w'.cell? ⟨(ad229.add ((x5_1).toNat * 5)).block, (ad229.add ((x5_1).toNat * 5)).off + 1, none⟩ = some (.int .i64 ((rd_T37 l0 x5_1).f1)) ∧ w'.cell? ⟨(ad229.add ((x5_1).toNat * 5)).block, (ad229.add ((x5_1).toNat * 5)).off + 2, none⟩ = some (.int .i64 ((rd_T37 l0 x5_1).f2)) ∧ w'.cell? ⟨(ad229.add ((x5_1).toNat * 5)).block, (ad229.add ((x5_1).toNat * 5)).off + 3, none⟩ = some (.int .i64 ((rd_T37 l0 x5_1).f3)) ∧ w'.cell? ⟨(ad229.add ((x5_1).toNat * 5)).block, (ad229.add ((x5_1).toNat * 5)).off + 4, none⟩ = some (.int .i64 ((rd_T37 l0 x5_1).f4)) ∧ w'.cell? (ad230.add ((x5_1).toNat * 5)) = some (.int .i64 ((rd_T37 l1 x5_1).f0)) ∧ w'.cell? ⟨(ad230.add ((x5_1).toNat * 5)).block, (ad230.add ((x5_1).toNat * 5)).off + 1, none⟩ = some (.int .i64 ((rd_T37 l1 x5_1).f1)) ∧ w'.cell? ⟨(ad230.add ((x5_1).toNat * 5)).block, (ad230.add ((x5_1).toNat * 5)).off + 2, none⟩ = some (.int .i64 ((rd_T37 l1 x5_1).f2)) ∧ w'.cell? ⟨(ad230.add ((x5_1).toNat * 5)).block, (ad230.add ((x5_1).toNat * 5)).off + 3, none⟩ = some (.int .i64 ((rd_T37 l1 x5_1).f3)) ∧ w'.cell? ⟨(ad230.add ((x5_1).toNat * 5)).block, (ad230.add ((x5_1).toNat * 5)).off + 4, none⟩ = some (.int .i64 ((rd_T37 l1 x5_1).f4))) (ds := []) laws_eqLegS.mk0 (by kernel_rfl) rfl rfl ⟨(bc_ HB.out hw229_0), (bc_ HB.out hw229_1), (bc_ HB.out hw229_2), (bc_ HB.out hw229_3), (bc_ HB.out hw229_4), (bc_ HB.out hw230_0), (bc_ HB.out hw230_1), (bc_ HB.out hw230_2), (bc_ HB.out hw230_3), (bc_ HB.out hw230_4)⟩ (fun hHeld => ?_); refine with_tabW laws_eqLegS.tab6 laws_eqLegS.bits6 (fun HT_ HW_ => ?_); generalize wr.drew = w9 at HB hx229_0 hx229_1 hx229_2 hx229_3 hx229_4 hx230_0 hx230_1 hx230_2 hx230_3 hx230_4 hHeld ⊢; refine pz_ HT_ 0 (some 17) laws_eqLegS.mk1 ?_; refine pz_ HT_ 1 (some 18) laws_eqLegS.mk2 ?_; refine pz_ HT_ 2 (some 19) laws_eqLegS.mk3 ?_; refine pz_ HT_ 4 (some 21) laws_eqLegS.mk4 ?_; refine pz_ HT_ 5 (some 22) laws_eqLegS.mk5 ?_; refine pz_ HT_ 6 (some 23) laws_eqLegS.mk6 ?_; refine take_ (i := 3) (N := some 20) (v := ?_) (a' := ?_) laws_eqLegS.mk7 rfl rfl (take_ofW HT_.out HW_.out (by kernel_rfl)) (fun _ _ _ h => h) (Or.inl ⟨by rfl, ?_⟩) hHeld ?_ ?_; rotate_left
        ·
         rintro w' ⟨s0, s1, s2, s3, s4, s5, s6, s7, s8, s9⟩; go_simp; (with_reducible rfl)
        rotate_left
        ·
         simp only [Act.put, List.setIfInBounds_toArray, List.set_cons_zero, List.set_cons_succ, i64_w, i32_w]; rfl
        refine take_ (i := 7) (N := some 24) (v := ?_) (a' := ?_) laws_eqLegS.mk8 rfl rfl (take_ofW HT_.out HW_.out (by kernel_rfl)) (fun _ _ _ h => h) (Or.inl ⟨by rfl, ?_⟩) hHeld ?_ ?_; rotate_left
        ·
         rintro w' ⟨s0, s1, s2, s3, s4, s5, s6, s7, s8, s9⟩; go_simp; (with_reducible rfl)
        rotate_left
        ·
         simp only [Act.put, List.setIfInBounds_toArray, List.set_cons_zero, List.set_cons_succ, i64_w, i32_w]; rfl
        refine one_ (i := 8) (N := some 25) laws_eqLegS.mk9 rfl rfl (one_of HT_.out (by kernel_rfl)) (by decide) (fun K hK => ?_); refine gs_ Try.func90 #[.agg #[.int .i64 ((rd_T37 l0 x5_1).f0), .int .i64 ((rd_T37 l0 x5_1).f1), .int .i64 ((rd_T37 l0 x5_1).f2), .int .i64 ((rd_T37 l0 x5_1).f3), .int .i64 ((rd_T37 l0 x5_1).f4)], .agg #[.int .i64 ((rd_T37 l1 x5_1).f0), .int .i64 ((rd_T37 l1 x5_1).f1), .int .i64 ((rd_T37 l1 x5_1).f2), .int .i64 ((rd_T37 l1 x5_1).f3), .int .i64 ((rd_T37 l1 x5_1).f4)]] ?_; (with_reducible refine (laws_eqLeg.calls ((rd_T37 l0 x5_1).f0) ((rd_T37 l0 x5_1).f1) ((rd_T37 l0 x5_1).f2) ((rd_T37 l0 x5_1).f3) ((rd_T37 l0 x5_1).f4) ((rd_T37 l1 x5_1).f0) ((rd_T37 l1 x5_1).f1) ((rd_T37 l1 x5_1).f2) ((rd_T37 l1 x5_1).f3) ((rd_T37 l1 x5_1).f4) true _ A7.out).mono ?_); rintro e w10 ⟨rfl, hb⟩; refine ⟨_, rfl, ?_⟩; replace HB := Aside0.mk (below_step (lb0_ HB.out) hb); (try clear hb); (try clear hb2); (try clear hk); (try clear hi); refine hK.out _ _ ⟨(bc_ HB.out hw229_0), (bc_ HB.out hw229_1), (bc_ HB.out hw229_2), (bc_ HB.out hw229_3), (bc_ HB.out hw229_4), (bc_ HB.out hw230_0), (bc_ HB.out hw230_1), (bc_ HB.out hw230_2), (bc_ HB.out hw230_3), (bc_ HB.out hw230_4)⟩ (fun hHeld => ?_); clear hK K; refine na_ ?_; refine pz_ HT_ 9 (some 26) laws_eqLegS.mk10 ?_; refine done_ (done_of HT_.out (by kernel_rfl)) ?_
        try go_wp2
        go_roundg k1
        case measure => have := HK1.out; omega
        case rel => exact ⟨(wrap64 (x5_1 + 1)), (by first | rfl | (simp; done) | (simp [*]; done)), H', ⟨by have := HK1.out; omega⟩, ⟨lb0_ HB.out⟩⟩
       ·
        replace c8 := Bool.eq_false_iff.mpr c8; subst c8
        have H1 : (some false) = some r := by rw [if_neg (show ¬ (false = true) by decide)] at H; exact H
        clear H; have H := H1; clear H1; obtain rfl := Option.some.inj H
        try go_wp2
        replace HB := Aside0.mk (below_drew1 HB.out); have p229 : 0 ≤ (x5_1 : Int) := dt_; have q229 : x5_1 < (l0.length : Int) := dt_; obtain ⟨ad229, e229, hx229_0, hx229_1, hx229_2, hx229_3, hx229_4⟩ := at_T37 HR0.out x5_1 p229 q229; have hw229_4 := hx229_4; have hw229_3 := hx229_3; have hw229_2 := hx229_2; have hw229_1 := hx229_1; have hw229_0 := hx229_0
        cases e229
        replace hx229_0 := bc_ HB.out hx229_0; replace hx229_1 := bc_ HB.out hx229_1; replace hx229_2 := bc_ HB.out hx229_2; replace hx229_3 := bc_ HB.out hx229_3; replace hx229_4 := bc_ HB.out hx229_4; replace p229 := eq_true p229; replace q229 := eq_true q229; have p230 : 0 ≤ (x5_1 : Int) := dt_; have q230 : x5_1 < (l1.length : Int) := dt_; obtain ⟨ad230, e230, hx230_0, hx230_1, hx230_2, hx230_3, hx230_4⟩ := at_T37 HR1.out x5_1 p230 q230; have hw230_4 := hx230_4; have hw230_3 := hx230_3; have hw230_2 := hx230_2; have hw230_1 := hx230_1; have hw230_0 := hx230_0
        cases e230
        replace hx230_0 := bc_ HB.out hx230_0; replace hx230_1 := bc_ HB.out hx230_1; replace hx230_2 := bc_ HB.out hx230_2; replace hx230_3 := bc_ HB.out hx230_3; replace hx230_4 := bc_ HB.out hx230_4; replace p230 := eq_true p230; replace q230 := eq_true q230; refine start_ (n := 10) (S := fun w' => w'.cell? (ad229.add ((x5_1).toNat * 5)) = some (.int .i64 ((rd_T37 l0 x5_1).f0)) ∧ w'.cell? ⟨(ad229.add ((x5_1).toNat * 5)).block, (ad229.add ((x5_1).toNat * 5)).off + 1, none⟩ = some (.int .i64 ((rd_T37 l0 x5_1).f1)) ∧ w'.cell? ⟨(ad229.add ((x5_1).toNat * 5)).block, (ad229.add ((x5_1).toNat * 5)).off + 2, none⟩ = some (.int .i64 ((rd_T37 l0 x5_1).f2)) ∧ w'.cell? ⟨(ad229.add ((x5_1).toNat * 5)).block, (ad229.add ((x5_1).toNat * 5)).off + 3, none⟩ = some (.int .i64 ((rd_T37 l0 x5_1).f3)) ∧ w'.cell? ⟨(ad229.add ((x5_1).toNat * 5)).block, (ad229.add ((x5_1).toNat * 5)).off + 4, none⟩ = some (.int .i64 ((rd_T37 l0 x5_1).f4)) ∧ w'.cell? (ad230.add ((x5_1).toNat * 5)) = some (.int .i64 ((rd_T37 l1 x5_1).f0)) ∧ w'.cell? ⟨(ad230.add ((x5_1).toNat * 5)).block, (ad230.add ((x5_1).toNat * 5)).off + 1, none⟩ = some (.int .i64 ((rd_T37 l1 x5_1).f1)) ∧ w'.cell? ⟨(ad230.add ((x5_1).toNat * 5)).block, (ad230.add ((x5_1).toNat * 5)).off + 2, none⟩ = some (.int .i64 ((rd_T37 l1 x5_1).f2)) ∧ w'.cell? ⟨(ad230.add ((x5_1).toNat * 5)).block, (ad230.add ((x5_1).toNat * 5)).off + 3, none⟩ = some (.int .i64 ((rd_T37 l1 x5_1).f3)) ∧ w'.cell? ⟨(ad230.add ((x5_1).toNat * 5)).block, (ad230.add ((x5_1).toNat * 5)).off + 4, none⟩ = some (.int .i64 ((rd_T37 l1 x5_1).f4))) (ds := []) laws_eqLegS.mk0 (by kernel_rfl) rfl rfl ⟨(bc_ HB.out hw229_0), (bc_ HB.out hw229_1), (bc_ HB.out hw229_2), (bc_ HB.out hw229_3), (bc_ HB.out hw229_4), (bc_ HB.out hw230_0), (bc_ HB.out hw230_1), (bc_ HB.out hw230_2), (bc_ HB.out hw230_3), (bc_ HB.out hw230_4)⟩ (fun hHeld => ?_); refine with_tabW laws_eqLegS.tab6 laws_eqLegS.bits6 (fun HT_ HW_ => ?_); generalize wr.drew = w11 at HB hx229_0 hx229_1 hx229_2 hx229_3 hx229_4 hx230_0 hx230_1 hx230_2 hx230_3 hx230_4 hHeld ⊢; refine pz_ HT_ 0 (some 17) laws_eqLegS.mk1 ?_; refine pz_ HT_ 1 (some 18) laws_eqLegS.mk2 ?_; refine pz_ HT_ 2 (some 19) laws_eqLegS.mk3 ?_; refine pz_ HT_ 4 (some 21) laws_eqLegS.mk4 ?_; refine pz_ HT_ 5 (some 22) laws_eqLegS.mk5 ?_; refine pz_ HT_ 6 (some 23) laws_eqLegS.mk6 ?_; refine take_ (i := 3) (N := some 20) (v := ?_) (a' := ?_) laws_eqLegS.mk7 rfl rfl (take_ofW HT_.out HW_.out (by kernel_rfl)) (fun _ _ _ h => h) (Or.inl ⟨by rfl, ?_⟩) hHeld ?_ ?_; rotate_left
        ·
         rintro w' ⟨s0, s1, s2, s3, s4, s5, s6, s7, s8, s9⟩; go_simp; (with_reducible rfl)
        rotate_left
        ·
         simp only [Act.put, List.setIfInBounds_toArray, List.set_cons_zero, List.set_cons_succ, i64_w, i32_w]; rfl
        refine take_ (i := 7) (N := some 24) (v := ?_) (a' := ?_) laws_eqLegS.mk8 rfl rfl (take_ofW HT_.out HW_.out (by kernel_rfl)) (fun _ _ _ h => h) (Or.inl ⟨by rfl, ?_⟩) hHeld ?_ ?_; rotate_left
        ·
         rintro w' ⟨s0, s1, s2, s3, s4, s5, s6, s7, s8, s9⟩; go_simp; (with_reducible rfl)
        rotate_left
        ·
         simp only [Act.put, List.setIfInBounds_toArray, List.set_cons_zero, List.set_cons_succ, i64_w, i32_w]; rfl
        refine one_ (i := 8) (N := some 25) laws_eqLegS.mk9 rfl rfl (one_of HT_.out (by kernel_rfl)) (by decide) (fun K hK => ?_); refine gs_ Try.func90 #[.agg #[.int .i64 ((rd_T37 l0 x5_1).f0), .int .i64 ((rd_T37 l0 x5_1).f1), .int .i64 ((rd_T37 l0 x5_1).f2), .int .i64 ((rd_T37 l0 x5_1).f3), .int .i64 ((rd_T37 l0 x5_1).f4)], .agg #[.int .i64 ((rd_T37 l1 x5_1).f0), .int .i64 ((rd_T37 l1 x5_1).f1), .int .i64 ((rd_T37 l1 x5_1).f2), .int .i64 ((rd_T37 l1 x5_1).f3), .int .i64 ((rd_T37 l1 x5_1).f4)]] ?_; (with_reducible refine (laws_eqLeg.calls ((rd_T37 l0 x5_1).f0) ((rd_T37 l0 x5_1).f1) ((rd_T37 l0 x5_1).f2) ((rd_T37 l0 x5_1).f3) ((rd_T37 l0 x5_1).f4) ((rd_T37 l1 x5_1).f0) ((rd_T37 l1 x5_1).f1) ((rd_T37 l1 x5_1).f2) ((rd_T37 l1 x5_1).f3) ((rd_T37 l1 x5_1).f4) false _ A7.out).mono ?_); rintro e w12 ⟨rfl, hb⟩; refine ⟨_, rfl, ?_⟩; replace HB := Aside0.mk (below_step (lb0_ HB.out) hb); (try clear hb); (try clear hb2); (try clear hk); (try clear hi); refine hK.out _ _ ⟨(bc_ HB.out hw229_0), (bc_ HB.out hw229_1), (bc_ HB.out hw229_2), (bc_ HB.out hw229_3), (bc_ HB.out hw229_4), (bc_ HB.out hw230_0), (bc_ HB.out hw230_1), (bc_ HB.out hw230_2), (bc_ HB.out hw230_3), (bc_ HB.out hw230_4)⟩ (fun hHeld => ?_); clear hK K; refine na_ ?_; refine pz_ HT_ 9 (some 26) laws_eqLegS.mk10 ?_; refine done_ (done_of HT_.out (by kernel_rfl)) ?_
        try go_wp2
        go_ret
        exact ⟨rr_, lb0_ HB.out⟩
      ·
       rw [if_neg c6] at H
       exact absurd H (by simp)
     ·
      rw [if_neg c5] at H
      exact absurd H (by simp)
    ·
     rw [if_neg c4] at H
     have c4b0 : decide (x5_1 < (l0.length : Int)) = false := decide_eq_false c4
     clear c4
     obtain rfl := Option.some.inj H
     go_wp2
     go_ret
     exact ⟨rr_, lb0_ HB.out⟩
 ·
  rw [if_neg c3] at H
  have c3b0 : ((l0.length : Int) == (l1.length : Int)) = false := beq_eq_false_iff_ne.mpr c3
  have c3b1 : ((l0.length : Int) != (l1.length : Int)) = true := bne_iff_ne.mpr c3
  have c3b2 : (l0.length == l1.length) = false := by first | simpa using c3 | (simp at c3 ⊢; omega)
  obtain rfl := Option.some.inj H
  go_enter Try.func39, Try.ntmps39
  go_wp2
  go_ret
  exact ⟨rr_, lb0_ HB.out⟩
def laws_markLegS.l0 : Nat → List (S37) → Int → Int → Option (Int × (List (S37)))
 | 0, _, _, _ => none
 | k + 1, x0, x1, x5 => if x5 < (x0.length : Int) then (if 0 ≤ x5 then ((some (x0.set (x5 : Int).toNat (⟨x1, (rd_T37 x0 x5).f1, (rd_T37 x0 x5).f2, (rd_T37 x0 x5).f3, (rd_T37 x0 x5).f4⟩ : S37) : List (S37))).bind fun y1130 => ((some (y1130.set (x5 : Int).toNat (⟨(rd_T37 y1130 x5).f0, wrap64 (x1 + 1), (rd_T37 y1130 x5).f2, (rd_T37 y1130 x5).f3, (rd_T37 y1130 x5).f4⟩ : S37) : List (S37))).bind fun y1131 => ((some (y1131.set (x5 : Int).toNat (⟨(rd_T37 y1131 x5).f0, (rd_T37 y1131 x5).f1, wrap64 ((wrap64 (x1 + 1)) + 1), (rd_T37 y1131 x5).f3, (rd_T37 y1131 x5).f4⟩ : S37) : List (S37))).bind fun y1132 => ((some (y1132.set (x5 : Int).toNat (⟨(rd_T37 y1132 x5).f0, (rd_T37 y1132 x5).f1, (rd_T37 y1132 x5).f2, wrap64 ((wrap64 ((wrap64 (x1 + 1)) + 1)) + 1), (rd_T37 y1132 x5).f4⟩ : S37) : List (S37))).bind fun y1133 => (laws_markLegS.l0 k (y1133.set (x5 : Int).toNat (⟨(rd_T37 y1133 x5).f0, (rd_T37 y1133 x5).f1, (rd_T37 y1133 x5).f2, (rd_T37 y1133 x5).f3, wrap64 ((wrap64 ((wrap64 ((wrap64 (x1 + 1)) + 1)) + 1)) + 1)⟩ : S37)) (wrap64 ((wrap64 ((wrap64 ((wrap64 ((wrap64 (x1 + 1)) + 1)) + 1)) + 1)) + 1)) (wrap64 (x5 + 1))))))) else (none)) else (some (x1, x0))
def laws_markLegS.f (k : Nat) (l0 : List (S37)) (a1 : Int) : Option (Int × (List (S37))) := laws_markLegS.l0 k l0 a1 0
theorem laws_markLegS.calls (k : Nat) (P0_ : Nat → Prop) (u9000_ : Value) (l0 : List (S37)) (a1 : Int) (r1 : Int) (r2 : List (S37)) (w0 w : World) (hB : Below w0.heap.size w0 w) (ho0 : Kd.R k37 37 w w0.heap.size P0_ u9000_ l0) (h : laws_markLegS.f k l0 a1 = some (r1, r2)) :
  Calls Try.prog 40 #[u9000_, .int .i64 a1] w fun e w' => e = .returned (.int .i64 r1) ∧ Kd.R k37 37 w' w0.heap.size (fun k_ => (P0_ k_ ∨ w.heap.size ≤ k_)) u9000_ r2 ∧ Below w0.heap.size w0 w' ∧ Kept w w' (fun k_ => P0_ k_) := by
 have HO0 := Aside0.mk (show Kd.R k37 37 w w0.heap.size (fun k_ => (P0_ k_ ∨ w.heap.size ≤ k_)) u9000_ l0 from Kd.R_mono ho0 (fun k_ hk => (.inl hk)))
 have HK := Aside0.mk (Kept.refl w (fun k_ => P0_ k_))
 have HW0 := Aside0.mk hB.size
 have HB := Aside0.mk hB
 clear hB
 have H : (laws_markLegS.l0 k l0 a1 0) = some (r1, r2) := h
 clear h
 have H' := Aside0.mk H
 clear H
 go_enter Try.func40, Try.ntmps40
 go_wp2
 go_loopg [1, 5] k (fun kq v1 v5 w' => ∃ (x0_1 : List (S37)) (x1_1 : Int) (x5_1 : Int), v1 = .int .i64 x1_1 ∧ v5 = .int .i64 x5_1 ∧ Aside0 (laws_markLegS.l0 kq x0_1 x1_1 x5_1 = some (r1, r2)) ∧ Aside0 (kq ≤ k) ∧ Aside0 (Kd.R k37 37 w' w0.heap.size (fun k_ => (P0_ k_ ∨ w.heap.size ≤ k_)) u9000_ x0_1) ∧ Aside0 (Kept w w' (fun k_ => P0_ k_)) ∧ Aside0 (Below w0.heap.size w0 w'))
 case atStart => exact ⟨(l0), (a1), (0), (by first | rfl | (simp; done) | (simp [*]; done)), (by first | rfl | (simp; done) | (simp [*]; done)), H', ⟨Nat.le_refl _⟩, ⟨kr_ HO0.out⟩, ⟨kt_ HK.out⟩, ⟨lb0_ HB.out⟩⟩
 case round =>
  clear H'
  try clear p2
  obtain ⟨x0_1, x1_1, x5_1, rfl, rfl, HA, HK1, HO_0, HK, HB⟩ := hrel
  cases gk with
  | zero => exact absurd HA.out (by simp [laws_markLegS.l0])
  | succ k1 =>
   have H := HA.out
   clear HA
   simp only [laws_markLegS.l0] at H
   by_cases c3 : x5_1 < (x0_1.length : Int)
   ·
    rw [if_pos c3] at H
    have c3b0 : decide (x5_1 < (x0_1.length : Int)) = true := decide_eq_true c3
    clear c3
    by_cases c4 : 0 ≤ x5_1
    ·
     rw [if_pos c4] at H
     have c4b0 : decide (0 ≤ x5_1) = true := decide_eq_true c4
     clear c4
     obtain ⟨y1130, hy1130⟩ : ∃ y_ : List (S37), y_ = (x0_1.set (x5_1 : Int).toNat (⟨x1_1, (rd_T37 x0_1 x5_1).f1, (rd_T37 x0_1 x5_1).f2, (rd_T37 x0_1 x5_1).f3, (rd_T37 x0_1 x5_1).f4⟩ : S37)) := ⟨_, rfl⟩
     replace H : ((some (y1130.set (x5_1 : Int).toNat (⟨(rd_T37 y1130 x5_1).f0, wrap64 (x1_1 + 1), (rd_T37 y1130 x5_1).f2, (rd_T37 y1130 x5_1).f3, (rd_T37 y1130 x5_1).f4⟩ : S37) : List (S37))).bind fun y1131 => ((some (y1131.set (x5_1 : Int).toNat (⟨(rd_T37 y1131 x5_1).f0, (rd_T37 y1131 x5_1).f1, wrap64 ((wrap64 (x1_1 + 1)) + 1), (rd_T37 y1131 x5_1).f3, (rd_T37 y1131 x5_1).f4⟩ : S37) : List (S37))).bind fun y1132 => ((some (y1132.set (x5_1 : Int).toNat (⟨(rd_T37 y1132 x5_1).f0, (rd_T37 y1132 x5_1).f1, (rd_T37 y1132 x5_1).f2, wrap64 ((wrap64 ((wrap64 (x1_1 + 1)) + 1)) + 1), (rd_T37 y1132 x5_1).f4⟩ : S37) : List (S37))).bind fun y1133 => (laws_markLegS.l0 k1 (y1133.set (x5_1 : Int).toNat (⟨(rd_T37 y1133 x5_1).f0, (rd_T37 y1133 x5_1).f1, (rd_T37 y1133 x5_1).f2, (rd_T37 y1133 x5_1).f3, wrap64 ((wrap64 ((wrap64 ((wrap64 (x1_1 + 1)) + 1)) + 1)) + 1)⟩ : S37)) (wrap64 ((wrap64 ((wrap64 ((wrap64 ((wrap64 (x1_1 + 1)) + 1)) + 1)) + 1)) + 1)) (wrap64 (x5_1 + 1)))))) = some (r1, r2) := by first | (rw [hy1130]; with_reducible exact H) | (have H2_ := (Option.bind_some _ _).symm.trans H; rw [hy1130]; with_reducible exact H2_) | (have H2_ := (Option.bind_some _ _).symm.trans H; with_reducible exact H2_) | with_reducible exact H | (rw [hy1130]; exact H) | exact H
     have Ny1130 := Aside0.mk hy1130
     clear hy1130
     obtain ⟨y1131, hy1131⟩ : ∃ y_ : List (S37), y_ = (y1130.set (x5_1 : Int).toNat (⟨(rd_T37 y1130 x5_1).f0, wrap64 (x1_1 + 1), (rd_T37 y1130 x5_1).f2, (rd_T37 y1130 x5_1).f3, (rd_T37 y1130 x5_1).f4⟩ : S37)) := ⟨_, rfl⟩
     replace H : ((some (y1131.set (x5_1 : Int).toNat (⟨(rd_T37 y1131 x5_1).f0, (rd_T37 y1131 x5_1).f1, wrap64 ((wrap64 (x1_1 + 1)) + 1), (rd_T37 y1131 x5_1).f3, (rd_T37 y1131 x5_1).f4⟩ : S37) : List (S37))).bind fun y1132 => ((some (y1132.set (x5_1 : Int).toNat (⟨(rd_T37 y1132 x5_1).f0, (rd_T37 y1132 x5_1).f1, (rd_T37 y1132 x5_1).f2, wrap64 ((wrap64 ((wrap64 (x1_1 + 1)) + 1)) + 1), (rd_T37 y1132 x5_1).f4⟩ : S37) : List (S37))).bind fun y1133 => (laws_markLegS.l0 k1 (y1133.set (x5_1 : Int).toNat (⟨(rd_T37 y1133 x5_1).f0, (rd_T37 y1133 x5_1).f1, (rd_T37 y1133 x5_1).f2, (rd_T37 y1133 x5_1).f3, wrap64 ((wrap64 ((wrap64 ((wrap64 (x1_1 + 1)) + 1)) + 1)) + 1)⟩ : S37)) (wrap64 ((wrap64 ((wrap64 ((wrap64 ((wrap64 (x1_1 + 1)) + 1)) + 1)) + 1)) + 1)) (wrap64 (x5_1 + 1))))) = some (r1, r2) := by first | (rw [hy1131]; with_reducible exact H) | (have H2_ := (Option.bind_some _ _).symm.trans H; rw [hy1131]; with_reducible exact H2_) | (have H2_ := (Option.bind_some _ _).symm.trans H; with_reducible exact H2_) | with_reducible exact H | (rw [hy1131]; exact H) | exact H
     have Ny1131 := Aside0.mk hy1131
     clear hy1131
     obtain ⟨y1132, hy1132⟩ : ∃ y_ : List (S37), y_ = (y1131.set (x5_1 : Int).toNat (⟨(rd_T37 y1131 x5_1).f0, (rd_T37 y1131 x5_1).f1, wrap64 ((wrap64 (x1_1 + 1)) + 1), (rd_T37 y1131 x5_1).f3, (rd_T37 y1131 x5_1).f4⟩ : S37)) := ⟨_, rfl⟩
     replace H : ((some (y1132.set (x5_1 : Int).toNat (⟨(rd_T37 y1132 x5_1).f0, (rd_T37 y1132 x5_1).f1, (rd_T37 y1132 x5_1).f2, wrap64 ((wrap64 ((wrap64 (x1_1 + 1)) + 1)) + 1), (rd_T37 y1132 x5_1).f4⟩ : S37) : List (S37))).bind fun y1133 => (laws_markLegS.l0 k1 (y1133.set (x5_1 : Int).toNat (⟨(rd_T37 y1133 x5_1).f0, (rd_T37 y1133 x5_1).f1, (rd_T37 y1133 x5_1).f2, (rd_T37 y1133 x5_1).f3, wrap64 ((wrap64 ((wrap64 ((wrap64 (x1_1 + 1)) + 1)) + 1)) + 1)⟩ : S37)) (wrap64 ((wrap64 ((wrap64 ((wrap64 ((wrap64 (x1_1 + 1)) + 1)) + 1)) + 1)) + 1)) (wrap64 (x5_1 + 1)))) = some (r1, r2) := by first | (rw [hy1132]; with_reducible exact H) | (have H2_ := (Option.bind_some _ _).symm.trans H; rw [hy1132]; with_reducible exact H2_) | (have H2_ := (Option.bind_some _ _).symm.trans H; with_reducible exact H2_) | with_reducible exact H | (rw [hy1132]; exact H) | exact H
     have Ny1132 := Aside0.mk hy1132
     clear hy1132
     obtain ⟨y1133, hy1133⟩ : ∃ y_ : List (S37), y_ = (y1132.set (x5_1 : Int).toNat (⟨(rd_T37 y1132 x5_1).f0, (rd_T37 y1132 x5_1).f1, (rd_T37 y1132 x5_1).f2, wrap64 ((wrap64 ((wrap64 (x1_1 + 1)) + 1)) + 1), (rd_T37 y1132 x5_1).f4⟩ : S37)) := ⟨_, rfl⟩
     replace H : (laws_markLegS.l0 k1 (y1133.set (x5_1 : Int).toNat (⟨(rd_T37 y1133 x5_1).f0, (rd_T37 y1133 x5_1).f1, (rd_T37 y1133 x5_1).f2, (rd_T37 y1133 x5_1).f3, wrap64 ((wrap64 ((wrap64 ((wrap64 (x1_1 + 1)) + 1)) + 1)) + 1)⟩ : S37)) (wrap64 ((wrap64 ((wrap64 ((wrap64 ((wrap64 (x1_1 + 1)) + 1)) + 1)) + 1)) + 1)) (wrap64 (x5_1 + 1))) = some (r1, r2) := by first | (rw [hy1133]; with_reducible exact H) | (have H2_ := (Option.bind_some _ _).symm.trans H; rw [hy1133]; with_reducible exact H2_) | (have H2_ := (Option.bind_some _ _).symm.trans H; with_reducible exact H2_) | with_reducible exact H | (rw [hy1133]; exact H) | exact H
     have Ny1133 := Aside0.mk hy1133
     clear hy1133
     obtain ⟨y1134, hy1134⟩ : ∃ y_ : List (S37), y_ = (y1133.set (x5_1 : Int).toNat (⟨(rd_T37 y1133 x5_1).f0, (rd_T37 y1133 x5_1).f1, (rd_T37 y1133 x5_1).f2, (rd_T37 y1133 x5_1).f3, wrap64 ((wrap64 ((wrap64 ((wrap64 (x1_1 + 1)) + 1)) + 1)) + 1)⟩ : S37)) := ⟨_, rfl⟩
     replace H : (laws_markLegS.l0 k1 y1134 (wrap64 ((wrap64 ((wrap64 ((wrap64 ((wrap64 (x1_1 + 1)) + 1)) + 1)) + 1)) + 1)) (wrap64 (x5_1 + 1))) = some (r1, r2) := by first | (rw [hy1134]; with_reducible exact H) | (have H2_ := (Option.bind_some _ _).symm.trans H; rw [hy1134]; with_reducible exact H2_) | (have H2_ := (Option.bind_some _ _).symm.trans H; with_reducible exact H2_) | with_reducible exact H | (rw [hy1134]; exact H) | exact H
     have Ny1134 := Aside0.mk hy1134
     clear hy1134
     have H' := Aside0.mk H
     clear H
     obtain ⟨Ao10, co10, eo10⟩ := Kd.R_slice HO_0.out
     subst eo10
     have p5 : 0 ≤ (x5_1 : Int) := dt_
     have q5 : (x5_1 : Int) < ((x0_1.length : Int) : Int) := dt_
     obtain ⟨go5, co5, eo5, gb5, gl5, cl5, HG5⟩ := Kd.R_form HO_0.out (by omega)
     (first | cases eo5 | (injection eo5 with ea_ en_ ec_; (first | subst ea_ | (injection ea_ with ea_; subst ea_)); subst ec_; clear en_))
     have GB5 := Aside0.mk gb5
     have GG5 := Aside0.mk HG5
     clear gb5 gl5 HG5
     have HMgo5 := Aside0.mk (show (P0_ go5 ∨ w.heap.size ≤ go5) from (HO_0.out.1 _ rfl))
     obtain ⟨ce5, hcl5, hM5, hcc5, hfr5⟩ := Kd.R_elem HO_0.out z37 (x5_1 : Int) p5 q5
     obtain rfl := k37_openM hM5
     have hx5_0 : wr.cell? ⟨go5, (x5_1 : Int).toNat * 5, none⟩ = some (.int .i64 ((rd_T37 x0_1 x5_1).f0)) := hcc5 0 _ rfl
     have hx5_1 : wr.cell? ⟨go5, (x5_1 : Int).toNat * 5 + 1, none⟩ = some (.int .i64 ((rd_T37 x0_1 x5_1).f1)) := hcc5 1 _ rfl
     have hx5_2 : wr.cell? ⟨go5, (x5_1 : Int).toNat * 5 + 2, none⟩ = some (.int .i64 ((rd_T37 x0_1 x5_1).f2)) := hcc5 2 _ rfl
     have hx5_3 : wr.cell? ⟨go5, (x5_1 : Int).toNat * 5 + 3, none⟩ = some (.int .i64 ((rd_T37 x0_1 x5_1).f3)) := hcc5 3 _ rfl
     have hx5_4 : wr.cell? ⟨go5, (x5_1 : Int).toNat * 5 + 4, none⟩ = some (.int .i64 ((rd_T37 x0_1 x5_1).f4)) := hcc5 4 _ rfl
     have hf5_0 : wr.frozen? ⟨go5, (x5_1 : Int).toNat * 5, none⟩ = false := hfr5 0
     have hf5_1 : wr.frozen? ⟨go5, (x5_1 : Int).toNat * 5 + 1, none⟩ = false := hfr5 1
     have hf5_2 : wr.frozen? ⟨go5, (x5_1 : Int).toNat * 5 + 2, none⟩ = false := hfr5 2
     have hf5_3 : wr.frozen? ⟨go5, (x5_1 : Int).toNat * 5 + 3, none⟩ = false := hfr5 3
     have hf5_4 : wr.frozen? ⟨go5, (x5_1 : Int).toNat * 5 + 4, none⟩ = false := hfr5 4
     clear hcl5 hcc5 hfr5 hM5
     replace p5 := eq_true p5
     replace q5 := eq_true q5
     have HX11 := Aside0.mk (show Kd.R k37 37 wr w0.heap.size (fun k_ => (P0_ k_ ∨ w.heap.size ≤ k_)) (.slice (some ⟨go5, 0, none⟩) x0_1.length co10) x0_1 from (kr_ HO_0.out))
     obtain ⟨ce11, hcl11, hM11, hcc11, hfr11⟩ := Kd.R_elem HX11.out z37 (x5_1 : Int) (dt_) (by have h_ : (x5_1 : Int) < ((x0_1.length : Int) : Int) := dt_; first | exact h_ | (have e_ := (Kd.R_reads' HO_0.out).1; omega) | simpa using h_)
     obtain rfl := k37_openM hM11
     have HP11 := Kd.R_seg HX11.out (x5_1 : Int) (dt_) (by have h_ : (x5_1 : Int) < ((x0_1.length : Int) : Int) := dt_; first | exact h_ | (have e_ := (Kd.R_reads' HO_0.out).1; omega) | simpa using h_) (seg := [.int .i64 x1_1]) (j := 0) hcl11 hcc11 (show 1 ≤ 5 from by decide) (x' := (⟨x1_1, (rd_T37 x0_1 x5_1).f1, (rd_T37 x0_1 x5_1).f2, (rd_T37 x0_1 x5_1).f3, (rd_T37 x0_1 x5_1).f4⟩ : S37)) (k37_mkM _ _ _ (⟨x1_1, (rd_T37 x0_1 x5_1).f1, (rd_T37 x0_1 x5_1).f2, (rd_T37 x0_1 x5_1).f3, (rd_T37 x0_1 x5_1).f4⟩ : S37) ) (fun _ hk => hk)
     have hx11_0 := hcc11 0 _ rfl
     (try simp only [show (k37).sz = 5 from rfl, Nat.mul_one, Nat.add_zero] at hx11_0)
     have hf11_0 := hfr11 0
     (try simp only [show (k37).sz = 5 from rfl, Nat.mul_one, Nat.add_zero] at hf11_0)
     clear hcl11 hcc11 hfr11 hM11
     go_wp2_with (first | ((with_reducible refine gate_store (t := 3) (p := 16) rfl ?_); refine store_event (t := 3) (p := 16) (v := ?vo_w12) (w1 := (wr.setCell ⟨go5, (x5_1 : Int).toNat * 5, none⟩ (.int .i64 x1_1))) ?hg ?ho ?hn ?hr ?_; (case ho => rfl); (case hg => rfl); (case hn => rfl); (case hr => first | (go_simp; done) | (go_simp; rfl)); intro w12 hw; have hg : wr.grownBy w12 (some go5) := (by rw [hw]; exact HP11.2); have hp_ : Kd.R k37 37 w12 w0.heap.size (fun k_ => (P0_ k_ ∨ w.heap.size ≤ k_)) (.slice (some ⟨go5, 0, none⟩) x0_1.length co10) y1130 := (by rw [hw, Ny1130.out]; exact HP11.1); clear HP11; replace HB := Aside0.mk ((by rw [hw]; exact below_set (HB.out) GB5.out : Below w0.heap.size w0 w12)); replace HK := Aside0.mk (Kept.of_grown (S := (fun k_ => P0_ k_)) hg (kt_ HK.out) (fun k_ e_ => (HO_0.out.1 k_ e_))); replace HO_0 := Aside0.mk (hp_); clear hg hw hp_; have p6 : 0 ≤ (x5_1 : Int) := dt_; have q6 : (x5_1 : Int) < ((x0_1.length : Int) : Int) := dt_; obtain ⟨ce6, hcl6, hM6, hcc6, hfr6⟩ := Kd.R_elem HO_0.out z37 (x5_1 : Int) p6 q6; obtain rfl := k37_openM hM6; have hx6_0 : w12.cell? ⟨go5, (x5_1 : Int).toNat * 5, none⟩ = some (.int .i64 ((rd_T37 y1130 x5_1).f0)) := hcc6 0 _ rfl; have hx6_1 : w12.cell? ⟨go5, (x5_1 : Int).toNat * 5 + 1, none⟩ = some (.int .i64 ((rd_T37 y1130 x5_1).f1)) := hcc6 1 _ rfl; have hx6_2 : w12.cell? ⟨go5, (x5_1 : Int).toNat * 5 + 2, none⟩ = some (.int .i64 ((rd_T37 y1130 x5_1).f2)) := hcc6 2 _ rfl; have hx6_3 : w12.cell? ⟨go5, (x5_1 : Int).toNat * 5 + 3, none⟩ = some (.int .i64 ((rd_T37 y1130 x5_1).f3)) := hcc6 3 _ rfl; have hx6_4 : w12.cell? ⟨go5, (x5_1 : Int).toNat * 5 + 4, none⟩ = some (.int .i64 ((rd_T37 y1130 x5_1).f4)) := hcc6 4 _ rfl; have hf6_0 : w12.frozen? ⟨go5, (x5_1 : Int).toNat * 5, none⟩ = false := hfr6 0; have hf6_1 : w12.frozen? ⟨go5, (x5_1 : Int).toNat * 5 + 1, none⟩ = false := hfr6 1; have hf6_2 : w12.frozen? ⟨go5, (x5_1 : Int).toNat * 5 + 2, none⟩ = false := hfr6 2; have hf6_3 : w12.frozen? ⟨go5, (x5_1 : Int).toNat * 5 + 3, none⟩ = false := hfr6 3; have hf6_4 : w12.frozen? ⟨go5, (x5_1 : Int).toNat * 5 + 4, none⟩ = false := hfr6 4; clear hcl6 hcc6 hfr6 hM6; replace p6 := eq_true p6; replace q6 := eq_true q6; have HX13 := Aside0.mk (show Kd.R k37 37 w12 w0.heap.size (fun k_ => (P0_ k_ ∨ w.heap.size ≤ k_)) (.slice (some ⟨go5, 0, none⟩) x0_1.length co10) y1130 from (kr_ HO_0.out)); obtain ⟨ce13, hcl13, hM13, hcc13, hfr13⟩ := Kd.R_elem HX13.out z37 (x5_1 : Int) (dt_) (by have h_ : (x5_1 : Int) < ((x0_1.length : Int) : Int) := dt_; first | exact h_ | (have e_ := (Kd.R_reads' HO_0.out).1; omega) | simpa using h_); obtain rfl := k37_openM hM13; have HP13 := Kd.R_seg HX13.out (x5_1 : Int) (dt_) (by have h_ : (x5_1 : Int) < ((x0_1.length : Int) : Int) := dt_; first | exact h_ | (have e_ := (Kd.R_reads' HO_0.out).1; omega) | simpa using h_) (seg := [.int .i64 (wrap64 (x1_1 + 1))]) (j := 1) hcl13 hcc13 (show 2 ≤ 5 from by decide) (x' := (⟨(rd_T37 y1130 x5_1).f0, wrap64 (x1_1 + 1), (rd_T37 y1130 x5_1).f2, (rd_T37 y1130 x5_1).f3, (rd_T37 y1130 x5_1).f4⟩ : S37)) (k37_mkM _ _ _ (⟨(rd_T37 y1130 x5_1).f0, wrap64 (x1_1 + 1), (rd_T37 y1130 x5_1).f2, (rd_T37 y1130 x5_1).f3, (rd_T37 y1130 x5_1).f4⟩ : S37) ) (fun _ hk => hk); have hx13_1 := hcc13 1 _ rfl; (try simp only [show (k37).sz = 5 from rfl, Nat.mul_one, Nat.add_zero] at hx13_1); have hf13_1 := hfr13 1; (try simp only [show (k37).sz = 5 from rfl, Nat.mul_one, Nat.add_zero] at hf13_1); clear hcl13 hcc13 hfr13 hM13) | ((with_reducible refine gate_store (t := 3) (p := 23) rfl ?_); refine store_event (t := 3) (p := 23) (v := ?vo_w14) (w1 := (w12.setCell ⟨go5, (x5_1 : Int).toNat * 5 + 1, none⟩ (.int .i64 (wrap64 (x1_1 + 1))))) ?hg ?ho ?hn ?hr ?_; (case ho => rfl); (case hg => rfl); (case hn => rfl); (case hr => first | (go_simp; done) | (go_simp; rfl)); intro w14 hw; have hg : w12.grownBy w14 (some go5) := (by rw [hw]; exact HP13.2); have hp_ : Kd.R k37 37 w14 w0.heap.size (fun k_ => (P0_ k_ ∨ w.heap.size ≤ k_)) (.slice (some ⟨go5, 0, none⟩) x0_1.length co10) y1131 := (by rw [hw, Ny1131.out]; exact HP13.1); clear HP13; replace HB := Aside0.mk ((by rw [hw]; exact below_set (HB.out) GB5.out : Below w0.heap.size w0 w14)); replace HK := Aside0.mk (Kept.of_grown (S := (fun k_ => P0_ k_)) hg (kt_ HK.out) (fun k_ e_ => (HO_0.out.1 k_ e_))); replace HO_0 := Aside0.mk (hp_); clear hg hw hp_; have p7 : 0 ≤ (x5_1 : Int) := dt_; have q7 : (x5_1 : Int) < ((x0_1.length : Int) : Int) := dt_; obtain ⟨ce7, hcl7, hM7, hcc7, hfr7⟩ := Kd.R_elem HO_0.out z37 (x5_1 : Int) p7 q7; obtain rfl := k37_openM hM7; have hx7_0 : w14.cell? ⟨go5, (x5_1 : Int).toNat * 5, none⟩ = some (.int .i64 ((rd_T37 y1131 x5_1).f0)) := hcc7 0 _ rfl; have hx7_1 : w14.cell? ⟨go5, (x5_1 : Int).toNat * 5 + 1, none⟩ = some (.int .i64 ((rd_T37 y1131 x5_1).f1)) := hcc7 1 _ rfl; have hx7_2 : w14.cell? ⟨go5, (x5_1 : Int).toNat * 5 + 2, none⟩ = some (.int .i64 ((rd_T37 y1131 x5_1).f2)) := hcc7 2 _ rfl; have hx7_3 : w14.cell? ⟨go5, (x5_1 : Int).toNat * 5 + 3, none⟩ = some (.int .i64 ((rd_T37 y1131 x5_1).f3)) := hcc7 3 _ rfl; have hx7_4 : w14.cell? ⟨go5, (x5_1 : Int).toNat * 5 + 4, none⟩ = some (.int .i64 ((rd_T37 y1131 x5_1).f4)) := hcc7 4 _ rfl; have hf7_0 : w14.frozen? ⟨go5, (x5_1 : Int).toNat * 5, none⟩ = false := hfr7 0; have hf7_1 : w14.frozen? ⟨go5, (x5_1 : Int).toNat * 5 + 1, none⟩ = false := hfr7 1; have hf7_2 : w14.frozen? ⟨go5, (x5_1 : Int).toNat * 5 + 2, none⟩ = false := hfr7 2; have hf7_3 : w14.frozen? ⟨go5, (x5_1 : Int).toNat * 5 + 3, none⟩ = false := hfr7 3; have hf7_4 : w14.frozen? ⟨go5, (x5_1 : Int).toNat * 5 + 4, none⟩ = false := hfr7 4; clear hcl7 hcc7 hfr7 hM7; replace p7 := eq_true p7; replace q7 := eq_true q7; have HX15 := Aside0.mk (show Kd.R k37 37 w14 w0.heap.size (fun k_ => (P0_ k_ ∨ w.heap.size ≤ k_)) (.slice (some ⟨go5, 0, none⟩) x0_1.length co10) y1131 from (kr_ HO_0.out)); obtain ⟨ce15, hcl15, hM15, hcc15, hfr15⟩ := Kd.R_elem HX15.out z37 (x5_1 : Int) (dt_) (by have h_ : (x5_1 : Int) < ((x0_1.length : Int) : Int) := dt_; first | exact h_ | (have e_ := (Kd.R_reads' HO_0.out).1; omega) | simpa using h_); obtain rfl := k37_openM hM15; have HP15 := Kd.R_seg HX15.out (x5_1 : Int) (dt_) (by have h_ : (x5_1 : Int) < ((x0_1.length : Int) : Int) := dt_; first | exact h_ | (have e_ := (Kd.R_reads' HO_0.out).1; omega) | simpa using h_) (seg := [.int .i64 (wrap64 ((wrap64 (x1_1 + 1)) + 1))]) (j := 2) hcl15 hcc15 (show 3 ≤ 5 from by decide) (x' := (⟨(rd_T37 y1131 x5_1).f0, (rd_T37 y1131 x5_1).f1, wrap64 ((wrap64 (x1_1 + 1)) + 1), (rd_T37 y1131 x5_1).f3, (rd_T37 y1131 x5_1).f4⟩ : S37)) (k37_mkM _ _ _ (⟨(rd_T37 y1131 x5_1).f0, (rd_T37 y1131 x5_1).f1, wrap64 ((wrap64 (x1_1 + 1)) + 1), (rd_T37 y1131 x5_1).f3, (rd_T37 y1131 x5_1).f4⟩ : S37) ) (fun _ hk => hk); have hx15_2 := hcc15 2 _ rfl; (try simp only [show (k37).sz = 5 from rfl, Nat.mul_one, Nat.add_zero] at hx15_2); have hf15_2 := hfr15 2; (try simp only [show (k37).sz = 5 from rfl, Nat.mul_one, Nat.add_zero] at hf15_2); clear hcl15 hcc15 hfr15 hM15) | ((with_reducible refine gate_store (t := 3) (p := 30) rfl ?_); refine store_event (t := 3) (p := 30) (v := ?vo_w16) (w1 := (w14.setCell ⟨go5, (x5_1 : Int).toNat * 5 + 2, none⟩ (.int .i64 (wrap64 ((wrap64 (x1_1 + 1)) + 1))))) ?hg ?ho ?hn ?hr ?_; (case ho => rfl); (case hg => rfl); (case hn => rfl); (case hr => first | (go_simp; done) | (go_simp; rfl)); intro w16 hw; have hg : w14.grownBy w16 (some go5) := (by rw [hw]; exact HP15.2); have hp_ : Kd.R k37 37 w16 w0.heap.size (fun k_ => (P0_ k_ ∨ w.heap.size ≤ k_)) (.slice (some ⟨go5, 0, none⟩) x0_1.length co10) y1132 := (by rw [hw, Ny1132.out]; exact HP15.1); clear HP15; replace HB := Aside0.mk ((by rw [hw]; exact below_set (HB.out) GB5.out : Below w0.heap.size w0 w16)); replace HK := Aside0.mk (Kept.of_grown (S := (fun k_ => P0_ k_)) hg (kt_ HK.out) (fun k_ e_ => (HO_0.out.1 k_ e_))); replace HO_0 := Aside0.mk (hp_); clear hg hw hp_; have p8 : 0 ≤ (x5_1 : Int) := dt_; have q8 : (x5_1 : Int) < ((x0_1.length : Int) : Int) := dt_; obtain ⟨ce8, hcl8, hM8, hcc8, hfr8⟩ := Kd.R_elem HO_0.out z37 (x5_1 : Int) p8 q8; obtain rfl := k37_openM hM8; have hx8_0 : w16.cell? ⟨go5, (x5_1 : Int).toNat * 5, none⟩ = some (.int .i64 ((rd_T37 y1132 x5_1).f0)) := hcc8 0 _ rfl; have hx8_1 : w16.cell? ⟨go5, (x5_1 : Int).toNat * 5 + 1, none⟩ = some (.int .i64 ((rd_T37 y1132 x5_1).f1)) := hcc8 1 _ rfl; have hx8_2 : w16.cell? ⟨go5, (x5_1 : Int).toNat * 5 + 2, none⟩ = some (.int .i64 ((rd_T37 y1132 x5_1).f2)) := hcc8 2 _ rfl; have hx8_3 : w16.cell? ⟨go5, (x5_1 : Int).toNat * 5 + 3, none⟩ = some (.int .i64 ((rd_T37 y1132 x5_1).f3)) := hcc8 3 _ rfl; have hx8_4 : w16.cell? ⟨go5, (x5_1 : Int).toNat * 5 + 4, none⟩ = some (.int .i64 ((rd_T37 y1132 x5_1).f4)) := hcc8 4 _ rfl; have hf8_0 : w16.frozen? ⟨go5, (x5_1 : Int).toNat * 5, none⟩ = false := hfr8 0; have hf8_1 : w16.frozen? ⟨go5, (x5_1 : Int).toNat * 5 + 1, none⟩ = false := hfr8 1; have hf8_2 : w16.frozen? ⟨go5, (x5_1 : Int).toNat * 5 + 2, none⟩ = false := hfr8 2; have hf8_3 : w16.frozen? ⟨go5, (x5_1 : Int).toNat * 5 + 3, none⟩ = false := hfr8 3; have hf8_4 : w16.frozen? ⟨go5, (x5_1 : Int).toNat * 5 + 4, none⟩ = false := hfr8 4; clear hcl8 hcc8 hfr8 hM8; replace p8 := eq_true p8; replace q8 := eq_true q8; have HX17 := Aside0.mk (show Kd.R k37 37 w16 w0.heap.size (fun k_ => (P0_ k_ ∨ w.heap.size ≤ k_)) (.slice (some ⟨go5, 0, none⟩) x0_1.length co10) y1132 from (kr_ HO_0.out)); obtain ⟨ce17, hcl17, hM17, hcc17, hfr17⟩ := Kd.R_elem HX17.out z37 (x5_1 : Int) (dt_) (by have h_ : (x5_1 : Int) < ((x0_1.length : Int) : Int) := dt_; first | exact h_ | (have e_ := (Kd.R_reads' HO_0.out).1; omega) | simpa using h_); obtain rfl := k37_openM hM17; have HP17 := Kd.R_seg HX17.out (x5_1 : Int) (dt_) (by have h_ : (x5_1 : Int) < ((x0_1.length : Int) : Int) := dt_; first | exact h_ | (have e_ := (Kd.R_reads' HO_0.out).1; omega) | simpa using h_) (seg := [.int .i64 (wrap64 ((wrap64 ((wrap64 (x1_1 + 1)) + 1)) + 1))]) (j := 3) hcl17 hcc17 (show 4 ≤ 5 from by decide) (x' := (⟨(rd_T37 y1132 x5_1).f0, (rd_T37 y1132 x5_1).f1, (rd_T37 y1132 x5_1).f2, wrap64 ((wrap64 ((wrap64 (x1_1 + 1)) + 1)) + 1), (rd_T37 y1132 x5_1).f4⟩ : S37)) (k37_mkM _ _ _ (⟨(rd_T37 y1132 x5_1).f0, (rd_T37 y1132 x5_1).f1, (rd_T37 y1132 x5_1).f2, wrap64 ((wrap64 ((wrap64 (x1_1 + 1)) + 1)) + 1), (rd_T37 y1132 x5_1).f4⟩ : S37) ) (fun _ hk => hk); have hx17_3 := hcc17 3 _ rfl; (try simp only [show (k37).sz = 5 from rfl, Nat.mul_one, Nat.add_zero] at hx17_3); have hf17_3 := hfr17 3; (try simp only [show (k37).sz = 5 from rfl, Nat.mul_one, Nat.add_zero] at hf17_3); clear hcl17 hcc17 hfr17 hM17) | ((with_reducible refine gate_store (t := 3) (p := 37) rfl ?_); refine store_event (t := 3) (p := 37) (v := ?vo_w18) (w1 := (w16.setCell ⟨go5, (x5_1 : Int).toNat * 5 + 3, none⟩ (.int .i64 (wrap64 ((wrap64 ((wrap64 (x1_1 + 1)) + 1)) + 1))))) ?hg ?ho ?hn ?hr ?_; (case ho => rfl); (case hg => rfl); (case hn => rfl); (case hr => first | (go_simp; done) | (go_simp; rfl)); intro w18 hw; have hg : w16.grownBy w18 (some go5) := (by rw [hw]; exact HP17.2); have hp_ : Kd.R k37 37 w18 w0.heap.size (fun k_ => (P0_ k_ ∨ w.heap.size ≤ k_)) (.slice (some ⟨go5, 0, none⟩) x0_1.length co10) y1133 := (by rw [hw, Ny1133.out]; exact HP17.1); clear HP17; replace HB := Aside0.mk ((by rw [hw]; exact below_set (HB.out) GB5.out : Below w0.heap.size w0 w18)); replace HK := Aside0.mk (Kept.of_grown (S := (fun k_ => P0_ k_)) hg (kt_ HK.out) (fun k_ e_ => (HO_0.out.1 k_ e_))); replace HO_0 := Aside0.mk (hp_); clear hg hw hp_; have p9 : 0 ≤ (x5_1 : Int) := dt_; have q9 : (x5_1 : Int) < ((x0_1.length : Int) : Int) := dt_; obtain ⟨ce9, hcl9, hM9, hcc9, hfr9⟩ := Kd.R_elem HO_0.out z37 (x5_1 : Int) p9 q9; obtain rfl := k37_openM hM9; have hx9_0 : w18.cell? ⟨go5, (x5_1 : Int).toNat * 5, none⟩ = some (.int .i64 ((rd_T37 y1133 x5_1).f0)) := hcc9 0 _ rfl; have hx9_1 : w18.cell? ⟨go5, (x5_1 : Int).toNat * 5 + 1, none⟩ = some (.int .i64 ((rd_T37 y1133 x5_1).f1)) := hcc9 1 _ rfl; have hx9_2 : w18.cell? ⟨go5, (x5_1 : Int).toNat * 5 + 2, none⟩ = some (.int .i64 ((rd_T37 y1133 x5_1).f2)) := hcc9 2 _ rfl; have hx9_3 : w18.cell? ⟨go5, (x5_1 : Int).toNat * 5 + 3, none⟩ = some (.int .i64 ((rd_T37 y1133 x5_1).f3)) := hcc9 3 _ rfl; have hx9_4 : w18.cell? ⟨go5, (x5_1 : Int).toNat * 5 + 4, none⟩ = some (.int .i64 ((rd_T37 y1133 x5_1).f4)) := hcc9 4 _ rfl; have hf9_0 : w18.frozen? ⟨go5, (x5_1 : Int).toNat * 5, none⟩ = false := hfr9 0; have hf9_1 : w18.frozen? ⟨go5, (x5_1 : Int).toNat * 5 + 1, none⟩ = false := hfr9 1; have hf9_2 : w18.frozen? ⟨go5, (x5_1 : Int).toNat * 5 + 2, none⟩ = false := hfr9 2; have hf9_3 : w18.frozen? ⟨go5, (x5_1 : Int).toNat * 5 + 3, none⟩ = false := hfr9 3; have hf9_4 : w18.frozen? ⟨go5, (x5_1 : Int).toNat * 5 + 4, none⟩ = false := hfr9 4; clear hcl9 hcc9 hfr9 hM9; replace p9 := eq_true p9; replace q9 := eq_true q9; have HX19 := Aside0.mk (show Kd.R k37 37 w18 w0.heap.size (fun k_ => (P0_ k_ ∨ w.heap.size ≤ k_)) (.slice (some ⟨go5, 0, none⟩) x0_1.length co10) y1133 from (kr_ HO_0.out)); obtain ⟨ce19, hcl19, hM19, hcc19, hfr19⟩ := Kd.R_elem HX19.out z37 (x5_1 : Int) (dt_) (by have h_ : (x5_1 : Int) < ((x0_1.length : Int) : Int) := dt_; first | exact h_ | (have e_ := (Kd.R_reads' HO_0.out).1; omega) | simpa using h_); obtain rfl := k37_openM hM19; have HP19 := Kd.R_seg HX19.out (x5_1 : Int) (dt_) (by have h_ : (x5_1 : Int) < ((x0_1.length : Int) : Int) := dt_; first | exact h_ | (have e_ := (Kd.R_reads' HO_0.out).1; omega) | simpa using h_) (seg := [.int .i64 (wrap64 ((wrap64 ((wrap64 ((wrap64 (x1_1 + 1)) + 1)) + 1)) + 1))]) (j := 4) hcl19 hcc19 (show 5 ≤ 5 from by decide) (x' := (⟨(rd_T37 y1133 x5_1).f0, (rd_T37 y1133 x5_1).f1, (rd_T37 y1133 x5_1).f2, (rd_T37 y1133 x5_1).f3, wrap64 ((wrap64 ((wrap64 ((wrap64 (x1_1 + 1)) + 1)) + 1)) + 1)⟩ : S37)) (k37_mkM _ _ _ (⟨(rd_T37 y1133 x5_1).f0, (rd_T37 y1133 x5_1).f1, (rd_T37 y1133 x5_1).f2, (rd_T37 y1133 x5_1).f3, wrap64 ((wrap64 ((wrap64 ((wrap64 (x1_1 + 1)) + 1)) + 1)) + 1)⟩ : S37) ) (fun _ hk => hk); have hx19_4 := hcc19 4 _ rfl; (try simp only [show (k37).sz = 5 from rfl, Nat.mul_one, Nat.add_zero] at hx19_4); have hf19_4 := hfr19 4; (try simp only [show (k37).sz = 5 from rfl, Nat.mul_one, Nat.add_zero] at hf19_4); clear hcl19 hcc19 hfr19 hM19) | ((with_reducible refine gate_store (t := 3) (p := 44) rfl ?_); refine store_event (t := 3) (p := 44) (v := ?vo_w20) (w1 := (w18.setCell ⟨go5, (x5_1 : Int).toNat * 5 + 4, none⟩ (.int .i64 (wrap64 ((wrap64 ((wrap64 ((wrap64 (x1_1 + 1)) + 1)) + 1)) + 1))))) ?hg ?ho ?hn ?hr ?_; (case ho => rfl); (case hg => rfl); (case hn => rfl); (case hr => first | (go_simp; done) | (go_simp; rfl)); intro w20 hw; have hg : w18.grownBy w20 (some go5) := (by rw [hw]; exact HP19.2); have hp_ : Kd.R k37 37 w20 w0.heap.size (fun k_ => (P0_ k_ ∨ w.heap.size ≤ k_)) (.slice (some ⟨go5, 0, none⟩) x0_1.length co10) y1134 := (by rw [hw, Ny1134.out]; exact HP19.1); clear HP19; replace HB := Aside0.mk ((by rw [hw]; exact below_set (HB.out) GB5.out : Below w0.heap.size w0 w20)); replace HK := Aside0.mk (Kept.of_grown (S := (fun k_ => P0_ k_)) hg (kt_ HK.out) (fun k_ e_ => (HO_0.out.1 k_ e_))); replace HO_0 := Aside0.mk (hp_); clear hg hw hp_))
     go_roundg k1
     case measure => have := HK1.out; omega
     case rel => exact ⟨(y1134), (wrap64 ((wrap64 ((wrap64 ((wrap64 ((wrap64 (x1_1 + 1)) + 1)) + 1)) + 1)) + 1)), (wrap64 (x5_1 + 1)), (by first | rfl | (simp; done) | (simp [*]; done)), (by first | rfl | (simp; done) | (simp [*]; done)), H', ⟨by have := HK1.out; omega⟩, ⟨by (with_reducible repeat (first | apply Kd.R_alloc | apply Kd.R_drewN | apply Kd.R_drew)); first | exact HO_0.out | (rw [Ny1134.out]; exact (Kd.R_putg (Kd.R_drewN HO_0.out _) _ _).1) | (rw [Ny1134.out]; exact (Kd.R_putg HO_0.out _ _).1)⟩, ⟨kt_ HK.out⟩, ⟨by repeat (first | (with_reducible first | exact HB.out | apply below_alloc | apply pw_below_drewN | apply below_drew1) | exact HB.out | (first | exact below_set (pw_below_drewN HB.out _) GB5.out | exact below_set HB.out GB5.out))⟩⟩
    ·
     rw [if_neg c4] at H
     exact absurd H (by simp)
   ·
    rw [if_neg c3] at H
    have c3b0 : decide (x5_1 < (x0_1.length : Int)) = false := decide_eq_false c3
    clear c3
    simp only [Option.some.injEq, Prod.mk.injEq] at H
    obtain ⟨rfl, rfl⟩ := H
    obtain ⟨Ao21, co21, eo21⟩ := Kd.R_slice HO_0.out
    subst eo21
    go_wp2
    go_ret
    exact ⟨rr_, kr_ HO_0.out, lb0_ HB.out, kt_ HK.out⟩
mutual
def spec_l25Out.l0 : Nat → List (S37) → List Bool → Int → List Int → Int → Option (Int)
 | 0, _, _, _, _, _ => none
 | k + 1, x0, x1, x2, x7, x8 => if x8 < 8 then (if x7.length < 17592186044416 then (spec_l25Out.l0 k x0 x1 x2 (x7 ++ [(-1)]) (wrap64 (x8 + 1))) else (none)) else (if 0 < (x7.length : Int) then (spec_l25Out.l1 k x0 x1 x2 (x7.set (0 : Int).toNat 0) true) else (none))
def spec_l25Out.l1 : Nat → List (S37) → List Bool → Int → List Int → Bool → Option (Int)
 | 0, _, _, _, _, _ => none
 | k + 1, x0, x1, x2, x7, x9 => if x9 = true then (spec_l25Out.l2 k x0 x1 x2 x7 false 0) else (if 0 ≤ x2 then (if x2 < (x7.length : Int) then (some (rd x7 x2)) else (none)) else (none))
def spec_l25Out.l2 : Nat → List (S37) → List Bool → Int → List Int → Bool → Int → Option (Int)
 | 0, _, _, _, _, _, _ => none
 | k + 1, x0, x1, x2, x7, x9, x10 => if x10 < (x0.length : Int) then (if 0 ≤ x10 then (if 0 ≤ ((rd_T37 x0 x10).f0) then (if ((rd_T37 x0 x10).f0) < (x1.length : Int) then (if (rdOf false x1 ((rd_T37 x0 x10).f0) = true) then (if 0 ≤ ((rd_T37 x0 x10).f1) then (if ((rd_T37 x0 x10).f1) < (x1.length : Int) then (spec_l25Out.j3 k x0 x1 x2 x7 x9 x10 ((rd_T37 x0 x10).f0) ((rd_T37 x0 x10).f1) (!(rdOf false x1 ((rd_T37 x0 x10).f1)))) else (none)) else (none)) else (spec_l25Out.j3 k x0 x1 x2 x7 x9 x10 ((rd_T37 x0 x10).f0) ((rd_T37 x0 x10).f1) true)) else (none)) else (none)) else (none)) else (spec_l25Out.l1 k x0 x1 x2 x7 x9)
def spec_l25Out.j3 : Nat → List (S37) → List Bool → Int → List Int → Bool → Int → Int → Int → Bool → Option (Int)
 | 0, _, _, _, _, _, _, _, _, _ => none
 | k + 1, x0, x1, x2, x7, x9, x10, x11, x12, x53 => if x53 = true then (spec_l25Out.l2 k x0 x1 x2 x7 x9 (wrap64 (x10 + 1))) else (if 0 ≤ x11 then (if x11 < (x7.length : Int) then (if 0 ≤ x10 then (if x10 < (x0.length : Int) then (if (rd x7 x11) ≥ 0 then (if 0 ≤ x12 then (if x12 < (x7.length : Int) then (if (rd x7 x12) < 0 then (spec_l25Out.j4 k x0 x1 x2 x7 x9 x10 x11 x12 (wrap64 ((rd x7 x11) + ((rd_T37 x0 x10).f2))) true) else (spec_l25Out.j4 k x0 x1 x2 x7 x9 x10 x11 x12 (wrap64 ((rd x7 x11) + ((rd_T37 x0 x10).f2))) (decide ((wrap64 ((rd x7 x11) + ((rd_T37 x0 x10).f2))) < (rd x7 x12))))) else (none)) else (none)) else (spec_l25Out.j4 k x0 x1 x2 x7 x9 x10 x11 x12 (wrap64 ((rd x7 x11) + ((rd_T37 x0 x10).f2))) false)) else (none)) else (none)) else (none)) else (none))
def spec_l25Out.j4 : Nat → List (S37) → List Bool → Int → List Int → Bool → Int → Int → Int → Int → Bool → Option (Int)
 | 0, _, _, _, _, _, _, _, _, _, _ => none
 | k + 1, x0, x1, x2, x7, x9, x10, x11, x12, x13, x83 => if x83 = true then (if 0 ≤ x12 then (if x12 < (x7.length : Int) then ((some (x7.set (x12 : Int).toNat x13 : List Int)).bind fun y122 => (if 0 ≤ x10 then (if x10 < (x0.length : Int) then (if (rd y122 x12) ≥ 0 then (if 0 ≤ x11 then (if x11 < (x7.length : Int) then (if (rd y122 x11) < 0 then (spec_l25Out.l2 k x0 x1 x2 (y122.set (x11 : Int).toNat (wrap64 ((rd y122 x12) + ((rd_T37 x0 x10).f2)))) true (wrap64 (x10 + 1))) else (if (wrap64 ((rd y122 x12) + ((rd_T37 x0 x10).f2))) < (rd y122 x11) then (spec_l25Out.l2 k x0 x1 x2 (y122.set (x11 : Int).toNat (wrap64 ((rd y122 x12) + ((rd_T37 x0 x10).f2)))) true (wrap64 (x10 + 1))) else (spec_l25Out.l2 k x0 x1 x2 y122 true (wrap64 (x10 + 1))))) else (none)) else (none)) else (spec_l25Out.l2 k x0 x1 x2 y122 true (wrap64 (x10 + 1)))) else (none)) else (none))) else (none)) else (none)) else (if 0 ≤ x12 then (if x12 < (x7.length : Int) then (if 0 ≤ x10 then (if x10 < (x0.length : Int) then (if (rd x7 x12) ≥ 0 then (if 0 ≤ x11 then (if x11 < (x7.length : Int) then (if (rd x7 x11) < 0 then (spec_l25Out.l2 k x0 x1 x2 (x7.set (x11 : Int).toNat (wrap64 ((rd x7 x12) + ((rd_T37 x0 x10).f2)))) true (wrap64 (x10 + 1))) else (if (wrap64 ((rd x7 x12) + ((rd_T37 x0 x10).f2))) < (rd x7 x11) then (spec_l25Out.l2 k x0 x1 x2 (x7.set (x11 : Int).toNat (wrap64 ((rd x7 x12) + ((rd_T37 x0 x10).f2)))) true (wrap64 (x10 + 1))) else (spec_l25Out.l2 k x0 x1 x2 x7 x9 (wrap64 (x10 + 1))))) else (none)) else (none)) else (spec_l25Out.l2 k x0 x1 x2 x7 x9 (wrap64 (x10 + 1)))) else (none)) else (none)) else (none)) else (none))
end
def spec_l25Out.f (k : Nat) (l0 : List (S37)) (l1 : List Bool) (a2 : Int) : Option (Int) := spec_l25Out.l0 k l0 l1 a2 (([] : List Int)) 0
theorem spec_l25Out.mono_l : ∀ k, (∀ y0 y1 y2 y3 y4, LeO (spec_l25Out.l0 k y0 y1 y2 y3 y4) (spec_l25Out.l0 (k + 1) y0 y1 y2 y3 y4)) ∧ (∀ y0 y1 y2 y3 y4, LeO (spec_l25Out.l1 k y0 y1 y2 y3 y4) (spec_l25Out.l1 (k + 1) y0 y1 y2 y3 y4)) ∧ (∀ y0 y1 y2 y3 y4 y5, LeO (spec_l25Out.l2 k y0 y1 y2 y3 y4 y5) (spec_l25Out.l2 (k + 1) y0 y1 y2 y3 y4 y5)) ∧ (∀ y0 y1 y2 y3 y4 y5 y6 y7 y8, LeO (spec_l25Out.j3 k y0 y1 y2 y3 y4 y5 y6 y7 y8) (spec_l25Out.j3 (k + 1) y0 y1 y2 y3 y4 y5 y6 y7 y8)) ∧ (∀ y0 y1 y2 y3 y4 y5 y6 y7 y8 y9, LeO (spec_l25Out.j4 k y0 y1 y2 y3 y4 y5 y6 y7 y8 y9) (spec_l25Out.j4 (k + 1) y0 y1 y2 y3 y4 y5 y6 y7 y8 y9))
 | 0 => ⟨fun _ _ _ _ _ r h => by simp [spec_l25Out.l0] at h, fun _ _ _ _ _ r h => by simp [spec_l25Out.l1] at h, fun _ _ _ _ _ _ r h => by simp [spec_l25Out.l2] at h, fun _ _ _ _ _ _ _ _ _ r h => by simp [spec_l25Out.j3] at h, fun _ _ _ _ _ _ _ _ _ _ r h => by simp [spec_l25Out.j4] at h⟩
 | k + 1 => by
  obtain ⟨ih0, ih1, ih2, ih3, ih4⟩ := spec_l25Out.mono_l k
  refine ⟨?_, ?_, ?_, ?_, ?_⟩
  ·
   intro y0 y1 y2 y3 y4
   unfold spec_l25Out.l0
   repeat' first
   | (with_reducible exact ih0 _ _ _ _ _)
   | (with_reducible exact ih1 _ _ _ _ _)
   | (with_reducible exact ih2 _ _ _ _ _ _)
   | (with_reducible exact ih3 _ _ _ _ _ _ _ _ _)
   | (with_reducible exact ih4 _ _ _ _ _ _ _ _ _ _)
   | (with_reducible exact LeO.refl _)
   | (with_reducible exact LeO.none _)
   | (with_reducible refine LeO.ite ?_ ?_)
   | (with_reducible refine LeO.bind ?_ (fun _ => ?_))
   | exact ih0 _ _ _ _ _
   | exact ih1 _ _ _ _ _
   | exact ih2 _ _ _ _ _ _
   | exact ih3 _ _ _ _ _ _ _ _ _
   | exact ih4 _ _ _ _ _ _ _ _ _ _
   | exact LeO.none _
   | refine LeO.ite ?_ ?_
   | refine LeO.bind ?_ (fun _ => ?_)
  ·
   intro y0 y1 y2 y3 y4
   unfold spec_l25Out.l1
   repeat' first
   | (with_reducible exact ih0 _ _ _ _ _)
   | (with_reducible exact ih1 _ _ _ _ _)
   | (with_reducible exact ih2 _ _ _ _ _ _)
   | (with_reducible exact ih3 _ _ _ _ _ _ _ _ _)
   | (with_reducible exact ih4 _ _ _ _ _ _ _ _ _ _)
   | (with_reducible exact LeO.refl _)
   | (with_reducible exact LeO.none _)
   | (with_reducible refine LeO.ite ?_ ?_)
   | (with_reducible refine LeO.bind ?_ (fun _ => ?_))
   | exact ih0 _ _ _ _ _
   | exact ih1 _ _ _ _ _
   | exact ih2 _ _ _ _ _ _
   | exact ih3 _ _ _ _ _ _ _ _ _
   | exact ih4 _ _ _ _ _ _ _ _ _ _
   | exact LeO.none _
   | refine LeO.ite ?_ ?_
   | refine LeO.bind ?_ (fun _ => ?_)
  ·
   intro y0 y1 y2 y3 y4 y5
   unfold spec_l25Out.l2
   repeat' first
   | (with_reducible exact ih0 _ _ _ _ _)
   | (with_reducible exact ih1 _ _ _ _ _)
   | (with_reducible exact ih2 _ _ _ _ _ _)
   | (with_reducible exact ih3 _ _ _ _ _ _ _ _ _)
   | (with_reducible exact ih4 _ _ _ _ _ _ _ _ _ _)
   | (with_reducible exact LeO.refl _)
   | (with_reducible exact LeO.none _)
   | (with_reducible refine LeO.ite ?_ ?_)
   | (with_reducible refine LeO.bind ?_ (fun _ => ?_))
   | exact ih0 _ _ _ _ _
   | exact ih1 _ _ _ _ _
   | exact ih2 _ _ _ _ _ _
   | exact ih3 _ _ _ _ _ _ _ _ _
   | exact ih4 _ _ _ _ _ _ _ _ _ _
   | exact LeO.none _
   | refine LeO.ite ?_ ?_
   | refine LeO.bind ?_ (fun _ => ?_)
  ·
   intro y0 y1 y2 y3 y4 y5 y6 y7 y8
   unfold spec_l25Out.j3
   repeat' first
   | (with_reducible exact ih0 _ _ _ _ _)
   | (with_reducible exact ih1 _ _ _ _ _)
   | (with_reducible exact ih2 _ _ _ _ _ _)
   | (with_reducible exact ih3 _ _ _ _ _ _ _ _ _)
   | (with_reducible exact ih4 _ _ _ _ _ _ _ _ _ _)
   | (with_reducible exact LeO.refl _)
   | (with_reducible exact LeO.none _)
   | (with_reducible refine LeO.ite ?_ ?_)
   | (with_reducible refine LeO.bind ?_ (fun _ => ?_))
   | exact ih0 _ _ _ _ _
   | exact ih1 _ _ _ _ _
   | exact ih2 _ _ _ _ _ _
   | exact ih3 _ _ _ _ _ _ _ _ _
   | exact ih4 _ _ _ _ _ _ _ _ _ _
   | exact LeO.none _
   | refine LeO.ite ?_ ?_
   | refine LeO.bind ?_ (fun _ => ?_)
  ·
   intro y0 y1 y2 y3 y4 y5 y6 y7 y8 y9
   unfold spec_l25Out.j4
   repeat' first
   | (with_reducible exact ih0 _ _ _ _ _)
   | (with_reducible exact ih1 _ _ _ _ _)
   | (with_reducible exact ih2 _ _ _ _ _ _)
   | (with_reducible exact ih3 _ _ _ _ _ _ _ _ _)
   | (with_reducible exact ih4 _ _ _ _ _ _ _ _ _ _)
   | (with_reducible exact LeO.refl _)
   | (with_reducible exact LeO.none _)
   | (with_reducible refine LeO.ite ?_ ?_)
   | (with_reducible refine LeO.bind ?_ (fun _ => ?_))
   | exact ih0 _ _ _ _ _
   | exact ih1 _ _ _ _ _
   | exact ih2 _ _ _ _ _ _
   | exact ih3 _ _ _ _ _ _ _ _ _
   | exact ih4 _ _ _ _ _ _ _ _ _ _
   | exact LeO.none _
   | refine LeO.ite ?_ ?_
   | refine LeO.bind ?_ (fun _ => ?_)
theorem spec_l25Out.mono : ∀ a0 a1 a2 k, LeO (spec_l25Out.f k a0 a1 a2) (spec_l25Out.f (k + 1) a0 a1 a2) := by
 intro a0 a1 a2 k
 obtain ⟨ih0, ih1, ih2, ih3, ih4⟩ := spec_l25Out.mono_l k
 unfold spec_l25Out.f
 repeat' first
   | (with_reducible exact ih0 _ _ _ _ _)
   | (with_reducible exact ih1 _ _ _ _ _)
   | (with_reducible exact ih2 _ _ _ _ _ _)
   | (with_reducible exact ih3 _ _ _ _ _ _ _ _ _)
   | (with_reducible exact ih4 _ _ _ _ _ _ _ _ _ _)
   | (with_reducible exact LeO.refl _)
   | (with_reducible exact LeO.none _)
   | (with_reducible refine LeO.ite ?_ ?_)
   | (with_reducible refine LeO.bind ?_ (fun _ => ?_))
   | exact ih0 _ _ _ _ _
   | exact ih1 _ _ _ _ _
   | exact ih2 _ _ _ _ _ _
   | exact ih3 _ _ _ _ _ _ _ _ _
   | exact ih4 _ _ _ _ _ _ _ _ _ _
   | exact LeO.none _
   | refine LeO.ite ?_ ?_
   | refine LeO.bind ?_ (fun _ => ?_)
theorem spec_l25Out.calls (k : Nat) (A0 : Option Addr) (c0 : Nat) (l0 : List (S37)) (A1 : Option Addr) (c1 : Nat) (l1 : List Bool) (a2 : Int) (r : Int) (w : World) (hr0 : Kd.C k37 w A0 l0.length l0) (hc0 : l0.length ≤ c0) (hr1 : Kd.C Kd.bool w A1 l1.length l1) (hc1 : l1.length ≤ c1) (h : spec_l25Out.f k l0 l1 a2 = some r) :
  Calls Try.prog 88 #[.slice A0 l0.length c0, .slice A1 l1.length c1, .int .i64 a2] w fun e w' => e = .returned (.int .i64 r) ∧ Below w.heap.size w w' := by
 have HR0 := Aside0.mk hr0
 have HC0 := Aside0.mk hc0
 clear hr0 hc0
 have HR1 := Aside0.mk hr1
 have HC1 := Aside0.mk hc1
 clear hr1 hc1
 have HB := Aside0.mk (Below.refl w.heap.size w)
 have H : (spec_l25Out.l0 k l0 l1 a2 (([] : List Int)) 0) = some r := h
 clear h
 obtain ⟨y105, hy105⟩ : ∃ y_ : List Int, y_ = (([] : List Int)) := ⟨_, rfl⟩
 replace H : (spec_l25Out.l0 k l0 l1 a2 y105 0) = some r := by first | (rw [hy105]; with_reducible exact H) | (have H2_ := (Option.bind_some _ _).symm.trans H; rw [hy105]; with_reducible exact H2_) | (have H2_ := (Option.bind_some _ _).symm.trans H; with_reducible exact H2_) | with_reducible exact H | (rw [hy105]; exact H) | exact H
 have Ny105 := Aside0.mk hy105
 clear hy105
 have H' := Aside0.mk H
 clear H
 go_enter Try.func88, Try.ntmps88
 go_wp2_with (first | ((with_reducible refine gate_dst (N := 15) rfl ?_); refine Kd.R_lit (Kd.int .i64) _ 3 ?hg (N := 15) ?hd (xs := ([] : List Int)) (inner := []) (ok := fun _ => True) (okp := fun _ => True) ?hr ?hp (fun _ hk => hk) trivial (Below.refl _ _) (Nat.le_refl _) (by simp) ?_; (case hd => rfl); (case hg => rfl); (case hr => first | (go_simp; done) | (go_simp; rfl)); (case hp => exact (Reps.none _ _)); intro v106 w4 ho5 hb hg_ hnew_; clear hg_ hnew_; replace ho5 := ry_ Ny105.out ho5; have HO107 := Aside0.mk (Kd.R_lower ho5 (below_size (lb0_ HB.out))); replace HB := Aside0.mk (below_step (lb0_ HB.out) hb); clear hb ho5))
 repeat (go_quiet (first | ((with_reducible refine gate_dst (N := 15) rfl ?_); refine Kd.R_lit (Kd.int .i64) _ 3 ?hg (N := 15) ?hd (xs := ([] : List Int)) (inner := []) (ok := fun _ => True) (okp := fun _ => True) ?hr ?hp (fun _ hk => hk) trivial (Below.refl _ _) (Nat.le_refl _) (by simp) ?_; (case hd => rfl); (case hg => rfl); (case hr => first | (go_simp; done) | (go_simp; rfl)); (case hp => exact (Reps.none _ _)); intro v106 w4 ho5 hb hg_ hnew_; clear hg_ hnew_; replace ho5 := ry_ Ny105.out ho5; have HO107 := Aside0.mk (Kd.R_lower ho5 (below_size (lb0_ HB.out))); replace HB := Aside0.mk (below_step (lb0_ HB.out) hb); clear hb ho5)); try go_wp2_with (first | ((with_reducible refine gate_dst (N := 15) rfl ?_); refine Kd.R_lit (Kd.int .i64) _ 3 ?hg (N := 15) ?hd (xs := ([] : List Int)) (inner := []) (ok := fun _ => True) (okp := fun _ => True) ?hr ?hp (fun _ hk => hk) trivial (Below.refl _ _) (Nat.le_refl _) (by simp) ?_; (case hd => rfl); (case hg => rfl); (case hr => first | (go_simp; done) | (go_simp; rfl)); (case hp => exact (Reps.none _ _)); intro v106 w4 ho5 hb hg_ hnew_; clear hg_ hnew_; replace ho5 := ry_ Ny105.out ho5; have HO107 := Aside0.mk (Kd.R_lower ho5 (below_size (lb0_ HB.out))); replace HB := Aside0.mk (below_step (lb0_ HB.out) hb); clear hb ho5)))
 go_loopg [7, 8] k (fun kq v7 v8 w' => ∃ (x7_1 : List Int) (x8_1 : Int), v8 = .int .i64 x8_1 ∧ Aside0 (spec_l25Out.l0 kq l0 l1 a2 x7_1 x8_1 = some r) ∧ Aside0 (kq ≤ k) ∧ Aside0 (Kd.R (Kd.int .i64) 3 w' w.heap.size (fun _ => True) v7 x7_1) ∧ Aside0 (Below w.heap.size w w'))
 case atStart => exact ⟨(y105), (0), (by first | rfl | (simp; done) | (simp [*]; done)), H', ⟨Nat.le_refl _⟩, ⟨kr_ HO107.out⟩, ⟨lb0_ HB.out⟩⟩
 case round =>
  clear H'
  try clear c1
  try clear p2
  obtain ⟨x7_1, x8_1, rfl, HA, HK1, HO_7, HB⟩ := hrel
  cases gk with
  | zero => exact absurd HA.out (by simp [spec_l25Out.l0])
  | succ k1 =>
   have H := HA.out
   clear HA
   simp only [spec_l25Out.l0] at H
   by_cases c6 : x8_1 < 8
   ·
    rw [if_pos c6] at H
    have c6b0 : decide (x8_1 < 8) = true := decide_eq_true c6
    clear c6
    by_cases c7 : x7_1.length < 17592186044416
    ·
     rw [if_pos c7] at H
     have LMc7 := Aside0.mk c7
     clear c7
     obtain ⟨y108, hy108⟩ : ∃ y_ : List Int, y_ = (x7_1 ++ [(-1)]) := ⟨_, rfl⟩
     replace H : (spec_l25Out.l0 k1 l0 l1 a2 y108 (wrap64 (x8_1 + 1))) = some r := by first | (rw [hy108]; with_reducible exact H) | (have H2_ := (Option.bind_some _ _).symm.trans H; rw [hy108]; with_reducible exact H2_) | (have H2_ := (Option.bind_some _ _).symm.trans H; with_reducible exact H2_) | with_reducible exact H | (rw [hy108]; exact H) | exact H
     have Ny108 := Aside0.mk hy108
     clear hy108
     have H' := Aside0.mk H
     clear H
     go_wp2_with (first | ((with_reducible refine gate_builtin (b := .append) (xs := #[.tmp 20, .tmp 21]) rfl ?_); at_builtin; refine Kd.R_append (Kd.int .i64) (w0 := w) w.heap.size rfl (.tmp 20) (.tmp 21) 60 3 (.int .i64 0) 8 rfl Try.underlying60 info3 rfl (by decide) (by omega) u7 x7_1 (-1) [.int .i64 (-1)] (fun _ => True) (fun _ => False) rfl rfl ?aP (fun _ hk => hk.elim) ?aF ?aO ?aB ?aS ?aL ?_; (case aP => exact rfl); (case aB => exact (lb0_ HB.out)); (case aF => exact (fun _ _ => trivial)); (case aO => exact (kr_ HO_7.out)); (case aS => exact (below_size (lb0_ HB.out))); (case aL => have := LMc7.out; omega); intro v109 w8 ho hb hg hat; rw [← Ny108.out] at ho; replace HB := Aside0.mk (hb); have HO110 := Aside0.mk (ho); clear HO_7; clear ho hb hg hat))
     repeat (go_quiet (first | ((with_reducible refine gate_builtin (b := .append) (xs := #[.tmp 20, .tmp 21]) rfl ?_); at_builtin; refine Kd.R_append (Kd.int .i64) (w0 := w) w.heap.size rfl (.tmp 20) (.tmp 21) 60 3 (.int .i64 0) 8 rfl Try.underlying60 info3 rfl (by decide) (by omega) u7 x7_1 (-1) [.int .i64 (-1)] (fun _ => True) (fun _ => False) rfl rfl ?aP (fun _ hk => hk.elim) ?aF ?aO ?aB ?aS ?aL ?_; (case aP => exact rfl); (case aB => exact (lb0_ HB.out)); (case aF => exact (fun _ _ => trivial)); (case aO => exact (kr_ HO_7.out)); (case aS => exact (below_size (lb0_ HB.out))); (case aL => have := LMc7.out; omega); intro v109 w8 ho hb hg hat; rw [← Ny108.out] at ho; replace HB := Aside0.mk (hb); have HO110 := Aside0.mk (ho); clear HO_7; clear ho hb hg hat)); try go_wp2_with (first | ((with_reducible refine gate_builtin (b := .append) (xs := #[.tmp 20, .tmp 21]) rfl ?_); at_builtin; refine Kd.R_append (Kd.int .i64) (w0 := w) w.heap.size rfl (.tmp 20) (.tmp 21) 60 3 (.int .i64 0) 8 rfl Try.underlying60 info3 rfl (by decide) (by omega) u7 x7_1 (-1) [.int .i64 (-1)] (fun _ => True) (fun _ => False) rfl rfl ?aP (fun _ hk => hk.elim) ?aF ?aO ?aB ?aS ?aL ?_; (case aP => exact rfl); (case aB => exact (lb0_ HB.out)); (case aF => exact (fun _ _ => trivial)); (case aO => exact (kr_ HO_7.out)); (case aS => exact (below_size (lb0_ HB.out))); (case aL => have := LMc7.out; omega); intro v109 w8 ho hb hg hat; rw [← Ny108.out] at ho; replace HB := Aside0.mk (hb); have HO110 := Aside0.mk (ho); clear HO_7; clear ho hb hg hat)))
     go_roundg k1
     case measure => have := HK1.out; omega
     case rel => exact ⟨(y108), (wrap64 (x8_1 + 1)), (by first | rfl | (simp; done) | (simp [*]; done)), H', ⟨by have := HK1.out; omega⟩, ⟨kr_ HO110.out⟩, ⟨lb0_ HB.out⟩⟩
    ·
     rw [if_neg c7] at H
     exact absurd H (by simp)
   ·
    rw [if_neg c6] at H
    have c6b0 : decide (x8_1 < 8) = false := decide_eq_false c6
    clear c6
    by_cases c9 : 0 < (x7_1.length : Int)
    ·
     rw [if_pos c9] at H
     have c9b0 : decide (0 < (x7_1.length : Int)) = true := decide_eq_true c9
     have c9b1 : decide (0 < x7_1.length) = true := decide_eq_true (by omega)
     clear c9
     obtain ⟨y111, hy111⟩ : ∃ y_ : List Int, y_ = (x7_1.set (0 : Int).toNat 0) := ⟨_, rfl⟩
     replace H : (spec_l25Out.l1 k1 l0 l1 a2 y111 true) = some r := by first | (rw [hy111]; with_reducible exact H) | (have H2_ := (Option.bind_some _ _).symm.trans H; rw [hy111]; with_reducible exact H2_) | (have H2_ := (Option.bind_some _ _).symm.trans H; with_reducible exact H2_) | with_reducible exact H | (rw [hy111]; exact H) | exact H
     have Ny111 := Aside0.mk hy111
     clear hy111
     have H' := Aside0.mk H
     clear H
     have p10 : 0 ≤ (0 : Int) := (by omega)
     have q10 : (0 : Int) < ((x7_1.length : Int) : Int) := dt_
     have qi10 : (0 < x7_1.length) = True := eq_true (by omega)
     obtain ⟨go10, co10, eo10, gb10, gl10, cl10, HG10⟩ := Kd.R_form HO_7.out (by omega)
     (first | cases eo10 | (injection eo10 with ea_ en_ ec_; (first | subst ea_ | (injection ea_ with ea_; subst ea_)); subst ec_; clear en_))
     have GB10 := Aside0.mk gb10
     have GG10 := Aside0.mk HG10
     clear gb10 gl10 HG10
     obtain ⟨hx10_0, hf10_0⟩ := Kd.R_celln 0 HO_7.out (0 : Int) p10 q10
     (try rw [show ((0 : Int)).toNat = 0 from rfl] at hx10_0)
     (try simp only [Nat.reduceMul, Nat.zero_mul, Nat.zero_add, Nat.reduceAdd] at hx10_0)
     (try rw [show ((0 : Int)).toNat = 0 from rfl] at hf10_0)
     (try simp only [Nat.reduceMul, Nat.zero_mul, Nat.zero_add, Nat.reduceAdd] at hf10_0)
     replace p10 := eq_true p10
     replace q10 := eq_true q10
     have HP11 := Kd.R_putg HO_7.out (0 : Int) 0
     go_wp2_with (first | ((with_reducible refine gate_store (t := 3) (p := 24) rfl ?_); (try (rw [drewN_self wr]; generalize hq_ : World.drewN wr _ = wr; replace HO_7 := Aside0.mk (Kd.R_at hq_ HO_7.out); replace HB := Aside0.mk (below_at hq_ HB.out); clear hq_; (try (have HP11 := Kd.R_putg HO_7.out (0 : Int) 0)))); refine store_event (t := 3) (p := 24) (v := ?vo_w12) (w1 := (wr.setCell ⟨go10, (0 : Int).toNat, none⟩ (.int .i64 0))) ?hg ?ho ?hn ?hr ?_; (case ho => rfl); (case hg => rfl); (case hn => rfl); (case hr => first | (go_simp; done) | (go_simp; rfl)); intro w12 hw; have hg : wr.grownBy w12 (some go10) := (by rw [hw]; exact HP11.2); have hp_ : Kd.R (Kd.int .i64) 3 w12 w.heap.size (fun _ => True) (.slice (some ⟨go10, 0, none⟩) x7_1.length co10) y111 := (by rw [hw, Ny111.out]; exact HP11.1); clear HP11; replace HO_7 := Aside0.mk (hp_); replace HB := Aside0.mk ((by rw [hw]; exact below_set (HB.out) GB10.out : Below w.heap.size w w12)); clear hg hw hp_))
     repeat (go_quiet (first | ((with_reducible refine gate_store (t := 3) (p := 24) rfl ?_); (try (rw [drewN_self wr]; generalize hq_ : World.drewN wr _ = wr; replace HO_7 := Aside0.mk (Kd.R_at hq_ HO_7.out); replace HB := Aside0.mk (below_at hq_ HB.out); clear hq_; (try (have HP11 := Kd.R_putg HO_7.out (0 : Int) 0)))); refine store_event (t := 3) (p := 24) (v := ?vo_w12) (w1 := (wr.setCell ⟨go10, (0 : Int).toNat, none⟩ (.int .i64 0))) ?hg ?ho ?hn ?hr ?_; (case ho => rfl); (case hg => rfl); (case hn => rfl); (case hr => first | (go_simp; done) | (go_simp; rfl)); intro w12 hw; have hg : wr.grownBy w12 (some go10) := (by rw [hw]; exact HP11.2); have hp_ : Kd.R (Kd.int .i64) 3 w12 w.heap.size (fun _ => True) (.slice (some ⟨go10, 0, none⟩) x7_1.length co10) y111 := (by rw [hw, Ny111.out]; exact HP11.1); clear HP11; replace HO_7 := Aside0.mk (hp_); replace HB := Aside0.mk ((by rw [hw]; exact below_set (HB.out) GB10.out : Below w.heap.size w w12)); clear hg hw hp_)); try go_wp2_with (first | ((with_reducible refine gate_store (t := 3) (p := 24) rfl ?_); (try (rw [drewN_self wr]; generalize hq_ : World.drewN wr _ = wr; replace HO_7 := Aside0.mk (Kd.R_at hq_ HO_7.out); replace HB := Aside0.mk (below_at hq_ HB.out); clear hq_; (try (have HP11 := Kd.R_putg HO_7.out (0 : Int) 0)))); refine store_event (t := 3) (p := 24) (v := ?vo_w12) (w1 := (wr.setCell ⟨go10, (0 : Int).toNat, none⟩ (.int .i64 0))) ?hg ?ho ?hn ?hr ?_; (case ho => rfl); (case hg => rfl); (case hn => rfl); (case hr => first | (go_simp; done) | (go_simp; rfl)); intro w12 hw; have hg : wr.grownBy w12 (some go10) := (by rw [hw]; exact HP11.2); have hp_ : Kd.R (Kd.int .i64) 3 w12 w.heap.size (fun _ => True) (.slice (some ⟨go10, 0, none⟩) x7_1.length co10) y111 := (by rw [hw, Ny111.out]; exact HP11.1); clear HP11; replace HO_7 := Aside0.mk (hp_); replace HB := Aside0.mk ((by rw [hw]; exact below_set (HB.out) GB10.out : Below w.heap.size w w12)); clear hg hw hp_)))
     go_loopg [9] k1 (fun kq v9 w' => ∃ (x7_2 : List Int) (x9_2 : Bool), v9 = .bool x9_2 ∧ Aside0 (spec_l25Out.l1 kq l0 l1 a2 x7_2 x9_2 = some r) ∧ Aside0 (kq ≤ k1) ∧ Aside0 (Kd.R (Kd.int .i64) 3 w' w.heap.size (fun _ => True) (.slice (some ⟨go10, 0, none⟩) x7_1.length co10) x7_2) ∧ Aside0 (Below w.heap.size w w'))
     case atStart => exact ⟨(y111), (true), (by first | rfl | (simp; done) | (simp [*]; done)), H', ⟨Nat.le_refl _⟩, ⟨kr_ HO_7.out⟩, ⟨lb0_ HB.out⟩⟩
     case round =>
      clear H'
      try clear c1
      try clear p1
      try clear q1
      try clear hx1
      try clear qi1
      try clear p2
      try clear c6
      try clear c6b0
      try clear p6
      try clear c7
      try clear c8
      try clear c9
      try clear c9b0
      try clear c9b1
      try clear p10
      try clear q10
      try clear hx10
      try clear qi10
      try clear hf10
      try clear hx10_0
      try clear p10
      try clear p2
      try clear q10
      obtain ⟨x7_2, x9_2, rfl, HA, HK2, HO_7, HB⟩ := hrel
      have hl7_2 := (Kd.R_reads' HO_7.out).1
      rw [hl7_2] at HO_7
      (try simp only [hl7_2])
      cases gk with
      | zero => exact absurd HA.out (by simp [spec_l25Out.l1])
      | succ k2 =>
       have H := HA.out
       clear HA
       simp only [spec_l25Out.l1] at H
       by_cases c13 : x9_2 = true
       ·
        subst c13
        have H1 : (spec_l25Out.l2 k2 l0 l1 a2 x7_2 false 0) = some r := by rw [if_pos rfl] at H; exact H
        clear H; have H := H1; clear H1; have H' := Aside0.mk H; clear H
        go_wp2
        repeat (go_quiet (fail); try go_wp2)
        go_loopg [9, 10] k2 (fun kq v9 v10 w' => ∃ (x7_3 : List Int) (x9_3 : Bool) (x10_3 : Int), v9 = .bool x9_3 ∧ v10 = .int .i64 x10_3 ∧ Aside0 (spec_l25Out.l2 kq l0 l1 a2 x7_3 x9_3 x10_3 = some r) ∧ Aside0 (kq ≤ k2) ∧ Aside0 (Kd.R (Kd.int .i64) 3 w' w.heap.size (fun _ => True) (.slice (some ⟨go10, 0, none⟩) x7_2.length co10) x7_3) ∧ Aside0 (Below w.heap.size w w'))
        case atStart => exact ⟨(x7_2), (false), (0), (by first | rfl | (simp; done) | (simp [*]; done)), (by first | rfl | (simp; done) | (simp [*]; done)), H', ⟨Nat.le_refl _⟩, ⟨by (try simp only [hl7_2]); (with_reducible repeat (first | apply Kd.R_alloc | apply Kd.R_drewN | apply Kd.R_drew)); exact HO_7.out⟩, ⟨lb0_ HB.out⟩⟩
        case round =>
         clear H'
         try clear c1
         try clear p1
         try clear q1
         try clear hx1
         try clear qi1
         try clear p2
         try clear c6
         try clear c6b0
         try clear p6
         try clear c7
         try clear c8
         try clear c9
         try clear c9b0
         try clear c9b1
         try clear p10
         try clear q10
         try clear hx10
         try clear qi10
         try clear hf10
         try clear c13
         try clear hx10_0
         try clear p1
         try clear p10
         try clear p2
         try clear p6
         try clear q1
         try clear q10
         obtain ⟨x7_3, x9_3, x10_3, rfl, rfl, HA, HK3, HO_7, HB⟩ := hrel; have hl7_3 := (Kd.R_reads' HO_7.out).1
         rw [hl7_3] at HO_7
         (try simp only [hl7_3])
         cases gk with
         | zero => exact absurd HA.out (by simp [spec_l25Out.l2])
         | succ k3 =>
          have H := HA.out; clear HA; simp only [spec_l25Out.l2] at H
          by_cases c14 : x10_3 < (l0.length : Int)
          ·
           rw [if_pos c14] at H
           have c14b0 : decide (x10_3 < (l0.length : Int)) = true := decide_eq_true c14; clear c14
           by_cases c15 : 0 ≤ x10_3
           ·
            rw [if_pos c15] at H
            have c15b0 : decide (0 ≤ x10_3) = true := decide_eq_true c15; clear c15; have HC16 := Aside0.mk H; clear H; have p113 : 0 ≤ (x10_3 : Int) := dt_; have q113 : x10_3 < (l0.length : Int) := dt_; obtain ⟨ad113, e113, hx113_0, hx113_1, hx113_2, hx113_3, hx113_4⟩ := at_T37 HR0.out x10_3 p113 q113
            cases e113
            replace hx113_0 := bc_ HB.out hx113_0; replace hx113_1 := bc_ HB.out hx113_1; replace hx113_2 := bc_ HB.out hx113_2; replace hx113_3 := bc_ HB.out hx113_3; replace hx113_4 := bc_ HB.out hx113_4; replace p113 := eq_true p113; replace q113 := eq_true q113; have p114 : 0 ≤ (x10_3 : Int) := dt_; have q114 : x10_3 < (l0.length : Int) := dt_; obtain ⟨ad114, e114, hx114_0, hx114_1, hx114_2, hx114_3, hx114_4⟩ := at_T37 HR0.out x10_3 p114 q114
            obtain rfl : ad113 = ad114 := (by injection e114)
            replace hx114_0 := bc_ HB.out hx114_0; replace hx114_1 := bc_ HB.out hx114_1; replace hx114_2 := bc_ HB.out hx114_2; replace hx114_3 := bc_ HB.out hx114_3; replace hx114_4 := bc_ HB.out hx114_4; replace p114 := eq_true p114; replace q114 := eq_true q114
            go_upto_region 14 with (fail)
            repeat (go_quiet (fail); go_upto_region 14 with (fail))
            go_cut [53] (fun v53 wc => ∃ (kq : Nat) (x53_15 : Bool), v53 = .bool x53_15 ∧ Aside0 (spec_l25Out.j3 kq l0 l1 a2 x7_3 x9_3 x10_3 ((rd_T37 l0 x10_3).f0) ((rd_T37 l0 x10_3).f1) x53_15 = some r) ∧ Aside0 (kq ≤ k3) ∧ Aside0 (Kd.R (Kd.int .i64) 3 wc w.heap.size (fun _ => True) (.slice (some ⟨go10, 0, none⟩) x7_3.length co10) x7_3) ∧ Aside0 (Below w.heap.size w wc))
            case first =>
             have H := HC16.out; clear HC16
             by_cases c17 : 0 ≤ ((rd_T37 l0 x10_3).f0)
             ·
              rw [if_pos c17] at H
              have c17b0 : decide (0 ≤ ((rd_T37 l0 x10_3).f0)) = true := decide_eq_true c17; clear c17
              (first | rw [c17b0] | (simp only [i64_w, i32_w]; rw [c17b0]) | skip)
              by_cases c18 : ((rd_T37 l0 x10_3).f0) < (l1.length : Int)
              ·
               rw [if_pos c18] at H
               have c18b0 : decide (((rd_T37 l0 x10_3).f0) < (l1.length : Int)) = true := decide_eq_true c18; clear c18
               obtain ⟨bq19, hbq19⟩ : ∃ b_ : Bool, b_ = (rdOf false l1 ((rd_T37 l0 x10_3).f0)) := ⟨_, rfl⟩
               replace H : (if (bq19 = true) then (if 0 ≤ ((rd_T37 l0 x10_3).f1) then (if ((rd_T37 l0 x10_3).f1) < (l1.length : Int) then (spec_l25Out.j3 k3 l0 l1 a2 x7_3 x9_3 x10_3 ((rd_T37 l0 x10_3).f0) ((rd_T37 l0 x10_3).f1) (!(rdOf false l1 ((rd_T37 l0 x10_3).f1)))) else (none)) else (none)) else (spec_l25Out.j3 k3 l0 l1 a2 x7_3 x9_3 x10_3 ((rd_T37 l0 x10_3).f0) ((rd_T37 l0 x10_3).f1) true)) = some r := by rw [← hbq19] at H; exact H
               have Nbq19 := Aside0.mk hbq19; clear hbq19
               by_cases c20 : (bq19 = true)
               ·
                subst c20
                have H1 : (if 0 ≤ ((rd_T37 l0 x10_3).f1) then (if ((rd_T37 l0 x10_3).f1) < (l1.length : Int) then (spec_l25Out.j3 k3 l0 l1 a2 x7_3 x9_3 x10_3 ((rd_T37 l0 x10_3).f0) ((rd_T37 l0 x10_3).f1) (!(rdOf false l1 ((rd_T37 l0 x10_3).f1)))) else (none)) else (none)) = some r := by rw [if_pos rfl] at H; exact H
                clear H; have H := H1; clear H1
                by_cases c21 : 0 ≤ ((rd_T37 l0 x10_3).f1)
                ·
                 rw [if_pos c21] at H
                 have c21b0 : decide (0 ≤ ((rd_T37 l0 x10_3).f1)) = true := decide_eq_true c21; clear c21
                 by_cases c22 : ((rd_T37 l0 x10_3).f1) < (l1.length : Int)
                 ·
                  rw [if_pos c22] at H
                  have c22b0 : decide (((rd_T37 l0 x10_3).f1) < (l1.length : Int)) = true := decide_eq_true c22; clear c22; have H' := Aside0.mk H; clear H; have p115 : 0 ≤ (((rd_T37 l0 x10_3).f0) : Int) := dt_; have q115 : ((rd_T37 l0 x10_3).f0) < (l1.length : Int) := dt_; obtain ⟨ad115, e115, hx115_0⟩ := Kd.at_bool HR1.out ((rd_T37 l0 x10_3).f0) p115 q115; (try rw [← Nbq19.out] at hx115_0)
                  cases e115
                  replace hx115_0 := bc_ HB.out hx115_0; replace p115 := eq_true p115; replace q115 := eq_true q115; have p116 : 0 ≤ (((rd_T37 l0 x10_3).f1) : Int) := dt_; have q116 : ((rd_T37 l0 x10_3).f1) < (l1.length : Int) := dt_; obtain ⟨ad116, e116, hx116_0⟩ := Kd.at_bool HR1.out ((rd_T37 l0 x10_3).f1) p116 q116; (try rw [← Nbq19.out] at hx116_0)
                  obtain rfl : ad115 = ad116 := (by injection e116)
                  replace hx116_0 := bc_ HB.out hx116_0; replace p116 := eq_true p116; replace q116 := eq_true q116
                  go_wp2
                  repeat (go_quiet (fail); try go_wp2)
                  go_meet
                  case rel => exact ⟨_, (!(rdOf false l1 ((rd_T37 l0 x10_3).f1))), (by first | rfl | (simp; done) | (simp [*]; done)), H', ⟨by have := HK1.out; have := HK2.out; have := HK3.out; first | omega | exact Nat.le_refl _⟩, ⟨by (try simp only [hl7_2]); (try simp only [hl7_3]); (with_reducible repeat (first | apply Kd.R_alloc | apply Kd.R_drewN | apply Kd.R_drew)); exact HO_7.out⟩, ⟨lb0_ HB.out⟩⟩
                 ·
                  rw [if_neg c22] at H
                  exact absurd H (by simp)
                ·
                 rw [if_neg c21] at H
                 exact absurd H (by simp)
               ·
                replace c20 := Bool.eq_false_iff.mpr c20; subst c20
                have H1 : (spec_l25Out.j3 k3 l0 l1 a2 x7_3 x9_3 x10_3 ((rd_T37 l0 x10_3).f0) ((rd_T37 l0 x10_3).f1) true) = some r := by rw [if_neg (show ¬ (false = true) by decide)] at H; exact H
                clear H; have H := H1; clear H1; have H' := Aside0.mk H; clear H; have p115 : 0 ≤ (((rd_T37 l0 x10_3).f0) : Int) := dt_; have q115 : ((rd_T37 l0 x10_3).f0) < (l1.length : Int) := dt_; obtain ⟨ad115, e115, hx115_0⟩ := Kd.at_bool HR1.out ((rd_T37 l0 x10_3).f0) p115 q115; (try rw [← Nbq19.out] at hx115_0)
                cases e115
                replace hx115_0 := bc_ HB.out hx115_0; replace p115 := eq_true p115; replace q115 := eq_true q115
                go_wp2
                repeat (go_quiet (fail); try go_wp2)
                go_meet
                case rel => exact ⟨_, (true), (by first | rfl | (simp; done) | (simp [*]; done)), H', ⟨by have := HK1.out; have := HK2.out; have := HK3.out; first | omega | exact Nat.le_refl _⟩, ⟨by (try simp only [hl7_2]); (try simp only [hl7_3]); (with_reducible repeat (first | apply Kd.R_alloc | apply Kd.R_drewN | apply Kd.R_drew)); exact HO_7.out⟩, ⟨lb0_ HB.out⟩⟩
              ·
               rw [if_neg c18] at H
               exact absurd H (by simp)
             ·
              rw [if_neg c17] at H
              exact absurd H (by simp)
            case rest =>
             clear HC16
             try clear c1
             try clear p1
             try clear q1
             try clear hx1
             try clear qi1
             try clear c2
             try clear p2
             try clear c6
             try clear c6b0
             try clear p6
             try clear c7
             try clear c8
             try clear c9
             try clear c9b0
             try clear c9b1
             try clear p10
             try clear q10
             try clear hx10
             try clear qi10
             try clear hf10
             try clear p11
             try clear q11
             try clear hx11
             try clear c13
             try clear c14
             try clear c14b0
             try clear c15
             try clear c15b0
             try clear c17
             try clear c17b0
             try clear c18
             try clear c18b0
             try clear q19
             try clear c20
             try clear c21
             try clear c21b0
             try clear c22
             try clear c22b0
             try clear hx10_0
             try clear hx113_0
             try clear hx113_1
             try clear hx113_2
             try clear hx113_3
             try clear hx113_4
             try clear hx114_0
             try clear hx114_1
             try clear hx114_2
             try clear hx114_3
             try clear hx114_4
             try clear hx115_0
             try clear hx116_0
             try clear p1
             try clear p10
             try clear p113
             try clear p114
             try clear p115
             try clear p116
             try clear p2
             try clear p6
             try clear q1
             try clear q10
             try clear q113
             try clear q114
             try clear q115
             try clear q116
             obtain ⟨kq, x53_15, rfl, HA, HJ15, HO_7, HB⟩ := hcut
             cases kq with
             | zero => exact absurd HA.out (by simp [spec_l25Out.j3])
             | succ kj15 =>
              have H := HA.out; clear HA; simp only [spec_l25Out.j3] at H
              by_cases c23 : x53_15 = true
              ·
               subst c23
               have H1 : (spec_l25Out.l2 kj15 l0 l1 a2 x7_3 x9_3 (wrap64 (x10_3 + 1))) = some r := by rw [if_pos rfl] at H; exact H
               clear H; have H := H1; clear H1; have H' := Aside0.mk H; clear H
               go_wp2
               repeat (go_quiet (fail); try go_wp2)
               (try simp only [← hl7_3])
               go_roundg kj15
               case measure => have := HK1.out; have := HK2.out; have := HK3.out; have := HJ15.out; omega
               case rel => exact ⟨(x7_3), (x9_3), (wrap64 (x10_3 + 1)), (by first | rfl | (simp; done) | (simp [*]; done)), (by first | rfl | (simp; done) | (simp [*]; done)), H', ⟨by have := HK1.out; have := HK2.out; have := HK3.out; have := HJ15.out; omega⟩, ⟨by (try simp only [hl7_2]); (try simp only [hl7_3]); (with_reducible repeat (first | apply Kd.R_alloc | apply Kd.R_drewN | apply Kd.R_drew)); exact HO_7.out⟩, ⟨lb0_ HB.out⟩⟩
              ·
               replace c23 := Bool.eq_false_iff.mpr c23; subst c23
               have H1 : (if 0 ≤ ((rd_T37 l0 x10_3).f0) then (if ((rd_T37 l0 x10_3).f0) < (x7_3.length : Int) then (if 0 ≤ x10_3 then (if x10_3 < (l0.length : Int) then (if (rd x7_3 ((rd_T37 l0 x10_3).f0)) ≥ 0 then (if 0 ≤ ((rd_T37 l0 x10_3).f1) then (if ((rd_T37 l0 x10_3).f1) < (x7_3.length : Int) then (if (rd x7_3 ((rd_T37 l0 x10_3).f1)) < 0 then (spec_l25Out.j4 kj15 l0 l1 a2 x7_3 x9_3 x10_3 ((rd_T37 l0 x10_3).f0) ((rd_T37 l0 x10_3).f1) (wrap64 ((rd x7_3 ((rd_T37 l0 x10_3).f0)) + ((rd_T37 l0 x10_3).f2))) true) else (spec_l25Out.j4 kj15 l0 l1 a2 x7_3 x9_3 x10_3 ((rd_T37 l0 x10_3).f0) ((rd_T37 l0 x10_3).f1) (wrap64 ((rd x7_3 ((rd_T37 l0 x10_3).f0)) + ((rd_T37 l0 x10_3).f2))) (decide ((wrap64 ((rd x7_3 ((rd_T37 l0 x10_3).f0)) + ((rd_T37 l0 x10_3).f2))) < (rd x7_3 ((rd_T37 l0 x10_3).f1)))))) else (none)) else (none)) else (spec_l25Out.j4 kj15 l0 l1 a2 x7_3 x9_3 x10_3 ((rd_T37 l0 x10_3).f0) ((rd_T37 l0 x10_3).f1) (wrap64 ((rd x7_3 ((rd_T37 l0 x10_3).f0)) + ((rd_T37 l0 x10_3).f2))) false)) else (none)) else (none)) else (none)) else (none)) = some r := by rw [if_neg (show ¬ (false = true) by decide)] at H; exact H
               clear H; have H := H1; clear H1
               by_cases c24 : 0 ≤ ((rd_T37 l0 x10_3).f0)
               ·
                rw [if_pos c24] at H
                have c24b0 : decide (0 ≤ ((rd_T37 l0 x10_3).f0)) = true := decide_eq_true c24; clear c24
                by_cases c25 : ((rd_T37 l0 x10_3).f0) < (x7_3.length : Int)
                ·
                 rw [if_pos c25] at H
                 have c25b0 : decide (((rd_T37 l0 x10_3).f0) < (x7_3.length : Int)) = true := decide_eq_true c25; clear c25
                 by_cases c26 : 0 ≤ x10_3
                 ·
                  rw [if_pos c26] at H
                  have c26b0 : decide (0 ≤ x10_3) = true := decide_eq_true c26; clear c26
                  by_cases c27 : x10_3 < (l0.length : Int)
                  ·
                   rw [if_pos c27] at H
                   have c27b0 : decide (x10_3 < (l0.length : Int)) = true := decide_eq_true c27; clear c27; have HC28 := Aside0.mk H; clear H; have p117 : 0 ≤ (((rd_T37 l0 x10_3).f0) : Int) := dt_; have q117 : ((rd_T37 l0 x10_3).f0) < (x7_3.length : Int) := dt_; obtain ⟨ad117, e117, hx117_0⟩ := Kd.at_int (Kd.R_reads' HO_7.out).2.2 ((rd_T37 l0 x10_3).f0) p117 q117
                   obtain rfl : (⟨go10, 0, none⟩ : Addr) = ad117 := (by injection e117)
                   (first | simp only [add_plain] at hx117_0 | simp only [add_at] at hx117_0 | simp only [Addr.add, Nat.zero_add] at hx117_0 | skip)
                   replace p117 := eq_true p117; replace q117 := eq_true q117; have p118 : 0 ≤ (x10_3 : Int) := dt_; have q118 : x10_3 < (l0.length : Int) := dt_; obtain ⟨ad118, e118, hx118_0, hx118_1, hx118_2, hx118_3, hx118_4⟩ := at_T37 HR0.out x10_3 p118 q118
                   obtain rfl : ad113 = ad118 := (by injection e118)
                   replace hx118_0 := bc_ HB.out hx118_0; replace hx118_1 := bc_ HB.out hx118_1; replace hx118_2 := bc_ HB.out hx118_2; replace hx118_3 := bc_ HB.out hx118_3; replace hx118_4 := bc_ HB.out hx118_4; replace p118 := eq_true p118; replace q118 := eq_true q118
                   go_upto_region 16 with (fail)
                   repeat (go_quiet (fail); go_upto_region 16 with (fail))
                   go_cut [83] (fun v83 wc => ∃ (kq : Nat) (x83_27 : Bool), v83 = .bool x83_27 ∧ Aside0 (spec_l25Out.j4 kq l0 l1 a2 x7_3 x9_3 x10_3 ((rd_T37 l0 x10_3).f0) ((rd_T37 l0 x10_3).f1) (wrap64 ((rd x7_3 ((rd_T37 l0 x10_3).f0)) + ((rd_T37 l0 x10_3).f2))) x83_27 = some r) ∧ Aside0 (kq ≤ kj15) ∧ Aside0 (Kd.R (Kd.int .i64) 3 wc w.heap.size (fun _ => True) (.slice (some ⟨go10, 0, none⟩) x7_3.length co10) x7_3) ∧ Aside0 (Below w.heap.size w wc))
                   case first =>
                    have H := HC28.out; clear HC28
                    by_cases c29 : (rd x7_3 ((rd_T37 l0 x10_3).f0)) ≥ 0
                    ·
                     rw [if_pos c29] at H
                     have c29b0 : decide (0 ≤ (rd x7_3 ((rd_T37 l0 x10_3).f0))) = true := decide_eq_true c29; clear c29
                     (first | rw [c29b0] | (simp only [i64_w, i32_w]; rw [c29b0]) | skip)
                     by_cases c30 : 0 ≤ ((rd_T37 l0 x10_3).f1)
                     ·
                      rw [if_pos c30] at H
                      have c30b0 : decide (0 ≤ ((rd_T37 l0 x10_3).f1)) = true := decide_eq_true c30; clear c30
                      by_cases c31 : ((rd_T37 l0 x10_3).f1) < (x7_3.length : Int)
                      ·
                       rw [if_pos c31] at H
                       have c31b0 : decide (((rd_T37 l0 x10_3).f1) < (x7_3.length : Int)) = true := decide_eq_true c31; clear c31
                       by_cases c32 : (rd x7_3 ((rd_T37 l0 x10_3).f1)) < 0
                       ·
                        rw [if_pos c32] at H
                        have c32b0 : decide ((rd x7_3 ((rd_T37 l0 x10_3).f1)) < 0) = true := decide_eq_true c32; clear c32; have H' := Aside0.mk H; clear H; have p119 : 0 ≤ (((rd_T37 l0 x10_3).f0) : Int) := dt_; have q119 : ((rd_T37 l0 x10_3).f0) < (x7_3.length : Int) := dt_; obtain ⟨ad119, e119, hx119_0⟩ := Kd.at_int (Kd.R_reads' HO_7.out).2.2 ((rd_T37 l0 x10_3).f0) p119 q119
                        obtain rfl : (⟨go10, 0, none⟩ : Addr) = ad119 := (by injection e119)
                        (first | simp only [add_plain] at hx119_0 | simp only [add_at] at hx119_0 | simp only [Addr.add, Nat.zero_add] at hx119_0 | skip)
                        replace p119 := eq_true p119; replace q119 := eq_true q119; have p120 : 0 ≤ (((rd_T37 l0 x10_3).f1) : Int) := dt_; have q120 : ((rd_T37 l0 x10_3).f1) < (x7_3.length : Int) := dt_; obtain ⟨ad120, e120, hx120_0⟩ := Kd.at_int (Kd.R_reads' HO_7.out).2.2 ((rd_T37 l0 x10_3).f1) p120 q120
                        obtain rfl : (⟨go10, 0, none⟩ : Addr) = ad120 := (by injection e120)
                        (first | simp only [add_plain] at hx120_0 | simp only [add_at] at hx120_0 | simp only [Addr.add, Nat.zero_add] at hx120_0 | skip)
                        replace p120 := eq_true p120; replace q120 := eq_true q120
                        go_wp2
                        repeat (go_quiet (fail); try go_wp2)
                        go_meet
                        case rel => exact ⟨_, (true), (by first | rfl | (simp; done) | (simp [*]; done)), H', ⟨by have := HK1.out; have := HK2.out; have := HK3.out; have := HJ15.out; first | omega | exact Nat.le_refl _⟩, ⟨by (try simp only [hl7_2]); (try simp only [hl7_3]); (with_reducible repeat (first | apply Kd.R_alloc | apply Kd.R_drewN | apply Kd.R_drew)); exact HO_7.out⟩, ⟨lb0_ HB.out⟩⟩
                       ·
                        rw [if_neg c32] at H
                        have c32b0 : decide ((rd x7_3 ((rd_T37 l0 x10_3).f1)) < 0) = false := decide_eq_false c32; clear c32; have H' := Aside0.mk H; clear H; have p119 : 0 ≤ (((rd_T37 l0 x10_3).f0) : Int) := dt_; have q119 : ((rd_T37 l0 x10_3).f0) < (x7_3.length : Int) := dt_; obtain ⟨ad119, e119, hx119_0⟩ := Kd.at_int (Kd.R_reads' HO_7.out).2.2 ((rd_T37 l0 x10_3).f0) p119 q119
                        obtain rfl : (⟨go10, 0, none⟩ : Addr) = ad119 := (by injection e119)
                        (first | simp only [add_plain] at hx119_0 | simp only [add_at] at hx119_0 | simp only [Addr.add, Nat.zero_add] at hx119_0 | skip)
                        replace p119 := eq_true p119; replace q119 := eq_true q119; have p120 : 0 ≤ (((rd_T37 l0 x10_3).f1) : Int) := dt_; have q120 : ((rd_T37 l0 x10_3).f1) < (x7_3.length : Int) := dt_; obtain ⟨ad120, e120, hx120_0⟩ := Kd.at_int (Kd.R_reads' HO_7.out).2.2 ((rd_T37 l0 x10_3).f1) p120 q120
                        obtain rfl : (⟨go10, 0, none⟩ : Addr) = ad120 := (by injection e120)
                        (first | simp only [add_plain] at hx120_0 | simp only [add_at] at hx120_0 | simp only [Addr.add, Nat.zero_add] at hx120_0 | skip)
                        replace p120 := eq_true p120; replace q120 := eq_true q120; have p121 : 0 ≤ (((rd_T37 l0 x10_3).f1) : Int) := dt_; have q121 : ((rd_T37 l0 x10_3).f1) < (x7_3.length : Int) := dt_; obtain ⟨ad121, e121, hx121_0⟩ := Kd.at_int (Kd.R_reads' HO_7.out).2.2 ((rd_T37 l0 x10_3).f1) p121 q121
                        obtain rfl : (⟨go10, 0, none⟩ : Addr) = ad121 := (by injection e121)
                        (first | simp only [add_plain] at hx121_0 | simp only [add_at] at hx121_0 | simp only [Addr.add, Nat.zero_add] at hx121_0 | skip)
                        replace p121 := eq_true p121; replace q121 := eq_true q121
                        go_wp2
                        repeat (go_quiet (fail); try go_wp2)
                        go_meet
                        case rel => exact ⟨_, (decide ((wrap64 ((rd x7_3 ((rd_T37 l0 x10_3).f0)) + ((rd_T37 l0 x10_3).f2))) < (rd x7_3 ((rd_T37 l0 x10_3).f1)))), (by first | rfl | (simp; done) | (simp [*]; done)), H', ⟨by have := HK1.out; have := HK2.out; have := HK3.out; have := HJ15.out; first | omega | exact Nat.le_refl _⟩, ⟨by (try simp only [hl7_2]); (try simp only [hl7_3]); (with_reducible repeat (first | apply Kd.R_alloc | apply Kd.R_drewN | apply Kd.R_drew)); exact HO_7.out⟩, ⟨lb0_ HB.out⟩⟩
                      ·
                       rw [if_neg c31] at H
                       exact absurd H (by simp)
                     ·
                      rw [if_neg c30] at H
                      exact absurd H (by simp)
                    ·
                     rw [if_neg c29] at H
                     have c29b0 : decide (0 ≤ (rd x7_3 ((rd_T37 l0 x10_3).f0))) = false := decide_eq_false c29; clear c29
                     (first | rw [c29b0] | (simp only [i64_w, i32_w]; rw [c29b0]) | skip)
                     have H' := Aside0.mk H; clear H; have p119 : 0 ≤ (((rd_T37 l0 x10_3).f0) : Int) := dt_; have q119 : ((rd_T37 l0 x10_3).f0) < (x7_3.length : Int) := dt_; obtain ⟨ad119, e119, hx119_0⟩ := Kd.at_int (Kd.R_reads' HO_7.out).2.2 ((rd_T37 l0 x10_3).f0) p119 q119
                     obtain rfl : (⟨go10, 0, none⟩ : Addr) = ad119 := (by injection e119)
                     (first | simp only [add_plain] at hx119_0 | simp only [add_at] at hx119_0 | simp only [Addr.add, Nat.zero_add] at hx119_0 | skip)
                     replace p119 := eq_true p119; replace q119 := eq_true q119
                     go_wp2
                     repeat (go_quiet (fail); try go_wp2)
                     go_meet
                     case rel => exact ⟨_, (false), (by first | rfl | (simp; done) | (simp [*]; done)), H', ⟨by have := HK1.out; have := HK2.out; have := HK3.out; have := HJ15.out; first | omega | exact Nat.le_refl _⟩, ⟨by (try simp only [hl7_2]); (try simp only [hl7_3]); (with_reducible repeat (first | apply Kd.R_alloc | apply Kd.R_drewN | apply Kd.R_drew)); exact HO_7.out⟩, ⟨lb0_ HB.out⟩⟩
                   case rest =>
                    clear HC28
                    try clear c1
                    try clear p1
                    try clear q1
                    try clear hx1
                    try clear qi1
                    try clear c2
                    try clear p2
                    try clear c3
                    try clear c6
                    try clear c6b0
                    try clear p6
                    try clear c7
                    try clear c8
                    try clear c9
                    try clear c9b0
                    try clear c9b1
                    try clear p10
                    try clear q10
                    try clear hx10
                    try clear qi10
                    try clear hf10
                    try clear p11
                    try clear q11
                    try clear hx11
                    try clear p12
                    try clear q12
                    try clear hx12
                    try clear c13
                    try clear c14
                    try clear c14b0
                    try clear c15
                    try clear c15b0
                    try clear c17
                    try clear c17b0
                    try clear c18
                    try clear c18b0
                    try clear q19
                    try clear c20
                    try clear c21
                    try clear c21b0
                    try clear c22
                    try clear c22b0
                    try clear c23
                    try clear c24
                    try clear c24b0
                    try clear c25
                    try clear c25b0
                    try clear c26
                    try clear c26b0
                    try clear c27
                    try clear c27b0
                    try clear c29
                    try clear c29b0
                    try clear c30
                    try clear c30b0
                    try clear c31
                    try clear c31b0
                    try clear c32
                    try clear c32b0
                    try clear hx10_0
                    try clear hx113_0
                    try clear hx113_1
                    try clear hx113_2
                    try clear hx113_3
                    try clear hx113_4
                    try clear hx114_0
                    try clear hx114_1
                    try clear hx114_2
                    try clear hx114_3
                    try clear hx114_4
                    try clear hx115_0
                    try clear hx116_0
                    try clear hx117_0
                    try clear hx118_0
                    try clear hx118_1
                    try clear hx118_2
                    try clear hx118_3
                    try clear hx118_4
                    try clear hx119_0
                    try clear hx120_0
                    try clear hx121_0
                    try clear p1
                    try clear p10
                    try clear p11
                    try clear p113
                    try clear p114
                    try clear p115
                    try clear p116
                    try clear p117
                    try clear p118
                    try clear p119
                    try clear p120
                    try clear p121
                    try clear p2
                    try clear p6
                    try clear q1
                    try clear q10
                    try clear q11
                    try clear q113
                    try clear q114
                    try clear q115
                    try clear q116
                    try clear q117
                    try clear q118
                    try clear q119
                    try clear q120
                    try clear q121
                    try clear q19
                    obtain ⟨kq, x83_27, rfl, HA, HJ27, HO_7, HB⟩ := hcut
                    cases kq with
                    | zero => exact absurd HA.out (by simp [spec_l25Out.j4])
                    | succ kj27 =>
                     have H := HA.out; clear HA; simp only [spec_l25Out.j4] at H
                     by_cases c33 : x83_27 = true
                     ·
                      subst c33
                      have H1 : (if 0 ≤ ((rd_T37 l0 x10_3).f1) then (if ((rd_T37 l0 x10_3).f1) < (x7_3.length : Int) then ((some (x7_3.set (((rd_T37 l0 x10_3).f1) : Int).toNat (wrap64 ((rd x7_3 ((rd_T37 l0 x10_3).f0)) + ((rd_T37 l0 x10_3).f2))) : List Int)).bind fun y122 => (if 0 ≤ x10_3 then (if x10_3 < (l0.length : Int) then (if (rd y122 ((rd_T37 l0 x10_3).f1)) ≥ 0 then (if 0 ≤ ((rd_T37 l0 x10_3).f0) then (if ((rd_T37 l0 x10_3).f0) < (x7_3.length : Int) then (if (rd y122 ((rd_T37 l0 x10_3).f0)) < 0 then (spec_l25Out.l2 kj27 l0 l1 a2 (y122.set (((rd_T37 l0 x10_3).f0) : Int).toNat (wrap64 ((rd y122 ((rd_T37 l0 x10_3).f1)) + ((rd_T37 l0 x10_3).f2)))) true (wrap64 (x10_3 + 1))) else (if (wrap64 ((rd y122 ((rd_T37 l0 x10_3).f1)) + ((rd_T37 l0 x10_3).f2))) < (rd y122 ((rd_T37 l0 x10_3).f0)) then (spec_l25Out.l2 kj27 l0 l1 a2 (y122.set (((rd_T37 l0 x10_3).f0) : Int).toNat (wrap64 ((rd y122 ((rd_T37 l0 x10_3).f1)) + ((rd_T37 l0 x10_3).f2)))) true (wrap64 (x10_3 + 1))) else (spec_l25Out.l2 kj27 l0 l1 a2 y122 true (wrap64 (x10_3 + 1))))) else (none)) else (none)) else (spec_l25Out.l2 kj27 l0 l1 a2 y122 true (wrap64 (x10_3 + 1)))) else (none)) else (none))) else (none)) else (none)) = some r := by rw [if_pos rfl] at H; exact H
                      clear H; have H := H1; clear H1
                      by_cases c34 : 0 ≤ ((rd_T37 l0 x10_3).f1)
                      ·
                       rw [if_pos c34] at H
                       have c34b0 : decide (0 ≤ ((rd_T37 l0 x10_3).f1)) = true := decide_eq_true c34; clear c34
                       by_cases c35 : ((rd_T37 l0 x10_3).f1) < (x7_3.length : Int)
                       ·
                        rw [if_pos c35] at H
                        have c35b0 : decide (((rd_T37 l0 x10_3).f1) < (x7_3.length : Int)) = true := decide_eq_true c35; clear c35
                        obtain ⟨y122, hy122⟩ : ∃ y_ : List Int, y_ = (x7_3.set (((rd_T37 l0 x10_3).f1) : Int).toNat (wrap64 ((rd x7_3 ((rd_T37 l0 x10_3).f0)) + ((rd_T37 l0 x10_3).f2)))) := ⟨_, rfl⟩
                        replace H : (if 0 ≤ x10_3 then (if x10_3 < (l0.length : Int) then (if (rd y122 ((rd_T37 l0 x10_3).f1)) ≥ 0 then (if 0 ≤ ((rd_T37 l0 x10_3).f0) then (if ((rd_T37 l0 x10_3).f0) < (x7_3.length : Int) then (if (rd y122 ((rd_T37 l0 x10_3).f0)) < 0 then (spec_l25Out.l2 kj27 l0 l1 a2 (y122.set (((rd_T37 l0 x10_3).f0) : Int).toNat (wrap64 ((rd y122 ((rd_T37 l0 x10_3).f1)) + ((rd_T37 l0 x10_3).f2)))) true (wrap64 (x10_3 + 1))) else (if (wrap64 ((rd y122 ((rd_T37 l0 x10_3).f1)) + ((rd_T37 l0 x10_3).f2))) < (rd y122 ((rd_T37 l0 x10_3).f0)) then (spec_l25Out.l2 kj27 l0 l1 a2 (y122.set (((rd_T37 l0 x10_3).f0) : Int).toNat (wrap64 ((rd y122 ((rd_T37 l0 x10_3).f1)) + ((rd_T37 l0 x10_3).f2)))) true (wrap64 (x10_3 + 1))) else (spec_l25Out.l2 kj27 l0 l1 a2 y122 true (wrap64 (x10_3 + 1))))) else (none)) else (none)) else (spec_l25Out.l2 kj27 l0 l1 a2 y122 true (wrap64 (x10_3 + 1)))) else (none)) else (none)) = some r := by first | (rw [hy122]; with_reducible exact H) | (have H2_ := (Option.bind_some _ _).symm.trans H; rw [hy122]; with_reducible exact H2_) | (have H2_ := (Option.bind_some _ _).symm.trans H; with_reducible exact H2_) | with_reducible exact H | (rw [hy122]; exact H) | exact H
                        have Ny122 := Aside0.mk hy122; clear hy122
                        by_cases c37 : 0 ≤ x10_3
                        ·
                         rw [if_pos c37] at H
                         have c37b0 : decide (0 ≤ x10_3) = true := decide_eq_true c37; clear c37
                         by_cases c38 : x10_3 < (l0.length : Int)
                         ·
                          rw [if_pos c38] at H
                          have c38b0 : decide (x10_3 < (l0.length : Int)) = true := decide_eq_true c38; clear c38
                          by_cases c39 : (rd y122 ((rd_T37 l0 x10_3).f1)) ≥ 0
                          ·
                           rw [if_pos c39] at H
                           have c39b0 : decide (0 ≤ (rd y122 ((rd_T37 l0 x10_3).f1))) = true := decide_eq_true c39; clear c39
                           by_cases c40 : 0 ≤ ((rd_T37 l0 x10_3).f0)
                           ·
                            rw [if_pos c40] at H
                            have c40b0 : decide (0 ≤ ((rd_T37 l0 x10_3).f0)) = true := decide_eq_true c40; clear c40
                            by_cases c41 : ((rd_T37 l0 x10_3).f0) < (x7_3.length : Int)
                            ·
                             rw [if_pos c41] at H
                             have c41b0 : decide (((rd_T37 l0 x10_3).f0) < (x7_3.length : Int)) = true := decide_eq_true c41; clear c41
                             by_cases c42 : (rd y122 ((rd_T37 l0 x10_3).f0)) < 0
                             ·
                              rw [if_pos c42] at H
                              have c42b0 : decide ((rd y122 ((rd_T37 l0 x10_3).f0)) < 0) = true := decide_eq_true c42; clear c42
                              obtain ⟨y127, hy127⟩ : ∃ y_ : List Int, y_ = (y122.set (((rd_T37 l0 x10_3).f0) : Int).toNat (wrap64 ((rd y122 ((rd_T37 l0 x10_3).f1)) + ((rd_T37 l0 x10_3).f2)))) := ⟨_, rfl⟩
                              replace H : (spec_l25Out.l2 kj27 l0 l1 a2 y127 true (wrap64 (x10_3 + 1))) = some r := by first | (rw [hy127]; with_reducible exact H) | (have H2_ := (Option.bind_some _ _).symm.trans H; rw [hy127]; with_reducible exact H2_) | (have H2_ := (Option.bind_some _ _).symm.trans H; with_reducible exact H2_) | with_reducible exact H | (rw [hy127]; exact H) | exact H
                              have Ny127 := Aside0.mk hy127; clear hy127; have H' := Aside0.mk H; clear H; have p36 : 0 ≤ (((rd_T37 l0 x10_3).f1) : Int) := dt_; have q36 : (((rd_T37 l0 x10_3).f1) : Int) < ((x7_3.length : Int) : Int) := dt_; obtain ⟨hx36_0, hf36_0⟩ := Kd.R_celln 0 HO_7.out (((rd_T37 l0 x10_3).f1) : Int) p36 q36; replace p36 := eq_true p36; replace q36 := eq_true q36; have HP44 := Kd.R_putg HO_7.out (((rd_T37 l0 x10_3).f1) : Int) (wrap64 ((rd x7_3 ((rd_T37 l0 x10_3).f0)) + ((rd_T37 l0 x10_3).f2)))
                              go_wp2_with (first | ((with_reducible refine gate_store (t := 3) (p := 87) rfl ?_); (try (rw [drewN_self wc]; generalize hq_ : World.drewN wc _ = wc; replace HO_7 := Aside0.mk (Kd.R_at hq_ HO_7.out); replace HB := Aside0.mk (below_at hq_ HB.out); clear hq_; (try (have HP44 := Kd.R_putg HO_7.out (((rd_T37 l0 x10_3).f1) : Int) (wrap64 ((rd x7_3 ((rd_T37 l0 x10_3).f0)) + ((rd_T37 l0 x10_3).f2))))))); refine store_event (t := 3) (p := 87) (v := ?vo_w45) (w1 := (wc.setCell ⟨go10, (((rd_T37 l0 x10_3).f1) : Int).toNat, none⟩ (.int .i64 (wrap64 ((rd x7_3 ((rd_T37 l0 x10_3).f0)) + ((rd_T37 l0 x10_3).f2)))))) ?hg ?ho ?hn ?hr ?_; (case ho => rfl); (case hg => rfl); (case hn => rfl); (case hr => first | (go_simp; done) | (go_simp; rfl)); intro w45 hw; have hg : wc.grownBy w45 (some go10) := (by rw [hw]; exact HP44.2); have hp_ : Kd.R (Kd.int .i64) 3 w45 w.heap.size (fun _ => True) (.slice (some ⟨go10, 0, none⟩) x7_3.length co10) y122 := (by rw [hw, Ny122.out]; exact HP44.1); clear HP44; replace HO_7 := Aside0.mk (hp_); replace HB := Aside0.mk ((by rw [hw]; exact below_set (HB.out) GB10.out : Below w.heap.size w w45)); clear hg hw hp_; have p123 : 0 ≤ (((rd_T37 l0 x10_3).f1) : Int) := dt_; have q123 : ((rd_T37 l0 x10_3).f1) < (y122.length : Int) := (by have h_ : (((rd_T37 l0 x10_3).f1) : Int) < ((x7_3.length : Int) : Int) := dt_; first | (have e_ := (Kd.R_reads' HO_7.out).1; omega) | simpa only [Ny122.out, List.length_set] using h_); have ql123 : ((((rd_T37 l0 x10_3).f1) : Int) < ((x7_3.length : Int) : Int)) = True := eq_true (dt_); obtain ⟨ad123, e123, hx123_0⟩ := Kd.at_int (Kd.R_reads' HO_7.out).2.2 ((rd_T37 l0 x10_3).f1) p123 q123; obtain rfl : (⟨go10, 0, none⟩ : Addr) = ad123 := (by injection e123); (first | simp only [add_plain] at hx123_0 | simp only [add_at] at hx123_0 | simp only [Addr.add, Nat.zero_add] at hx123_0 | skip); replace p123 := eq_true p123; replace q123 := eq_true q123; have p124 : 0 ≤ (x10_3 : Int) := dt_; have q124 : x10_3 < (l0.length : Int) := dt_; obtain ⟨ad124, e124, hx124_0, hx124_1, hx124_2, hx124_3, hx124_4⟩ := at_T37 HR0.out x10_3 p124 q124; obtain rfl : ad113 = ad124 := (by injection e124); replace hx124_0 := bc_ HB.out hx124_0; replace hx124_1 := bc_ HB.out hx124_1; replace hx124_2 := bc_ HB.out hx124_2; replace hx124_3 := bc_ HB.out hx124_3; replace hx124_4 := bc_ HB.out hx124_4; replace p124 := eq_true p124; replace q124 := eq_true q124; have p125 : 0 ≤ (((rd_T37 l0 x10_3).f1) : Int) := dt_; have q125 : ((rd_T37 l0 x10_3).f1) < (y122.length : Int) := (by have h_ : (((rd_T37 l0 x10_3).f1) : Int) < ((x7_3.length : Int) : Int) := dt_; first | (have e_ := (Kd.R_reads' HO_7.out).1; omega) | simpa only [Ny122.out, List.length_set] using h_); have ql125 : ((((rd_T37 l0 x10_3).f1) : Int) < ((x7_3.length : Int) : Int)) = True := eq_true (dt_); obtain ⟨ad125, e125, hx125_0⟩ := Kd.at_int (Kd.R_reads' HO_7.out).2.2 ((rd_T37 l0 x10_3).f1) p125 q125; obtain rfl : (⟨go10, 0, none⟩ : Addr) = ad125 := (by injection e125); (first | simp only [add_plain] at hx125_0 | simp only [add_at] at hx125_0 | simp only [Addr.add, Nat.zero_add] at hx125_0 | skip); replace p125 := eq_true p125; replace q125 := eq_true q125; have p126 : 0 ≤ (((rd_T37 l0 x10_3).f0) : Int) := dt_; have q126 : ((rd_T37 l0 x10_3).f0) < (y122.length : Int) := (by have h_ : (((rd_T37 l0 x10_3).f0) : Int) < ((x7_3.length : Int) : Int) := dt_; first | (have e_ := (Kd.R_reads' HO_7.out).1; omega) | simpa only [Ny122.out, List.length_set] using h_); have ql126 : ((((rd_T37 l0 x10_3).f0) : Int) < ((x7_3.length : Int) : Int)) = True := eq_true (dt_); obtain ⟨ad126, e126, hx126_0⟩ := Kd.at_int (Kd.R_reads' HO_7.out).2.2 ((rd_T37 l0 x10_3).f0) p126 q126; obtain rfl : (⟨go10, 0, none⟩ : Addr) = ad126 := (by injection e126); (first | simp only [add_plain] at hx126_0 | simp only [add_at] at hx126_0 | simp only [Addr.add, Nat.zero_add] at hx126_0 | skip); replace p126 := eq_true p126; replace q126 := eq_true q126; have p43 : 0 ≤ (((rd_T37 l0 x10_3).f0) : Int) := dt_; have q43 : (((rd_T37 l0 x10_3).f0) : Int) < ((x7_3.length : Int) : Int) := dt_; obtain ⟨hx43_0, hf43_0⟩ := Kd.R_celln 0 HO_7.out (((rd_T37 l0 x10_3).f0) : Int) p43 q43; replace p43 := eq_true p43; replace q43 := eq_true q43; obtain ⟨hy46_, hz46_⟩ := Kd.R_celln 0 HO_7.out (((rd_T37 l0 x10_3).f0) : Int) (dt_) (dt_); have HP46 := Kd.R_putg HO_7.out (((rd_T37 l0 x10_3).f0) : Int) (wrap64 ((rd y122 ((rd_T37 l0 x10_3).f1)) + ((rd_T37 l0 x10_3).f2)))) | ((with_reducible refine gate_store (t := 3) (p := 121) rfl ?_); (try (rw [drewN_self w45]; generalize hq_ : World.drewN w45 _ = w45; replace HO_7 := Aside0.mk (Kd.R_at hq_ HO_7.out); replace HB := Aside0.mk (below_at hq_ HB.out); clear hq_; (try (obtain ⟨hy46_, hz46_⟩ := Kd.R_celln 0 HO_7.out (((rd_T37 l0 x10_3).f0) : Int) (dt_) (dt_))); (try (have HP46 := Kd.R_putg HO_7.out (((rd_T37 l0 x10_3).f0) : Int) (wrap64 ((rd y122 ((rd_T37 l0 x10_3).f1)) + ((rd_T37 l0 x10_3).f2))))))); refine store_event (t := 3) (p := 121) (v := ?vo_w47) (w1 := (w45.setCell ⟨go10, (((rd_T37 l0 x10_3).f0) : Int).toNat, none⟩ (.int .i64 (wrap64 ((rd y122 ((rd_T37 l0 x10_3).f1)) + ((rd_T37 l0 x10_3).f2)))))) ?hg ?ho ?hn ?hr ?_; (case ho => rfl); (case hg => rfl); (case hn => rfl); (case hr => first | (go_simp; done) | (go_simp; rfl)); intro w47 hw; have hg : w45.grownBy w47 (some go10) := (by rw [hw]; exact HP46.2); have hp_ : Kd.R (Kd.int .i64) 3 w47 w.heap.size (fun _ => True) (.slice (some ⟨go10, 0, none⟩) x7_3.length co10) y127 := (by rw [hw, Ny127.out]; exact HP46.1); clear HP46; replace HO_7 := Aside0.mk (hp_); replace HB := Aside0.mk ((by rw [hw]; exact below_set (HB.out) GB10.out : Below w.heap.size w w47)); clear hg hw hp_))
                              repeat (go_quiet (first | ((with_reducible refine gate_store (t := 3) (p := 87) rfl ?_); (try (rw [drewN_self wc]; generalize hq_ : World.drewN wc _ = wc; replace HO_7 := Aside0.mk (Kd.R_at hq_ HO_7.out); replace HB := Aside0.mk (below_at hq_ HB.out); clear hq_; (try (have HP44 := Kd.R_putg HO_7.out (((rd_T37 l0 x10_3).f1) : Int) (wrap64 ((rd x7_3 ((rd_T37 l0 x10_3).f0)) + ((rd_T37 l0 x10_3).f2))))))); refine store_event (t := 3) (p := 87) (v := ?vo_w45) (w1 := (wc.setCell ⟨go10, (((rd_T37 l0 x10_3).f1) : Int).toNat, none⟩ (.int .i64 (wrap64 ((rd x7_3 ((rd_T37 l0 x10_3).f0)) + ((rd_T37 l0 x10_3).f2)))))) ?hg ?ho ?hn ?hr ?_; (case ho => rfl); (case hg => rfl); (case hn => rfl); (case hr => first | (go_simp; done) | (go_simp; rfl)); intro w45 hw; have hg : wc.grownBy w45 (some go10) := (by rw [hw]; exact HP44.2); have hp_ : Kd.R (Kd.int .i64) 3 w45 w.heap.size (fun _ => True) (.slice (some ⟨go10, 0, none⟩) x7_3.length co10) y122 := (by rw [hw, Ny122.out]; exact HP44.1); clear HP44; replace HO_7 := Aside0.mk (hp_); replace HB := Aside0.mk ((by rw [hw]; exact below_set (HB.out) GB10.out : Below w.heap.size w w45)); clear hg hw hp_; have p123 : 0 ≤ (((rd_T37 l0 x10_3).f1) : Int) := dt_; have q123 : ((rd_T37 l0 x10_3).f1) < (y122.length : Int) := (by have h_ : (((rd_T37 l0 x10_3).f1) : Int) < ((x7_3.length : Int) : Int) := dt_; first | (have e_ := (Kd.R_reads' HO_7.out).1; omega) | simpa only [Ny122.out, List.length_set] using h_); have ql123 : ((((rd_T37 l0 x10_3).f1) : Int) < ((x7_3.length : Int) : Int)) = True := eq_true (dt_); obtain ⟨ad123, e123, hx123_0⟩ := Kd.at_int (Kd.R_reads' HO_7.out).2.2 ((rd_T37 l0 x10_3).f1) p123 q123; obtain rfl : (⟨go10, 0, none⟩ : Addr) = ad123 := (by injection e123); (first | simp only [add_plain] at hx123_0 | simp only [add_at] at hx123_0 | simp only [Addr.add, Nat.zero_add] at hx123_0 | skip); replace p123 := eq_true p123; replace q123 := eq_true q123; have p124 : 0 ≤ (x10_3 : Int) := dt_; have q124 : x10_3 < (l0.length : Int) := dt_; obtain ⟨ad124, e124, hx124_0, hx124_1, hx124_2, hx124_3, hx124_4⟩ := at_T37 HR0.out x10_3 p124 q124; obtain rfl : ad113 = ad124 := (by injection e124); replace hx124_0 := bc_ HB.out hx124_0; replace hx124_1 := bc_ HB.out hx124_1; replace hx124_2 := bc_ HB.out hx124_2; replace hx124_3 := bc_ HB.out hx124_3; replace hx124_4 := bc_ HB.out hx124_4; replace p124 := eq_true p124; replace q124 := eq_true q124; have p125 : 0 ≤ (((rd_T37 l0 x10_3).f1) : Int) := dt_; have q125 : ((rd_T37 l0 x10_3).f1) < (y122.length : Int) := (by have h_ : (((rd_T37 l0 x10_3).f1) : Int) < ((x7_3.length : Int) : Int) := dt_; first | (have e_ := (Kd.R_reads' HO_7.out).1; omega) | simpa only [Ny122.out, List.length_set] using h_); have ql125 : ((((rd_T37 l0 x10_3).f1) : Int) < ((x7_3.length : Int) : Int)) = True := eq_true (dt_); obtain ⟨ad125, e125, hx125_0⟩ := Kd.at_int (Kd.R_reads' HO_7.out).2.2 ((rd_T37 l0 x10_3).f1) p125 q125; obtain rfl : (⟨go10, 0, none⟩ : Addr) = ad125 := (by injection e125); (first | simp only [add_plain] at hx125_0 | simp only [add_at] at hx125_0 | simp only [Addr.add, Nat.zero_add] at hx125_0 | skip); replace p125 := eq_true p125; replace q125 := eq_true q125; have p126 : 0 ≤ (((rd_T37 l0 x10_3).f0) : Int) := dt_; have q126 : ((rd_T37 l0 x10_3).f0) < (y122.length : Int) := (by have h_ : (((rd_T37 l0 x10_3).f0) : Int) < ((x7_3.length : Int) : Int) := dt_; first | (have e_ := (Kd.R_reads' HO_7.out).1; omega) | simpa only [Ny122.out, List.length_set] using h_); have ql126 : ((((rd_T37 l0 x10_3).f0) : Int) < ((x7_3.length : Int) : Int)) = True := eq_true (dt_); obtain ⟨ad126, e126, hx126_0⟩ := Kd.at_int (Kd.R_reads' HO_7.out).2.2 ((rd_T37 l0 x10_3).f0) p126 q126; obtain rfl : (⟨go10, 0, none⟩ : Addr) = ad126 := (by injection e126); (first | simp only [add_plain] at hx126_0 | simp only [add_at] at hx126_0 | simp only [Addr.add, Nat.zero_add] at hx126_0 | skip); replace p126 := eq_true p126; replace q126 := eq_true q126; have p43 : 0 ≤ (((rd_T37 l0 x10_3).f0) : Int) := dt_; have q43 : (((rd_T37 l0 x10_3).f0) : Int) < ((x7_3.length : Int) : Int) := dt_; obtain ⟨hx43_0, hf43_0⟩ := Kd.R_celln 0 HO_7.out (((rd_T37 l0 x10_3).f0) : Int) p43 q43; replace p43 := eq_true p43; replace q43 := eq_true q43; obtain ⟨hy46_, hz46_⟩ := Kd.R_celln 0 HO_7.out (((rd_T37 l0 x10_3).f0) : Int) (dt_) (dt_); have HP46 := Kd.R_putg HO_7.out (((rd_T37 l0 x10_3).f0) : Int) (wrap64 ((rd y122 ((rd_T37 l0 x10_3).f1)) + ((rd_T37 l0 x10_3).f2)))) | ((with_reducible refine gate_store (t := 3) (p := 121) rfl ?_); (try (rw [drewN_self w45]; generalize hq_ : World.drewN w45 _ = w45; replace HO_7 := Aside0.mk (Kd.R_at hq_ HO_7.out); replace HB := Aside0.mk (below_at hq_ HB.out); clear hq_; (try (obtain ⟨hy46_, hz46_⟩ := Kd.R_celln 0 HO_7.out (((rd_T37 l0 x10_3).f0) : Int) (dt_) (dt_))); (try (have HP46 := Kd.R_putg HO_7.out (((rd_T37 l0 x10_3).f0) : Int) (wrap64 ((rd y122 ((rd_T37 l0 x10_3).f1)) + ((rd_T37 l0 x10_3).f2))))))); refine store_event (t := 3) (p := 121) (v := ?vo_w47) (w1 := (w45.setCell ⟨go10, (((rd_T37 l0 x10_3).f0) : Int).toNat, none⟩ (.int .i64 (wrap64 ((rd y122 ((rd_T37 l0 x10_3).f1)) + ((rd_T37 l0 x10_3).f2)))))) ?hg ?ho ?hn ?hr ?_; (case ho => rfl); (case hg => rfl); (case hn => rfl); (case hr => first | (go_simp; done) | (go_simp; rfl)); intro w47 hw; have hg : w45.grownBy w47 (some go10) := (by rw [hw]; exact HP46.2); have hp_ : Kd.R (Kd.int .i64) 3 w47 w.heap.size (fun _ => True) (.slice (some ⟨go10, 0, none⟩) x7_3.length co10) y127 := (by rw [hw, Ny127.out]; exact HP46.1); clear HP46; replace HO_7 := Aside0.mk (hp_); replace HB := Aside0.mk ((by rw [hw]; exact below_set (HB.out) GB10.out : Below w.heap.size w w47)); clear hg hw hp_)); try go_wp2_with (first | ((with_reducible refine gate_store (t := 3) (p := 87) rfl ?_); (try (rw [drewN_self wc]; generalize hq_ : World.drewN wc _ = wc; replace HO_7 := Aside0.mk (Kd.R_at hq_ HO_7.out); replace HB := Aside0.mk (below_at hq_ HB.out); clear hq_; (try (have HP44 := Kd.R_putg HO_7.out (((rd_T37 l0 x10_3).f1) : Int) (wrap64 ((rd x7_3 ((rd_T37 l0 x10_3).f0)) + ((rd_T37 l0 x10_3).f2))))))); refine store_event (t := 3) (p := 87) (v := ?vo_w45) (w1 := (wc.setCell ⟨go10, (((rd_T37 l0 x10_3).f1) : Int).toNat, none⟩ (.int .i64 (wrap64 ((rd x7_3 ((rd_T37 l0 x10_3).f0)) + ((rd_T37 l0 x10_3).f2)))))) ?hg ?ho ?hn ?hr ?_; (case ho => rfl); (case hg => rfl); (case hn => rfl); (case hr => first | (go_simp; done) | (go_simp; rfl)); intro w45 hw; have hg : wc.grownBy w45 (some go10) := (by rw [hw]; exact HP44.2); have hp_ : Kd.R (Kd.int .i64) 3 w45 w.heap.size (fun _ => True) (.slice (some ⟨go10, 0, none⟩) x7_3.length co10) y122 := (by rw [hw, Ny122.out]; exact HP44.1); clear HP44; replace HO_7 := Aside0.mk (hp_); replace HB := Aside0.mk ((by rw [hw]; exact below_set (HB.out) GB10.out : Below w.heap.size w w45)); clear hg hw hp_; have p123 : 0 ≤ (((rd_T37 l0 x10_3).f1) : Int) := dt_; have q123 : ((rd_T37 l0 x10_3).f1) < (y122.length : Int) := (by have h_ : (((rd_T37 l0 x10_3).f1) : Int) < ((x7_3.length : Int) : Int) := dt_; first | (have e_ := (Kd.R_reads' HO_7.out).1; omega) | simpa only [Ny122.out, List.length_set] using h_); have ql123 : ((((rd_T37 l0 x10_3).f1) : Int) < ((x7_3.length : Int) : Int)) = True := eq_true (dt_); obtain ⟨ad123, e123, hx123_0⟩ := Kd.at_int (Kd.R_reads' HO_7.out).2.2 ((rd_T37 l0 x10_3).f1) p123 q123; obtain rfl : (⟨go10, 0, none⟩ : Addr) = ad123 := (by injection e123); (first | simp only [add_plain] at hx123_0 | simp only [add_at] at hx123_0 | simp only [Addr.add, Nat.zero_add] at hx123_0 | skip); replace p123 := eq_true p123; replace q123 := eq_true q123; have p124 : 0 ≤ (x10_3 : Int) := dt_; have q124 : x10_3 < (l0.length : Int) := dt_; obtain ⟨ad124, e124, hx124_0, hx124_1, hx124_2, hx124_3, hx124_4⟩ := at_T37 HR0.out x10_3 p124 q124; obtain rfl : ad113 = ad124 := (by injection e124); replace hx124_0 := bc_ HB.out hx124_0; replace hx124_1 := bc_ HB.out hx124_1; replace hx124_2 := bc_ HB.out hx124_2; replace hx124_3 := bc_ HB.out hx124_3; replace hx124_4 := bc_ HB.out hx124_4; replace p124 := eq_true p124; replace q124 := eq_true q124; have p125 : 0 ≤ (((rd_T37 l0 x10_3).f1) : Int) := dt_; have q125 : ((rd_T37 l0 x10_3).f1) < (y122.length : Int) := (by have h_ : (((rd_T37 l0 x10_3).f1) : Int) < ((x7_3.length : Int) : Int) := dt_; first | (have e_ := (Kd.R_reads' HO_7.out).1; omega) | simpa only [Ny122.out, List.length_set] using h_); have ql125 : ((((rd_T37 l0 x10_3).f1) : Int) < ((x7_3.length : Int) : Int)) = True := eq_true (dt_); obtain ⟨ad125, e125, hx125_0⟩ := Kd.at_int (Kd.R_reads' HO_7.out).2.2 ((rd_T37 l0 x10_3).f1) p125 q125; obtain rfl : (⟨go10, 0, none⟩ : Addr) = ad125 := (by injection e125); (first | simp only [add_plain] at hx125_0 | simp only [add_at] at hx125_0 | simp only [Addr.add, Nat.zero_add] at hx125_0 | skip); replace p125 := eq_true p125; replace q125 := eq_true q125; have p126 : 0 ≤ (((rd_T37 l0 x10_3).f0) : Int) := dt_; have q126 : ((rd_T37 l0 x10_3).f0) < (y122.length : Int) := (by have h_ : (((rd_T37 l0 x10_3).f0) : Int) < ((x7_3.length : Int) : Int) := dt_; first | (have e_ := (Kd.R_reads' HO_7.out).1; omega) | simpa only [Ny122.out, List.length_set] using h_); have ql126 : ((((rd_T37 l0 x10_3).f0) : Int) < ((x7_3.length : Int) : Int)) = True := eq_true (dt_); obtain ⟨ad126, e126, hx126_0⟩ := Kd.at_int (Kd.R_reads' HO_7.out).2.2 ((rd_T37 l0 x10_3).f0) p126 q126; obtain rfl : (⟨go10, 0, none⟩ : Addr) = ad126 := (by injection e126); (first | simp only [add_plain] at hx126_0 | simp only [add_at] at hx126_0 | simp only [Addr.add, Nat.zero_add] at hx126_0 | skip); replace p126 := eq_true p126; replace q126 := eq_true q126; have p43 : 0 ≤ (((rd_T37 l0 x10_3).f0) : Int) := dt_; have q43 : (((rd_T37 l0 x10_3).f0) : Int) < ((x7_3.length : Int) : Int) := dt_; obtain ⟨hx43_0, hf43_0⟩ := Kd.R_celln 0 HO_7.out (((rd_T37 l0 x10_3).f0) : Int) p43 q43; replace p43 := eq_true p43; replace q43 := eq_true q43; obtain ⟨hy46_, hz46_⟩ := Kd.R_celln 0 HO_7.out (((rd_T37 l0 x10_3).f0) : Int) (dt_) (dt_); have HP46 := Kd.R_putg HO_7.out (((rd_T37 l0 x10_3).f0) : Int) (wrap64 ((rd y122 ((rd_T37 l0 x10_3).f1)) + ((rd_T37 l0 x10_3).f2)))) | ((with_reducible refine gate_store (t := 3) (p := 121) rfl ?_); (try (rw [drewN_self w45]; generalize hq_ : World.drewN w45 _ = w45; replace HO_7 := Aside0.mk (Kd.R_at hq_ HO_7.out); replace HB := Aside0.mk (below_at hq_ HB.out); clear hq_; (try (obtain ⟨hy46_, hz46_⟩ := Kd.R_celln 0 HO_7.out (((rd_T37 l0 x10_3).f0) : Int) (dt_) (dt_))); (try (have HP46 := Kd.R_putg HO_7.out (((rd_T37 l0 x10_3).f0) : Int) (wrap64 ((rd y122 ((rd_T37 l0 x10_3).f1)) + ((rd_T37 l0 x10_3).f2))))))); refine store_event (t := 3) (p := 121) (v := ?vo_w47) (w1 := (w45.setCell ⟨go10, (((rd_T37 l0 x10_3).f0) : Int).toNat, none⟩ (.int .i64 (wrap64 ((rd y122 ((rd_T37 l0 x10_3).f1)) + ((rd_T37 l0 x10_3).f2)))))) ?hg ?ho ?hn ?hr ?_; (case ho => rfl); (case hg => rfl); (case hn => rfl); (case hr => first | (go_simp; done) | (go_simp; rfl)); intro w47 hw; have hg : w45.grownBy w47 (some go10) := (by rw [hw]; exact HP46.2); have hp_ : Kd.R (Kd.int .i64) 3 w47 w.heap.size (fun _ => True) (.slice (some ⟨go10, 0, none⟩) x7_3.length co10) y127 := (by rw [hw, Ny127.out]; exact HP46.1); clear HP46; replace HO_7 := Aside0.mk (hp_); replace HB := Aside0.mk ((by rw [hw]; exact below_set (HB.out) GB10.out : Below w.heap.size w w47)); clear hg hw hp_)))
                              (try simp only [← hl7_3])
                              go_roundg kj27
                              case measure => have := HK1.out; have := HK2.out; have := HK3.out; have := HJ15.out; have := HJ27.out; omega
                              case rel => exact ⟨(y127), (true), (wrap64 (x10_3 + 1)), (by first | rfl | (simp; done) | (simp [*]; done)), (by first | rfl | (simp; done) | (simp [*]; done)), H', ⟨by have := HK1.out; have := HK2.out; have := HK3.out; have := HJ15.out; have := HJ27.out; omega⟩, ⟨by (try simp only [hl7_2]); (try simp only [hl7_3]); (with_reducible repeat (first | apply Kd.R_alloc | apply Kd.R_drewN | apply Kd.R_drew)); first | exact HO_7.out | (rw [Ny127.out]; exact (Kd.R_putg (Kd.R_drewN HO_7.out _) _ _).1) | (rw [Ny127.out]; exact (Kd.R_putg HO_7.out _ _).1)⟩, ⟨by repeat (first | (with_reducible first | exact HB.out | apply below_alloc | apply pw_below_drewN | apply below_drew1) | exact HB.out | (first | exact below_set (pw_below_drewN HB.out _) GB10.out | exact below_set HB.out GB10.out))⟩⟩
                             ·
                              rw [if_neg c42] at H
                              have c42b0 : decide ((rd y122 ((rd_T37 l0 x10_3).f0)) < 0) = false := decide_eq_false c42; clear c42
                              by_cases c48 : (wrap64 ((rd y122 ((rd_T37 l0 x10_3).f1)) + ((rd_T37 l0 x10_3).f2))) < (rd y122 ((rd_T37 l0 x10_3).f0))
                              ·
                               rw [if_pos c48] at H
                               have c48b0 : decide ((wrap64 ((rd y122 ((rd_T37 l0 x10_3).f1)) + ((rd_T37 l0 x10_3).f2))) < (rd y122 ((rd_T37 l0 x10_3).f0))) = true := decide_eq_true c48; clear c48
                               obtain ⟨y129, hy129⟩ : ∃ y_ : List Int, y_ = (y122.set (((rd_T37 l0 x10_3).f0) : Int).toNat (wrap64 ((rd y122 ((rd_T37 l0 x10_3).f1)) + ((rd_T37 l0 x10_3).f2)))) := ⟨_, rfl⟩
                               replace H : (spec_l25Out.l2 kj27 l0 l1 a2 y129 true (wrap64 (x10_3 + 1))) = some r := by first | (rw [hy129]; with_reducible exact H) | (have H2_ := (Option.bind_some _ _).symm.trans H; rw [hy129]; with_reducible exact H2_) | (have H2_ := (Option.bind_some _ _).symm.trans H; with_reducible exact H2_) | with_reducible exact H | (rw [hy129]; exact H) | exact H
                               have Ny129 := Aside0.mk hy129; clear hy129; have H' := Aside0.mk H; clear H; have p36 : 0 ≤ (((rd_T37 l0 x10_3).f1) : Int) := dt_; have q36 : (((rd_T37 l0 x10_3).f1) : Int) < ((x7_3.length : Int) : Int) := dt_; obtain ⟨hx36_0, hf36_0⟩ := Kd.R_celln 0 HO_7.out (((rd_T37 l0 x10_3).f1) : Int) p36 q36; replace p36 := eq_true p36; replace q36 := eq_true q36; have HP50 := Kd.R_putg HO_7.out (((rd_T37 l0 x10_3).f1) : Int) (wrap64 ((rd x7_3 ((rd_T37 l0 x10_3).f0)) + ((rd_T37 l0 x10_3).f2)))
                               go_wp2_with (first | ((with_reducible refine gate_store (t := 3) (p := 87) rfl ?_); (try (rw [drewN_self wc]; generalize hq_ : World.drewN wc _ = wc; replace HO_7 := Aside0.mk (Kd.R_at hq_ HO_7.out); replace HB := Aside0.mk (below_at hq_ HB.out); clear hq_; (try (have HP50 := Kd.R_putg HO_7.out (((rd_T37 l0 x10_3).f1) : Int) (wrap64 ((rd x7_3 ((rd_T37 l0 x10_3).f0)) + ((rd_T37 l0 x10_3).f2))))))); refine store_event (t := 3) (p := 87) (v := ?vo_w51) (w1 := (wc.setCell ⟨go10, (((rd_T37 l0 x10_3).f1) : Int).toNat, none⟩ (.int .i64 (wrap64 ((rd x7_3 ((rd_T37 l0 x10_3).f0)) + ((rd_T37 l0 x10_3).f2)))))) ?hg ?ho ?hn ?hr ?_; (case ho => rfl); (case hg => rfl); (case hn => rfl); (case hr => first | (go_simp; done) | (go_simp; rfl)); intro w51 hw; have hg : wc.grownBy w51 (some go10) := (by rw [hw]; exact HP50.2); have hp_ : Kd.R (Kd.int .i64) 3 w51 w.heap.size (fun _ => True) (.slice (some ⟨go10, 0, none⟩) x7_3.length co10) y122 := (by rw [hw, Ny122.out]; exact HP50.1); clear HP50; replace HO_7 := Aside0.mk (hp_); replace HB := Aside0.mk ((by rw [hw]; exact below_set (HB.out) GB10.out : Below w.heap.size w w51)); clear hg hw hp_; have p123 : 0 ≤ (((rd_T37 l0 x10_3).f1) : Int) := dt_; have q123 : ((rd_T37 l0 x10_3).f1) < (y122.length : Int) := (by have h_ : (((rd_T37 l0 x10_3).f1) : Int) < ((x7_3.length : Int) : Int) := dt_; first | (have e_ := (Kd.R_reads' HO_7.out).1; omega) | simpa only [Ny122.out, List.length_set] using h_); have ql123 : ((((rd_T37 l0 x10_3).f1) : Int) < ((x7_3.length : Int) : Int)) = True := eq_true (dt_); obtain ⟨ad123, e123, hx123_0⟩ := Kd.at_int (Kd.R_reads' HO_7.out).2.2 ((rd_T37 l0 x10_3).f1) p123 q123; obtain rfl : (⟨go10, 0, none⟩ : Addr) = ad123 := (by injection e123); (first | simp only [add_plain] at hx123_0 | simp only [add_at] at hx123_0 | simp only [Addr.add, Nat.zero_add] at hx123_0 | skip); replace p123 := eq_true p123; replace q123 := eq_true q123; have p124 : 0 ≤ (x10_3 : Int) := dt_; have q124 : x10_3 < (l0.length : Int) := dt_; obtain ⟨ad124, e124, hx124_0, hx124_1, hx124_2, hx124_3, hx124_4⟩ := at_T37 HR0.out x10_3 p124 q124; obtain rfl : ad113 = ad124 := (by injection e124); replace hx124_0 := bc_ HB.out hx124_0; replace hx124_1 := bc_ HB.out hx124_1; replace hx124_2 := bc_ HB.out hx124_2; replace hx124_3 := bc_ HB.out hx124_3; replace hx124_4 := bc_ HB.out hx124_4; replace p124 := eq_true p124; replace q124 := eq_true q124; have p125 : 0 ≤ (((rd_T37 l0 x10_3).f1) : Int) := dt_; have q125 : ((rd_T37 l0 x10_3).f1) < (y122.length : Int) := (by have h_ : (((rd_T37 l0 x10_3).f1) : Int) < ((x7_3.length : Int) : Int) := dt_; first | (have e_ := (Kd.R_reads' HO_7.out).1; omega) | simpa only [Ny122.out, List.length_set] using h_); have ql125 : ((((rd_T37 l0 x10_3).f1) : Int) < ((x7_3.length : Int) : Int)) = True := eq_true (dt_); obtain ⟨ad125, e125, hx125_0⟩ := Kd.at_int (Kd.R_reads' HO_7.out).2.2 ((rd_T37 l0 x10_3).f1) p125 q125; obtain rfl : (⟨go10, 0, none⟩ : Addr) = ad125 := (by injection e125); (first | simp only [add_plain] at hx125_0 | simp only [add_at] at hx125_0 | simp only [Addr.add, Nat.zero_add] at hx125_0 | skip); replace p125 := eq_true p125; replace q125 := eq_true q125; have p126 : 0 ≤ (((rd_T37 l0 x10_3).f0) : Int) := dt_; have q126 : ((rd_T37 l0 x10_3).f0) < (y122.length : Int) := (by have h_ : (((rd_T37 l0 x10_3).f0) : Int) < ((x7_3.length : Int) : Int) := dt_; first | (have e_ := (Kd.R_reads' HO_7.out).1; omega) | simpa only [Ny122.out, List.length_set] using h_); have ql126 : ((((rd_T37 l0 x10_3).f0) : Int) < ((x7_3.length : Int) : Int)) = True := eq_true (dt_); obtain ⟨ad126, e126, hx126_0⟩ := Kd.at_int (Kd.R_reads' HO_7.out).2.2 ((rd_T37 l0 x10_3).f0) p126 q126; obtain rfl : (⟨go10, 0, none⟩ : Addr) = ad126 := (by injection e126); (first | simp only [add_plain] at hx126_0 | simp only [add_at] at hx126_0 | simp only [Addr.add, Nat.zero_add] at hx126_0 | skip); replace p126 := eq_true p126; replace q126 := eq_true q126; have p128 : 0 ≤ (((rd_T37 l0 x10_3).f0) : Int) := dt_; have q128 : ((rd_T37 l0 x10_3).f0) < (y122.length : Int) := (by have h_ : (((rd_T37 l0 x10_3).f0) : Int) < ((x7_3.length : Int) : Int) := dt_; first | (have e_ := (Kd.R_reads' HO_7.out).1; omega) | simpa only [Ny122.out, List.length_set] using h_); have ql128 : ((((rd_T37 l0 x10_3).f0) : Int) < ((x7_3.length : Int) : Int)) = True := eq_true (dt_); obtain ⟨ad128, e128, hx128_0⟩ := Kd.at_int (Kd.R_reads' HO_7.out).2.2 ((rd_T37 l0 x10_3).f0) p128 q128; obtain rfl : (⟨go10, 0, none⟩ : Addr) = ad128 := (by injection e128); (first | simp only [add_plain] at hx128_0 | simp only [add_at] at hx128_0 | simp only [Addr.add, Nat.zero_add] at hx128_0 | skip); replace p128 := eq_true p128; replace q128 := eq_true q128; have p49 : 0 ≤ (((rd_T37 l0 x10_3).f0) : Int) := dt_; have q49 : (((rd_T37 l0 x10_3).f0) : Int) < ((x7_3.length : Int) : Int) := dt_; obtain ⟨hx49_0, hf49_0⟩ := Kd.R_celln 0 HO_7.out (((rd_T37 l0 x10_3).f0) : Int) p49 q49; replace p49 := eq_true p49; replace q49 := eq_true q49; obtain ⟨hy52_, hz52_⟩ := Kd.R_celln 0 HO_7.out (((rd_T37 l0 x10_3).f0) : Int) (dt_) (dt_); have HP52 := Kd.R_putg HO_7.out (((rd_T37 l0 x10_3).f0) : Int) (wrap64 ((rd y122 ((rd_T37 l0 x10_3).f1)) + ((rd_T37 l0 x10_3).f2)))) | ((with_reducible refine gate_store (t := 3) (p := 121) rfl ?_); (try (rw [drewN_self w51]; generalize hq_ : World.drewN w51 _ = w51; replace HO_7 := Aside0.mk (Kd.R_at hq_ HO_7.out); replace HB := Aside0.mk (below_at hq_ HB.out); clear hq_; (try (obtain ⟨hy52_, hz52_⟩ := Kd.R_celln 0 HO_7.out (((rd_T37 l0 x10_3).f0) : Int) (dt_) (dt_))); (try (have HP52 := Kd.R_putg HO_7.out (((rd_T37 l0 x10_3).f0) : Int) (wrap64 ((rd y122 ((rd_T37 l0 x10_3).f1)) + ((rd_T37 l0 x10_3).f2))))))); refine store_event (t := 3) (p := 121) (v := ?vo_w53) (w1 := (w51.setCell ⟨go10, (((rd_T37 l0 x10_3).f0) : Int).toNat, none⟩ (.int .i64 (wrap64 ((rd y122 ((rd_T37 l0 x10_3).f1)) + ((rd_T37 l0 x10_3).f2)))))) ?hg ?ho ?hn ?hr ?_; (case ho => rfl); (case hg => rfl); (case hn => rfl); (case hr => first | (go_simp; done) | (go_simp; rfl)); intro w53 hw; have hg : w51.grownBy w53 (some go10) := (by rw [hw]; exact HP52.2); have hp_ : Kd.R (Kd.int .i64) 3 w53 w.heap.size (fun _ => True) (.slice (some ⟨go10, 0, none⟩) x7_3.length co10) y129 := (by rw [hw, Ny129.out]; exact HP52.1); clear HP52; replace HO_7 := Aside0.mk (hp_); replace HB := Aside0.mk ((by rw [hw]; exact below_set (HB.out) GB10.out : Below w.heap.size w w53)); clear hg hw hp_))
                               repeat (go_quiet (first | ((with_reducible refine gate_store (t := 3) (p := 87) rfl ?_); (try (rw [drewN_self wc]; generalize hq_ : World.drewN wc _ = wc; replace HO_7 := Aside0.mk (Kd.R_at hq_ HO_7.out); replace HB := Aside0.mk (below_at hq_ HB.out); clear hq_; (try (have HP50 := Kd.R_putg HO_7.out (((rd_T37 l0 x10_3).f1) : Int) (wrap64 ((rd x7_3 ((rd_T37 l0 x10_3).f0)) + ((rd_T37 l0 x10_3).f2))))))); refine store_event (t := 3) (p := 87) (v := ?vo_w51) (w1 := (wc.setCell ⟨go10, (((rd_T37 l0 x10_3).f1) : Int).toNat, none⟩ (.int .i64 (wrap64 ((rd x7_3 ((rd_T37 l0 x10_3).f0)) + ((rd_T37 l0 x10_3).f2)))))) ?hg ?ho ?hn ?hr ?_; (case ho => rfl); (case hg => rfl); (case hn => rfl); (case hr => first | (go_simp; done) | (go_simp; rfl)); intro w51 hw; have hg : wc.grownBy w51 (some go10) := (by rw [hw]; exact HP50.2); have hp_ : Kd.R (Kd.int .i64) 3 w51 w.heap.size (fun _ => True) (.slice (some ⟨go10, 0, none⟩) x7_3.length co10) y122 := (by rw [hw, Ny122.out]; exact HP50.1); clear HP50; replace HO_7 := Aside0.mk (hp_); replace HB := Aside0.mk ((by rw [hw]; exact below_set (HB.out) GB10.out : Below w.heap.size w w51)); clear hg hw hp_; have p123 : 0 ≤ (((rd_T37 l0 x10_3).f1) : Int) := dt_; have q123 : ((rd_T37 l0 x10_3).f1) < (y122.length : Int) := (by have h_ : (((rd_T37 l0 x10_3).f1) : Int) < ((x7_3.length : Int) : Int) := dt_; first | (have e_ := (Kd.R_reads' HO_7.out).1; omega) | simpa only [Ny122.out, List.length_set] using h_); have ql123 : ((((rd_T37 l0 x10_3).f1) : Int) < ((x7_3.length : Int) : Int)) = True := eq_true (dt_); obtain ⟨ad123, e123, hx123_0⟩ := Kd.at_int (Kd.R_reads' HO_7.out).2.2 ((rd_T37 l0 x10_3).f1) p123 q123; obtain rfl : (⟨go10, 0, none⟩ : Addr) = ad123 := (by injection e123); (first | simp only [add_plain] at hx123_0 | simp only [add_at] at hx123_0 | simp only [Addr.add, Nat.zero_add] at hx123_0 | skip); replace p123 := eq_true p123; replace q123 := eq_true q123; have p124 : 0 ≤ (x10_3 : Int) := dt_; have q124 : x10_3 < (l0.length : Int) := dt_; obtain ⟨ad124, e124, hx124_0, hx124_1, hx124_2, hx124_3, hx124_4⟩ := at_T37 HR0.out x10_3 p124 q124; obtain rfl : ad113 = ad124 := (by injection e124); replace hx124_0 := bc_ HB.out hx124_0; replace hx124_1 := bc_ HB.out hx124_1; replace hx124_2 := bc_ HB.out hx124_2; replace hx124_3 := bc_ HB.out hx124_3; replace hx124_4 := bc_ HB.out hx124_4; replace p124 := eq_true p124; replace q124 := eq_true q124; have p125 : 0 ≤ (((rd_T37 l0 x10_3).f1) : Int) := dt_; have q125 : ((rd_T37 l0 x10_3).f1) < (y122.length : Int) := (by have h_ : (((rd_T37 l0 x10_3).f1) : Int) < ((x7_3.length : Int) : Int) := dt_; first | (have e_ := (Kd.R_reads' HO_7.out).1; omega) | simpa only [Ny122.out, List.length_set] using h_); have ql125 : ((((rd_T37 l0 x10_3).f1) : Int) < ((x7_3.length : Int) : Int)) = True := eq_true (dt_); obtain ⟨ad125, e125, hx125_0⟩ := Kd.at_int (Kd.R_reads' HO_7.out).2.2 ((rd_T37 l0 x10_3).f1) p125 q125; obtain rfl : (⟨go10, 0, none⟩ : Addr) = ad125 := (by injection e125); (first | simp only [add_plain] at hx125_0 | simp only [add_at] at hx125_0 | simp only [Addr.add, Nat.zero_add] at hx125_0 | skip); replace p125 := eq_true p125; replace q125 := eq_true q125; have p126 : 0 ≤ (((rd_T37 l0 x10_3).f0) : Int) := dt_; have q126 : ((rd_T37 l0 x10_3).f0) < (y122.length : Int) := (by have h_ : (((rd_T37 l0 x10_3).f0) : Int) < ((x7_3.length : Int) : Int) := dt_; first | (have e_ := (Kd.R_reads' HO_7.out).1; omega) | simpa only [Ny122.out, List.length_set] using h_); have ql126 : ((((rd_T37 l0 x10_3).f0) : Int) < ((x7_3.length : Int) : Int)) = True := eq_true (dt_); obtain ⟨ad126, e126, hx126_0⟩ := Kd.at_int (Kd.R_reads' HO_7.out).2.2 ((rd_T37 l0 x10_3).f0) p126 q126; obtain rfl : (⟨go10, 0, none⟩ : Addr) = ad126 := (by injection e126); (first | simp only [add_plain] at hx126_0 | simp only [add_at] at hx126_0 | simp only [Addr.add, Nat.zero_add] at hx126_0 | skip); replace p126 := eq_true p126; replace q126 := eq_true q126; have p128 : 0 ≤ (((rd_T37 l0 x10_3).f0) : Int) := dt_; have q128 : ((rd_T37 l0 x10_3).f0) < (y122.length : Int) := (by have h_ : (((rd_T37 l0 x10_3).f0) : Int) < ((x7_3.length : Int) : Int) := dt_; first | (have e_ := (Kd.R_reads' HO_7.out).1; omega) | simpa only [Ny122.out, List.length_set] using h_); have ql128 : ((((rd_T37 l0 x10_3).f0) : Int) < ((x7_3.length : Int) : Int)) = True := eq_true (dt_); obtain ⟨ad128, e128, hx128_0⟩ := Kd.at_int (Kd.R_reads' HO_7.out).2.2 ((rd_T37 l0 x10_3).f0) p128 q128; obtain rfl : (⟨go10, 0, none⟩ : Addr) = ad128 := (by injection e128); (first | simp only [add_plain] at hx128_0 | simp only [add_at] at hx128_0 | simp only [Addr.add, Nat.zero_add] at hx128_0 | skip); replace p128 := eq_true p128; replace q128 := eq_true q128; have p49 : 0 ≤ (((rd_T37 l0 x10_3).f0) : Int) := dt_; have q49 : (((rd_T37 l0 x10_3).f0) : Int) < ((x7_3.length : Int) : Int) := dt_; obtain ⟨hx49_0, hf49_0⟩ := Kd.R_celln 0 HO_7.out (((rd_T37 l0 x10_3).f0) : Int) p49 q49; replace p49 := eq_true p49; replace q49 := eq_true q49; obtain ⟨hy52_, hz52_⟩ := Kd.R_celln 0 HO_7.out (((rd_T37 l0 x10_3).f0) : Int) (dt_) (dt_); have HP52 := Kd.R_putg HO_7.out (((rd_T37 l0 x10_3).f0) : Int) (wrap64 ((rd y122 ((rd_T37 l0 x10_3).f1)) + ((rd_T37 l0 x10_3).f2)))) | ((with_reducible refine gate_store (t := 3) (p := 121) rfl ?_); (try (rw [drewN_self w51]; generalize hq_ : World.drewN w51 _ = w51; replace HO_7 := Aside0.mk (Kd.R_at hq_ HO_7.out); replace HB := Aside0.mk (below_at hq_ HB.out); clear hq_; (try (obtain ⟨hy52_, hz52_⟩ := Kd.R_celln 0 HO_7.out (((rd_T37 l0 x10_3).f0) : Int) (dt_) (dt_))); (try (have HP52 := Kd.R_putg HO_7.out (((rd_T37 l0 x10_3).f0) : Int) (wrap64 ((rd y122 ((rd_T37 l0 x10_3).f1)) + ((rd_T37 l0 x10_3).f2))))))); refine store_event (t := 3) (p := 121) (v := ?vo_w53) (w1 := (w51.setCell ⟨go10, (((rd_T37 l0 x10_3).f0) : Int).toNat, none⟩ (.int .i64 (wrap64 ((rd y122 ((rd_T37 l0 x10_3).f1)) + ((rd_T37 l0 x10_3).f2)))))) ?hg ?ho ?hn ?hr ?_; (case ho => rfl); (case hg => rfl); (case hn => rfl); (case hr => first | (go_simp; done) | (go_simp; rfl)); intro w53 hw; have hg : w51.grownBy w53 (some go10) := (by rw [hw]; exact HP52.2); have hp_ : Kd.R (Kd.int .i64) 3 w53 w.heap.size (fun _ => True) (.slice (some ⟨go10, 0, none⟩) x7_3.length co10) y129 := (by rw [hw, Ny129.out]; exact HP52.1); clear HP52; replace HO_7 := Aside0.mk (hp_); replace HB := Aside0.mk ((by rw [hw]; exact below_set (HB.out) GB10.out : Below w.heap.size w w53)); clear hg hw hp_)); try go_wp2_with (first | ((with_reducible refine gate_store (t := 3) (p := 87) rfl ?_); (try (rw [drewN_self wc]; generalize hq_ : World.drewN wc _ = wc; replace HO_7 := Aside0.mk (Kd.R_at hq_ HO_7.out); replace HB := Aside0.mk (below_at hq_ HB.out); clear hq_; (try (have HP50 := Kd.R_putg HO_7.out (((rd_T37 l0 x10_3).f1) : Int) (wrap64 ((rd x7_3 ((rd_T37 l0 x10_3).f0)) + ((rd_T37 l0 x10_3).f2))))))); refine store_event (t := 3) (p := 87) (v := ?vo_w51) (w1 := (wc.setCell ⟨go10, (((rd_T37 l0 x10_3).f1) : Int).toNat, none⟩ (.int .i64 (wrap64 ((rd x7_3 ((rd_T37 l0 x10_3).f0)) + ((rd_T37 l0 x10_3).f2)))))) ?hg ?ho ?hn ?hr ?_; (case ho => rfl); (case hg => rfl); (case hn => rfl); (case hr => first | (go_simp; done) | (go_simp; rfl)); intro w51 hw; have hg : wc.grownBy w51 (some go10) := (by rw [hw]; exact HP50.2); have hp_ : Kd.R (Kd.int .i64) 3 w51 w.heap.size (fun _ => True) (.slice (some ⟨go10, 0, none⟩) x7_3.length co10) y122 := (by rw [hw, Ny122.out]; exact HP50.1); clear HP50; replace HO_7 := Aside0.mk (hp_); replace HB := Aside0.mk ((by rw [hw]; exact below_set (HB.out) GB10.out : Below w.heap.size w w51)); clear hg hw hp_; have p123 : 0 ≤ (((rd_T37 l0 x10_3).f1) : Int) := dt_; have q123 : ((rd_T37 l0 x10_3).f1) < (y122.length : Int) := (by have h_ : (((rd_T37 l0 x10_3).f1) : Int) < ((x7_3.length : Int) : Int) := dt_; first | (have e_ := (Kd.R_reads' HO_7.out).1; omega) | simpa only [Ny122.out, List.length_set] using h_); have ql123 : ((((rd_T37 l0 x10_3).f1) : Int) < ((x7_3.length : Int) : Int)) = True := eq_true (dt_); obtain ⟨ad123, e123, hx123_0⟩ := Kd.at_int (Kd.R_reads' HO_7.out).2.2 ((rd_T37 l0 x10_3).f1) p123 q123; obtain rfl : (⟨go10, 0, none⟩ : Addr) = ad123 := (by injection e123); (first | simp only [add_plain] at hx123_0 | simp only [add_at] at hx123_0 | simp only [Addr.add, Nat.zero_add] at hx123_0 | skip); replace p123 := eq_true p123; replace q123 := eq_true q123; have p124 : 0 ≤ (x10_3 : Int) := dt_; have q124 : x10_3 < (l0.length : Int) := dt_; obtain ⟨ad124, e124, hx124_0, hx124_1, hx124_2, hx124_3, hx124_4⟩ := at_T37 HR0.out x10_3 p124 q124; obtain rfl : ad113 = ad124 := (by injection e124); replace hx124_0 := bc_ HB.out hx124_0; replace hx124_1 := bc_ HB.out hx124_1; replace hx124_2 := bc_ HB.out hx124_2; replace hx124_3 := bc_ HB.out hx124_3; replace hx124_4 := bc_ HB.out hx124_4; replace p124 := eq_true p124; replace q124 := eq_true q124; have p125 : 0 ≤ (((rd_T37 l0 x10_3).f1) : Int) := dt_; have q125 : ((rd_T37 l0 x10_3).f1) < (y122.length : Int) := (by have h_ : (((rd_T37 l0 x10_3).f1) : Int) < ((x7_3.length : Int) : Int) := dt_; first | (have e_ := (Kd.R_reads' HO_7.out).1; omega) | simpa only [Ny122.out, List.length_set] using h_); have ql125 : ((((rd_T37 l0 x10_3).f1) : Int) < ((x7_3.length : Int) : Int)) = True := eq_true (dt_); obtain ⟨ad125, e125, hx125_0⟩ := Kd.at_int (Kd.R_reads' HO_7.out).2.2 ((rd_T37 l0 x10_3).f1) p125 q125; obtain rfl : (⟨go10, 0, none⟩ : Addr) = ad125 := (by injection e125); (first | simp only [add_plain] at hx125_0 | simp only [add_at] at hx125_0 | simp only [Addr.add, Nat.zero_add] at hx125_0 | skip); replace p125 := eq_true p125; replace q125 := eq_true q125; have p126 : 0 ≤ (((rd_T37 l0 x10_3).f0) : Int) := dt_; have q126 : ((rd_T37 l0 x10_3).f0) < (y122.length : Int) := (by have h_ : (((rd_T37 l0 x10_3).f0) : Int) < ((x7_3.length : Int) : Int) := dt_; first | (have e_ := (Kd.R_reads' HO_7.out).1; omega) | simpa only [Ny122.out, List.length_set] using h_); have ql126 : ((((rd_T37 l0 x10_3).f0) : Int) < ((x7_3.length : Int) : Int)) = True := eq_true (dt_); obtain ⟨ad126, e126, hx126_0⟩ := Kd.at_int (Kd.R_reads' HO_7.out).2.2 ((rd_T37 l0 x10_3).f0) p126 q126; obtain rfl : (⟨go10, 0, none⟩ : Addr) = ad126 := (by injection e126); (first | simp only [add_plain] at hx126_0 | simp only [add_at] at hx126_0 | simp only [Addr.add, Nat.zero_add] at hx126_0 | skip); replace p126 := eq_true p126; replace q126 := eq_true q126; have p128 : 0 ≤ (((rd_T37 l0 x10_3).f0) : Int) := dt_; have q128 : ((rd_T37 l0 x10_3).f0) < (y122.length : Int) := (by have h_ : (((rd_T37 l0 x10_3).f0) : Int) < ((x7_3.length : Int) : Int) := dt_; first | (have e_ := (Kd.R_reads' HO_7.out).1; omega) | simpa only [Ny122.out, List.length_set] using h_); have ql128 : ((((rd_T37 l0 x10_3).f0) : Int) < ((x7_3.length : Int) : Int)) = True := eq_true (dt_); obtain ⟨ad128, e128, hx128_0⟩ := Kd.at_int (Kd.R_reads' HO_7.out).2.2 ((rd_T37 l0 x10_3).f0) p128 q128; obtain rfl : (⟨go10, 0, none⟩ : Addr) = ad128 := (by injection e128); (first | simp only [add_plain] at hx128_0 | simp only [add_at] at hx128_0 | simp only [Addr.add, Nat.zero_add] at hx128_0 | skip); replace p128 := eq_true p128; replace q128 := eq_true q128; have p49 : 0 ≤ (((rd_T37 l0 x10_3).f0) : Int) := dt_; have q49 : (((rd_T37 l0 x10_3).f0) : Int) < ((x7_3.length : Int) : Int) := dt_; obtain ⟨hx49_0, hf49_0⟩ := Kd.R_celln 0 HO_7.out (((rd_T37 l0 x10_3).f0) : Int) p49 q49; replace p49 := eq_true p49; replace q49 := eq_true q49; obtain ⟨hy52_, hz52_⟩ := Kd.R_celln 0 HO_7.out (((rd_T37 l0 x10_3).f0) : Int) (dt_) (dt_); have HP52 := Kd.R_putg HO_7.out (((rd_T37 l0 x10_3).f0) : Int) (wrap64 ((rd y122 ((rd_T37 l0 x10_3).f1)) + ((rd_T37 l0 x10_3).f2)))) | ((with_reducible refine gate_store (t := 3) (p := 121) rfl ?_); (try (rw [drewN_self w51]; generalize hq_ : World.drewN w51 _ = w51; replace HO_7 := Aside0.mk (Kd.R_at hq_ HO_7.out); replace HB := Aside0.mk (below_at hq_ HB.out); clear hq_; (try (obtain ⟨hy52_, hz52_⟩ := Kd.R_celln 0 HO_7.out (((rd_T37 l0 x10_3).f0) : Int) (dt_) (dt_))); (try (have HP52 := Kd.R_putg HO_7.out (((rd_T37 l0 x10_3).f0) : Int) (wrap64 ((rd y122 ((rd_T37 l0 x10_3).f1)) + ((rd_T37 l0 x10_3).f2))))))); refine store_event (t := 3) (p := 121) (v := ?vo_w53) (w1 := (w51.setCell ⟨go10, (((rd_T37 l0 x10_3).f0) : Int).toNat, none⟩ (.int .i64 (wrap64 ((rd y122 ((rd_T37 l0 x10_3).f1)) + ((rd_T37 l0 x10_3).f2)))))) ?hg ?ho ?hn ?hr ?_; (case ho => rfl); (case hg => rfl); (case hn => rfl); (case hr => first | (go_simp; done) | (go_simp; rfl)); intro w53 hw; have hg : w51.grownBy w53 (some go10) := (by rw [hw]; exact HP52.2); have hp_ : Kd.R (Kd.int .i64) 3 w53 w.heap.size (fun _ => True) (.slice (some ⟨go10, 0, none⟩) x7_3.length co10) y129 := (by rw [hw, Ny129.out]; exact HP52.1); clear HP52; replace HO_7 := Aside0.mk (hp_); replace HB := Aside0.mk ((by rw [hw]; exact below_set (HB.out) GB10.out : Below w.heap.size w w53)); clear hg hw hp_)))
                               (try simp only [← hl7_3])
                               go_roundg kj27
                               case measure => have := HK1.out; have := HK2.out; have := HK3.out; have := HJ15.out; have := HJ27.out; omega
                               case rel => exact ⟨(y129), (true), (wrap64 (x10_3 + 1)), (by first | rfl | (simp; done) | (simp [*]; done)), (by first | rfl | (simp; done) | (simp [*]; done)), H', ⟨by have := HK1.out; have := HK2.out; have := HK3.out; have := HJ15.out; have := HJ27.out; omega⟩, ⟨by (try simp only [hl7_2]); (try simp only [hl7_3]); (with_reducible repeat (first | apply Kd.R_alloc | apply Kd.R_drewN | apply Kd.R_drew)); first | exact HO_7.out | (rw [Ny129.out]; exact (Kd.R_putg (Kd.R_drewN HO_7.out _) _ _).1) | (rw [Ny129.out]; exact (Kd.R_putg HO_7.out _ _).1)⟩, ⟨by repeat (first | (with_reducible first | exact HB.out | apply below_alloc | apply pw_below_drewN | apply below_drew1) | exact HB.out | (first | exact below_set (pw_below_drewN HB.out _) GB10.out | exact below_set HB.out GB10.out))⟩⟩
                              ·
                               rw [if_neg c48] at H
                               have c48b0 : decide ((wrap64 ((rd y122 ((rd_T37 l0 x10_3).f1)) + ((rd_T37 l0 x10_3).f2))) < (rd y122 ((rd_T37 l0 x10_3).f0))) = false := decide_eq_false c48; clear c48; have H' := Aside0.mk H; clear H; have p36 : 0 ≤ (((rd_T37 l0 x10_3).f1) : Int) := dt_; have q36 : (((rd_T37 l0 x10_3).f1) : Int) < ((x7_3.length : Int) : Int) := dt_; obtain ⟨hx36_0, hf36_0⟩ := Kd.R_celln 0 HO_7.out (((rd_T37 l0 x10_3).f1) : Int) p36 q36; replace p36 := eq_true p36; replace q36 := eq_true q36; have HP54 := Kd.R_putg HO_7.out (((rd_T37 l0 x10_3).f1) : Int) (wrap64 ((rd x7_3 ((rd_T37 l0 x10_3).f0)) + ((rd_T37 l0 x10_3).f2)))
                               go_wp2_with (first | ((with_reducible refine gate_store (t := 3) (p := 87) rfl ?_); (try (rw [drewN_self wc]; generalize hq_ : World.drewN wc _ = wc; replace HO_7 := Aside0.mk (Kd.R_at hq_ HO_7.out); replace HB := Aside0.mk (below_at hq_ HB.out); clear hq_; (try (have HP54 := Kd.R_putg HO_7.out (((rd_T37 l0 x10_3).f1) : Int) (wrap64 ((rd x7_3 ((rd_T37 l0 x10_3).f0)) + ((rd_T37 l0 x10_3).f2))))))); refine store_event (t := 3) (p := 87) (v := ?vo_w55) (w1 := (wc.setCell ⟨go10, (((rd_T37 l0 x10_3).f1) : Int).toNat, none⟩ (.int .i64 (wrap64 ((rd x7_3 ((rd_T37 l0 x10_3).f0)) + ((rd_T37 l0 x10_3).f2)))))) ?hg ?ho ?hn ?hr ?_; (case ho => rfl); (case hg => rfl); (case hn => rfl); (case hr => first | (go_simp; done) | (go_simp; rfl)); intro w55 hw; have hg : wc.grownBy w55 (some go10) := (by rw [hw]; exact HP54.2); have hp_ : Kd.R (Kd.int .i64) 3 w55 w.heap.size (fun _ => True) (.slice (some ⟨go10, 0, none⟩) x7_3.length co10) y122 := (by rw [hw, Ny122.out]; exact HP54.1); clear HP54; replace HO_7 := Aside0.mk (hp_); replace HB := Aside0.mk ((by rw [hw]; exact below_set (HB.out) GB10.out : Below w.heap.size w w55)); clear hg hw hp_; have p123 : 0 ≤ (((rd_T37 l0 x10_3).f1) : Int) := dt_; have q123 : ((rd_T37 l0 x10_3).f1) < (y122.length : Int) := (by have h_ : (((rd_T37 l0 x10_3).f1) : Int) < ((x7_3.length : Int) : Int) := dt_; first | (have e_ := (Kd.R_reads' HO_7.out).1; omega) | simpa only [Ny122.out, List.length_set] using h_); have ql123 : ((((rd_T37 l0 x10_3).f1) : Int) < ((x7_3.length : Int) : Int)) = True := eq_true (dt_); obtain ⟨ad123, e123, hx123_0⟩ := Kd.at_int (Kd.R_reads' HO_7.out).2.2 ((rd_T37 l0 x10_3).f1) p123 q123; obtain rfl : (⟨go10, 0, none⟩ : Addr) = ad123 := (by injection e123); (first | simp only [add_plain] at hx123_0 | simp only [add_at] at hx123_0 | simp only [Addr.add, Nat.zero_add] at hx123_0 | skip); replace p123 := eq_true p123; replace q123 := eq_true q123; have p124 : 0 ≤ (x10_3 : Int) := dt_; have q124 : x10_3 < (l0.length : Int) := dt_; obtain ⟨ad124, e124, hx124_0, hx124_1, hx124_2, hx124_3, hx124_4⟩ := at_T37 HR0.out x10_3 p124 q124; obtain rfl : ad113 = ad124 := (by injection e124); replace hx124_0 := bc_ HB.out hx124_0; replace hx124_1 := bc_ HB.out hx124_1; replace hx124_2 := bc_ HB.out hx124_2; replace hx124_3 := bc_ HB.out hx124_3; replace hx124_4 := bc_ HB.out hx124_4; replace p124 := eq_true p124; replace q124 := eq_true q124; have p125 : 0 ≤ (((rd_T37 l0 x10_3).f1) : Int) := dt_; have q125 : ((rd_T37 l0 x10_3).f1) < (y122.length : Int) := (by have h_ : (((rd_T37 l0 x10_3).f1) : Int) < ((x7_3.length : Int) : Int) := dt_; first | (have e_ := (Kd.R_reads' HO_7.out).1; omega) | simpa only [Ny122.out, List.length_set] using h_); have ql125 : ((((rd_T37 l0 x10_3).f1) : Int) < ((x7_3.length : Int) : Int)) = True := eq_true (dt_); obtain ⟨ad125, e125, hx125_0⟩ := Kd.at_int (Kd.R_reads' HO_7.out).2.2 ((rd_T37 l0 x10_3).f1) p125 q125; obtain rfl : (⟨go10, 0, none⟩ : Addr) = ad125 := (by injection e125); (first | simp only [add_plain] at hx125_0 | simp only [add_at] at hx125_0 | simp only [Addr.add, Nat.zero_add] at hx125_0 | skip); replace p125 := eq_true p125; replace q125 := eq_true q125; have p126 : 0 ≤ (((rd_T37 l0 x10_3).f0) : Int) := dt_; have q126 : ((rd_T37 l0 x10_3).f0) < (y122.length : Int) := (by have h_ : (((rd_T37 l0 x10_3).f0) : Int) < ((x7_3.length : Int) : Int) := dt_; first | (have e_ := (Kd.R_reads' HO_7.out).1; omega) | simpa only [Ny122.out, List.length_set] using h_); have ql126 : ((((rd_T37 l0 x10_3).f0) : Int) < ((x7_3.length : Int) : Int)) = True := eq_true (dt_); obtain ⟨ad126, e126, hx126_0⟩ := Kd.at_int (Kd.R_reads' HO_7.out).2.2 ((rd_T37 l0 x10_3).f0) p126 q126; obtain rfl : (⟨go10, 0, none⟩ : Addr) = ad126 := (by injection e126); (first | simp only [add_plain] at hx126_0 | simp only [add_at] at hx126_0 | simp only [Addr.add, Nat.zero_add] at hx126_0 | skip); replace p126 := eq_true p126; replace q126 := eq_true q126; have p128 : 0 ≤ (((rd_T37 l0 x10_3).f0) : Int) := dt_; have q128 : ((rd_T37 l0 x10_3).f0) < (y122.length : Int) := (by have h_ : (((rd_T37 l0 x10_3).f0) : Int) < ((x7_3.length : Int) : Int) := dt_; first | (have e_ := (Kd.R_reads' HO_7.out).1; omega) | simpa only [Ny122.out, List.length_set] using h_); have ql128 : ((((rd_T37 l0 x10_3).f0) : Int) < ((x7_3.length : Int) : Int)) = True := eq_true (dt_); obtain ⟨ad128, e128, hx128_0⟩ := Kd.at_int (Kd.R_reads' HO_7.out).2.2 ((rd_T37 l0 x10_3).f0) p128 q128; obtain rfl : (⟨go10, 0, none⟩ : Addr) = ad128 := (by injection e128); (first | simp only [add_plain] at hx128_0 | simp only [add_at] at hx128_0 | simp only [Addr.add, Nat.zero_add] at hx128_0 | skip); replace p128 := eq_true p128; replace q128 := eq_true q128))
                               repeat (go_quiet (first | ((with_reducible refine gate_store (t := 3) (p := 87) rfl ?_); (try (rw [drewN_self wc]; generalize hq_ : World.drewN wc _ = wc; replace HO_7 := Aside0.mk (Kd.R_at hq_ HO_7.out); replace HB := Aside0.mk (below_at hq_ HB.out); clear hq_; (try (have HP54 := Kd.R_putg HO_7.out (((rd_T37 l0 x10_3).f1) : Int) (wrap64 ((rd x7_3 ((rd_T37 l0 x10_3).f0)) + ((rd_T37 l0 x10_3).f2))))))); refine store_event (t := 3) (p := 87) (v := ?vo_w55) (w1 := (wc.setCell ⟨go10, (((rd_T37 l0 x10_3).f1) : Int).toNat, none⟩ (.int .i64 (wrap64 ((rd x7_3 ((rd_T37 l0 x10_3).f0)) + ((rd_T37 l0 x10_3).f2)))))) ?hg ?ho ?hn ?hr ?_; (case ho => rfl); (case hg => rfl); (case hn => rfl); (case hr => first | (go_simp; done) | (go_simp; rfl)); intro w55 hw; have hg : wc.grownBy w55 (some go10) := (by rw [hw]; exact HP54.2); have hp_ : Kd.R (Kd.int .i64) 3 w55 w.heap.size (fun _ => True) (.slice (some ⟨go10, 0, none⟩) x7_3.length co10) y122 := (by rw [hw, Ny122.out]; exact HP54.1); clear HP54; replace HO_7 := Aside0.mk (hp_); replace HB := Aside0.mk ((by rw [hw]; exact below_set (HB.out) GB10.out : Below w.heap.size w w55)); clear hg hw hp_; have p123 : 0 ≤ (((rd_T37 l0 x10_3).f1) : Int) := dt_; have q123 : ((rd_T37 l0 x10_3).f1) < (y122.length : Int) := (by have h_ : (((rd_T37 l0 x10_3).f1) : Int) < ((x7_3.length : Int) : Int) := dt_; first | (have e_ := (Kd.R_reads' HO_7.out).1; omega) | simpa only [Ny122.out, List.length_set] using h_); have ql123 : ((((rd_T37 l0 x10_3).f1) : Int) < ((x7_3.length : Int) : Int)) = True := eq_true (dt_); obtain ⟨ad123, e123, hx123_0⟩ := Kd.at_int (Kd.R_reads' HO_7.out).2.2 ((rd_T37 l0 x10_3).f1) p123 q123; obtain rfl : (⟨go10, 0, none⟩ : Addr) = ad123 := (by injection e123); (first | simp only [add_plain] at hx123_0 | simp only [add_at] at hx123_0 | simp only [Addr.add, Nat.zero_add] at hx123_0 | skip); replace p123 := eq_true p123; replace q123 := eq_true q123; have p124 : 0 ≤ (x10_3 : Int) := dt_; have q124 : x10_3 < (l0.length : Int) := dt_; obtain ⟨ad124, e124, hx124_0, hx124_1, hx124_2, hx124_3, hx124_4⟩ := at_T37 HR0.out x10_3 p124 q124; obtain rfl : ad113 = ad124 := (by injection e124); replace hx124_0 := bc_ HB.out hx124_0; replace hx124_1 := bc_ HB.out hx124_1; replace hx124_2 := bc_ HB.out hx124_2; replace hx124_3 := bc_ HB.out hx124_3; replace hx124_4 := bc_ HB.out hx124_4; replace p124 := eq_true p124; replace q124 := eq_true q124; have p125 : 0 ≤ (((rd_T37 l0 x10_3).f1) : Int) := dt_; have q125 : ((rd_T37 l0 x10_3).f1) < (y122.length : Int) := (by have h_ : (((rd_T37 l0 x10_3).f1) : Int) < ((x7_3.length : Int) : Int) := dt_; first | (have e_ := (Kd.R_reads' HO_7.out).1; omega) | simpa only [Ny122.out, List.length_set] using h_); have ql125 : ((((rd_T37 l0 x10_3).f1) : Int) < ((x7_3.length : Int) : Int)) = True := eq_true (dt_); obtain ⟨ad125, e125, hx125_0⟩ := Kd.at_int (Kd.R_reads' HO_7.out).2.2 ((rd_T37 l0 x10_3).f1) p125 q125; obtain rfl : (⟨go10, 0, none⟩ : Addr) = ad125 := (by injection e125); (first | simp only [add_plain] at hx125_0 | simp only [add_at] at hx125_0 | simp only [Addr.add, Nat.zero_add] at hx125_0 | skip); replace p125 := eq_true p125; replace q125 := eq_true q125; have p126 : 0 ≤ (((rd_T37 l0 x10_3).f0) : Int) := dt_; have q126 : ((rd_T37 l0 x10_3).f0) < (y122.length : Int) := (by have h_ : (((rd_T37 l0 x10_3).f0) : Int) < ((x7_3.length : Int) : Int) := dt_; first | (have e_ := (Kd.R_reads' HO_7.out).1; omega) | simpa only [Ny122.out, List.length_set] using h_); have ql126 : ((((rd_T37 l0 x10_3).f0) : Int) < ((x7_3.length : Int) : Int)) = True := eq_true (dt_); obtain ⟨ad126, e126, hx126_0⟩ := Kd.at_int (Kd.R_reads' HO_7.out).2.2 ((rd_T37 l0 x10_3).f0) p126 q126; obtain rfl : (⟨go10, 0, none⟩ : Addr) = ad126 := (by injection e126); (first | simp only [add_plain] at hx126_0 | simp only [add_at] at hx126_0 | simp only [Addr.add, Nat.zero_add] at hx126_0 | skip); replace p126 := eq_true p126; replace q126 := eq_true q126; have p128 : 0 ≤ (((rd_T37 l0 x10_3).f0) : Int) := dt_; have q128 : ((rd_T37 l0 x10_3).f0) < (y122.length : Int) := (by have h_ : (((rd_T37 l0 x10_3).f0) : Int) < ((x7_3.length : Int) : Int) := dt_; first | (have e_ := (Kd.R_reads' HO_7.out).1; omega) | simpa only [Ny122.out, List.length_set] using h_); have ql128 : ((((rd_T37 l0 x10_3).f0) : Int) < ((x7_3.length : Int) : Int)) = True := eq_true (dt_); obtain ⟨ad128, e128, hx128_0⟩ := Kd.at_int (Kd.R_reads' HO_7.out).2.2 ((rd_T37 l0 x10_3).f0) p128 q128; obtain rfl : (⟨go10, 0, none⟩ : Addr) = ad128 := (by injection e128); (first | simp only [add_plain] at hx128_0 | simp only [add_at] at hx128_0 | simp only [Addr.add, Nat.zero_add] at hx128_0 | skip); replace p128 := eq_true p128; replace q128 := eq_true q128)); try go_wp2_with (first | ((with_reducible refine gate_store (t := 3) (p := 87) rfl ?_); (try (rw [drewN_self wc]; generalize hq_ : World.drewN wc _ = wc; replace HO_7 := Aside0.mk (Kd.R_at hq_ HO_7.out); replace HB := Aside0.mk (below_at hq_ HB.out); clear hq_; (try (have HP54 := Kd.R_putg HO_7.out (((rd_T37 l0 x10_3).f1) : Int) (wrap64 ((rd x7_3 ((rd_T37 l0 x10_3).f0)) + ((rd_T37 l0 x10_3).f2))))))); refine store_event (t := 3) (p := 87) (v := ?vo_w55) (w1 := (wc.setCell ⟨go10, (((rd_T37 l0 x10_3).f1) : Int).toNat, none⟩ (.int .i64 (wrap64 ((rd x7_3 ((rd_T37 l0 x10_3).f0)) + ((rd_T37 l0 x10_3).f2)))))) ?hg ?ho ?hn ?hr ?_; (case ho => rfl); (case hg => rfl); (case hn => rfl); (case hr => first | (go_simp; done) | (go_simp; rfl)); intro w55 hw; have hg : wc.grownBy w55 (some go10) := (by rw [hw]; exact HP54.2); have hp_ : Kd.R (Kd.int .i64) 3 w55 w.heap.size (fun _ => True) (.slice (some ⟨go10, 0, none⟩) x7_3.length co10) y122 := (by rw [hw, Ny122.out]; exact HP54.1); clear HP54; replace HO_7 := Aside0.mk (hp_); replace HB := Aside0.mk ((by rw [hw]; exact below_set (HB.out) GB10.out : Below w.heap.size w w55)); clear hg hw hp_; have p123 : 0 ≤ (((rd_T37 l0 x10_3).f1) : Int) := dt_; have q123 : ((rd_T37 l0 x10_3).f1) < (y122.length : Int) := (by have h_ : (((rd_T37 l0 x10_3).f1) : Int) < ((x7_3.length : Int) : Int) := dt_; first | (have e_ := (Kd.R_reads' HO_7.out).1; omega) | simpa only [Ny122.out, List.length_set] using h_); have ql123 : ((((rd_T37 l0 x10_3).f1) : Int) < ((x7_3.length : Int) : Int)) = True := eq_true (dt_); obtain ⟨ad123, e123, hx123_0⟩ := Kd.at_int (Kd.R_reads' HO_7.out).2.2 ((rd_T37 l0 x10_3).f1) p123 q123; obtain rfl : (⟨go10, 0, none⟩ : Addr) = ad123 := (by injection e123); (first | simp only [add_plain] at hx123_0 | simp only [add_at] at hx123_0 | simp only [Addr.add, Nat.zero_add] at hx123_0 | skip); replace p123 := eq_true p123; replace q123 := eq_true q123; have p124 : 0 ≤ (x10_3 : Int) := dt_; have q124 : x10_3 < (l0.length : Int) := dt_; obtain ⟨ad124, e124, hx124_0, hx124_1, hx124_2, hx124_3, hx124_4⟩ := at_T37 HR0.out x10_3 p124 q124; obtain rfl : ad113 = ad124 := (by injection e124); replace hx124_0 := bc_ HB.out hx124_0; replace hx124_1 := bc_ HB.out hx124_1; replace hx124_2 := bc_ HB.out hx124_2; replace hx124_3 := bc_ HB.out hx124_3; replace hx124_4 := bc_ HB.out hx124_4; replace p124 := eq_true p124; replace q124 := eq_true q124; have p125 : 0 ≤ (((rd_T37 l0 x10_3).f1) : Int) := dt_; have q125 : ((rd_T37 l0 x10_3).f1) < (y122.length : Int) := (by have h_ : (((rd_T37 l0 x10_3).f1) : Int) < ((x7_3.length : Int) : Int) := dt_; first | (have e_ := (Kd.R_reads' HO_7.out).1; omega) | simpa only [Ny122.out, List.length_set] using h_); have ql125 : ((((rd_T37 l0 x10_3).f1) : Int) < ((x7_3.length : Int) : Int)) = True := eq_true (dt_); obtain ⟨ad125, e125, hx125_0⟩ := Kd.at_int (Kd.R_reads' HO_7.out).2.2 ((rd_T37 l0 x10_3).f1) p125 q125; obtain rfl : (⟨go10, 0, none⟩ : Addr) = ad125 := (by injection e125); (first | simp only [add_plain] at hx125_0 | simp only [add_at] at hx125_0 | simp only [Addr.add, Nat.zero_add] at hx125_0 | skip); replace p125 := eq_true p125; replace q125 := eq_true q125; have p126 : 0 ≤ (((rd_T37 l0 x10_3).f0) : Int) := dt_; have q126 : ((rd_T37 l0 x10_3).f0) < (y122.length : Int) := (by have h_ : (((rd_T37 l0 x10_3).f0) : Int) < ((x7_3.length : Int) : Int) := dt_; first | (have e_ := (Kd.R_reads' HO_7.out).1; omega) | simpa only [Ny122.out, List.length_set] using h_); have ql126 : ((((rd_T37 l0 x10_3).f0) : Int) < ((x7_3.length : Int) : Int)) = True := eq_true (dt_); obtain ⟨ad126, e126, hx126_0⟩ := Kd.at_int (Kd.R_reads' HO_7.out).2.2 ((rd_T37 l0 x10_3).f0) p126 q126; obtain rfl : (⟨go10, 0, none⟩ : Addr) = ad126 := (by injection e126); (first | simp only [add_plain] at hx126_0 | simp only [add_at] at hx126_0 | simp only [Addr.add, Nat.zero_add] at hx126_0 | skip); replace p126 := eq_true p126; replace q126 := eq_true q126; have p128 : 0 ≤ (((rd_T37 l0 x10_3).f0) : Int) := dt_; have q128 : ((rd_T37 l0 x10_3).f0) < (y122.length : Int) := (by have h_ : (((rd_T37 l0 x10_3).f0) : Int) < ((x7_3.length : Int) : Int) := dt_; first | (have e_ := (Kd.R_reads' HO_7.out).1; omega) | simpa only [Ny122.out, List.length_set] using h_); have ql128 : ((((rd_T37 l0 x10_3).f0) : Int) < ((x7_3.length : Int) : Int)) = True := eq_true (dt_); obtain ⟨ad128, e128, hx128_0⟩ := Kd.at_int (Kd.R_reads' HO_7.out).2.2 ((rd_T37 l0 x10_3).f0) p128 q128; obtain rfl : (⟨go10, 0, none⟩ : Addr) = ad128 := (by injection e128); (first | simp only [add_plain] at hx128_0 | simp only [add_at] at hx128_0 | simp only [Addr.add, Nat.zero_add] at hx128_0 | skip); replace p128 := eq_true p128; replace q128 := eq_true q128)))
                               (try simp only [← hl7_3])
                               go_roundg kj27
                               case measure => have := HK1.out; have := HK2.out; have := HK3.out; have := HJ15.out; have := HJ27.out; omega
                               case rel => exact ⟨(y122), (true), (wrap64 (x10_3 + 1)), (by first | rfl | (simp; done) | (simp [*]; done)), (by first | rfl | (simp; done) | (simp [*]; done)), H', ⟨by have := HK1.out; have := HK2.out; have := HK3.out; have := HJ15.out; have := HJ27.out; omega⟩, ⟨by (try simp only [hl7_2]); (try simp only [hl7_3]); (with_reducible repeat (first | apply Kd.R_alloc | apply Kd.R_drewN | apply Kd.R_drew)); first | exact HO_7.out | (rw [Ny122.out]; exact (Kd.R_putg (Kd.R_drewN HO_7.out _) _ _).1) | (rw [Ny122.out]; exact (Kd.R_putg HO_7.out _ _).1)⟩, ⟨by repeat (first | (with_reducible first | exact HB.out | apply below_alloc | apply pw_below_drewN | apply below_drew1) | exact HB.out | (first | exact below_set (pw_below_drewN HB.out _) GB10.out | exact below_set HB.out GB10.out))⟩⟩
                            ·
                             rw [if_neg c41] at H
                             exact absurd H (by simp)
                           ·
                            rw [if_neg c40] at H
                            exact absurd H (by simp)
                          ·
                           rw [if_neg c39] at H
                           have c39b0 : decide (0 ≤ (rd y122 ((rd_T37 l0 x10_3).f1))) = false := decide_eq_false c39; clear c39; have H' := Aside0.mk H; clear H; have p36 : 0 ≤ (((rd_T37 l0 x10_3).f1) : Int) := dt_; have q36 : (((rd_T37 l0 x10_3).f1) : Int) < ((x7_3.length : Int) : Int) := dt_; obtain ⟨hx36_0, hf36_0⟩ := Kd.R_celln 0 HO_7.out (((rd_T37 l0 x10_3).f1) : Int) p36 q36; replace p36 := eq_true p36; replace q36 := eq_true q36; have HP56 := Kd.R_putg HO_7.out (((rd_T37 l0 x10_3).f1) : Int) (wrap64 ((rd x7_3 ((rd_T37 l0 x10_3).f0)) + ((rd_T37 l0 x10_3).f2)))
                           go_wp2_with (first | ((with_reducible refine gate_store (t := 3) (p := 87) rfl ?_); (try (rw [drewN_self wc]; generalize hq_ : World.drewN wc _ = wc; replace HO_7 := Aside0.mk (Kd.R_at hq_ HO_7.out); replace HB := Aside0.mk (below_at hq_ HB.out); clear hq_; (try (have HP56 := Kd.R_putg HO_7.out (((rd_T37 l0 x10_3).f1) : Int) (wrap64 ((rd x7_3 ((rd_T37 l0 x10_3).f0)) + ((rd_T37 l0 x10_3).f2))))))); refine store_event (t := 3) (p := 87) (v := ?vo_w57) (w1 := (wc.setCell ⟨go10, (((rd_T37 l0 x10_3).f1) : Int).toNat, none⟩ (.int .i64 (wrap64 ((rd x7_3 ((rd_T37 l0 x10_3).f0)) + ((rd_T37 l0 x10_3).f2)))))) ?hg ?ho ?hn ?hr ?_; (case ho => rfl); (case hg => rfl); (case hn => rfl); (case hr => first | (go_simp; done) | (go_simp; rfl)); intro w57 hw; have hg : wc.grownBy w57 (some go10) := (by rw [hw]; exact HP56.2); have hp_ : Kd.R (Kd.int .i64) 3 w57 w.heap.size (fun _ => True) (.slice (some ⟨go10, 0, none⟩) x7_3.length co10) y122 := (by rw [hw, Ny122.out]; exact HP56.1); clear HP56; replace HO_7 := Aside0.mk (hp_); replace HB := Aside0.mk ((by rw [hw]; exact below_set (HB.out) GB10.out : Below w.heap.size w w57)); clear hg hw hp_; have p123 : 0 ≤ (((rd_T37 l0 x10_3).f1) : Int) := dt_; have q123 : ((rd_T37 l0 x10_3).f1) < (y122.length : Int) := (by have h_ : (((rd_T37 l0 x10_3).f1) : Int) < ((x7_3.length : Int) : Int) := dt_; first | (have e_ := (Kd.R_reads' HO_7.out).1; omega) | simpa only [Ny122.out, List.length_set] using h_); have ql123 : ((((rd_T37 l0 x10_3).f1) : Int) < ((x7_3.length : Int) : Int)) = True := eq_true (dt_); obtain ⟨ad123, e123, hx123_0⟩ := Kd.at_int (Kd.R_reads' HO_7.out).2.2 ((rd_T37 l0 x10_3).f1) p123 q123; obtain rfl : (⟨go10, 0, none⟩ : Addr) = ad123 := (by injection e123); (first | simp only [add_plain] at hx123_0 | simp only [add_at] at hx123_0 | simp only [Addr.add, Nat.zero_add] at hx123_0 | skip); replace p123 := eq_true p123; replace q123 := eq_true q123; have p124 : 0 ≤ (x10_3 : Int) := dt_; have q124 : x10_3 < (l0.length : Int) := dt_; obtain ⟨ad124, e124, hx124_0, hx124_1, hx124_2, hx124_3, hx124_4⟩ := at_T37 HR0.out x10_3 p124 q124; obtain rfl : ad113 = ad124 := (by injection e124); replace hx124_0 := bc_ HB.out hx124_0; replace hx124_1 := bc_ HB.out hx124_1; replace hx124_2 := bc_ HB.out hx124_2; replace hx124_3 := bc_ HB.out hx124_3; replace hx124_4 := bc_ HB.out hx124_4; replace p124 := eq_true p124; replace q124 := eq_true q124; have p125 : 0 ≤ (((rd_T37 l0 x10_3).f1) : Int) := dt_; have q125 : ((rd_T37 l0 x10_3).f1) < (y122.length : Int) := (by have h_ : (((rd_T37 l0 x10_3).f1) : Int) < ((x7_3.length : Int) : Int) := dt_; first | (have e_ := (Kd.R_reads' HO_7.out).1; omega) | simpa only [Ny122.out, List.length_set] using h_); have ql125 : ((((rd_T37 l0 x10_3).f1) : Int) < ((x7_3.length : Int) : Int)) = True := eq_true (dt_); obtain ⟨ad125, e125, hx125_0⟩ := Kd.at_int (Kd.R_reads' HO_7.out).2.2 ((rd_T37 l0 x10_3).f1) p125 q125; obtain rfl : (⟨go10, 0, none⟩ : Addr) = ad125 := (by injection e125); (first | simp only [add_plain] at hx125_0 | simp only [add_at] at hx125_0 | simp only [Addr.add, Nat.zero_add] at hx125_0 | skip); replace p125 := eq_true p125; replace q125 := eq_true q125))
                           repeat (go_quiet (first | ((with_reducible refine gate_store (t := 3) (p := 87) rfl ?_); (try (rw [drewN_self wc]; generalize hq_ : World.drewN wc _ = wc; replace HO_7 := Aside0.mk (Kd.R_at hq_ HO_7.out); replace HB := Aside0.mk (below_at hq_ HB.out); clear hq_; (try (have HP56 := Kd.R_putg HO_7.out (((rd_T37 l0 x10_3).f1) : Int) (wrap64 ((rd x7_3 ((rd_T37 l0 x10_3).f0)) + ((rd_T37 l0 x10_3).f2))))))); refine store_event (t := 3) (p := 87) (v := ?vo_w57) (w1 := (wc.setCell ⟨go10, (((rd_T37 l0 x10_3).f1) : Int).toNat, none⟩ (.int .i64 (wrap64 ((rd x7_3 ((rd_T37 l0 x10_3).f0)) + ((rd_T37 l0 x10_3).f2)))))) ?hg ?ho ?hn ?hr ?_; (case ho => rfl); (case hg => rfl); (case hn => rfl); (case hr => first | (go_simp; done) | (go_simp; rfl)); intro w57 hw; have hg : wc.grownBy w57 (some go10) := (by rw [hw]; exact HP56.2); have hp_ : Kd.R (Kd.int .i64) 3 w57 w.heap.size (fun _ => True) (.slice (some ⟨go10, 0, none⟩) x7_3.length co10) y122 := (by rw [hw, Ny122.out]; exact HP56.1); clear HP56; replace HO_7 := Aside0.mk (hp_); replace HB := Aside0.mk ((by rw [hw]; exact below_set (HB.out) GB10.out : Below w.heap.size w w57)); clear hg hw hp_; have p123 : 0 ≤ (((rd_T37 l0 x10_3).f1) : Int) := dt_; have q123 : ((rd_T37 l0 x10_3).f1) < (y122.length : Int) := (by have h_ : (((rd_T37 l0 x10_3).f1) : Int) < ((x7_3.length : Int) : Int) := dt_; first | (have e_ := (Kd.R_reads' HO_7.out).1; omega) | simpa only [Ny122.out, List.length_set] using h_); have ql123 : ((((rd_T37 l0 x10_3).f1) : Int) < ((x7_3.length : Int) : Int)) = True := eq_true (dt_); obtain ⟨ad123, e123, hx123_0⟩ := Kd.at_int (Kd.R_reads' HO_7.out).2.2 ((rd_T37 l0 x10_3).f1) p123 q123; obtain rfl : (⟨go10, 0, none⟩ : Addr) = ad123 := (by injection e123); (first | simp only [add_plain] at hx123_0 | simp only [add_at] at hx123_0 | simp only [Addr.add, Nat.zero_add] at hx123_0 | skip); replace p123 := eq_true p123; replace q123 := eq_true q123; have p124 : 0 ≤ (x10_3 : Int) := dt_; have q124 : x10_3 < (l0.length : Int) := dt_; obtain ⟨ad124, e124, hx124_0, hx124_1, hx124_2, hx124_3, hx124_4⟩ := at_T37 HR0.out x10_3 p124 q124; obtain rfl : ad113 = ad124 := (by injection e124); replace hx124_0 := bc_ HB.out hx124_0; replace hx124_1 := bc_ HB.out hx124_1; replace hx124_2 := bc_ HB.out hx124_2; replace hx124_3 := bc_ HB.out hx124_3; replace hx124_4 := bc_ HB.out hx124_4; replace p124 := eq_true p124; replace q124 := eq_true q124; have p125 : 0 ≤ (((rd_T37 l0 x10_3).f1) : Int) := dt_; have q125 : ((rd_T37 l0 x10_3).f1) < (y122.length : Int) := (by have h_ : (((rd_T37 l0 x10_3).f1) : Int) < ((x7_3.length : Int) : Int) := dt_; first | (have e_ := (Kd.R_reads' HO_7.out).1; omega) | simpa only [Ny122.out, List.length_set] using h_); have ql125 : ((((rd_T37 l0 x10_3).f1) : Int) < ((x7_3.length : Int) : Int)) = True := eq_true (dt_); obtain ⟨ad125, e125, hx125_0⟩ := Kd.at_int (Kd.R_reads' HO_7.out).2.2 ((rd_T37 l0 x10_3).f1) p125 q125; obtain rfl : (⟨go10, 0, none⟩ : Addr) = ad125 := (by injection e125); (first | simp only [add_plain] at hx125_0 | simp only [add_at] at hx125_0 | simp only [Addr.add, Nat.zero_add] at hx125_0 | skip); replace p125 := eq_true p125; replace q125 := eq_true q125)); try go_wp2_with (first | ((with_reducible refine gate_store (t := 3) (p := 87) rfl ?_); (try (rw [drewN_self wc]; generalize hq_ : World.drewN wc _ = wc; replace HO_7 := Aside0.mk (Kd.R_at hq_ HO_7.out); replace HB := Aside0.mk (below_at hq_ HB.out); clear hq_; (try (have HP56 := Kd.R_putg HO_7.out (((rd_T37 l0 x10_3).f1) : Int) (wrap64 ((rd x7_3 ((rd_T37 l0 x10_3).f0)) + ((rd_T37 l0 x10_3).f2))))))); refine store_event (t := 3) (p := 87) (v := ?vo_w57) (w1 := (wc.setCell ⟨go10, (((rd_T37 l0 x10_3).f1) : Int).toNat, none⟩ (.int .i64 (wrap64 ((rd x7_3 ((rd_T37 l0 x10_3).f0)) + ((rd_T37 l0 x10_3).f2)))))) ?hg ?ho ?hn ?hr ?_; (case ho => rfl); (case hg => rfl); (case hn => rfl); (case hr => first | (go_simp; done) | (go_simp; rfl)); intro w57 hw; have hg : wc.grownBy w57 (some go10) := (by rw [hw]; exact HP56.2); have hp_ : Kd.R (Kd.int .i64) 3 w57 w.heap.size (fun _ => True) (.slice (some ⟨go10, 0, none⟩) x7_3.length co10) y122 := (by rw [hw, Ny122.out]; exact HP56.1); clear HP56; replace HO_7 := Aside0.mk (hp_); replace HB := Aside0.mk ((by rw [hw]; exact below_set (HB.out) GB10.out : Below w.heap.size w w57)); clear hg hw hp_; have p123 : 0 ≤ (((rd_T37 l0 x10_3).f1) : Int) := dt_; have q123 : ((rd_T37 l0 x10_3).f1) < (y122.length : Int) := (by have h_ : (((rd_T37 l0 x10_3).f1) : Int) < ((x7_3.length : Int) : Int) := dt_; first | (have e_ := (Kd.R_reads' HO_7.out).1; omega) | simpa only [Ny122.out, List.length_set] using h_); have ql123 : ((((rd_T37 l0 x10_3).f1) : Int) < ((x7_3.length : Int) : Int)) = True := eq_true (dt_); obtain ⟨ad123, e123, hx123_0⟩ := Kd.at_int (Kd.R_reads' HO_7.out).2.2 ((rd_T37 l0 x10_3).f1) p123 q123; obtain rfl : (⟨go10, 0, none⟩ : Addr) = ad123 := (by injection e123); (first | simp only [add_plain] at hx123_0 | simp only [add_at] at hx123_0 | simp only [Addr.add, Nat.zero_add] at hx123_0 | skip); replace p123 := eq_true p123; replace q123 := eq_true q123; have p124 : 0 ≤ (x10_3 : Int) := dt_; have q124 : x10_3 < (l0.length : Int) := dt_; obtain ⟨ad124, e124, hx124_0, hx124_1, hx124_2, hx124_3, hx124_4⟩ := at_T37 HR0.out x10_3 p124 q124; obtain rfl : ad113 = ad124 := (by injection e124); replace hx124_0 := bc_ HB.out hx124_0; replace hx124_1 := bc_ HB.out hx124_1; replace hx124_2 := bc_ HB.out hx124_2; replace hx124_3 := bc_ HB.out hx124_3; replace hx124_4 := bc_ HB.out hx124_4; replace p124 := eq_true p124; replace q124 := eq_true q124; have p125 : 0 ≤ (((rd_T37 l0 x10_3).f1) : Int) := dt_; have q125 : ((rd_T37 l0 x10_3).f1) < (y122.length : Int) := (by have h_ : (((rd_T37 l0 x10_3).f1) : Int) < ((x7_3.length : Int) : Int) := dt_; first | (have e_ := (Kd.R_reads' HO_7.out).1; omega) | simpa only [Ny122.out, List.length_set] using h_); have ql125 : ((((rd_T37 l0 x10_3).f1) : Int) < ((x7_3.length : Int) : Int)) = True := eq_true (dt_); obtain ⟨ad125, e125, hx125_0⟩ := Kd.at_int (Kd.R_reads' HO_7.out).2.2 ((rd_T37 l0 x10_3).f1) p125 q125; obtain rfl : (⟨go10, 0, none⟩ : Addr) = ad125 := (by injection e125); (first | simp only [add_plain] at hx125_0 | simp only [add_at] at hx125_0 | simp only [Addr.add, Nat.zero_add] at hx125_0 | skip); replace p125 := eq_true p125; replace q125 := eq_true q125)))
                           (try simp only [← hl7_3])
                           go_roundg kj27
                           case measure => have := HK1.out; have := HK2.out; have := HK3.out; have := HJ15.out; have := HJ27.out; omega
                           case rel => exact ⟨(y122), (true), (wrap64 (x10_3 + 1)), (by first | rfl | (simp; done) | (simp [*]; done)), (by first | rfl | (simp; done) | (simp [*]; done)), H', ⟨by have := HK1.out; have := HK2.out; have := HK3.out; have := HJ15.out; have := HJ27.out; omega⟩, ⟨by (try simp only [hl7_2]); (try simp only [hl7_3]); (with_reducible repeat (first | apply Kd.R_alloc | apply Kd.R_drewN | apply Kd.R_drew)); first | exact HO_7.out | (rw [Ny122.out]; exact (Kd.R_putg (Kd.R_drewN HO_7.out _) _ _).1) | (rw [Ny122.out]; exact (Kd.R_putg HO_7.out _ _).1)⟩, ⟨by repeat (first | (with_reducible first | exact HB.out | apply below_alloc | apply pw_below_drewN | apply below_drew1) | exact HB.out | (first | exact below_set (pw_below_drewN HB.out _) GB10.out | exact below_set HB.out GB10.out))⟩⟩
                         ·
                          rw [if_neg c38] at H
                          exact absurd H (by simp)
                        ·
                         rw [if_neg c37] at H
                         exact absurd H (by simp)
                       ·
                        rw [if_neg c35] at H
                        exact absurd H (by simp)
                      ·
                       rw [if_neg c34] at H
                       exact absurd H (by simp)
                     ·
                      replace c33 := Bool.eq_false_iff.mpr c33; subst c33
                      have H1 : (if 0 ≤ ((rd_T37 l0 x10_3).f1) then (if ((rd_T37 l0 x10_3).f1) < (x7_3.length : Int) then (if 0 ≤ x10_3 then (if x10_3 < (l0.length : Int) then (if (rd x7_3 ((rd_T37 l0 x10_3).f1)) ≥ 0 then (if 0 ≤ ((rd_T37 l0 x10_3).f0) then (if ((rd_T37 l0 x10_3).f0) < (x7_3.length : Int) then (if (rd x7_3 ((rd_T37 l0 x10_3).f0)) < 0 then (spec_l25Out.l2 kj27 l0 l1 a2 (x7_3.set (((rd_T37 l0 x10_3).f0) : Int).toNat (wrap64 ((rd x7_3 ((rd_T37 l0 x10_3).f1)) + ((rd_T37 l0 x10_3).f2)))) true (wrap64 (x10_3 + 1))) else (if (wrap64 ((rd x7_3 ((rd_T37 l0 x10_3).f1)) + ((rd_T37 l0 x10_3).f2))) < (rd x7_3 ((rd_T37 l0 x10_3).f0)) then (spec_l25Out.l2 kj27 l0 l1 a2 (x7_3.set (((rd_T37 l0 x10_3).f0) : Int).toNat (wrap64 ((rd x7_3 ((rd_T37 l0 x10_3).f1)) + ((rd_T37 l0 x10_3).f2)))) true (wrap64 (x10_3 + 1))) else (spec_l25Out.l2 kj27 l0 l1 a2 x7_3 x9_3 (wrap64 (x10_3 + 1))))) else (none)) else (none)) else (spec_l25Out.l2 kj27 l0 l1 a2 x7_3 x9_3 (wrap64 (x10_3 + 1)))) else (none)) else (none)) else (none)) else (none)) = some r := by rw [if_neg (show ¬ (false = true) by decide)] at H; exact H
                      clear H; have H := H1; clear H1
                      by_cases c58 : 0 ≤ ((rd_T37 l0 x10_3).f1)
                      ·
                       rw [if_pos c58] at H
                       have c58b0 : decide (0 ≤ ((rd_T37 l0 x10_3).f1)) = true := decide_eq_true c58; clear c58
                       by_cases c59 : ((rd_T37 l0 x10_3).f1) < (x7_3.length : Int)
                       ·
                        rw [if_pos c59] at H
                        have c59b0 : decide (((rd_T37 l0 x10_3).f1) < (x7_3.length : Int)) = true := decide_eq_true c59; clear c59
                        by_cases c60 : 0 ≤ x10_3
                        ·
                         rw [if_pos c60] at H
                         have c60b0 : decide (0 ≤ x10_3) = true := decide_eq_true c60; clear c60
                         by_cases c61 : x10_3 < (l0.length : Int)
                         ·
                          rw [if_pos c61] at H
                          have c61b0 : decide (x10_3 < (l0.length : Int)) = true := decide_eq_true c61; clear c61
                          by_cases c62 : (rd x7_3 ((rd_T37 l0 x10_3).f1)) ≥ 0
                          ·
                           rw [if_pos c62] at H
                           have c62b0 : decide (0 ≤ (rd x7_3 ((rd_T37 l0 x10_3).f1))) = true := decide_eq_true c62; clear c62
                           by_cases c63 : 0 ≤ ((rd_T37 l0 x10_3).f0)
                           ·
                            rw [if_pos c63] at H
                            have c63b0 : decide (0 ≤ ((rd_T37 l0 x10_3).f0)) = true := decide_eq_true c63; clear c63
                            by_cases c64 : ((rd_T37 l0 x10_3).f0) < (x7_3.length : Int)
                            ·
                             rw [if_pos c64] at H
                             have c64b0 : decide (((rd_T37 l0 x10_3).f0) < (x7_3.length : Int)) = true := decide_eq_true c64; clear c64
                             by_cases c65 : (rd x7_3 ((rd_T37 l0 x10_3).f0)) < 0
                             ·
                              rw [if_pos c65] at H
                              have c65b0 : decide ((rd x7_3 ((rd_T37 l0 x10_3).f0)) < 0) = true := decide_eq_true c65; clear c65
                              obtain ⟨y134, hy134⟩ : ∃ y_ : List Int, y_ = (x7_3.set (((rd_T37 l0 x10_3).f0) : Int).toNat (wrap64 ((rd x7_3 ((rd_T37 l0 x10_3).f1)) + ((rd_T37 l0 x10_3).f2)))) := ⟨_, rfl⟩
                              replace H : (spec_l25Out.l2 kj27 l0 l1 a2 y134 true (wrap64 (x10_3 + 1))) = some r := by first | (rw [hy134]; with_reducible exact H) | (have H2_ := (Option.bind_some _ _).symm.trans H; rw [hy134]; with_reducible exact H2_) | (have H2_ := (Option.bind_some _ _).symm.trans H; with_reducible exact H2_) | with_reducible exact H | (rw [hy134]; exact H) | exact H
                              have Ny134 := Aside0.mk hy134; clear hy134; have H' := Aside0.mk H; clear H; have p130 : 0 ≤ (((rd_T37 l0 x10_3).f1) : Int) := dt_; have q130 : ((rd_T37 l0 x10_3).f1) < (x7_3.length : Int) := dt_; obtain ⟨ad130, e130, hx130_0⟩ := Kd.at_int (Kd.R_reads' HO_7.out).2.2 ((rd_T37 l0 x10_3).f1) p130 q130
                              obtain rfl : (⟨go10, 0, none⟩ : Addr) = ad130 := (by injection e130)
                              (first | simp only [add_plain] at hx130_0 | simp only [add_at] at hx130_0 | simp only [Addr.add, Nat.zero_add] at hx130_0 | skip)
                              replace p130 := eq_true p130; replace q130 := eq_true q130; have p131 : 0 ≤ (x10_3 : Int) := dt_; have q131 : x10_3 < (l0.length : Int) := dt_; obtain ⟨ad131, e131, hx131_0, hx131_1, hx131_2, hx131_3, hx131_4⟩ := at_T37 HR0.out x10_3 p131 q131
                              obtain rfl : ad113 = ad131 := (by injection e131)
                              replace hx131_0 := bc_ HB.out hx131_0; replace hx131_1 := bc_ HB.out hx131_1; replace hx131_2 := bc_ HB.out hx131_2; replace hx131_3 := bc_ HB.out hx131_3; replace hx131_4 := bc_ HB.out hx131_4; replace p131 := eq_true p131; replace q131 := eq_true q131; have p132 : 0 ≤ (((rd_T37 l0 x10_3).f1) : Int) := dt_; have q132 : ((rd_T37 l0 x10_3).f1) < (x7_3.length : Int) := dt_; obtain ⟨ad132, e132, hx132_0⟩ := Kd.at_int (Kd.R_reads' HO_7.out).2.2 ((rd_T37 l0 x10_3).f1) p132 q132
                              obtain rfl : (⟨go10, 0, none⟩ : Addr) = ad132 := (by injection e132)
                              (first | simp only [add_plain] at hx132_0 | simp only [add_at] at hx132_0 | simp only [Addr.add, Nat.zero_add] at hx132_0 | skip)
                              replace p132 := eq_true p132; replace q132 := eq_true q132; have p133 : 0 ≤ (((rd_T37 l0 x10_3).f0) : Int) := dt_; have q133 : ((rd_T37 l0 x10_3).f0) < (x7_3.length : Int) := dt_; obtain ⟨ad133, e133, hx133_0⟩ := Kd.at_int (Kd.R_reads' HO_7.out).2.2 ((rd_T37 l0 x10_3).f0) p133 q133
                              obtain rfl : (⟨go10, 0, none⟩ : Addr) = ad133 := (by injection e133)
                              (first | simp only [add_plain] at hx133_0 | simp only [add_at] at hx133_0 | simp only [Addr.add, Nat.zero_add] at hx133_0 | skip)
                              replace p133 := eq_true p133; replace q133 := eq_true q133; have p66 : 0 ≤ (((rd_T37 l0 x10_3).f0) : Int) := dt_; have q66 : (((rd_T37 l0 x10_3).f0) : Int) < ((x7_3.length : Int) : Int) := dt_; obtain ⟨hx66_0, hf66_0⟩ := Kd.R_celln 0 HO_7.out (((rd_T37 l0 x10_3).f0) : Int) p66 q66; replace p66 := eq_true p66; replace q66 := eq_true q66; have HP67 := Kd.R_putg HO_7.out (((rd_T37 l0 x10_3).f0) : Int) (wrap64 ((rd x7_3 ((rd_T37 l0 x10_3).f1)) + ((rd_T37 l0 x10_3).f2)))
                              go_wp2_with (first | ((with_reducible refine gate_store (t := 3) (p := 121) rfl ?_); (try (rw [drewN_self wc]; generalize hq_ : World.drewN wc _ = wc; replace HO_7 := Aside0.mk (Kd.R_at hq_ HO_7.out); replace HB := Aside0.mk (below_at hq_ HB.out); clear hq_; (try (have HP67 := Kd.R_putg HO_7.out (((rd_T37 l0 x10_3).f0) : Int) (wrap64 ((rd x7_3 ((rd_T37 l0 x10_3).f1)) + ((rd_T37 l0 x10_3).f2))))))); refine store_event (t := 3) (p := 121) (v := ?vo_w68) (w1 := (wc.setCell ⟨go10, (((rd_T37 l0 x10_3).f0) : Int).toNat, none⟩ (.int .i64 (wrap64 ((rd x7_3 ((rd_T37 l0 x10_3).f1)) + ((rd_T37 l0 x10_3).f2)))))) ?hg ?ho ?hn ?hr ?_; (case ho => rfl); (case hg => rfl); (case hn => rfl); (case hr => first | (go_simp; done) | (go_simp; rfl)); intro w68 hw; have hg : wc.grownBy w68 (some go10) := (by rw [hw]; exact HP67.2); have hp_ : Kd.R (Kd.int .i64) 3 w68 w.heap.size (fun _ => True) (.slice (some ⟨go10, 0, none⟩) x7_3.length co10) y134 := (by rw [hw, Ny134.out]; exact HP67.1); clear HP67; replace HO_7 := Aside0.mk (hp_); replace HB := Aside0.mk ((by rw [hw]; exact below_set (HB.out) GB10.out : Below w.heap.size w w68)); clear hg hw hp_))
                              repeat (go_quiet (first | ((with_reducible refine gate_store (t := 3) (p := 121) rfl ?_); (try (rw [drewN_self wc]; generalize hq_ : World.drewN wc _ = wc; replace HO_7 := Aside0.mk (Kd.R_at hq_ HO_7.out); replace HB := Aside0.mk (below_at hq_ HB.out); clear hq_; (try (have HP67 := Kd.R_putg HO_7.out (((rd_T37 l0 x10_3).f0) : Int) (wrap64 ((rd x7_3 ((rd_T37 l0 x10_3).f1)) + ((rd_T37 l0 x10_3).f2))))))); refine store_event (t := 3) (p := 121) (v := ?vo_w68) (w1 := (wc.setCell ⟨go10, (((rd_T37 l0 x10_3).f0) : Int).toNat, none⟩ (.int .i64 (wrap64 ((rd x7_3 ((rd_T37 l0 x10_3).f1)) + ((rd_T37 l0 x10_3).f2)))))) ?hg ?ho ?hn ?hr ?_; (case ho => rfl); (case hg => rfl); (case hn => rfl); (case hr => first | (go_simp; done) | (go_simp; rfl)); intro w68 hw; have hg : wc.grownBy w68 (some go10) := (by rw [hw]; exact HP67.2); have hp_ : Kd.R (Kd.int .i64) 3 w68 w.heap.size (fun _ => True) (.slice (some ⟨go10, 0, none⟩) x7_3.length co10) y134 := (by rw [hw, Ny134.out]; exact HP67.1); clear HP67; replace HO_7 := Aside0.mk (hp_); replace HB := Aside0.mk ((by rw [hw]; exact below_set (HB.out) GB10.out : Below w.heap.size w w68)); clear hg hw hp_)); try go_wp2_with (first | ((with_reducible refine gate_store (t := 3) (p := 121) rfl ?_); (try (rw [drewN_self wc]; generalize hq_ : World.drewN wc _ = wc; replace HO_7 := Aside0.mk (Kd.R_at hq_ HO_7.out); replace HB := Aside0.mk (below_at hq_ HB.out); clear hq_; (try (have HP67 := Kd.R_putg HO_7.out (((rd_T37 l0 x10_3).f0) : Int) (wrap64 ((rd x7_3 ((rd_T37 l0 x10_3).f1)) + ((rd_T37 l0 x10_3).f2))))))); refine store_event (t := 3) (p := 121) (v := ?vo_w68) (w1 := (wc.setCell ⟨go10, (((rd_T37 l0 x10_3).f0) : Int).toNat, none⟩ (.int .i64 (wrap64 ((rd x7_3 ((rd_T37 l0 x10_3).f1)) + ((rd_T37 l0 x10_3).f2)))))) ?hg ?ho ?hn ?hr ?_; (case ho => rfl); (case hg => rfl); (case hn => rfl); (case hr => first | (go_simp; done) | (go_simp; rfl)); intro w68 hw; have hg : wc.grownBy w68 (some go10) := (by rw [hw]; exact HP67.2); have hp_ : Kd.R (Kd.int .i64) 3 w68 w.heap.size (fun _ => True) (.slice (some ⟨go10, 0, none⟩) x7_3.length co10) y134 := (by rw [hw, Ny134.out]; exact HP67.1); clear HP67; replace HO_7 := Aside0.mk (hp_); replace HB := Aside0.mk ((by rw [hw]; exact below_set (HB.out) GB10.out : Below w.heap.size w w68)); clear hg hw hp_)))
                              (try simp only [← hl7_3])
                              go_roundg kj27
                              case measure => have := HK1.out; have := HK2.out; have := HK3.out; have := HJ15.out; have := HJ27.out; omega
                              case rel => exact ⟨(y134), (true), (wrap64 (x10_3 + 1)), (by first | rfl | (simp; done) | (simp [*]; done)), (by first | rfl | (simp; done) | (simp [*]; done)), H', ⟨by have := HK1.out; have := HK2.out; have := HK3.out; have := HJ15.out; have := HJ27.out; omega⟩, ⟨by (try simp only [hl7_2]); (try simp only [hl7_3]); (with_reducible repeat (first | apply Kd.R_alloc | apply Kd.R_drewN | apply Kd.R_drew)); first | exact HO_7.out | (rw [Ny134.out]; exact (Kd.R_putg (Kd.R_drewN HO_7.out _) _ _).1) | (rw [Ny134.out]; exact (Kd.R_putg HO_7.out _ _).1)⟩, ⟨by repeat (first | (with_reducible first | exact HB.out | apply below_alloc | apply pw_below_drewN | apply below_drew1) | exact HB.out | (first | exact below_set (pw_below_drewN HB.out _) GB10.out | exact below_set HB.out GB10.out))⟩⟩
                             ·
                              rw [if_neg c65] at H
                              have c65b0 : decide ((rd x7_3 ((rd_T37 l0 x10_3).f0)) < 0) = false := decide_eq_false c65; clear c65
                              by_cases c69 : (wrap64 ((rd x7_3 ((rd_T37 l0 x10_3).f1)) + ((rd_T37 l0 x10_3).f2))) < (rd x7_3 ((rd_T37 l0 x10_3).f0))
                              ·
                               rw [if_pos c69] at H
                               have c69b0 : decide ((wrap64 ((rd x7_3 ((rd_T37 l0 x10_3).f1)) + ((rd_T37 l0 x10_3).f2))) < (rd x7_3 ((rd_T37 l0 x10_3).f0))) = true := decide_eq_true c69; clear c69
                               obtain ⟨y136, hy136⟩ : ∃ y_ : List Int, y_ = (x7_3.set (((rd_T37 l0 x10_3).f0) : Int).toNat (wrap64 ((rd x7_3 ((rd_T37 l0 x10_3).f1)) + ((rd_T37 l0 x10_3).f2)))) := ⟨_, rfl⟩
                               replace H : (spec_l25Out.l2 kj27 l0 l1 a2 y136 true (wrap64 (x10_3 + 1))) = some r := by first | (rw [hy136]; with_reducible exact H) | (have H2_ := (Option.bind_some _ _).symm.trans H; rw [hy136]; with_reducible exact H2_) | (have H2_ := (Option.bind_some _ _).symm.trans H; with_reducible exact H2_) | with_reducible exact H | (rw [hy136]; exact H) | exact H
                               have Ny136 := Aside0.mk hy136; clear hy136; have H' := Aside0.mk H; clear H; have p130 : 0 ≤ (((rd_T37 l0 x10_3).f1) : Int) := dt_; have q130 : ((rd_T37 l0 x10_3).f1) < (x7_3.length : Int) := dt_; obtain ⟨ad130, e130, hx130_0⟩ := Kd.at_int (Kd.R_reads' HO_7.out).2.2 ((rd_T37 l0 x10_3).f1) p130 q130
                               obtain rfl : (⟨go10, 0, none⟩ : Addr) = ad130 := (by injection e130)
                               (first | simp only [add_plain] at hx130_0 | simp only [add_at] at hx130_0 | simp only [Addr.add, Nat.zero_add] at hx130_0 | skip)
                               replace p130 := eq_true p130; replace q130 := eq_true q130; have p131 : 0 ≤ (x10_3 : Int) := dt_; have q131 : x10_3 < (l0.length : Int) := dt_; obtain ⟨ad131, e131, hx131_0, hx131_1, hx131_2, hx131_3, hx131_4⟩ := at_T37 HR0.out x10_3 p131 q131
                               obtain rfl : ad113 = ad131 := (by injection e131)
                               replace hx131_0 := bc_ HB.out hx131_0; replace hx131_1 := bc_ HB.out hx131_1; replace hx131_2 := bc_ HB.out hx131_2; replace hx131_3 := bc_ HB.out hx131_3; replace hx131_4 := bc_ HB.out hx131_4; replace p131 := eq_true p131; replace q131 := eq_true q131; have p132 : 0 ≤ (((rd_T37 l0 x10_3).f1) : Int) := dt_; have q132 : ((rd_T37 l0 x10_3).f1) < (x7_3.length : Int) := dt_; obtain ⟨ad132, e132, hx132_0⟩ := Kd.at_int (Kd.R_reads' HO_7.out).2.2 ((rd_T37 l0 x10_3).f1) p132 q132
                               obtain rfl : (⟨go10, 0, none⟩ : Addr) = ad132 := (by injection e132)
                               (first | simp only [add_plain] at hx132_0 | simp only [add_at] at hx132_0 | simp only [Addr.add, Nat.zero_add] at hx132_0 | skip)
                               replace p132 := eq_true p132; replace q132 := eq_true q132; have p133 : 0 ≤ (((rd_T37 l0 x10_3).f0) : Int) := dt_; have q133 : ((rd_T37 l0 x10_3).f0) < (x7_3.length : Int) := dt_; obtain ⟨ad133, e133, hx133_0⟩ := Kd.at_int (Kd.R_reads' HO_7.out).2.2 ((rd_T37 l0 x10_3).f0) p133 q133
                               obtain rfl : (⟨go10, 0, none⟩ : Addr) = ad133 := (by injection e133)
                               (first | simp only [add_plain] at hx133_0 | simp only [add_at] at hx133_0 | simp only [Addr.add, Nat.zero_add] at hx133_0 | skip)
                               replace p133 := eq_true p133; replace q133 := eq_true q133; have p135 : 0 ≤ (((rd_T37 l0 x10_3).f0) : Int) := dt_; have q135 : ((rd_T37 l0 x10_3).f0) < (x7_3.length : Int) := dt_; obtain ⟨ad135, e135, hx135_0⟩ := Kd.at_int (Kd.R_reads' HO_7.out).2.2 ((rd_T37 l0 x10_3).f0) p135 q135
                               obtain rfl : (⟨go10, 0, none⟩ : Addr) = ad135 := (by injection e135)
                               (first | simp only [add_plain] at hx135_0 | simp only [add_at] at hx135_0 | simp only [Addr.add, Nat.zero_add] at hx135_0 | skip)
                               replace p135 := eq_true p135; replace q135 := eq_true q135; have p70 : 0 ≤ (((rd_T37 l0 x10_3).f0) : Int) := dt_; have q70 : (((rd_T37 l0 x10_3).f0) : Int) < ((x7_3.length : Int) : Int) := dt_; obtain ⟨hx70_0, hf70_0⟩ := Kd.R_celln 0 HO_7.out (((rd_T37 l0 x10_3).f0) : Int) p70 q70; replace p70 := eq_true p70; replace q70 := eq_true q70; have HP71 := Kd.R_putg HO_7.out (((rd_T37 l0 x10_3).f0) : Int) (wrap64 ((rd x7_3 ((rd_T37 l0 x10_3).f1)) + ((rd_T37 l0 x10_3).f2)))
                               go_wp2_with (first | ((with_reducible refine gate_store (t := 3) (p := 121) rfl ?_); (try (rw [drewN_self wc]; generalize hq_ : World.drewN wc _ = wc; replace HO_7 := Aside0.mk (Kd.R_at hq_ HO_7.out); replace HB := Aside0.mk (below_at hq_ HB.out); clear hq_; (try (have HP71 := Kd.R_putg HO_7.out (((rd_T37 l0 x10_3).f0) : Int) (wrap64 ((rd x7_3 ((rd_T37 l0 x10_3).f1)) + ((rd_T37 l0 x10_3).f2))))))); refine store_event (t := 3) (p := 121) (v := ?vo_w72) (w1 := (wc.setCell ⟨go10, (((rd_T37 l0 x10_3).f0) : Int).toNat, none⟩ (.int .i64 (wrap64 ((rd x7_3 ((rd_T37 l0 x10_3).f1)) + ((rd_T37 l0 x10_3).f2)))))) ?hg ?ho ?hn ?hr ?_; (case ho => rfl); (case hg => rfl); (case hn => rfl); (case hr => first | (go_simp; done) | (go_simp; rfl)); intro w72 hw; have hg : wc.grownBy w72 (some go10) := (by rw [hw]; exact HP71.2); have hp_ : Kd.R (Kd.int .i64) 3 w72 w.heap.size (fun _ => True) (.slice (some ⟨go10, 0, none⟩) x7_3.length co10) y136 := (by rw [hw, Ny136.out]; exact HP71.1); clear HP71; replace HO_7 := Aside0.mk (hp_); replace HB := Aside0.mk ((by rw [hw]; exact below_set (HB.out) GB10.out : Below w.heap.size w w72)); clear hg hw hp_))
                               repeat (go_quiet (first | ((with_reducible refine gate_store (t := 3) (p := 121) rfl ?_); (try (rw [drewN_self wc]; generalize hq_ : World.drewN wc _ = wc; replace HO_7 := Aside0.mk (Kd.R_at hq_ HO_7.out); replace HB := Aside0.mk (below_at hq_ HB.out); clear hq_; (try (have HP71 := Kd.R_putg HO_7.out (((rd_T37 l0 x10_3).f0) : Int) (wrap64 ((rd x7_3 ((rd_T37 l0 x10_3).f1)) + ((rd_T37 l0 x10_3).f2))))))); refine store_event (t := 3) (p := 121) (v := ?vo_w72) (w1 := (wc.setCell ⟨go10, (((rd_T37 l0 x10_3).f0) : Int).toNat, none⟩ (.int .i64 (wrap64 ((rd x7_3 ((rd_T37 l0 x10_3).f1)) + ((rd_T37 l0 x10_3).f2)))))) ?hg ?ho ?hn ?hr ?_; (case ho => rfl); (case hg => rfl); (case hn => rfl); (case hr => first | (go_simp; done) | (go_simp; rfl)); intro w72 hw; have hg : wc.grownBy w72 (some go10) := (by rw [hw]; exact HP71.2); have hp_ : Kd.R (Kd.int .i64) 3 w72 w.heap.size (fun _ => True) (.slice (some ⟨go10, 0, none⟩) x7_3.length co10) y136 := (by rw [hw, Ny136.out]; exact HP71.1); clear HP71; replace HO_7 := Aside0.mk (hp_); replace HB := Aside0.mk ((by rw [hw]; exact below_set (HB.out) GB10.out : Below w.heap.size w w72)); clear hg hw hp_)); try go_wp2_with (first | ((with_reducible refine gate_store (t := 3) (p := 121) rfl ?_); (try (rw [drewN_self wc]; generalize hq_ : World.drewN wc _ = wc; replace HO_7 := Aside0.mk (Kd.R_at hq_ HO_7.out); replace HB := Aside0.mk (below_at hq_ HB.out); clear hq_; (try (have HP71 := Kd.R_putg HO_7.out (((rd_T37 l0 x10_3).f0) : Int) (wrap64 ((rd x7_3 ((rd_T37 l0 x10_3).f1)) + ((rd_T37 l0 x10_3).f2))))))); refine store_event (t := 3) (p := 121) (v := ?vo_w72) (w1 := (wc.setCell ⟨go10, (((rd_T37 l0 x10_3).f0) : Int).toNat, none⟩ (.int .i64 (wrap64 ((rd x7_3 ((rd_T37 l0 x10_3).f1)) + ((rd_T37 l0 x10_3).f2)))))) ?hg ?ho ?hn ?hr ?_; (case ho => rfl); (case hg => rfl); (case hn => rfl); (case hr => first | (go_simp; done) | (go_simp; rfl)); intro w72 hw; have hg : wc.grownBy w72 (some go10) := (by rw [hw]; exact HP71.2); have hp_ : Kd.R (Kd.int .i64) 3 w72 w.heap.size (fun _ => True) (.slice (some ⟨go10, 0, none⟩) x7_3.length co10) y136 := (by rw [hw, Ny136.out]; exact HP71.1); clear HP71; replace HO_7 := Aside0.mk (hp_); replace HB := Aside0.mk ((by rw [hw]; exact below_set (HB.out) GB10.out : Below w.heap.size w w72)); clear hg hw hp_)))
                               (try simp only [← hl7_3])
                               go_roundg kj27
                               case measure => have := HK1.out; have := HK2.out; have := HK3.out; have := HJ15.out; have := HJ27.out; omega
                               case rel => exact ⟨(y136), (true), (wrap64 (x10_3 + 1)), (by first | rfl | (simp; done) | (simp [*]; done)), (by first | rfl | (simp; done) | (simp [*]; done)), H', ⟨by have := HK1.out; have := HK2.out; have := HK3.out; have := HJ15.out; have := HJ27.out; omega⟩, ⟨by (try simp only [hl7_2]); (try simp only [hl7_3]); (with_reducible repeat (first | apply Kd.R_alloc | apply Kd.R_drewN | apply Kd.R_drew)); first | exact HO_7.out | (rw [Ny136.out]; exact (Kd.R_putg (Kd.R_drewN HO_7.out _) _ _).1) | (rw [Ny136.out]; exact (Kd.R_putg HO_7.out _ _).1)⟩, ⟨by repeat (first | (with_reducible first | exact HB.out | apply below_alloc | apply pw_below_drewN | apply below_drew1) | exact HB.out | (first | exact below_set (pw_below_drewN HB.out _) GB10.out | exact below_set HB.out GB10.out))⟩⟩
                              ·
                               rw [if_neg c69] at H
                               have c69b0 : decide ((wrap64 ((rd x7_3 ((rd_T37 l0 x10_3).f1)) + ((rd_T37 l0 x10_3).f2))) < (rd x7_3 ((rd_T37 l0 x10_3).f0))) = false := decide_eq_false c69; clear c69; have H' := Aside0.mk H; clear H; have p130 : 0 ≤ (((rd_T37 l0 x10_3).f1) : Int) := dt_; have q130 : ((rd_T37 l0 x10_3).f1) < (x7_3.length : Int) := dt_; obtain ⟨ad130, e130, hx130_0⟩ := Kd.at_int (Kd.R_reads' HO_7.out).2.2 ((rd_T37 l0 x10_3).f1) p130 q130
                               obtain rfl : (⟨go10, 0, none⟩ : Addr) = ad130 := (by injection e130)
                               (first | simp only [add_plain] at hx130_0 | simp only [add_at] at hx130_0 | simp only [Addr.add, Nat.zero_add] at hx130_0 | skip)
                               replace p130 := eq_true p130; replace q130 := eq_true q130; have p131 : 0 ≤ (x10_3 : Int) := dt_; have q131 : x10_3 < (l0.length : Int) := dt_; obtain ⟨ad131, e131, hx131_0, hx131_1, hx131_2, hx131_3, hx131_4⟩ := at_T37 HR0.out x10_3 p131 q131
                               obtain rfl : ad113 = ad131 := (by injection e131)
                               replace hx131_0 := bc_ HB.out hx131_0; replace hx131_1 := bc_ HB.out hx131_1; replace hx131_2 := bc_ HB.out hx131_2; replace hx131_3 := bc_ HB.out hx131_3; replace hx131_4 := bc_ HB.out hx131_4; replace p131 := eq_true p131; replace q131 := eq_true q131; have p132 : 0 ≤ (((rd_T37 l0 x10_3).f1) : Int) := dt_; have q132 : ((rd_T37 l0 x10_3).f1) < (x7_3.length : Int) := dt_; obtain ⟨ad132, e132, hx132_0⟩ := Kd.at_int (Kd.R_reads' HO_7.out).2.2 ((rd_T37 l0 x10_3).f1) p132 q132
                               obtain rfl : (⟨go10, 0, none⟩ : Addr) = ad132 := (by injection e132)
                               (first | simp only [add_plain] at hx132_0 | simp only [add_at] at hx132_0 | simp only [Addr.add, Nat.zero_add] at hx132_0 | skip)
                               replace p132 := eq_true p132; replace q132 := eq_true q132; have p133 : 0 ≤ (((rd_T37 l0 x10_3).f0) : Int) := dt_; have q133 : ((rd_T37 l0 x10_3).f0) < (x7_3.length : Int) := dt_; obtain ⟨ad133, e133, hx133_0⟩ := Kd.at_int (Kd.R_reads' HO_7.out).2.2 ((rd_T37 l0 x10_3).f0) p133 q133
                               obtain rfl : (⟨go10, 0, none⟩ : Addr) = ad133 := (by injection e133)
                               (first | simp only [add_plain] at hx133_0 | simp only [add_at] at hx133_0 | simp only [Addr.add, Nat.zero_add] at hx133_0 | skip)
                               replace p133 := eq_true p133; replace q133 := eq_true q133; have p135 : 0 ≤ (((rd_T37 l0 x10_3).f0) : Int) := dt_; have q135 : ((rd_T37 l0 x10_3).f0) < (x7_3.length : Int) := dt_; obtain ⟨ad135, e135, hx135_0⟩ := Kd.at_int (Kd.R_reads' HO_7.out).2.2 ((rd_T37 l0 x10_3).f0) p135 q135
                               obtain rfl : (⟨go10, 0, none⟩ : Addr) = ad135 := (by injection e135)
                               (first | simp only [add_plain] at hx135_0 | simp only [add_at] at hx135_0 | simp only [Addr.add, Nat.zero_add] at hx135_0 | skip)
                               replace p135 := eq_true p135; replace q135 := eq_true q135
                               go_wp2
                               repeat (go_quiet (fail); try go_wp2)
                               (try simp only [← hl7_3])
                               go_roundg kj27
                               case measure => have := HK1.out; have := HK2.out; have := HK3.out; have := HJ15.out; have := HJ27.out; omega
                               case rel => exact ⟨(x7_3), (x9_3), (wrap64 (x10_3 + 1)), (by first | rfl | (simp; done) | (simp [*]; done)), (by first | rfl | (simp; done) | (simp [*]; done)), H', ⟨by have := HK1.out; have := HK2.out; have := HK3.out; have := HJ15.out; have := HJ27.out; omega⟩, ⟨by (try simp only [hl7_2]); (try simp only [hl7_3]); (with_reducible repeat (first | apply Kd.R_alloc | apply Kd.R_drewN | apply Kd.R_drew)); exact HO_7.out⟩, ⟨lb0_ HB.out⟩⟩
                            ·
                             rw [if_neg c64] at H
                             exact absurd H (by simp)
                           ·
                            rw [if_neg c63] at H
                            exact absurd H (by simp)
                          ·
                           rw [if_neg c62] at H
                           have c62b0 : decide (0 ≤ (rd x7_3 ((rd_T37 l0 x10_3).f1))) = false := decide_eq_false c62; clear c62; have H' := Aside0.mk H; clear H; have p130 : 0 ≤ (((rd_T37 l0 x10_3).f1) : Int) := dt_; have q130 : ((rd_T37 l0 x10_3).f1) < (x7_3.length : Int) := dt_; obtain ⟨ad130, e130, hx130_0⟩ := Kd.at_int (Kd.R_reads' HO_7.out).2.2 ((rd_T37 l0 x10_3).f1) p130 q130
                           obtain rfl : (⟨go10, 0, none⟩ : Addr) = ad130 := (by injection e130)
                           (first | simp only [add_plain] at hx130_0 | simp only [add_at] at hx130_0 | simp only [Addr.add, Nat.zero_add] at hx130_0 | skip)
                           replace p130 := eq_true p130; replace q130 := eq_true q130; have p131 : 0 ≤ (x10_3 : Int) := dt_; have q131 : x10_3 < (l0.length : Int) := dt_; obtain ⟨ad131, e131, hx131_0, hx131_1, hx131_2, hx131_3, hx131_4⟩ := at_T37 HR0.out x10_3 p131 q131
                           obtain rfl : ad113 = ad131 := (by injection e131)
                           replace hx131_0 := bc_ HB.out hx131_0; replace hx131_1 := bc_ HB.out hx131_1; replace hx131_2 := bc_ HB.out hx131_2; replace hx131_3 := bc_ HB.out hx131_3; replace hx131_4 := bc_ HB.out hx131_4; replace p131 := eq_true p131; replace q131 := eq_true q131; have p132 : 0 ≤ (((rd_T37 l0 x10_3).f1) : Int) := dt_; have q132 : ((rd_T37 l0 x10_3).f1) < (x7_3.length : Int) := dt_; obtain ⟨ad132, e132, hx132_0⟩ := Kd.at_int (Kd.R_reads' HO_7.out).2.2 ((rd_T37 l0 x10_3).f1) p132 q132
                           obtain rfl : (⟨go10, 0, none⟩ : Addr) = ad132 := (by injection e132)
                           (first | simp only [add_plain] at hx132_0 | simp only [add_at] at hx132_0 | simp only [Addr.add, Nat.zero_add] at hx132_0 | skip)
                           replace p132 := eq_true p132; replace q132 := eq_true q132
                           go_wp2
                           repeat (go_quiet (fail); try go_wp2)
                           (try simp only [← hl7_3])
                           go_roundg kj27
                           case measure => have := HK1.out; have := HK2.out; have := HK3.out; have := HJ15.out; have := HJ27.out; omega
                           case rel => exact ⟨(x7_3), (x9_3), (wrap64 (x10_3 + 1)), (by first | rfl | (simp; done) | (simp [*]; done)), (by first | rfl | (simp; done) | (simp [*]; done)), H', ⟨by have := HK1.out; have := HK2.out; have := HK3.out; have := HJ15.out; have := HJ27.out; omega⟩, ⟨by (try simp only [hl7_2]); (try simp only [hl7_3]); (with_reducible repeat (first | apply Kd.R_alloc | apply Kd.R_drewN | apply Kd.R_drew)); exact HO_7.out⟩, ⟨lb0_ HB.out⟩⟩
                         ·
                          rw [if_neg c61] at H
                          exact absurd H (by simp)
                        ·
                         rw [if_neg c60] at H
                         exact absurd H (by simp)
                       ·
                        rw [if_neg c59] at H
                        exact absurd H (by simp)
                      ·
                       rw [if_neg c58] at H
                       exact absurd H (by simp)
                  ·
                   rw [if_neg c27] at H
                   exact absurd H (by simp)
                 ·
                  rw [if_neg c26] at H
                  exact absurd H (by simp)
                ·
                 rw [if_neg c25] at H
                 exact absurd H (by simp)
               ·
                rw [if_neg c24] at H
                exact absurd H (by simp)
           ·
            rw [if_neg c15] at H
            exact absurd H (by simp)
          ·
           rw [if_neg c14] at H
           have c14b0 : decide (x10_3 < (l0.length : Int)) = false := decide_eq_false c14; clear c14; have H' := Aside0.mk H; clear H
           go_wp2
           repeat (go_quiet (fail); try go_wp2)
           (try simp only [← hl7_2, ← hl7_3])
           go_roundg k3
           case measure => have := HK1.out; have := HK2.out; have := HK3.out; omega
           case rel => exact ⟨(x7_3), (x9_3), (by first | rfl | (simp; done) | (simp [*]; done)), H', ⟨by have := HK1.out; have := HK2.out; have := HK3.out; omega⟩, ⟨by (try simp only [hl7_2]); (try simp only [hl7_3]); (with_reducible repeat (first | apply Kd.R_alloc | apply Kd.R_drewN | apply Kd.R_drew)); exact HO_7.out⟩, ⟨lb0_ HB.out⟩⟩
       ·
        replace c13 := Bool.eq_false_iff.mpr c13; subst c13
        have H1 : (if 0 ≤ a2 then (if a2 < (x7_2.length : Int) then (some (rd x7_2 a2)) else (none)) else (none)) = some r := by rw [if_neg (show ¬ (false = true) by decide)] at H; exact H
        clear H; have H := H1; clear H1
        by_cases c73 : 0 ≤ a2
        ·
         rw [if_pos c73] at H
         have c73b0 : decide (0 ≤ a2) = true := decide_eq_true c73; clear c73
         by_cases c74 : a2 < (x7_2.length : Int)
         ·
          rw [if_pos c74] at H
          have c74b0 : decide (a2 < (x7_2.length : Int)) = true := decide_eq_true c74; clear c74; obtain rfl := Option.some.inj H; have p112 : 0 ≤ (a2 : Int) := dt_; have q112 : a2 < (x7_2.length : Int) := dt_; obtain ⟨ad112, e112, hx112_0⟩ := Kd.at_int (Kd.R_reads' HO_7.out).2.2 a2 p112 q112
          obtain rfl : (⟨go10, 0, none⟩ : Addr) = ad112 := (by injection e112)
          (first | simp only [add_plain] at hx112_0 | simp only [add_at] at hx112_0 | simp only [Addr.add, Nat.zero_add] at hx112_0 | skip)
          replace p112 := eq_true p112; replace q112 := eq_true q112
          go_wp2
          repeat (go_quiet (fail); try go_wp2)
          go_ret
          exact ⟨rr_, lb0_ HB.out⟩
         ·
          rw [if_neg c74] at H
          exact absurd H (by simp)
        ·
         rw [if_neg c73] at H
         exact absurd H (by simp)
    ·
     rw [if_neg c9] at H
     exact absurd H (by simp)
def spec_l1In.f (a0 : Int) (a1 : Int) (a2 : Int) : Option (Bool) := if a0 ≥ a1 then (some (decide (a0 ≤ a2))) else (some false)
theorem spec_l1In.calls (a0 : Int) (a1 : Int) (a2 : Int) (r : Bool) (w : World) (h : spec_l1In.f a0 a1 a2 = some r) :
  Calls Try.prog 101 #[.int .i64 a0, .int .i64 a1, .int .i64 a2] w fun e w' => e = .returned (.bool r) ∧ Drawn0 w w' := by
 have H : (if a0 ≥ a1 then (some (decide (a0 ≤ a2))) else (some false)) = some r := h
 clear h
 by_cases c4 : a0 ≥ a1
 ·
  rw [if_pos c4] at H
  have c4b0 : decide (a1 ≤ a0) = true := decide_eq_true c4
  clear c4
  obtain rfl := Option.some.inj H
  go_enter Try.func101, Try.ntmps101
  go_wp2
  go_ret
  exact ⟨by first | rfl | (simp; done) | (simp [*]; done), by repeat (first | exact Drawn0.refl _ | apply Drawn0.step)⟩
 ·
  rw [if_neg c4] at H
  have c4b0 : decide (a1 ≤ a0) = false := decide_eq_false c4
  clear c4
  obtain rfl := Option.some.inj H
  go_enter Try.func101, Try.ntmps101
  go_wp2
  go_ret
  exact ⟨by first | rfl | (simp; done) | (simp [*]; done), by repeat (first | exact Drawn0.refl _ | apply Drawn0.step)⟩
def spec_l4Station.f (a0 : Int) : Option (Bool) := (spec_l1In.f a0 0 7).bind fun t137 => (some t137)
theorem spec_l4Station.calls (a0 : Int) (r : Bool) (w : World) (h : spec_l4Station.f a0 = some r) :
  Calls Try.prog 100 #[.int .i64 a0] w fun e w' => e = .returned (.bool r) ∧ Drawn0 w w' := by
 have H : ((spec_l1In.f a0 0 7).bind fun t137 => (some t137)) = some r := h
 clear h
 replace H := Option.bind_eq_some_iff.mp H
 obtain ⟨t137, A20, H⟩ := H
 replace H : (some t137) = some r := H
 have A2 := Aside0.mk A20
 clear A20
 obtain rfl := Option.some.inj H
 go_enter Try.func100, Try.ntmps100
 go_wp2_with (first | ((with_reducible refine gate_callee (f := 101) rfl ?_); refine ga_ (some 4) Try.func101 #[.int .i64 a0, .int .i64 0, .int .i64 7] ?_; (with_reducible refine (spec_l1In.calls a0 0 7 t137 _ A2.out).mono ?_); rintro e w' ⟨rfl, ⟨nd, rfl⟩⟩; refine ⟨_, rfl, ?_⟩))
 go_ret
 exact ⟨by first | rfl | (simp; done) | (simp [*]; done), by repeat (first | exact Drawn0.refl _ | apply Drawn0.step)⟩
def spec_l2Bearing.f (a0 : Int) : Option (Bool) := (spec_l1In.f a0 0 359).bind fun t138 => (some t138)
theorem spec_l2Bearing.calls (a0 : Int) (r : Bool) (w : World) (h : spec_l2Bearing.f a0 = some r) :
  Calls Try.prog 120 #[.int .i64 a0] w fun e w' => e = .returned (.bool r) ∧ Drawn0 w w' := by
 have H : ((spec_l1In.f a0 0 359).bind fun t138 => (some t138)) = some r := h
 clear h
 replace H := Option.bind_eq_some_iff.mp H
 obtain ⟨t138, A20, H⟩ := H
 replace H : (some t138) = some r := H
 have A2 := Aside0.mk A20
 clear A20
 obtain rfl := Option.some.inj H
 go_enter Try.func120, Try.ntmps120
 go_wp2_with (first | ((with_reducible refine gate_callee (f := 101) rfl ?_); refine ga_ (some 4) Try.func101 #[.int .i64 a0, .int .i64 0, .int .i64 359] ?_; (with_reducible refine (spec_l1In.calls a0 0 359 t138 _ A2.out).mono ?_); rintro e w' ⟨rfl, ⟨nd, rfl⟩⟩; refine ⟨_, rfl, ?_⟩))
 go_ret
 exact ⟨by first | rfl | (simp; done) | (simp [*]; done), by repeat (first | exact Drawn0.refl _ | apply Drawn0.step)⟩
def spec_l4Leg.f (a0_0 : Int) (a0_1 : Int) (a0_2 : Int) (a0_3 : Int) (a0_4 : Int) : Option (Bool) := (spec_l4Station.f a0_0).bind fun t140 => (if t140 = true then ((spec_l4Station.f a0_1).bind fun t141 => (if t141 = true then (if a0_0 = a0_1 then (some false) else ((spec_l1In.f a0_2 1 500).bind fun t142 => (if t142 = true then ((spec_l2Bearing.f a0_3).bind fun t143 => (if t143 = true then ((spec_l1In.f a0_4 (-90) 90).bind fun t144 => (some t144)) else (some false))) else (some false)))) else (some false))) else (some false))
theorem spec_l4Leg.calls (a0_0 : Int) (a0_1 : Int) (a0_2 : Int) (a0_3 : Int) (a0_4 : Int) (r : Bool) (w : World) (h : spec_l4Leg.f a0_0 a0_1 a0_2 a0_3 a0_4 = some r) :
  Calls Try.prog 106 #[.agg #[.int .i64 a0_0, .int .i64 a0_1, .int .i64 a0_2, .int .i64 a0_3, .int .i64 a0_4]] w fun e w' => e = .returned (.bool r) ∧ Below w.heap.size w w' := by
 have hu37 := Try.underlying37
 have HB := Aside0.mk (Below.refl w.heap.size w)
 have H : ((spec_l4Station.f a0_0).bind fun t140 => (if t140 = true then ((spec_l4Station.f a0_1).bind fun t141 => (if t141 = true then (if a0_0 = a0_1 then (some false) else ((spec_l1In.f a0_2 1 500).bind fun t142 => (if t142 = true then ((spec_l2Bearing.f a0_3).bind fun t143 => (if t143 = true then ((spec_l1In.f a0_4 (-90) 90).bind fun t144 => (some t144)) else (some false))) else (some false)))) else (some false))) else (some false))) = some r := h
 clear h
 replace H := Option.bind_eq_some_iff.mp H
 obtain ⟨t140, A20, H⟩ := H
 replace H : (if t140 = true then ((spec_l4Station.f a0_1).bind fun t141 => (if t141 = true then (if a0_0 = a0_1 then (some false) else ((spec_l1In.f a0_2 1 500).bind fun t142 => (if t142 = true then ((spec_l2Bearing.f a0_3).bind fun t143 => (if t143 = true then ((spec_l1In.f a0_4 (-90) 90).bind fun t144 => (some t144)) else (some false))) else (some false)))) else (some false))) else (some false)) = some r := H
 have A2 := Aside0.mk A20
 clear A20
 by_cases c3 : t140 = true
 ·
  subst c3
  have H1 : ((spec_l4Station.f a0_1).bind fun t141 => (if t141 = true then (if a0_0 = a0_1 then (some false) else ((spec_l1In.f a0_2 1 500).bind fun t142 => (if t142 = true then ((spec_l2Bearing.f a0_3).bind fun t143 => (if t143 = true then ((spec_l1In.f a0_4 (-90) 90).bind fun t144 => (some t144)) else (some false))) else (some false)))) else (some false))) = some r := by rw [if_pos rfl] at H; exact H
  clear H
  have H := H1
  clear H1
  replace H := Option.bind_eq_some_iff.mp H
  obtain ⟨t141, A40, H⟩ := H
  replace H : (if t141 = true then (if a0_0 = a0_1 then (some false) else ((spec_l1In.f a0_2 1 500).bind fun t142 => (if t142 = true then ((spec_l2Bearing.f a0_3).bind fun t143 => (if t143 = true then ((spec_l1In.f a0_4 (-90) 90).bind fun t144 => (some t144)) else (some false))) else (some false)))) else (some false)) = some r := H
  have A4 := Aside0.mk A40
  clear A40
  by_cases c5 : t141 = true
  ·
   subst c5
   have H1 : (if a0_0 = a0_1 then (some false) else ((spec_l1In.f a0_2 1 500).bind fun t142 => (if t142 = true then ((spec_l2Bearing.f a0_3).bind fun t143 => (if t143 = true then ((spec_l1In.f a0_4 (-90) 90).bind fun t144 => (some t144)) else (some false))) else (some false)))) = some r := by rw [if_pos rfl] at H; exact H
   clear H
   have H := H1
   clear H1
   by_cases c6 : a0_0 = a0_1
   ·
    rw [if_pos c6] at H
    have c6b0 : (a0_0 == a0_1) = true := beq_iff_eq.mpr c6
    have c6b1 : (a0_0 != a0_1) = false := bne_eq_false_iff_eq.mpr c6
    clear c6
    obtain rfl := Option.some.inj H
    go_enter Try.func106, Try.ntmps106
    go_wp2_with (first | ((with_reducible refine gate_dst (N := 1) rfl ?_); refine box_event ?hg (N := 1) ?hd (cs := #[.int .i64 a0_0, .int .i64 a0_1, .int .i64 a0_2, .int .i64 a0_3, .int .i64 a0_4]) (t := 37) ?hr ?_; (case hd => rfl); (case hg => rfl); (case hr => first | (go_simp; done) | (go_simp; rfl)); intro gb139 hg w7 hbox hb; have BK139 := Aside0.mk (hbox); have GW139 := Aside0.mk ((bz_ hg (lb0_ HB.out))); have GE139 := Aside0.mk ((bz_ hg (lb0_ HB.out))); replace HB := Aside0.mk (below_step (lb0_ HB.out) hb); clear hb hbox hg; obtain ⟨hcz8_0, hcz8_1, hcz8_2, hcz8_3, hcz8_4⟩ := cz5_ BK139.out; obtain ⟨hfz8_0, hfz8_1, hfz8_2, hfz8_3, hfz8_4⟩ := fz5_ BK139.out) | ((with_reducible refine gate_callee (f := 100) rfl ?_); refine ga_ (some 5) Try.func100 #[.int .i64 a0_0] ?_; (with_reducible refine (spec_l4Station.calls a0_0 true _ A2.out).mono ?_); rintro e w' ⟨rfl, ⟨nd, rfl⟩⟩; refine ⟨_, rfl, ?_⟩) | (go_at_call 100; (with_reducible refine (spec_l4Station.calls a0_1 true _ A4.out).mono ?_); rintro e w' ⟨rfl, ⟨nd, rfl⟩⟩))
    go_ret
    exact ⟨rr_, lb1_ HB.out GE139.out⟩
   ·
    rw [if_neg c6] at H
    have c6b0 : (a0_0 == a0_1) = false := beq_eq_false_iff_ne.mpr c6
    have c6b1 : (a0_0 != a0_1) = true := bne_iff_ne.mpr c6
    replace H := Option.bind_eq_some_iff.mp H
    obtain ⟨t142, A90, H⟩ := H
    replace H : (if t142 = true then ((spec_l2Bearing.f a0_3).bind fun t143 => (if t143 = true then ((spec_l1In.f a0_4 (-90) 90).bind fun t144 => (some t144)) else (some false))) else (some false)) = some r := H
    have A9 := Aside0.mk A90
    clear A90
    by_cases c10 : t142 = true
    ·
     subst c10
     have H1 : ((spec_l2Bearing.f a0_3).bind fun t143 => (if t143 = true then ((spec_l1In.f a0_4 (-90) 90).bind fun t144 => (some t144)) else (some false))) = some r := by rw [if_pos rfl] at H; exact H
     clear H
     have H := H1
     clear H1
     replace H := Option.bind_eq_some_iff.mp H
     obtain ⟨t143, A110, H⟩ := H
     replace H : (if t143 = true then ((spec_l1In.f a0_4 (-90) 90).bind fun t144 => (some t144)) else (some false)) = some r := H
     have A11 := Aside0.mk A110
     clear A110
     by_cases c12 : t143 = true
     ·
      subst c12
      have H1 : ((spec_l1In.f a0_4 (-90) 90).bind fun t144 => (some t144)) = some r := by rw [if_pos rfl] at H; exact H
      clear H
      have H := H1
      clear H1
      replace H := Option.bind_eq_some_iff.mp H
      obtain ⟨t144, A130, H⟩ := H
      replace H : (some t144) = some r := H
      have A13 := Aside0.mk A130
      clear A130
      obtain rfl := Option.some.inj H
      go_enter Try.func106, Try.ntmps106
      go_wp2_with (first | ((with_reducible refine gate_dst (N := 1) rfl ?_); refine box_event ?hg (N := 1) ?hd (cs := #[.int .i64 a0_0, .int .i64 a0_1, .int .i64 a0_2, .int .i64 a0_3, .int .i64 a0_4]) (t := 37) ?hr ?_; (case hd => rfl); (case hg => rfl); (case hr => first | (go_simp; done) | (go_simp; rfl)); intro gb139 hg w14 hbox hb; have BK139 := Aside0.mk (hbox); have GW139 := Aside0.mk ((bz_ hg (lb0_ HB.out))); have GE139 := Aside0.mk ((bz_ hg (lb0_ HB.out))); replace HB := Aside0.mk (below_step (lb0_ HB.out) hb); clear hb hbox hg; obtain ⟨hcz15_0, hcz15_1, hcz15_2, hcz15_3, hcz15_4⟩ := cz5_ BK139.out; obtain ⟨hfz15_0, hfz15_1, hfz15_2, hfz15_3, hfz15_4⟩ := fz5_ BK139.out) | ((with_reducible refine gate_callee (f := 100) rfl ?_); refine ga_ (some 5) Try.func100 #[.int .i64 a0_0] ?_; (with_reducible refine (spec_l4Station.calls a0_0 true _ A2.out).mono ?_); rintro e w' ⟨rfl, ⟨nd, rfl⟩⟩; refine ⟨_, rfl, ?_⟩) | (go_at_call 100; (with_reducible refine (spec_l4Station.calls a0_1 true _ A4.out).mono ?_); rintro e w' ⟨rfl, ⟨nd, rfl⟩⟩) | (go_at_call 101; (with_reducible refine (spec_l1In.calls a0_2 1 500 true _ A9.out).mono ?_); rintro e w' ⟨rfl, ⟨nd, rfl⟩⟩) | (go_at_call 120; (with_reducible refine (spec_l2Bearing.calls a0_3 true _ A11.out).mono ?_); rintro e w' ⟨rfl, ⟨nd, rfl⟩⟩) | (go_at_call 101; (with_reducible refine (spec_l1In.calls a0_4 (-90) 90 t144 _ A13.out).mono ?_); rintro e w' ⟨rfl, ⟨nd, rfl⟩⟩))
      go_ret
      exact ⟨rr_, lb1_ HB.out GE139.out⟩
     ·
      replace c12 := Bool.eq_false_iff.mpr c12
      subst c12
      have H1 : (some false) = some r := by rw [if_neg (show ¬ (false = true) by decide)] at H; exact H
      clear H
      have H := H1
      clear H1
      obtain rfl := Option.some.inj H
      go_enter Try.func106, Try.ntmps106
      go_wp2_with (first | ((with_reducible refine gate_dst (N := 1) rfl ?_); refine box_event ?hg (N := 1) ?hd (cs := #[.int .i64 a0_0, .int .i64 a0_1, .int .i64 a0_2, .int .i64 a0_3, .int .i64 a0_4]) (t := 37) ?hr ?_; (case hd => rfl); (case hg => rfl); (case hr => first | (go_simp; done) | (go_simp; rfl)); intro gb139 hg w16 hbox hb; have BK139 := Aside0.mk (hbox); have GW139 := Aside0.mk ((bz_ hg (lb0_ HB.out))); have GE139 := Aside0.mk ((bz_ hg (lb0_ HB.out))); replace HB := Aside0.mk (below_step (lb0_ HB.out) hb); clear hb hbox hg; obtain ⟨hcz17_0, hcz17_1, hcz17_2, hcz17_3, hcz17_4⟩ := cz5_ BK139.out; obtain ⟨hfz17_0, hfz17_1, hfz17_2, hfz17_3, hfz17_4⟩ := fz5_ BK139.out) | ((with_reducible refine gate_callee (f := 100) rfl ?_); refine ga_ (some 5) Try.func100 #[.int .i64 a0_0] ?_; (with_reducible refine (spec_l4Station.calls a0_0 true _ A2.out).mono ?_); rintro e w' ⟨rfl, ⟨nd, rfl⟩⟩; refine ⟨_, rfl, ?_⟩) | (go_at_call 100; (with_reducible refine (spec_l4Station.calls a0_1 true _ A4.out).mono ?_); rintro e w' ⟨rfl, ⟨nd, rfl⟩⟩) | (go_at_call 101; (with_reducible refine (spec_l1In.calls a0_2 1 500 true _ A9.out).mono ?_); rintro e w' ⟨rfl, ⟨nd, rfl⟩⟩) | (go_at_call 120; (with_reducible refine (spec_l2Bearing.calls a0_3 false _ A11.out).mono ?_); rintro e w' ⟨rfl, ⟨nd, rfl⟩⟩))
      go_ret
      exact ⟨rr_, lb1_ HB.out GE139.out⟩
    ·
     replace c10 := Bool.eq_false_iff.mpr c10
     subst c10
     have H1 : (some false) = some r := by rw [if_neg (show ¬ (false = true) by decide)] at H; exact H
     clear H
     have H := H1
     clear H1
     obtain rfl := Option.some.inj H
     go_enter Try.func106, Try.ntmps106
     go_wp2_with (first | ((with_reducible refine gate_dst (N := 1) rfl ?_); refine box_event ?hg (N := 1) ?hd (cs := #[.int .i64 a0_0, .int .i64 a0_1, .int .i64 a0_2, .int .i64 a0_3, .int .i64 a0_4]) (t := 37) ?hr ?_; (case hd => rfl); (case hg => rfl); (case hr => first | (go_simp; done) | (go_simp; rfl)); intro gb139 hg w18 hbox hb; have BK139 := Aside0.mk (hbox); have GW139 := Aside0.mk ((bz_ hg (lb0_ HB.out))); have GE139 := Aside0.mk ((bz_ hg (lb0_ HB.out))); replace HB := Aside0.mk (below_step (lb0_ HB.out) hb); clear hb hbox hg; obtain ⟨hcz19_0, hcz19_1, hcz19_2, hcz19_3, hcz19_4⟩ := cz5_ BK139.out; obtain ⟨hfz19_0, hfz19_1, hfz19_2, hfz19_3, hfz19_4⟩ := fz5_ BK139.out) | ((with_reducible refine gate_callee (f := 100) rfl ?_); refine ga_ (some 5) Try.func100 #[.int .i64 a0_0] ?_; (with_reducible refine (spec_l4Station.calls a0_0 true _ A2.out).mono ?_); rintro e w' ⟨rfl, ⟨nd, rfl⟩⟩; refine ⟨_, rfl, ?_⟩) | (go_at_call 100; (with_reducible refine (spec_l4Station.calls a0_1 true _ A4.out).mono ?_); rintro e w' ⟨rfl, ⟨nd, rfl⟩⟩) | (go_at_call 101; (with_reducible refine (spec_l1In.calls a0_2 1 500 false _ A9.out).mono ?_); rintro e w' ⟨rfl, ⟨nd, rfl⟩⟩))
     go_ret
     exact ⟨rr_, lb1_ HB.out GE139.out⟩
  ·
   replace c5 := Bool.eq_false_iff.mpr c5
   subst c5
   have H1 : (some false) = some r := by rw [if_neg (show ¬ (false = true) by decide)] at H; exact H
   clear H
   have H := H1
   clear H1
   obtain rfl := Option.some.inj H
   go_enter Try.func106, Try.ntmps106
   go_wp2_with (first | ((with_reducible refine gate_dst (N := 1) rfl ?_); refine box_event ?hg (N := 1) ?hd (cs := #[.int .i64 a0_0, .int .i64 a0_1, .int .i64 a0_2, .int .i64 a0_3, .int .i64 a0_4]) (t := 37) ?hr ?_; (case hd => rfl); (case hg => rfl); (case hr => first | (go_simp; done) | (go_simp; rfl)); intro gb139 hg w20 hbox hb; have BK139 := Aside0.mk (hbox); have GW139 := Aside0.mk ((bz_ hg (lb0_ HB.out))); have GE139 := Aside0.mk ((bz_ hg (lb0_ HB.out))); replace HB := Aside0.mk (below_step (lb0_ HB.out) hb); clear hb hbox hg; obtain ⟨hcz21_0, hcz21_1, hcz21_2, hcz21_3, hcz21_4⟩ := cz5_ BK139.out; obtain ⟨hfz21_0, hfz21_1, hfz21_2, hfz21_3, hfz21_4⟩ := fz5_ BK139.out) | ((with_reducible refine gate_callee (f := 100) rfl ?_); refine ga_ (some 5) Try.func100 #[.int .i64 a0_0] ?_; (with_reducible refine (spec_l4Station.calls a0_0 true _ A2.out).mono ?_); rintro e w' ⟨rfl, ⟨nd, rfl⟩⟩; refine ⟨_, rfl, ?_⟩) | (go_at_call 100; (with_reducible refine (spec_l4Station.calls a0_1 false _ A4.out).mono ?_); rintro e w' ⟨rfl, ⟨nd, rfl⟩⟩))
   go_ret
   exact ⟨rr_, lb1_ HB.out GE139.out⟩
 ·
  replace c3 := Bool.eq_false_iff.mpr c3
  subst c3
  have H1 : (some false) = some r := by rw [if_neg (show ¬ (false = true) by decide)] at H; exact H
  clear H
  have H := H1
  clear H1
  obtain rfl := Option.some.inj H
  go_enter Try.func106, Try.ntmps106
  go_wp2_with (first | ((with_reducible refine gate_dst (N := 1) rfl ?_); refine box_event ?hg (N := 1) ?hd (cs := #[.int .i64 a0_0, .int .i64 a0_1, .int .i64 a0_2, .int .i64 a0_3, .int .i64 a0_4]) (t := 37) ?hr ?_; (case hd => rfl); (case hg => rfl); (case hr => first | (go_simp; done) | (go_simp; rfl)); intro gb139 hg w22 hbox hb; have BK139 := Aside0.mk (hbox); have GW139 := Aside0.mk ((bz_ hg (lb0_ HB.out))); have GE139 := Aside0.mk ((bz_ hg (lb0_ HB.out))); replace HB := Aside0.mk (below_step (lb0_ HB.out) hb); clear hb hbox hg; obtain ⟨hcz23_0, hcz23_1, hcz23_2, hcz23_3, hcz23_4⟩ := cz5_ BK139.out; obtain ⟨hfz23_0, hfz23_1, hfz23_2, hfz23_3, hfz23_4⟩ := fz5_ BK139.out) | ((with_reducible refine gate_callee (f := 100) rfl ?_); refine ga_ (some 5) Try.func100 #[.int .i64 a0_0] ?_; (with_reducible refine (spec_l4Station.calls a0_0 false _ A2.out).mono ?_); rintro e w' ⟨rfl, ⟨nd, rfl⟩⟩; refine ⟨_, rfl, ?_⟩))
  go_ret
  exact ⟨rr_, lb1_ HB.out GE139.out⟩
end Go.Proofs.Ythmjimboajmhmaa.Pr

