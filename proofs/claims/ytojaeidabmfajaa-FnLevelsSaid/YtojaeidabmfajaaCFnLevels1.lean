/-
What is proved: parts of the law FnLevels: what the functions that it reaches compute, and the plain law.
Conditions: those of each theorem.
-/
import Derived.ArgAppend
import Derived.Below
import Derived.BigQuiet
import Derived.Deep.AppendLies
import Derived.Deep.CutBlock
import Derived.Deep.DeepCutAuto
import Derived.Deep.Draws
import Derived.Deep.LoopGhost
import Derived.Deep.OwnRows
import Derived.Deep.QuietTactic
import Derived.Deep.RegionHeld3
import Derived.Deep.RegionLaw
import Derived.KernelRfl
import Derived.Laws.BitsLemmas
import Derived.Laws.BytesArg
import Derived.Laws.CopyOwn
import Derived.Laws.Cover1
import Derived.Laws.IdiomCopy
import Derived.Laws.IdiomStrings
import Derived.Laws.MakeOwn
import Derived.Laws.OwnMore
import Derived.Laws.Rows
import Derived.Laws.Slices
import Derived.Lib.AppendStr
import Derived.Lib.ConvBytes
import Derived.Maps.AppendAt
import Derived.OrdersHeld
import Derived.OwnWalk
import Derived.RowKit
import Derived.RowKit3
import Derived.Shelf.Abstract
import Derived.StillTailTactics
import Derived.Tactics
import Derived.Test.YtojaeidabmfajaaProg
import Derived.WalkKit
import Derived.WideLaws
import Derived.Test.YtojaeidabmfajaaCFnLevels0
namespace Go.Proofs.Ytojaeidabmfajaa.Pr
open Go.RowKit Go.Proofs.YtojaeidabmfajaaW.PrintWords Go.Proofs.YtojaeidabmfajaaW.PrintLast Go.Proofs.YtojaeidabmfajaaW.PrintMore
attribute [local go_sem] max2_int min2_int max_two min_two max_three min_three max_four min_four   -- for this text's walks alone
set_option linter.unusedVariables false
set_option linter.unusedSimpArgs false
def errW : Option Int → Value
 | none => .nilIface
 | some c => .iface 0 (.int .i64 c)
theorem errW_none : errW none = .nilIface := rfl
theorem errW_some (c : Int) : errW (some c) = .iface 0 (.int .i64 c) := rfl
theorem info54 : (Try.prog.info? 54).map (fun i => (i.zero, i.size, i.bytes)) = some (some (.agg #[(.int .i64 0), (.int .i64 0)]), 2, 16) := by kernel_rfl
structure S54 where
 f0 : Int
 f1 : Int
def z54 : S54 := ⟨(0 : Int), (0 : Int)⟩
def k54 : Kd S54 := Kd.iso (Kd.pair (Kd.int .i64) (Kd.int .i64)) (fun x : S54 => (x.f0, x.f1))
theorem k54_open {w : World} {x : S54} {cs : List Value} (h : k54.K w x cs) : cs = [.int .i64 x.f0, .int .i64 x.f1] := by
 obtain ⟨_, _, rfl, rfl, rfl⟩ := h
 exact rfl
theorem k54_openM {w : World} {base : Nat} {ok : Nat → Prop} {x : S54} {cs : List Value} (h : k54.M w base ok x cs) : cs = [.int .i64 x.f0, .int .i64 x.f1] := by
 obtain ⟨_, _, rfl, rfl, rfl⟩ := h
 exact rfl
theorem k54_mkM (w : World) (base : Nat) (ok : Nat → Prop) (x : S54)  : k54.M w base ok x [.int .i64 x.f0, .int .i64 x.f1] := ⟨[.int .i64 x.f0], [.int .i64 x.f1], rfl, rfl, rfl⟩
def rd_T54 (xs : List S54) (i : Int) : S54 := xs.getD i.toNat z54
theorem at_T54 {w : World} {A : Option Addr} {n : Nat} {xs : List S54} (h : Kd.C k54 w A n xs) (i : Int) (h0 : 0 ≤ i) (h1 : i < n) : ∃ ad , A = some ad ∧ w.cell? (ad.add (i.toNat * 2)) = some (.int .i64 (rd_T54 xs i).f0) ∧ w.cell? ⟨(ad.add (i.toNat * 2)).block, (ad.add (i.toNat * 2)).off + 1, none⟩ = some (.int .i64 (rd_T54 xs i).f1) := by
 obtain ⟨ad, c, e, _, hK, hc0⟩ := Kd.C_get h z54 i h0 h1
 have hc : ∀ j u, c[j]? = some u → w.cell? (ad.add (i.toNat * 2 + j)) = some u := hc0
 obtain rfl := k54_open hK
 exact ⟨ad, e, hc 0 _ rfl, by rw [← add_field _ _ 1 (by omega)]; exact hc 1 _ rfl⟩
theorem eqA54 (d : Nat) (w : World) (x0 y0 : Int) (x1 y1 : Int) :
  (Op.equalIn (d + 2) 54 (.agg #[.int .i64 x0, .int .i64 x1]) (.agg #[.int .i64 y0, .int .i64 y1])).run Try.prog w = .ok (x0 == y0 && (x1 == y1)) w := by
 refine eqA_of Try.underlying54 (by kernel_rfl) ?_
 refine eqf_cons (by rfl) (by go_simp; rfl) (by go_simp; rfl) (by go_simp) ?_
 exact eqf_last (by rfl) (by go_simp; rfl) (by go_simp; rfl) (by go_simp)
def impl_within.f (a0 : Int) (a1 : Int) (a2 : Int) : Option (Bool) := if a0 ≥ a1 then (some (decide (a0 ≤ a2))) else (some false)
set_option maxHeartbeats 8000000 in
set_option maxRecDepth 100000 in
theorem impl_within.calls (a0 : Int) (a1 : Int) (a2 : Int) (r : Bool) (w : World) (h : impl_within.f a0 a1 a2 = some r) :
  Calls Try.prog 74 #[.int .i64 a0, .int .i64 a1, .int .i64 a2] w fun e w' => e = .returned (.bool r) ∧ Drawn0 w w' := by
 have H : (if a0 ≥ a1 then (some (decide (a0 ≤ a2))) else (some false)) = some r := h
 clear h
 by_cases c4 : a0 ≥ a1
 ·
  rw [if_pos c4] at H
  have c4b0 : decide (a1 ≤ a0) = true := decide_eq_true c4
  clear c4
  obtain rfl := Option.some.inj H
  go_enter Try.func74, Try.ntmps74
  go_wp2
  go_ret
  exact ⟨by first | rfl | (simp; done) | (simp [*]; done), by repeat (first | exact Drawn0.refl _ | apply Drawn0.step)⟩
 ·
  rw [if_neg c4] at H
  have c4b0 : decide (a1 ≤ a0) = false := decide_eq_false c4
  clear c4
  obtain rfl := Option.some.inj H
  go_enter Try.func74, Try.ntmps74
  go_wp2
  go_ret
  exact ⟨by first | rfl | (simp; done) | (simp [*]; done), by repeat (first | exact Drawn0.refl _ | apply Drawn0.step)⟩
end Go.Proofs.Ytojaeidabmfajaa.Pr

namespace Go.Proofs.Ytojaeidabmfajaa.Pr
open Go.RowKit Go.Proofs.YtojaeidabmfajaaW.PrintWords Go.Proofs.YtojaeidabmfajaaW.PrintLast Go.Proofs.YtojaeidabmfajaaW.PrintMore
set_option linter.unusedVariables false
set_option linter.unusedSimpArgs false
section
variable {P : Program} {md : Region.Mode} {ops : Array Oper} {Q : Exit → Act → World → Prop} {S : World → Prop} {ds : List Nat} {T : Bool × List (List Nat × List Nat)}
theorem pz_ {fuel : Nat} {l : Array Bool} {a : Act} {w : World} {oi : Oper} {v : Value} {a' : Act} (HT : Aside0 (rtab md ops = T)) (i : Nat) (N : Option Tmp) (l' : Array Bool) (h : wpAnyLast P md ops Q S ds fuel l' a' w)
  (hi : ops[i]? = some oi := by exact rfl) (hN : oi.dst = N := by exact rfl) (hc : anyT T l.toList l'.toList i = true := by kernel_rfl) (hQ : ∀ c a w, Q (.panic c) (a.put oi.dst v) w → Q (.panic c) a w := by exact fun _ _ _ h => h)
  (hy : Yields P ops oi v a := by exact Or.inl ⟨by rfl, by intro w'; go_simp; with_reducible rfl⟩) (ha : a.put N v = a' := by simp only [Act.put, List.setIfInBounds_toArray, List.set_cons_zero, List.set_cons_succ, i64_w, i32_w]; rfl) :
  wpAnyLast P md ops Q S ds (fuel + 1) l a w := pure_ l' hi hN (any_of HT.out hc) hQ hy ha h
theorem ga_ {rest : List Oper} {oi : Oper} {a : Act} {w : World} {f : FuncId} {fn : Func} {ar : Array Operand} {ts : Array TypeId} (N : Option Tmp) (hf : P.funcs[f]? = some fn) (args : Array Value) (h : Calls P f args w fun e w' => ∃ v, e = .returned v ∧ wpList P ops Q rest (a.put N v) w')
  (hd : oi.dst = N := by exact rfl) (hg : oi.guard = none := by exact rfl) (hname : (fn.name == "runtime.NumGoroutine") = false := by kernel_rfl) (hb : fn.body.isSome = true := by exact rfl) (hop : oi.op = .call { callee := .value (.func f), args := ar, argTypes := ts } := by exact rfl)
  (hargs : ar.map a.eval = args := by (try simp only [List.map_toArray, List.map_cons, List.map_nil]); first | done | rfl | (simp only [List.length_drop, List.length_take]; rfl)) : wpList P ops Q (oi :: rest) a w := goesL_ N hd hg hf hname hb args hop hargs h
end
theorem lb0_ {n : Nat} {w w0 w1 : World} (HB : Below n w w0) (h : Below n w w0 → Below n w w1 := by intro HB_; repeat (first | (with_reducible first | exact HB_ | apply below_alloc | apply pw_below_drewN | apply below_drew1) | exact HB_)) : Below n w w1 := h HB
theorem lb1_ {n : Nat} {w w0 w1 : World} {A : Prop} (HB : Below n w w0) (G : A) (h : Below n w w0 → A → Below n w w1 := by intro HB_ G_; repeat (first | (with_reducible first | exact HB_ | apply below_alloc | apply pw_below_drewN | apply below_drew1 | refine below_set ?_ G_) | exact HB_)) : Below n w w1 := h HB G
theorem lb2_ {n : Nat} {w w0 w1 : World} {A B : Prop} (HB : Below n w w0) (G : A) (H : B) (h : Below n w w0 → A → B → Below n w w1 := by intro HB_ G_ H_; repeat (first | (with_reducible first | exact HB_ | apply below_alloc | apply pw_below_drewN | apply below_drew1 | refine below_set ?_ G_ | refine below_set ?_ H_) | exact HB_)) : Below n w w1 := h HB G H
theorem rr_ {α : Sort _} {a b : α} (h : a = b := by first | rfl | (simp [errW_none, errW_some] <;> rfl) | (simp [*, errW_none, errW_some] <;> rfl)) : a = b := h
theorem kr_ {α : Type} {d : Kd α} {e base : Nat} {w w1 : World} {ok : Nat → Prop} {v : Value} {xs : List α} (h : d.R e w base ok v xs) (hh : d.R e w base ok v xs → d.R e w1 base ok v xs := by intro h_; (with_reducible repeat (first | apply Kd.R_alloc | apply Kd.R_drewN | apply Kd.R_drew)); exact h_) : d.R e w1 base ok v xs := hh h
theorem kc_ {α : Type} {d : Kd α} {w w1 : World} {A : Option Addr} {n : Nat} {xs : List α} (h : d.C w A n xs) (hh : d.C w A n xs → d.C w1 A n xs := by intro h_; repeat (first | exact h_ | (with_reducible refine Kd.C_alloc ?_ _) | (with_reducible refine Kd.C_drewN ?_ _) | (with_reducible refine Kd.C_drew ?_))) : d.C w1 A n xs := hh h
theorem bk_ {w w1 : World} {g : Nat} {o : Obj} (h : w.heap[g]? = some o) (hh : w.heap[g]? = some o → w1.heap[g]? = some o := by intro h_; (with_reducible repeat (first | refine blk_drewN ?_ _ | refine blk_drew ?_ | refine blk_alloc ?_ _)); exact h_) : w1.heap[g]? = some o := hh h
theorem dt_ {p : Prop} [inst : Decidable p] (h : decide p = true := by first | (with_reducible assumption) | assumption) : p := of_decide_eq_true h
theorem bc_ {w w0 : World} {a : Addr} {v : Value} (hb : Below w.heap.size w w0) (h : w.cell? a = some v) : w0.cell? a = some v := (hb.cell (World.block_lt_of_cell? w _ h)).trans h
section
variable {P : Program} {md : Region.Mode} {ops : Array Oper} {Q : Exit → Act → World → Prop} {S : World → Prop} {ds : List Nat}
theorem na_ {fuel : Nat} {l : Array Bool} {a a' : Act} {w : World} (h : wpAnyLast P md ops Q S ds fuel l a' w) (ha : a = a' := by show Act.put _ (some _) _ = _; simp only [Act.put, List.setIfInBounds_toArray, List.set_cons_zero, List.set_cons_succ, i64_w, i32_w]; rfl) : wpAnyLast P md ops Q S ds fuel l a w := norm_ ha h
theorem nb_ {fuel : Nat} {l : Array Bool} {a a' : Act} {w : World} (h : wpAnyLast P md ops Q S ds fuel l a' w) (ha : a = a' := by simp only [putAll, Act.put, List.setIfInBounds_toArray, List.set_cons_zero, List.set_cons_succ]; rfl) : wpAnyLast P md ops Q S ds fuel l a w := norm_ ha h
end
theorem bz_ {w W : World} {g : Nat} (hg : g = W.heap.size) (h : Below w.heap.size w W) : w.heap.size ≤ g := by rw [hg]; exact h.size
theorem lb3_ {n : Nat} {w w0 w1 : World} {A B C : Prop} (HB : Below n w w0) (G : A) (H : B) (I : C) (h : Below n w w0 → A → B → C → Below n w w1 := by intro HB_ G_ H_ I_; repeat (first | (with_reducible first | exact HB_ | apply below_alloc | apply pw_below_drewN | apply below_drew1 | refine below_set ?_ G_ | refine below_set ?_ H_ | refine below_set ?_ I_) | exact HB_)) : Below n w w1 := h HB G H I
theorem kb0_ {w w0 w1 : World} {g : Nat} {row : Option Nat} (h : KeepBut w w0 g row) (hh : KeepBut w w0 g row → KeepBut w w1 g row := by intro h_; repeat (first | (with_reducible first | exact h_ | apply KeepBut.set_ | apply keep_drewN | apply keep_drew | apply keep_alloc) | exact h_)) : KeepBut w w1 g row := hh h
theorem kb1_ {w w0 w1 : World} {g : Nat} {row : Option Nat} {A : Prop} (h : KeepBut w w0 g row) (G : A) (hh : KeepBut w w0 g row → A → KeepBut w w1 g row := by intro h_ G_; repeat (first | (with_reducible first | exact h_ | apply KeepBut.set_ | apply keep_drewN | apply keep_drew | apply keep_alloc | refine keep_far ?_ G_ _) | exact h_)) : KeepBut w w1 g row := hh h G
theorem krm_ {α : Type} {d : Kd α} {e base : Nat} {w w1 : World} {ok ok' : Nat → Prop} {v : Value} {xs : List α} (h : d.R e w base ok v xs) (hm : ∀ k, ok k → ok' k) (hh : d.R e w base ok v xs → d.R e w1 base ok v xs := by intro h_; (with_reducible repeat (first | apply Kd.R_alloc | apply Kd.R_drewN | apply Kd.R_drew)); exact h_) : d.R e w1 base ok' v xs := Kd.R_mono (hh h) hm
theorem bb_ {w1 w2 : World} {g : Nat} {o : Obj} (h : w1.heap[g]? = some o) (hb : Below w1.heap.size w1 w2) : w2.heap[g]? = some o := blk_below h hb
theorem ry_ {α : Type} {d : Kd α} {e base : Nat} {w : World} {ok : Nat → Prop} {v : Value} {xs ys : List α} (he : ys = xs) (h : d.R e w base ok v xs) : d.R e w base ok v ys := by rw [he]; exact h
section
variable {P : Program} {ops : Array Oper} {Q : Exit → Act → World → Prop}
theorem gs_ {oi : Oper} {N : Option Tmp} {a : Act} {w : World} {K : Act → World → Prop} {f : FuncId} {fn : Func} {ar : Array Operand} {ts : Array TypeId} (hf : P.funcs[f]? = some fn) (args : Array Value) (h : Calls P f args w fun e w' => ∃ v, e = .returned v ∧ K (a.put N v) w')
  (hname : (fn.name == "runtime.NumGoroutine") = false := by kernel_rfl) (hb : fn.body.isSome = true := by exact rfl) (hw : Region.wanted oi (yielded ops a.tmps) = true := by rfl) (hN : oi.dst = N := by exact rfl) (hop : oi.op = .call { callee := .value (.func f), args := ar, argTypes := ts } := by exact rfl)
  (hargs : ar.map a.eval = args := by (try simp only [List.map_toArray, List.map_cons, List.map_nil]); first | done | rfl | (simp only [List.length_drop, List.length_take]; rfl)) : if Region.wanted oi (yielded ops a.tmps) = true then Oper.wp P oi a w K Q else K (a.put N undef) w := goes_ hf hname hb args hw hN hop hargs h
end
theorem cz2_ {w : World} {g : Nat} {t : TypeId} {a0 a1 : Value} (h : w.heap[g]? = some (.cells #[a0, a1] t (0, 0))) : w.cell? ⟨g, 0, none⟩ = some a0 ∧ w.cell? ⟨g, 1, none⟩ = some a1 := ⟨(blk_cell h 0).trans rfl, (blk_cell h 1).trans rfl⟩
theorem fz2_ {w : World} {g : Nat} {t : TypeId} {a0 a1 : Value} (h : w.heap[g]? = some (.cells #[a0, a1] t (0, 0))) : w.frozen? ⟨g, 0, none⟩ = false ∧ w.frozen? ⟨g, 1, none⟩ = false := ⟨blk_frozen h 0, blk_frozen h 1⟩
abbrev tT : Bool := true
abbrev fF : Bool := false
section
variable {P : Program} {md : Region.Mode} {ops : Array Oper} {Q : Exit → Act → World → Prop} {S : World → Prop} {ds : List Nat} {T : Bool × List (List Nat × List Nat)} {B : List Nat}
theorem tk_ {fuel : Nat} {l : Array Bool} {a : Act} {w : World} {oi : Oper} {v : Value} {a' : Act} (HT : Aside0 (rtab md ops = T)) (HW : Aside0 (waitsOk T.2 B = true)) (hS : S w) (i : Nat) (N : Option Tmp) (l' : Array Bool) (h : wpAnyLast P md ops Q S ds fuel l' a' w)
  (hi : ops[i]? = some oi := by exact rfl) (hN : oi.dst = N := by exact rfl) (hc : takeW T B ds l.toList l'.toList i = true := by kernel_rfl) (hQ : ∀ c a w, Q (.panic c) (a.put oi.dst v) w → Q (.panic c) a w := by exact fun _ _ _ h => h)
  (hy : YieldsIf P ops S oi v a := by exact Or.inl ⟨by rfl, by intro w' hs; (repeat (obtain ⟨s_, hs⟩ := hs)); go_simp; with_reducible rfl⟩) (ha : a.put N v = a' := by simp only [Act.put, List.setIfInBounds_toArray, List.set_cons_zero, List.set_cons_succ, i64_w, i32_w]; rfl) :
  wpAnyLast P md ops Q S ds (fuel + 1) l a w := take_ l' hi hN (take_ofW HT.out HW.out hc) hQ hy hS ha h
theorem pu_ {fuel : Nat} {l : Array Bool} {a : Act} {w : World} {oi : Oper} {a' : Act} (HT : Aside0 (rtab md ops = T)) (i : Nat) (N : Option Tmp) (l' : Array Bool) (h : wpAnyLast P md ops Q S ds fuel l' a' w)
  (hi : ops[i]? = some oi := by exact rfl) (hN : oi.dst = N := by exact rfl) (hc : anyT T l.toList l'.toList i = true := by kernel_rfl) (hQ : ∀ c a w, Q (.panic c) (a.put oi.dst undef) w → Q (.panic c) a w := by exact fun _ _ _ h => h)
  (hy : Yields P ops oi undef a := by exact Or.inr ⟨by rfl, rfl⟩) (ha : a.put N undef = a' := by simp only [Act.put, List.setIfInBounds_toArray, List.set_cons_zero, List.set_cons_succ, i64_w, i32_w]; rfl) :
  wpAnyLast P md ops Q S ds (fuel + 1) l a w := pure_ l' hi hN (any_of HT.out hc) hQ hy ha h
end
theorem nl_ {w W : World} {g g' : Nat} {o : Obj} (hg : g' = W.heap.size) (h : w.heap[g]? = some o) (hh : w.heap[g]? = some o → W.heap[g]? = some o := by intro h_; (with_reducible repeat (first | refine blk_drewN ?_ _ | refine blk_drew ?_ | refine blk_alloc ?_ _)); exact h_) : g ≠ g' := by rw [hg]; exact Nat.ne_of_lt (blk_lt (hh h))
theorem ng_ {w W : World} {g g' : Nat} {o : Obj} (hg : g' = W.heap.size) (h : w.heap[g]? = some o) (hh : w.heap[g]? = some o → W.heap[g]? = some o := by intro h_; (with_reducible repeat (first | refine blk_drewN ?_ _ | refine blk_drew ?_ | refine blk_alloc ?_ _)); exact h_) : g' ≠ g := by rw [hg]; exact Nat.ne_of_gt (blk_lt (hh h))
theorem p2_ {w : World} {g : Nat} {t : TypeId} {b0 b1 : Value} (h : w.heap[g]? = some (.cells #[b0, b1] t (0, 0))) (a0 a1 : Value) : ((w.setCell ⟨g, 0, none⟩ a0).setCell ⟨g, 1, none⟩ a1).heap[g]? = some (.cells #[a0, a1] t (0, 0)) := (blk_put (cs := #[a0, b1]) (blk_put (cs := #[b0, b1]) h 0 _ rfl) 1 _ rfl)
theorem f2_ {w : World} {g g' : Nat} {t : TypeId} {cs : Array Value} {j0 j1 : Nat} (h : w.heap[g]? = some (.cells cs t (0, 0))) (hne : g ≠ g') (a0 a1 : Value) : ((w.setCell ⟨g', j0, none⟩ a0).setCell ⟨g', j1, none⟩ a1).heap[g]? = some (.cells cs t (0, 0)) := (blk_far (p := ⟨g', j1, none⟩) (blk_far (p := ⟨g', j0, none⟩) h hne _) hne _)
theorem f3_ {w : World} {g g' : Nat} {t : TypeId} {cs : Array Value} {j0 j1 j2 : Nat} (h : w.heap[g]? = some (.cells cs t (0, 0))) (hne : g ≠ g') (a0 a1 a2 : Value) : (((w.setCell ⟨g', j0, none⟩ a0).setCell ⟨g', j1, none⟩ a1).setCell ⟨g', j2, none⟩ a2).heap[g]? = some (.cells cs t (0, 0)) := (blk_far (p := ⟨g', j2, none⟩) (blk_far (p := ⟨g', j1, none⟩) (blk_far (p := ⟨g', j0, none⟩) h hne _) hne _) hne _)
theorem f4_ {w : World} {g g' : Nat} {t : TypeId} {cs : Array Value} {j0 j1 j2 j3 : Nat} (h : w.heap[g]? = some (.cells cs t (0, 0))) (hne : g ≠ g') (a0 a1 a2 a3 : Value) : ((((w.setCell ⟨g', j0, none⟩ a0).setCell ⟨g', j1, none⟩ a1).setCell ⟨g', j2, none⟩ a2).setCell ⟨g', j3, none⟩ a3).heap[g]? = some (.cells cs t (0, 0)) := (blk_far (p := ⟨g', j3, none⟩) (blk_far (p := ⟨g', j2, none⟩) (blk_far (p := ⟨g', j1, none⟩) (blk_far (p := ⟨g', j0, none⟩) h hne _) hne _) hne _) hne _)
theorem f5_ {w : World} {g g' : Nat} {t : TypeId} {cs : Array Value} {j0 j1 j2 j3 j4 : Nat} (h : w.heap[g]? = some (.cells cs t (0, 0))) (hne : g ≠ g') (a0 a1 a2 a3 a4 : Value) : (((((w.setCell ⟨g', j0, none⟩ a0).setCell ⟨g', j1, none⟩ a1).setCell ⟨g', j2, none⟩ a2).setCell ⟨g', j3, none⟩ a3).setCell ⟨g', j4, none⟩ a4).heap[g]? = some (.cells cs t (0, 0)) := (blk_far (p := ⟨g', j4, none⟩) (blk_far (p := ⟨g', j3, none⟩) (blk_far (p := ⟨g', j2, none⟩) (blk_far (p := ⟨g', j1, none⟩) (blk_far (p := ⟨g', j0, none⟩) h hne _) hne _) hne _) hne _) hne _)
end Go.Proofs.Ytojaeidabmfajaa.Pr

namespace Go.Proofs.Ytojaeidabmfajaa.Pr
open Go.RowKit Go.Proofs.YtojaeidabmfajaaW.PrintWords Go.Proofs.YtojaeidabmfajaaW.PrintLast Go.Proofs.YtojaeidabmfajaaW.PrintMore
attribute [local go_sem] max2_int min2_int max_two min_two max_three min_three max_four min_four   -- for this text's walks alone
set_option linter.unusedVariables false
set_option linter.unusedSimpArgs false
def impl_isLevel.f (a0 : Int) : Option (Bool) := (impl_within.f a0 (-500) 500).bind fun t148 => (some t148)
set_option maxHeartbeats 8000000 in
set_option maxRecDepth 100000 in
theorem impl_isLevel.calls (a0 : Int) (r : Bool) (w : World) (h : impl_isLevel.f a0 = some r) :
  Calls Try.prog 75 #[.int .i64 a0] w fun e w' => e = .returned (.bool r) ∧ Drawn0 w w' := by
 have H : ((impl_within.f a0 (-500) 500).bind fun t148 => (some t148)) = some r := h
 clear h
 replace H := Option.bind_eq_some_iff.mp H
 obtain ⟨t148, A20, H⟩ := H
 replace H : (some t148) = some r := H
 have A2 := Aside0.mk A20
 clear A20
 obtain rfl := Option.some.inj H
 go_enter Try.func75, Try.ntmps75
 go_wp2_with (first | ((with_reducible refine gate_callee (f := 74) rfl ?_); refine ga_ (some 4) Try.func74 #[.int .i64 a0, .int .i64 (-500), .int .i64 500] ?_; (with_reducible refine (impl_within.calls a0 (-500) 500 t148 _ A2.out).mono ?_); rintro e w' ⟨rfl, ⟨nd, rfl⟩⟩; refine ⟨_, rfl, ?_⟩))
 go_ret
 exact ⟨by first | rfl | (simp; done) | (simp [*]; done), by repeat (first | exact Drawn0.refl _ | apply Drawn0.step)⟩
def impl_AreReadings.l0 : Nat → List (S54) → List (S54) → Int → Int → Option (Bool)
 | 0, _, _, _, _ => none
 | k + 1, x0, x5, x6, x7 => if x7 < x6 then (if 0 ≤ x7 then (if x7 < (x5.length : Int) then ((impl_within.f ((rd_T54 x5 x7).f0) 0 999).bind fun t151 => (if t151 = true then ((impl_isLevel.f ((rd_T54 x5 x7).f1)).bind fun t152 => (if t152 = true then (if x7 > 0 then (if 0 ≤ (wrap64 (x7 - 1)) then (if (wrap64 (x7 - 1)) < (x0.length : Int) then (if ((rd_T54 x0 (wrap64 (x7 - 1))).f0) ≥ ((rd_T54 x5 x7).f0) then (some false) else (impl_AreReadings.l0 k x0 x5 x6 (wrap64 (x7 + 1)))) else (none)) else (none)) else (impl_AreReadings.l0 k x0 x5 x6 (wrap64 (x7 + 1)))) else (some false))) else (some false))) else (none)) else (none)) else (some (decide ((x0.length : Int) ≤ 15)))
def impl_AreReadings.f (k : Nat) (l0 : List (S54)) : Option (Bool) := impl_AreReadings.l0 k l0 l0 (l0.length : Int) 0
set_option maxHeartbeats 8000000 in
set_option maxRecDepth 100000 in
theorem impl_AreReadings.calls (k : Nat) (A0 : Option Addr) (c0 : Nat) (l0 : List (S54)) (r : Bool) (w : World) (hr0 : Kd.C k54 w A0 l0.length l0) (hc0 : l0.length ≤ c0) (h : impl_AreReadings.f k l0 = some r) :
  Calls Try.prog 34 #[.slice A0 l0.length c0] w fun e w' => e = .returned (.bool r) ∧ Below w.heap.size w w' := by
 have hu54 := Try.underlying54
 have HR0 := Aside0.mk hr0
 have HC0 := Aside0.mk hc0
 clear hr0 hc0
 have HB := Aside0.mk (Below.refl w.heap.size w)
 have H : (impl_AreReadings.l0 k l0 l0 (l0.length : Int) 0) = some r := h
 clear h
 have H' := Aside0.mk H
 clear H
 go_enter Try.func34, Try.ntmps34
 go_wp2
 repeat (go_quiet (fail); try go_wp2)
 go_loopg [7] k (fun kq v7 w' => ∃ (x7_1 : Int), v7 = .int .i64 x7_1 ∧ Aside0 (impl_AreReadings.l0 kq l0 l0 (l0.length : Int) x7_1 = some r) ∧ Aside0 (kq ≤ k) ∧ Aside0 (Below w.heap.size w w'))
 case atStart => exact ⟨(0), (by first | rfl | (simp; done) | (simp [*]; done)), H', ⟨Nat.le_refl _⟩, ⟨lb0_ HB.out⟩⟩
 case round =>
  clear H'
  obtain ⟨x7_1, rfl, HA, HK1, HB⟩ := hrel
  cases gk with
  | zero => exact absurd HA.out (by simp [impl_AreReadings.l0])
  | succ k1 =>
   have H := HA.out
   clear HA
   simp only [impl_AreReadings.l0] at H
   by_cases c2 : x7_1 < (l0.length : Int)
   ·
    rw [if_pos c2] at H
    have c2b0 : decide (x7_1 < (l0.length : Int)) = true := decide_eq_true c2
    clear c2
    by_cases c3 : 0 ≤ x7_1
    ·
     rw [if_pos c3] at H
     have c3b0 : decide (0 ≤ x7_1) = true := decide_eq_true c3
     clear c3
     by_cases c4 : x7_1 < (l0.length : Int)
     ·
      rw [if_pos c4] at H
      have c4b0 : decide (x7_1 < (l0.length : Int)) = true := decide_eq_true c4
      clear c4
      replace H := Option.bind_eq_some_iff.mp H
      obtain ⟨t151, A50, H⟩ := H
      replace H : (if t151 = true then ((impl_isLevel.f ((rd_T54 l0 x7_1).f1)).bind fun t152 => (if t152 = true then (if x7_1 > 0 then (if 0 ≤ (wrap64 (x7_1 - 1)) then (if (wrap64 (x7_1 - 1)) < (l0.length : Int) then (if ((rd_T54 l0 (wrap64 (x7_1 - 1))).f0) ≥ ((rd_T54 l0 x7_1).f0) then (some false) else (impl_AreReadings.l0 k1 l0 l0 (l0.length : Int) (wrap64 (x7_1 + 1)))) else (none)) else (none)) else (impl_AreReadings.l0 k1 l0 l0 (l0.length : Int) (wrap64 (x7_1 + 1)))) else (some false))) else (some false)) = some r := H
      have A5 := Aside0.mk A50
      clear A50
      by_cases c6 : t151 = true
      ·
       subst c6
       have H1 : ((impl_isLevel.f ((rd_T54 l0 x7_1).f1)).bind fun t152 => (if t152 = true then (if x7_1 > 0 then (if 0 ≤ (wrap64 (x7_1 - 1)) then (if (wrap64 (x7_1 - 1)) < (l0.length : Int) then (if ((rd_T54 l0 (wrap64 (x7_1 - 1))).f0) ≥ ((rd_T54 l0 x7_1).f0) then (some false) else (impl_AreReadings.l0 k1 l0 l0 (l0.length : Int) (wrap64 (x7_1 + 1)))) else (none)) else (none)) else (impl_AreReadings.l0 k1 l0 l0 (l0.length : Int) (wrap64 (x7_1 + 1)))) else (some false))) = some r := by rw [if_pos rfl] at H; exact H
       clear H
       have H := H1
       clear H1
       replace H := Option.bind_eq_some_iff.mp H
       obtain ⟨t152, A70, H⟩ := H
       replace H : (if t152 = true then (if x7_1 > 0 then (if 0 ≤ (wrap64 (x7_1 - 1)) then (if (wrap64 (x7_1 - 1)) < (l0.length : Int) then (if ((rd_T54 l0 (wrap64 (x7_1 - 1))).f0) ≥ ((rd_T54 l0 x7_1).f0) then (some false) else (impl_AreReadings.l0 k1 l0 l0 (l0.length : Int) (wrap64 (x7_1 + 1)))) else (none)) else (none)) else (impl_AreReadings.l0 k1 l0 l0 (l0.length : Int) (wrap64 (x7_1 + 1)))) else (some false)) = some r := H
       have A7 := Aside0.mk A70
       clear A70
       by_cases c8 : t152 = true
       ·
        subst c8
        have H1 : (if x7_1 > 0 then (if 0 ≤ (wrap64 (x7_1 - 1)) then (if (wrap64 (x7_1 - 1)) < (l0.length : Int) then (if ((rd_T54 l0 (wrap64 (x7_1 - 1))).f0) ≥ ((rd_T54 l0 x7_1).f0) then (some false) else (impl_AreReadings.l0 k1 l0 l0 (l0.length : Int) (wrap64 (x7_1 + 1)))) else (none)) else (none)) else (impl_AreReadings.l0 k1 l0 l0 (l0.length : Int) (wrap64 (x7_1 + 1)))) = some r := by rw [if_pos rfl] at H; exact H
        clear H; have H := H1; clear H1
        by_cases c9 : x7_1 > 0
        ·
         rw [if_pos c9] at H
         have c9b0 : decide (0 < x7_1) = true := decide_eq_true c9; clear c9
         obtain ⟨ji10, hji10⟩ : ∃ j_ : Int, (wrap64 (x7_1 - 1)) = j_ := ⟨_, rfl⟩
         replace H : (if 0 ≤ (ji10) then (if (ji10) < (l0.length : Int) then (if ((rd_T54 l0 (ji10)).f0) ≥ ((rd_T54 l0 x7_1).f0) then (some false) else (impl_AreReadings.l0 k1 l0 l0 (l0.length : Int) (wrap64 (x7_1 + 1)))) else (none)) else (none)) = some r := by first | (rw [hji10] at H; exact H) | (simp only [hji10] at H ⊢; exact H)
         (try rw [hji10] at A5); (try rw [hji10] at A7); have hji10w : (IntKind.i64.wrap (x7_1 - 1)) = ji10 := (i64_w _).trans hji10
         by_cases c11 : 0 ≤ (ji10)
         ·
          rw [if_pos c11] at H
          have c11b0 : decide (0 ≤ (ji10)) = true := decide_eq_true c11; clear c11
          by_cases c12 : (ji10) < (l0.length : Int)
          ·
           rw [if_pos c12] at H
           have c12b0 : decide ((ji10) < (l0.length : Int)) = true := decide_eq_true c12; clear c12
           by_cases c13 : ((rd_T54 l0 (ji10)).f0) ≥ ((rd_T54 l0 x7_1).f0)
           ·
            rw [if_pos c13] at H
            have c13b0 : decide (((rd_T54 l0 x7_1).f0) ≤ ((rd_T54 l0 (ji10)).f0)) = true := decide_eq_true c13; clear c13; obtain rfl := Option.some.inj H; have p149 : 0 ≤ (x7_1 : Int) := dt_; have q149 : x7_1 < (l0.length : Int) := dt_; obtain ⟨ad149, e149, hx149_0, hx149_1⟩ := at_T54 HR0.out x7_1 p149 q149
            cases e149
            replace hx149_0 := bc_ HB.out hx149_0; replace hx149_1 := bc_ HB.out hx149_1; replace p149 := eq_true p149; replace q149 := eq_true q149
            go_wp2_with (first | ((with_reducible refine gate_dst (N := 4) rfl ?_); refine box_event ?hg (N := 4) ?hd (cs := #[.int .i64 0, .int .i64 0]) (t := 54) ?hr ?_; (case hd => rfl); (case hg => rfl); (case hr => first | (go_simp; done) | (go_simp; rfl)); intro gb150 hg w14 hbox hb; have BK150 := Aside0.mk (hbox); have GW150 := Aside0.mk ((bz_ hg (lb0_ HB.out))); have GE150 := Aside0.mk ((bz_ hg (lb0_ HB.out))); replace HB := Aside0.mk (below_step (lb0_ HB.out) hb); clear hb hbox hg; obtain ⟨hcz15_0, hcz15_1⟩ := cz2_ BK150.out; obtain ⟨hfz15_0, hfz15_1⟩ := fz2_ BK150.out) | (go_at_call 74; (with_reducible refine (impl_within.calls ((rd_T54 l0 x7_1).f0) 0 999 true _ A5.out).mono ?_); rintro e w' ⟨rfl, ⟨nd, rfl⟩⟩; (try first | exact ⟨rfl, _, World.drewN_drewN _ _ _⟩ | exact ⟨rfl, _, Eq.trans (World.drewN_drewN _ _ _) (congrArg (World.drewN _) (Nat.add_assoc _ _ _))⟩)) | (go_at_call 75; (with_reducible refine (impl_isLevel.calls ((rd_T54 l0 x7_1).f1) true _ A7.out).mono ?_); rintro e w' ⟨rfl, ⟨nd, rfl⟩⟩; (try first | exact ⟨rfl, _, World.drewN_drewN _ _ _⟩ | exact ⟨rfl, _, Eq.trans (World.drewN_drewN _ _ _) (congrArg (World.drewN _) (Nat.add_assoc _ _ _))⟩); have p153 : 0 ≤ ((ji10) : Int) := dt_; have q153 : (ji10) < (l0.length : Int) := dt_; obtain ⟨ad153, e153, hx153_0, hx153_1⟩ := at_T54 HR0.out (ji10) p153 q153; obtain rfl : ad149 = ad153 := (by injection e153); have hn153_0 : ad149.block ≠ gb150 := Nat.ne_of_lt (Nat.lt_of_lt_of_le (by have := World.block_lt_of_cell? _ _ hx153_0; first | rwa [add_block] at this | exact this) GW150.out); have hn153_1 : ad149.block ≠ gb150 := Nat.ne_of_lt (Nat.lt_of_lt_of_le (by have := World.block_lt_of_cell? _ _ hx153_0; first | rwa [add_block] at this | exact this) GW150.out); replace hx153_0 := bc_ HB.out hx153_0; replace hx153_1 := bc_ HB.out hx153_1; replace hx153_0 := (cell_far (p := ⟨gb150, 0, none⟩) (by first | (rw [add_block]; exact hn153_0) | (show (Addr.add _ _).block ≠ _; rw [add_block]; exact hn153_0) | exact hn153_0) (.int .i64 ((rd_T54 l0 x7_1).f0))).trans hx153_0; replace hx153_1 := (cell_far (p := ⟨gb150, 0, none⟩) (by first | (rw [add_block]; exact hn153_0) | (show (Addr.add _ _).block ≠ _; rw [add_block]; exact hn153_0) | exact hn153_0) (.int .i64 ((rd_T54 l0 x7_1).f0))).trans hx153_1; replace hx153_0 := (cell_far (p := ⟨gb150, 1, none⟩) (by first | (rw [add_block]; exact hn153_1) | (show (Addr.add _ _).block ≠ _; rw [add_block]; exact hn153_1) | exact hn153_1) (.int .i64 ((rd_T54 l0 x7_1).f1))).trans hx153_0; replace hx153_1 := (cell_far (p := ⟨gb150, 1, none⟩) (by first | (rw [add_block]; exact hn153_1) | (show (Addr.add _ _).block ≠ _; rw [add_block]; exact hn153_1) | exact hn153_1) (.int .i64 ((rd_T54 l0 x7_1).f1))).trans hx153_1; (try have hy153_0 := fun (n_ : Nat) => (show ((((w14.drewN n_).setCell ⟨gb150, 0, none⟩ (.int .i64 ((rd_T54 l0 x7_1).f0))).setCell ⟨gb150, 1, none⟩ (.int .i64 ((rd_T54 l0 x7_1).f1)))).cell? _ = some _ from hx153_0)); (try have hy153_1 := fun (n_ : Nat) => (show ((((w14.drewN n_).setCell ⟨gb150, 0, none⟩ (.int .i64 ((rd_T54 l0 x7_1).f0))).setCell ⟨gb150, 1, none⟩ (.int .i64 ((rd_T54 l0 x7_1).f1)))).cell? _ = some _ from hx153_1)); clear hn153_0; clear hn153_1; replace p153 := eq_true p153; replace q153 := eq_true q153))
            repeat (go_quiet (first | ((with_reducible refine gate_dst (N := 4) rfl ?_); refine box_event ?hg (N := 4) ?hd (cs := #[.int .i64 0, .int .i64 0]) (t := 54) ?hr ?_; (case hd => rfl); (case hg => rfl); (case hr => first | (go_simp; done) | (go_simp; rfl)); intro gb150 hg w14 hbox hb; have BK150 := Aside0.mk (hbox); have GW150 := Aside0.mk ((bz_ hg (lb0_ HB.out))); have GE150 := Aside0.mk ((bz_ hg (lb0_ HB.out))); replace HB := Aside0.mk (below_step (lb0_ HB.out) hb); clear hb hbox hg; obtain ⟨hcz15_0, hcz15_1⟩ := cz2_ BK150.out; obtain ⟨hfz15_0, hfz15_1⟩ := fz2_ BK150.out) | (go_at_call 74; (with_reducible refine (impl_within.calls ((rd_T54 l0 x7_1).f0) 0 999 true _ A5.out).mono ?_); rintro e w' ⟨rfl, ⟨nd, rfl⟩⟩; (try first | exact ⟨rfl, _, World.drewN_drewN _ _ _⟩ | exact ⟨rfl, _, Eq.trans (World.drewN_drewN _ _ _) (congrArg (World.drewN _) (Nat.add_assoc _ _ _))⟩)) | (go_at_call 75; (with_reducible refine (impl_isLevel.calls ((rd_T54 l0 x7_1).f1) true _ A7.out).mono ?_); rintro e w' ⟨rfl, ⟨nd, rfl⟩⟩; (try first | exact ⟨rfl, _, World.drewN_drewN _ _ _⟩ | exact ⟨rfl, _, Eq.trans (World.drewN_drewN _ _ _) (congrArg (World.drewN _) (Nat.add_assoc _ _ _))⟩); have p153 : 0 ≤ ((ji10) : Int) := dt_; have q153 : (ji10) < (l0.length : Int) := dt_; obtain ⟨ad153, e153, hx153_0, hx153_1⟩ := at_T54 HR0.out (ji10) p153 q153; obtain rfl : ad149 = ad153 := (by injection e153); have hn153_0 : ad149.block ≠ gb150 := Nat.ne_of_lt (Nat.lt_of_lt_of_le (by have := World.block_lt_of_cell? _ _ hx153_0; first | rwa [add_block] at this | exact this) GW150.out); have hn153_1 : ad149.block ≠ gb150 := Nat.ne_of_lt (Nat.lt_of_lt_of_le (by have := World.block_lt_of_cell? _ _ hx153_0; first | rwa [add_block] at this | exact this) GW150.out); replace hx153_0 := bc_ HB.out hx153_0; replace hx153_1 := bc_ HB.out hx153_1; replace hx153_0 := (cell_far (p := ⟨gb150, 0, none⟩) (by first | (rw [add_block]; exact hn153_0) | (show (Addr.add _ _).block ≠ _; rw [add_block]; exact hn153_0) | exact hn153_0) (.int .i64 ((rd_T54 l0 x7_1).f0))).trans hx153_0; replace hx153_1 := (cell_far (p := ⟨gb150, 0, none⟩) (by first | (rw [add_block]; exact hn153_0) | (show (Addr.add _ _).block ≠ _; rw [add_block]; exact hn153_0) | exact hn153_0) (.int .i64 ((rd_T54 l0 x7_1).f0))).trans hx153_1; replace hx153_0 := (cell_far (p := ⟨gb150, 1, none⟩) (by first | (rw [add_block]; exact hn153_1) | (show (Addr.add _ _).block ≠ _; rw [add_block]; exact hn153_1) | exact hn153_1) (.int .i64 ((rd_T54 l0 x7_1).f1))).trans hx153_0; replace hx153_1 := (cell_far (p := ⟨gb150, 1, none⟩) (by first | (rw [add_block]; exact hn153_1) | (show (Addr.add _ _).block ≠ _; rw [add_block]; exact hn153_1) | exact hn153_1) (.int .i64 ((rd_T54 l0 x7_1).f1))).trans hx153_1; (try have hy153_0 := fun (n_ : Nat) => (show ((((w14.drewN n_).setCell ⟨gb150, 0, none⟩ (.int .i64 ((rd_T54 l0 x7_1).f0))).setCell ⟨gb150, 1, none⟩ (.int .i64 ((rd_T54 l0 x7_1).f1)))).cell? _ = some _ from hx153_0)); (try have hy153_1 := fun (n_ : Nat) => (show ((((w14.drewN n_).setCell ⟨gb150, 0, none⟩ (.int .i64 ((rd_T54 l0 x7_1).f0))).setCell ⟨gb150, 1, none⟩ (.int .i64 ((rd_T54 l0 x7_1).f1)))).cell? _ = some _ from hx153_1)); clear hn153_0; clear hn153_1; replace p153 := eq_true p153; replace q153 := eq_true q153)); try go_wp2_with (first | ((with_reducible refine gate_dst (N := 4) rfl ?_); refine box_event ?hg (N := 4) ?hd (cs := #[.int .i64 0, .int .i64 0]) (t := 54) ?hr ?_; (case hd => rfl); (case hg => rfl); (case hr => first | (go_simp; done) | (go_simp; rfl)); intro gb150 hg w14 hbox hb; have BK150 := Aside0.mk (hbox); have GW150 := Aside0.mk ((bz_ hg (lb0_ HB.out))); have GE150 := Aside0.mk ((bz_ hg (lb0_ HB.out))); replace HB := Aside0.mk (below_step (lb0_ HB.out) hb); clear hb hbox hg; obtain ⟨hcz15_0, hcz15_1⟩ := cz2_ BK150.out; obtain ⟨hfz15_0, hfz15_1⟩ := fz2_ BK150.out) | (go_at_call 74; (with_reducible refine (impl_within.calls ((rd_T54 l0 x7_1).f0) 0 999 true _ A5.out).mono ?_); rintro e w' ⟨rfl, ⟨nd, rfl⟩⟩; (try first | exact ⟨rfl, _, World.drewN_drewN _ _ _⟩ | exact ⟨rfl, _, Eq.trans (World.drewN_drewN _ _ _) (congrArg (World.drewN _) (Nat.add_assoc _ _ _))⟩)) | (go_at_call 75; (with_reducible refine (impl_isLevel.calls ((rd_T54 l0 x7_1).f1) true _ A7.out).mono ?_); rintro e w' ⟨rfl, ⟨nd, rfl⟩⟩; (try first | exact ⟨rfl, _, World.drewN_drewN _ _ _⟩ | exact ⟨rfl, _, Eq.trans (World.drewN_drewN _ _ _) (congrArg (World.drewN _) (Nat.add_assoc _ _ _))⟩); have p153 : 0 ≤ ((ji10) : Int) := dt_; have q153 : (ji10) < (l0.length : Int) := dt_; obtain ⟨ad153, e153, hx153_0, hx153_1⟩ := at_T54 HR0.out (ji10) p153 q153; obtain rfl : ad149 = ad153 := (by injection e153); have hn153_0 : ad149.block ≠ gb150 := Nat.ne_of_lt (Nat.lt_of_lt_of_le (by have := World.block_lt_of_cell? _ _ hx153_0; first | rwa [add_block] at this | exact this) GW150.out); have hn153_1 : ad149.block ≠ gb150 := Nat.ne_of_lt (Nat.lt_of_lt_of_le (by have := World.block_lt_of_cell? _ _ hx153_0; first | rwa [add_block] at this | exact this) GW150.out); replace hx153_0 := bc_ HB.out hx153_0; replace hx153_1 := bc_ HB.out hx153_1; replace hx153_0 := (cell_far (p := ⟨gb150, 0, none⟩) (by first | (rw [add_block]; exact hn153_0) | (show (Addr.add _ _).block ≠ _; rw [add_block]; exact hn153_0) | exact hn153_0) (.int .i64 ((rd_T54 l0 x7_1).f0))).trans hx153_0; replace hx153_1 := (cell_far (p := ⟨gb150, 0, none⟩) (by first | (rw [add_block]; exact hn153_0) | (show (Addr.add _ _).block ≠ _; rw [add_block]; exact hn153_0) | exact hn153_0) (.int .i64 ((rd_T54 l0 x7_1).f0))).trans hx153_1; replace hx153_0 := (cell_far (p := ⟨gb150, 1, none⟩) (by first | (rw [add_block]; exact hn153_1) | (show (Addr.add _ _).block ≠ _; rw [add_block]; exact hn153_1) | exact hn153_1) (.int .i64 ((rd_T54 l0 x7_1).f1))).trans hx153_0; replace hx153_1 := (cell_far (p := ⟨gb150, 1, none⟩) (by first | (rw [add_block]; exact hn153_1) | (show (Addr.add _ _).block ≠ _; rw [add_block]; exact hn153_1) | exact hn153_1) (.int .i64 ((rd_T54 l0 x7_1).f1))).trans hx153_1; (try have hy153_0 := fun (n_ : Nat) => (show ((((w14.drewN n_).setCell ⟨gb150, 0, none⟩ (.int .i64 ((rd_T54 l0 x7_1).f0))).setCell ⟨gb150, 1, none⟩ (.int .i64 ((rd_T54 l0 x7_1).f1)))).cell? _ = some _ from hx153_0)); (try have hy153_1 := fun (n_ : Nat) => (show ((((w14.drewN n_).setCell ⟨gb150, 0, none⟩ (.int .i64 ((rd_T54 l0 x7_1).f0))).setCell ⟨gb150, 1, none⟩ (.int .i64 ((rd_T54 l0 x7_1).f1)))).cell? _ = some _ from hx153_1)); clear hn153_0; clear hn153_1; replace p153 := eq_true p153; replace q153 := eq_true q153)))
            go_ret
            exact ⟨by first | rfl | (simp [errW_none, errW_some] <;> rfl) | (simp only [← hji10]; first | rfl | (simp [errW_none, errW_some] <;> rfl)) | (simp [*, errW_none, errW_some] <;> rfl), lb1_ HB.out GE150.out⟩
           ·
            rw [if_neg c13] at H
            have c13b0 : decide (((rd_T54 l0 x7_1).f0) ≤ ((rd_T54 l0 (ji10)).f0)) = false := decide_eq_false c13; clear c13; have H' := Aside0.mk H; clear H; have p149 : 0 ≤ (x7_1 : Int) := dt_; have q149 : x7_1 < (l0.length : Int) := dt_; obtain ⟨ad149, e149, hx149_0, hx149_1⟩ := at_T54 HR0.out x7_1 p149 q149
            cases e149
            replace hx149_0 := bc_ HB.out hx149_0; replace hx149_1 := bc_ HB.out hx149_1; replace p149 := eq_true p149; replace q149 := eq_true q149
            go_wp2_with (first | ((with_reducible refine gate_dst (N := 4) rfl ?_); refine box_event ?hg (N := 4) ?hd (cs := #[.int .i64 0, .int .i64 0]) (t := 54) ?hr ?_; (case hd => rfl); (case hg => rfl); (case hr => first | (go_simp; done) | (go_simp; rfl)); intro gb150 hg w16 hbox hb; have BK150 := Aside0.mk (hbox); have GW150 := Aside0.mk ((bz_ hg (lb0_ HB.out))); have GE150 := Aside0.mk ((bz_ hg (lb0_ HB.out))); replace HB := Aside0.mk (below_step (lb0_ HB.out) hb); clear hb hbox hg; obtain ⟨hcz17_0, hcz17_1⟩ := cz2_ BK150.out; obtain ⟨hfz17_0, hfz17_1⟩ := fz2_ BK150.out) | (go_at_call 74; (with_reducible refine (impl_within.calls ((rd_T54 l0 x7_1).f0) 0 999 true _ A5.out).mono ?_); rintro e w' ⟨rfl, ⟨nd, rfl⟩⟩; (try first | exact ⟨rfl, _, World.drewN_drewN _ _ _⟩ | exact ⟨rfl, _, Eq.trans (World.drewN_drewN _ _ _) (congrArg (World.drewN _) (Nat.add_assoc _ _ _))⟩)) | (go_at_call 75; (with_reducible refine (impl_isLevel.calls ((rd_T54 l0 x7_1).f1) true _ A7.out).mono ?_); rintro e w' ⟨rfl, ⟨nd, rfl⟩⟩; (try first | exact ⟨rfl, _, World.drewN_drewN _ _ _⟩ | exact ⟨rfl, _, Eq.trans (World.drewN_drewN _ _ _) (congrArg (World.drewN _) (Nat.add_assoc _ _ _))⟩); have p153 : 0 ≤ ((ji10) : Int) := dt_; have q153 : (ji10) < (l0.length : Int) := dt_; obtain ⟨ad153, e153, hx153_0, hx153_1⟩ := at_T54 HR0.out (ji10) p153 q153; obtain rfl : ad149 = ad153 := (by injection e153); have hn153_0 : ad149.block ≠ gb150 := Nat.ne_of_lt (Nat.lt_of_lt_of_le (by have := World.block_lt_of_cell? _ _ hx153_0; first | rwa [add_block] at this | exact this) GW150.out); have hn153_1 : ad149.block ≠ gb150 := Nat.ne_of_lt (Nat.lt_of_lt_of_le (by have := World.block_lt_of_cell? _ _ hx153_0; first | rwa [add_block] at this | exact this) GW150.out); replace hx153_0 := bc_ HB.out hx153_0; replace hx153_1 := bc_ HB.out hx153_1; replace hx153_0 := (cell_far (p := ⟨gb150, 0, none⟩) (by first | (rw [add_block]; exact hn153_0) | (show (Addr.add _ _).block ≠ _; rw [add_block]; exact hn153_0) | exact hn153_0) (.int .i64 ((rd_T54 l0 x7_1).f0))).trans hx153_0; replace hx153_1 := (cell_far (p := ⟨gb150, 0, none⟩) (by first | (rw [add_block]; exact hn153_0) | (show (Addr.add _ _).block ≠ _; rw [add_block]; exact hn153_0) | exact hn153_0) (.int .i64 ((rd_T54 l0 x7_1).f0))).trans hx153_1; replace hx153_0 := (cell_far (p := ⟨gb150, 1, none⟩) (by first | (rw [add_block]; exact hn153_1) | (show (Addr.add _ _).block ≠ _; rw [add_block]; exact hn153_1) | exact hn153_1) (.int .i64 ((rd_T54 l0 x7_1).f1))).trans hx153_0; replace hx153_1 := (cell_far (p := ⟨gb150, 1, none⟩) (by first | (rw [add_block]; exact hn153_1) | (show (Addr.add _ _).block ≠ _; rw [add_block]; exact hn153_1) | exact hn153_1) (.int .i64 ((rd_T54 l0 x7_1).f1))).trans hx153_1; (try have hy153_0 := fun (n_ : Nat) => (show ((((w16.drewN n_).setCell ⟨gb150, 0, none⟩ (.int .i64 ((rd_T54 l0 x7_1).f0))).setCell ⟨gb150, 1, none⟩ (.int .i64 ((rd_T54 l0 x7_1).f1)))).cell? _ = some _ from hx153_0)); (try have hy153_1 := fun (n_ : Nat) => (show ((((w16.drewN n_).setCell ⟨gb150, 0, none⟩ (.int .i64 ((rd_T54 l0 x7_1).f0))).setCell ⟨gb150, 1, none⟩ (.int .i64 ((rd_T54 l0 x7_1).f1)))).cell? _ = some _ from hx153_1)); clear hn153_0; clear hn153_1; replace p153 := eq_true p153; replace q153 := eq_true q153))
            repeat (go_quiet (first | ((with_reducible refine gate_dst (N := 4) rfl ?_); refine box_event ?hg (N := 4) ?hd (cs := #[.int .i64 0, .int .i64 0]) (t := 54) ?hr ?_; (case hd => rfl); (case hg => rfl); (case hr => first | (go_simp; done) | (go_simp; rfl)); intro gb150 hg w16 hbox hb; have BK150 := Aside0.mk (hbox); have GW150 := Aside0.mk ((bz_ hg (lb0_ HB.out))); have GE150 := Aside0.mk ((bz_ hg (lb0_ HB.out))); replace HB := Aside0.mk (below_step (lb0_ HB.out) hb); clear hb hbox hg; obtain ⟨hcz17_0, hcz17_1⟩ := cz2_ BK150.out; obtain ⟨hfz17_0, hfz17_1⟩ := fz2_ BK150.out) | (go_at_call 74; (with_reducible refine (impl_within.calls ((rd_T54 l0 x7_1).f0) 0 999 true _ A5.out).mono ?_); rintro e w' ⟨rfl, ⟨nd, rfl⟩⟩; (try first | exact ⟨rfl, _, World.drewN_drewN _ _ _⟩ | exact ⟨rfl, _, Eq.trans (World.drewN_drewN _ _ _) (congrArg (World.drewN _) (Nat.add_assoc _ _ _))⟩)) | (go_at_call 75; (with_reducible refine (impl_isLevel.calls ((rd_T54 l0 x7_1).f1) true _ A7.out).mono ?_); rintro e w' ⟨rfl, ⟨nd, rfl⟩⟩; (try first | exact ⟨rfl, _, World.drewN_drewN _ _ _⟩ | exact ⟨rfl, _, Eq.trans (World.drewN_drewN _ _ _) (congrArg (World.drewN _) (Nat.add_assoc _ _ _))⟩); have p153 : 0 ≤ ((ji10) : Int) := dt_; have q153 : (ji10) < (l0.length : Int) := dt_; obtain ⟨ad153, e153, hx153_0, hx153_1⟩ := at_T54 HR0.out (ji10) p153 q153; obtain rfl : ad149 = ad153 := (by injection e153); have hn153_0 : ad149.block ≠ gb150 := Nat.ne_of_lt (Nat.lt_of_lt_of_le (by have := World.block_lt_of_cell? _ _ hx153_0; first | rwa [add_block] at this | exact this) GW150.out); have hn153_1 : ad149.block ≠ gb150 := Nat.ne_of_lt (Nat.lt_of_lt_of_le (by have := World.block_lt_of_cell? _ _ hx153_0; first | rwa [add_block] at this | exact this) GW150.out); replace hx153_0 := bc_ HB.out hx153_0; replace hx153_1 := bc_ HB.out hx153_1; replace hx153_0 := (cell_far (p := ⟨gb150, 0, none⟩) (by first | (rw [add_block]; exact hn153_0) | (show (Addr.add _ _).block ≠ _; rw [add_block]; exact hn153_0) | exact hn153_0) (.int .i64 ((rd_T54 l0 x7_1).f0))).trans hx153_0; replace hx153_1 := (cell_far (p := ⟨gb150, 0, none⟩) (by first | (rw [add_block]; exact hn153_0) | (show (Addr.add _ _).block ≠ _; rw [add_block]; exact hn153_0) | exact hn153_0) (.int .i64 ((rd_T54 l0 x7_1).f0))).trans hx153_1; replace hx153_0 := (cell_far (p := ⟨gb150, 1, none⟩) (by first | (rw [add_block]; exact hn153_1) | (show (Addr.add _ _).block ≠ _; rw [add_block]; exact hn153_1) | exact hn153_1) (.int .i64 ((rd_T54 l0 x7_1).f1))).trans hx153_0; replace hx153_1 := (cell_far (p := ⟨gb150, 1, none⟩) (by first | (rw [add_block]; exact hn153_1) | (show (Addr.add _ _).block ≠ _; rw [add_block]; exact hn153_1) | exact hn153_1) (.int .i64 ((rd_T54 l0 x7_1).f1))).trans hx153_1; (try have hy153_0 := fun (n_ : Nat) => (show ((((w16.drewN n_).setCell ⟨gb150, 0, none⟩ (.int .i64 ((rd_T54 l0 x7_1).f0))).setCell ⟨gb150, 1, none⟩ (.int .i64 ((rd_T54 l0 x7_1).f1)))).cell? _ = some _ from hx153_0)); (try have hy153_1 := fun (n_ : Nat) => (show ((((w16.drewN n_).setCell ⟨gb150, 0, none⟩ (.int .i64 ((rd_T54 l0 x7_1).f0))).setCell ⟨gb150, 1, none⟩ (.int .i64 ((rd_T54 l0 x7_1).f1)))).cell? _ = some _ from hx153_1)); clear hn153_0; clear hn153_1; replace p153 := eq_true p153; replace q153 := eq_true q153)); try go_wp2_with (first | ((with_reducible refine gate_dst (N := 4) rfl ?_); refine box_event ?hg (N := 4) ?hd (cs := #[.int .i64 0, .int .i64 0]) (t := 54) ?hr ?_; (case hd => rfl); (case hg => rfl); (case hr => first | (go_simp; done) | (go_simp; rfl)); intro gb150 hg w16 hbox hb; have BK150 := Aside0.mk (hbox); have GW150 := Aside0.mk ((bz_ hg (lb0_ HB.out))); have GE150 := Aside0.mk ((bz_ hg (lb0_ HB.out))); replace HB := Aside0.mk (below_step (lb0_ HB.out) hb); clear hb hbox hg; obtain ⟨hcz17_0, hcz17_1⟩ := cz2_ BK150.out; obtain ⟨hfz17_0, hfz17_1⟩ := fz2_ BK150.out) | (go_at_call 74; (with_reducible refine (impl_within.calls ((rd_T54 l0 x7_1).f0) 0 999 true _ A5.out).mono ?_); rintro e w' ⟨rfl, ⟨nd, rfl⟩⟩; (try first | exact ⟨rfl, _, World.drewN_drewN _ _ _⟩ | exact ⟨rfl, _, Eq.trans (World.drewN_drewN _ _ _) (congrArg (World.drewN _) (Nat.add_assoc _ _ _))⟩)) | (go_at_call 75; (with_reducible refine (impl_isLevel.calls ((rd_T54 l0 x7_1).f1) true _ A7.out).mono ?_); rintro e w' ⟨rfl, ⟨nd, rfl⟩⟩; (try first | exact ⟨rfl, _, World.drewN_drewN _ _ _⟩ | exact ⟨rfl, _, Eq.trans (World.drewN_drewN _ _ _) (congrArg (World.drewN _) (Nat.add_assoc _ _ _))⟩); have p153 : 0 ≤ ((ji10) : Int) := dt_; have q153 : (ji10) < (l0.length : Int) := dt_; obtain ⟨ad153, e153, hx153_0, hx153_1⟩ := at_T54 HR0.out (ji10) p153 q153; obtain rfl : ad149 = ad153 := (by injection e153); have hn153_0 : ad149.block ≠ gb150 := Nat.ne_of_lt (Nat.lt_of_lt_of_le (by have := World.block_lt_of_cell? _ _ hx153_0; first | rwa [add_block] at this | exact this) GW150.out); have hn153_1 : ad149.block ≠ gb150 := Nat.ne_of_lt (Nat.lt_of_lt_of_le (by have := World.block_lt_of_cell? _ _ hx153_0; first | rwa [add_block] at this | exact this) GW150.out); replace hx153_0 := bc_ HB.out hx153_0; replace hx153_1 := bc_ HB.out hx153_1; replace hx153_0 := (cell_far (p := ⟨gb150, 0, none⟩) (by first | (rw [add_block]; exact hn153_0) | (show (Addr.add _ _).block ≠ _; rw [add_block]; exact hn153_0) | exact hn153_0) (.int .i64 ((rd_T54 l0 x7_1).f0))).trans hx153_0; replace hx153_1 := (cell_far (p := ⟨gb150, 0, none⟩) (by first | (rw [add_block]; exact hn153_0) | (show (Addr.add _ _).block ≠ _; rw [add_block]; exact hn153_0) | exact hn153_0) (.int .i64 ((rd_T54 l0 x7_1).f0))).trans hx153_1; replace hx153_0 := (cell_far (p := ⟨gb150, 1, none⟩) (by first | (rw [add_block]; exact hn153_1) | (show (Addr.add _ _).block ≠ _; rw [add_block]; exact hn153_1) | exact hn153_1) (.int .i64 ((rd_T54 l0 x7_1).f1))).trans hx153_0; replace hx153_1 := (cell_far (p := ⟨gb150, 1, none⟩) (by first | (rw [add_block]; exact hn153_1) | (show (Addr.add _ _).block ≠ _; rw [add_block]; exact hn153_1) | exact hn153_1) (.int .i64 ((rd_T54 l0 x7_1).f1))).trans hx153_1; (try have hy153_0 := fun (n_ : Nat) => (show ((((w16.drewN n_).setCell ⟨gb150, 0, none⟩ (.int .i64 ((rd_T54 l0 x7_1).f0))).setCell ⟨gb150, 1, none⟩ (.int .i64 ((rd_T54 l0 x7_1).f1)))).cell? _ = some _ from hx153_0)); (try have hy153_1 := fun (n_ : Nat) => (show ((((w16.drewN n_).setCell ⟨gb150, 0, none⟩ (.int .i64 ((rd_T54 l0 x7_1).f0))).setCell ⟨gb150, 1, none⟩ (.int .i64 ((rd_T54 l0 x7_1).f1)))).cell? _ = some _ from hx153_1)); clear hn153_0; clear hn153_1; replace p153 := eq_true p153; replace q153 := eq_true q153)))
            go_roundg k1
            case measure => have := HK1.out; omega
            case rel => exact ⟨(wrap64 (x7_1 + 1)), (by first | rfl | (simp; done) | (simp [*]; done)), H', ⟨by have := HK1.out; omega⟩, ⟨lb1_ HB.out GE150.out⟩⟩
          ·
           rw [if_neg c12] at H
           exact absurd H (by simp)
         ·
          rw [if_neg c11] at H
          exact absurd H (by simp)
        ·
         rw [if_neg c9] at H
         have c9b0 : decide (0 < x7_1) = false := decide_eq_false c9; clear c9; have H' := Aside0.mk H; clear H; have p149 : 0 ≤ (x7_1 : Int) := dt_; have q149 : x7_1 < (l0.length : Int) := dt_; obtain ⟨ad149, e149, hx149_0, hx149_1⟩ := at_T54 HR0.out x7_1 p149 q149
         cases e149
         replace hx149_0 := bc_ HB.out hx149_0; replace hx149_1 := bc_ HB.out hx149_1; replace p149 := eq_true p149; replace q149 := eq_true q149
         go_wp2_with (first | ((with_reducible refine gate_dst (N := 4) rfl ?_); refine box_event ?hg (N := 4) ?hd (cs := #[.int .i64 0, .int .i64 0]) (t := 54) ?hr ?_; (case hd => rfl); (case hg => rfl); (case hr => first | (go_simp; done) | (go_simp; rfl)); intro gb150 hg w18 hbox hb; have BK150 := Aside0.mk (hbox); have GW150 := Aside0.mk ((bz_ hg (lb0_ HB.out))); have GE150 := Aside0.mk ((bz_ hg (lb0_ HB.out))); replace HB := Aside0.mk (below_step (lb0_ HB.out) hb); clear hb hbox hg; obtain ⟨hcz19_0, hcz19_1⟩ := cz2_ BK150.out; obtain ⟨hfz19_0, hfz19_1⟩ := fz2_ BK150.out) | (go_at_call 74; (with_reducible refine (impl_within.calls ((rd_T54 l0 x7_1).f0) 0 999 true _ A5.out).mono ?_); rintro e w' ⟨rfl, ⟨nd, rfl⟩⟩; (try first | exact ⟨rfl, _, World.drewN_drewN _ _ _⟩ | exact ⟨rfl, _, Eq.trans (World.drewN_drewN _ _ _) (congrArg (World.drewN _) (Nat.add_assoc _ _ _))⟩)) | (go_at_call 75; (with_reducible refine (impl_isLevel.calls ((rd_T54 l0 x7_1).f1) true _ A7.out).mono ?_); rintro e w' ⟨rfl, ⟨nd, rfl⟩⟩; (try first | exact ⟨rfl, _, World.drewN_drewN _ _ _⟩ | exact ⟨rfl, _, Eq.trans (World.drewN_drewN _ _ _) (congrArg (World.drewN _) (Nat.add_assoc _ _ _))⟩)))
         repeat (go_quiet (first | ((with_reducible refine gate_dst (N := 4) rfl ?_); refine box_event ?hg (N := 4) ?hd (cs := #[.int .i64 0, .int .i64 0]) (t := 54) ?hr ?_; (case hd => rfl); (case hg => rfl); (case hr => first | (go_simp; done) | (go_simp; rfl)); intro gb150 hg w18 hbox hb; have BK150 := Aside0.mk (hbox); have GW150 := Aside0.mk ((bz_ hg (lb0_ HB.out))); have GE150 := Aside0.mk ((bz_ hg (lb0_ HB.out))); replace HB := Aside0.mk (below_step (lb0_ HB.out) hb); clear hb hbox hg; obtain ⟨hcz19_0, hcz19_1⟩ := cz2_ BK150.out; obtain ⟨hfz19_0, hfz19_1⟩ := fz2_ BK150.out) | (go_at_call 74; (with_reducible refine (impl_within.calls ((rd_T54 l0 x7_1).f0) 0 999 true _ A5.out).mono ?_); rintro e w' ⟨rfl, ⟨nd, rfl⟩⟩; (try first | exact ⟨rfl, _, World.drewN_drewN _ _ _⟩ | exact ⟨rfl, _, Eq.trans (World.drewN_drewN _ _ _) (congrArg (World.drewN _) (Nat.add_assoc _ _ _))⟩)) | (go_at_call 75; (with_reducible refine (impl_isLevel.calls ((rd_T54 l0 x7_1).f1) true _ A7.out).mono ?_); rintro e w' ⟨rfl, ⟨nd, rfl⟩⟩; (try first | exact ⟨rfl, _, World.drewN_drewN _ _ _⟩ | exact ⟨rfl, _, Eq.trans (World.drewN_drewN _ _ _) (congrArg (World.drewN _) (Nat.add_assoc _ _ _))⟩))); try go_wp2_with (first | ((with_reducible refine gate_dst (N := 4) rfl ?_); refine box_event ?hg (N := 4) ?hd (cs := #[.int .i64 0, .int .i64 0]) (t := 54) ?hr ?_; (case hd => rfl); (case hg => rfl); (case hr => first | (go_simp; done) | (go_simp; rfl)); intro gb150 hg w18 hbox hb; have BK150 := Aside0.mk (hbox); have GW150 := Aside0.mk ((bz_ hg (lb0_ HB.out))); have GE150 := Aside0.mk ((bz_ hg (lb0_ HB.out))); replace HB := Aside0.mk (below_step (lb0_ HB.out) hb); clear hb hbox hg; obtain ⟨hcz19_0, hcz19_1⟩ := cz2_ BK150.out; obtain ⟨hfz19_0, hfz19_1⟩ := fz2_ BK150.out) | (go_at_call 74; (with_reducible refine (impl_within.calls ((rd_T54 l0 x7_1).f0) 0 999 true _ A5.out).mono ?_); rintro e w' ⟨rfl, ⟨nd, rfl⟩⟩; (try first | exact ⟨rfl, _, World.drewN_drewN _ _ _⟩ | exact ⟨rfl, _, Eq.trans (World.drewN_drewN _ _ _) (congrArg (World.drewN _) (Nat.add_assoc _ _ _))⟩)) | (go_at_call 75; (with_reducible refine (impl_isLevel.calls ((rd_T54 l0 x7_1).f1) true _ A7.out).mono ?_); rintro e w' ⟨rfl, ⟨nd, rfl⟩⟩; (try first | exact ⟨rfl, _, World.drewN_drewN _ _ _⟩ | exact ⟨rfl, _, Eq.trans (World.drewN_drewN _ _ _) (congrArg (World.drewN _) (Nat.add_assoc _ _ _))⟩))))
         go_roundg k1
         case measure => have := HK1.out; omega
         case rel => exact ⟨(wrap64 (x7_1 + 1)), (by first | rfl | (simp; done) | (simp [*]; done)), H', ⟨by have := HK1.out; omega⟩, ⟨lb1_ HB.out GE150.out⟩⟩
       ·
        replace c8 := Bool.eq_false_iff.mpr c8; subst c8
        have H1 : (some false) = some r := by rw [if_neg (show ¬ (false = true) by decide)] at H; exact H
        clear H; have H := H1; clear H1; obtain rfl := Option.some.inj H; have p149 : 0 ≤ (x7_1 : Int) := dt_; have q149 : x7_1 < (l0.length : Int) := dt_; obtain ⟨ad149, e149, hx149_0, hx149_1⟩ := at_T54 HR0.out x7_1 p149 q149
        cases e149
        replace hx149_0 := bc_ HB.out hx149_0; replace hx149_1 := bc_ HB.out hx149_1; replace p149 := eq_true p149; replace q149 := eq_true q149
        go_wp2_with (first | ((with_reducible refine gate_dst (N := 4) rfl ?_); refine box_event ?hg (N := 4) ?hd (cs := #[.int .i64 0, .int .i64 0]) (t := 54) ?hr ?_; (case hd => rfl); (case hg => rfl); (case hr => first | (go_simp; done) | (go_simp; rfl)); intro gb150 hg w20 hbox hb; have BK150 := Aside0.mk (hbox); have GW150 := Aside0.mk ((bz_ hg (lb0_ HB.out))); have GE150 := Aside0.mk ((bz_ hg (lb0_ HB.out))); replace HB := Aside0.mk (below_step (lb0_ HB.out) hb); clear hb hbox hg; obtain ⟨hcz21_0, hcz21_1⟩ := cz2_ BK150.out; obtain ⟨hfz21_0, hfz21_1⟩ := fz2_ BK150.out) | (go_at_call 74; (with_reducible refine (impl_within.calls ((rd_T54 l0 x7_1).f0) 0 999 true _ A5.out).mono ?_); rintro e w' ⟨rfl, ⟨nd, rfl⟩⟩; (try first | exact ⟨rfl, _, World.drewN_drewN _ _ _⟩ | exact ⟨rfl, _, Eq.trans (World.drewN_drewN _ _ _) (congrArg (World.drewN _) (Nat.add_assoc _ _ _))⟩)) | (go_at_call 75; (with_reducible refine (impl_isLevel.calls ((rd_T54 l0 x7_1).f1) false _ A7.out).mono ?_); rintro e w' ⟨rfl, ⟨nd, rfl⟩⟩; (try first | exact ⟨rfl, _, World.drewN_drewN _ _ _⟩ | exact ⟨rfl, _, Eq.trans (World.drewN_drewN _ _ _) (congrArg (World.drewN _) (Nat.add_assoc _ _ _))⟩)))
        repeat (go_quiet (first | ((with_reducible refine gate_dst (N := 4) rfl ?_); refine box_event ?hg (N := 4) ?hd (cs := #[.int .i64 0, .int .i64 0]) (t := 54) ?hr ?_; (case hd => rfl); (case hg => rfl); (case hr => first | (go_simp; done) | (go_simp; rfl)); intro gb150 hg w20 hbox hb; have BK150 := Aside0.mk (hbox); have GW150 := Aside0.mk ((bz_ hg (lb0_ HB.out))); have GE150 := Aside0.mk ((bz_ hg (lb0_ HB.out))); replace HB := Aside0.mk (below_step (lb0_ HB.out) hb); clear hb hbox hg; obtain ⟨hcz21_0, hcz21_1⟩ := cz2_ BK150.out; obtain ⟨hfz21_0, hfz21_1⟩ := fz2_ BK150.out) | (go_at_call 74; (with_reducible refine (impl_within.calls ((rd_T54 l0 x7_1).f0) 0 999 true _ A5.out).mono ?_); rintro e w' ⟨rfl, ⟨nd, rfl⟩⟩; (try first | exact ⟨rfl, _, World.drewN_drewN _ _ _⟩ | exact ⟨rfl, _, Eq.trans (World.drewN_drewN _ _ _) (congrArg (World.drewN _) (Nat.add_assoc _ _ _))⟩)) | (go_at_call 75; (with_reducible refine (impl_isLevel.calls ((rd_T54 l0 x7_1).f1) false _ A7.out).mono ?_); rintro e w' ⟨rfl, ⟨nd, rfl⟩⟩; (try first | exact ⟨rfl, _, World.drewN_drewN _ _ _⟩ | exact ⟨rfl, _, Eq.trans (World.drewN_drewN _ _ _) (congrArg (World.drewN _) (Nat.add_assoc _ _ _))⟩))); try go_wp2_with (first | ((with_reducible refine gate_dst (N := 4) rfl ?_); refine box_event ?hg (N := 4) ?hd (cs := #[.int .i64 0, .int .i64 0]) (t := 54) ?hr ?_; (case hd => rfl); (case hg => rfl); (case hr => first | (go_simp; done) | (go_simp; rfl)); intro gb150 hg w20 hbox hb; have BK150 := Aside0.mk (hbox); have GW150 := Aside0.mk ((bz_ hg (lb0_ HB.out))); have GE150 := Aside0.mk ((bz_ hg (lb0_ HB.out))); replace HB := Aside0.mk (below_step (lb0_ HB.out) hb); clear hb hbox hg; obtain ⟨hcz21_0, hcz21_1⟩ := cz2_ BK150.out; obtain ⟨hfz21_0, hfz21_1⟩ := fz2_ BK150.out) | (go_at_call 74; (with_reducible refine (impl_within.calls ((rd_T54 l0 x7_1).f0) 0 999 true _ A5.out).mono ?_); rintro e w' ⟨rfl, ⟨nd, rfl⟩⟩; (try first | exact ⟨rfl, _, World.drewN_drewN _ _ _⟩ | exact ⟨rfl, _, Eq.trans (World.drewN_drewN _ _ _) (congrArg (World.drewN _) (Nat.add_assoc _ _ _))⟩)) | (go_at_call 75; (with_reducible refine (impl_isLevel.calls ((rd_T54 l0 x7_1).f1) false _ A7.out).mono ?_); rintro e w' ⟨rfl, ⟨nd, rfl⟩⟩; (try first | exact ⟨rfl, _, World.drewN_drewN _ _ _⟩ | exact ⟨rfl, _, Eq.trans (World.drewN_drewN _ _ _) (congrArg (World.drewN _) (Nat.add_assoc _ _ _))⟩))))
        go_ret
        exact ⟨rr_, lb1_ HB.out GE150.out⟩
      ·
       replace c6 := Bool.eq_false_iff.mpr c6
       subst c6
       have H1 : (some false) = some r := by rw [if_neg (show ¬ (false = true) by decide)] at H; exact H
       clear H
       have H := H1
       clear H1
       obtain rfl := Option.some.inj H
       have p149 : 0 ≤ (x7_1 : Int) := dt_
       have q149 : x7_1 < (l0.length : Int) := dt_
       obtain ⟨ad149, e149, hx149_0, hx149_1⟩ := at_T54 HR0.out x7_1 p149 q149
       cases e149
       replace hx149_0 := bc_ HB.out hx149_0
       replace hx149_1 := bc_ HB.out hx149_1
       replace p149 := eq_true p149
       replace q149 := eq_true q149
       go_wp2_with (first | ((with_reducible refine gate_dst (N := 4) rfl ?_); refine box_event ?hg (N := 4) ?hd (cs := #[.int .i64 0, .int .i64 0]) (t := 54) ?hr ?_; (case hd => rfl); (case hg => rfl); (case hr => first | (go_simp; done) | (go_simp; rfl)); intro gb150 hg w22 hbox hb; have BK150 := Aside0.mk (hbox); have GW150 := Aside0.mk ((bz_ hg (lb0_ HB.out))); have GE150 := Aside0.mk ((bz_ hg (lb0_ HB.out))); replace HB := Aside0.mk (below_step (lb0_ HB.out) hb); clear hb hbox hg; obtain ⟨hcz23_0, hcz23_1⟩ := cz2_ BK150.out; obtain ⟨hfz23_0, hfz23_1⟩ := fz2_ BK150.out) | (go_at_call 74; (with_reducible refine (impl_within.calls ((rd_T54 l0 x7_1).f0) 0 999 false _ A5.out).mono ?_); rintro e w' ⟨rfl, ⟨nd, rfl⟩⟩; (try first | exact ⟨rfl, _, World.drewN_drewN _ _ _⟩ | exact ⟨rfl, _, Eq.trans (World.drewN_drewN _ _ _) (congrArg (World.drewN _) (Nat.add_assoc _ _ _))⟩)))
       repeat (go_quiet (first | ((with_reducible refine gate_dst (N := 4) rfl ?_); refine box_event ?hg (N := 4) ?hd (cs := #[.int .i64 0, .int .i64 0]) (t := 54) ?hr ?_; (case hd => rfl); (case hg => rfl); (case hr => first | (go_simp; done) | (go_simp; rfl)); intro gb150 hg w22 hbox hb; have BK150 := Aside0.mk (hbox); have GW150 := Aside0.mk ((bz_ hg (lb0_ HB.out))); have GE150 := Aside0.mk ((bz_ hg (lb0_ HB.out))); replace HB := Aside0.mk (below_step (lb0_ HB.out) hb); clear hb hbox hg; obtain ⟨hcz23_0, hcz23_1⟩ := cz2_ BK150.out; obtain ⟨hfz23_0, hfz23_1⟩ := fz2_ BK150.out) | (go_at_call 74; (with_reducible refine (impl_within.calls ((rd_T54 l0 x7_1).f0) 0 999 false _ A5.out).mono ?_); rintro e w' ⟨rfl, ⟨nd, rfl⟩⟩; (try first | exact ⟨rfl, _, World.drewN_drewN _ _ _⟩ | exact ⟨rfl, _, Eq.trans (World.drewN_drewN _ _ _) (congrArg (World.drewN _) (Nat.add_assoc _ _ _))⟩))); try go_wp2_with (first | ((with_reducible refine gate_dst (N := 4) rfl ?_); refine box_event ?hg (N := 4) ?hd (cs := #[.int .i64 0, .int .i64 0]) (t := 54) ?hr ?_; (case hd => rfl); (case hg => rfl); (case hr => first | (go_simp; done) | (go_simp; rfl)); intro gb150 hg w22 hbox hb; have BK150 := Aside0.mk (hbox); have GW150 := Aside0.mk ((bz_ hg (lb0_ HB.out))); have GE150 := Aside0.mk ((bz_ hg (lb0_ HB.out))); replace HB := Aside0.mk (below_step (lb0_ HB.out) hb); clear hb hbox hg; obtain ⟨hcz23_0, hcz23_1⟩ := cz2_ BK150.out; obtain ⟨hfz23_0, hfz23_1⟩ := fz2_ BK150.out) | (go_at_call 74; (with_reducible refine (impl_within.calls ((rd_T54 l0 x7_1).f0) 0 999 false _ A5.out).mono ?_); rintro e w' ⟨rfl, ⟨nd, rfl⟩⟩; (try first | exact ⟨rfl, _, World.drewN_drewN _ _ _⟩ | exact ⟨rfl, _, Eq.trans (World.drewN_drewN _ _ _) (congrArg (World.drewN _) (Nat.add_assoc _ _ _))⟩))))
       go_ret
       exact ⟨rr_, lb1_ HB.out GE150.out⟩
     ·
      rw [if_neg c4] at H
      exact absurd H (by simp)
    ·
     rw [if_neg c3] at H
     exact absurd H (by simp)
   ·
    rw [if_neg c2] at H
    have c2b0 : decide (x7_1 < (l0.length : Int)) = false := decide_eq_false c2
    clear c2
    obtain rfl := Option.some.inj H
    go_wp2
    repeat (go_quiet (fail); try go_wp2)
    go_ret
    exact ⟨rr_, lb0_ HB.out⟩
def laws_rBig.f (l0 : List Int) : Option (Bool) := some (decide ((l0.length : Int) > 65536))
set_option maxHeartbeats 8000000 in
set_option maxRecDepth 100000 in
theorem laws_rBig.calls (A0 : Option Addr) (c0 : Nat) (l0 : List Int) (r : Bool) (w : World) (hr0 : Kd.C (Kd.int .u8) w A0 l0.length l0) (hc0 : l0.length ≤ c0) (h : laws_rBig.f l0 = some r) :
  Calls Try.prog 26 #[.slice A0 l0.length c0] w fun e w' => e = .returned (.bool r) ∧ Drawn0 w w' := by
 have HR0 := Aside0.mk hr0
 have HC0 := Aside0.mk hc0
 clear hr0 hc0
 have H : (some (decide ((l0.length : Int) > 65536))) = some r := h
 clear h
 obtain rfl := Option.some.inj H
 go_enter Try.func26, Try.ntmps26
 go_wp2
 go_ret
 exact ⟨by first | rfl | (simp; done) | (simp [*]; done), by repeat (first | exact Drawn0.refl _ | apply Drawn0.step)⟩
theorem heap_new_ (w : World) (cs : Array Value) (t : TypeId) : (w.alloc (.cells cs t)).heap[w.heap.size]? = some (.cells cs t (0, 0)) := by
 show (w.heap.push _)[w.heap.size]? = _
 simp
theorem heap_size_ (w : World) (o : Obj) : (w.alloc o).heap.size = w.heap.size + 1 := by
 show (w.heap.push o).size = _
 simp
theorem row_keep {α : Type} {d : Kd α} {e : Nat} {w w1 : World} {base g : Nat} {v : Value} {xs : List α} (h : d.R e w base (fun _ => True) v xs) (hg : g < base) (hk : KeepBut w w1 g none) : d.R e w1 base (fun _ => True) v xs :=
 Kd.R_mono (Kd.R_keep (Kd.R_bound h) hk (fun k hk => by have := hk.2.1; omega)) (fun _ _ => trivial)
def IsS90 (w0 W : World) (g : Nat) (f0 : List Int) (f1 : Int) (f2 : Int) : Prop := ∃ A0 c0, W.heap[g]? = some (.cells #[.slice A0 f0.length c0, .int .i64 f1, .int .u64 f2] 90 (0, 0)) ∧ w0.heap.size ≤ g ∧ Kd.C (Kd.int .u8) w0 A0 f0.length f0
theorem IsS90.grown {w0 W : World} {g : Nat} {f0 : List Int} {f1 : Int} {f2 : Int} {W1 : World} {row : Option Nat} (h : IsS90 w0 W g f0 f1 f2) (hw : W.grownBy W1 row) (hne : some g ≠ row) : IsS90 w0 W1 g f0 f1 f2 := by
 obtain ⟨A0, c0, hb, hg, hr0⟩ := h
 exact ⟨A0, c0, blk_grown hb hw hne, hg, hr0⟩
theorem IsS90.below {w0 W : World} {g : Nat} {f0 : List Int} {f1 : Int} {f2 : Int} {W1 : World} (h : IsS90 w0 W g f0 f1 f2) (hw : Below W.heap.size W W1) : IsS90 w0 W1 g f0 f1 f2 := h.grown (grown_of_below hw none) (by simp)
theorem IsS90.alloc {w0 W : World} {g : Nat} {f0 : List Int} {f1 : Int} {f2 : Int} (h : IsS90 w0 W g f0 f1 f2) (o : Obj) : IsS90 w0 (W.alloc o) g f0 f1 f2 := h.below (below_alloc (Below.refl _ _) o)
theorem IsS90.drewN {w0 W : World} {g : Nat} {f0 : List Int} {f1 : Int} {f2 : Int} (h : IsS90 w0 W g f0 f1 f2) (m : Nat) : IsS90 w0 (W.drewN m) g f0 f1 f2 := h
theorem IsS90.drew {w0 W : World} {g : Nat} {f0 : List Int} {f1 : Int} {f2 : Int} (h : IsS90 w0 W g f0 f1 f2) : IsS90 w0 W.drew g f0 f1 f2 := h
theorem IsS90.apart {w0 W : World} {g : Nat} {f0 : List Int} {f1 : Int} {f2 : Int} {α : Type} {d : Kd α} {e : Nat} {base : Nat} {ok : Nat → Prop} {v : Value} {xs : List α} (h : IsS90 w0 W g f0 f1 f2) (ho : d.R e W base ok v xs) (ht : ∀ q, q ∈ e :: d.E → q ≠ 90) : d.R e W base (fun k => ok k ∧ k ≠ g) v xs := by
 obtain ⟨A0, c0, hb, hg, hr0⟩ := h
 exact Kd.R_types ho hb ht
theorem IsS90.own_ne {w0 W : World} {g : Nat} {f0 : List Int} {f1 : Int} {f2 : Int} {α : Type} {d : Kd α} {e : Nat} {base : Nat} {ok : Nat → Prop} {v : Value} {xs : List α} (h : IsS90 w0 W g f0 f1 f2) (ho : d.R e W base ok v xs) (ht : e ≠ 90) : some g ≠ v.ownBlock := by
 obtain ⟨A0, c0, hb, hg, hr0⟩ := h
 exact Kd.R_ne ho hb ht
theorem IsS90.lt {w0 W : World} {g : Nat} {f0 : List Int} {f1 : Int} {f2 : Int} (h : IsS90 w0 W g f0 f1 f2) : g < W.heap.size := by
 obtain ⟨A0, c0, hb, hg, hr0⟩ := h
 exact blk_lt hb
theorem IsS90.ge {w0 W : World} {g : Nat} {f0 : List Int} {f1 : Int} {f2 : Int} (h : IsS90 w0 W g f0 f1 f2) : w0.heap.size ≤ g := by
 obtain ⟨A0, c0, hb, hg, hr0⟩ := h
 exact hg
theorem IsS90.far {w0 W : World} {g : Nat} {f0 : List Int} {f1 : Int} {f2 : Int} {p : Addr} (h : IsS90 w0 W g f0 f1 f2) (hne : g ≠ p.block) (u : Value) : IsS90 w0 (W.setCell p u) g f0 f1 f2 := by
 obtain ⟨A0, c0, hb, hg, hr0⟩ := h
 exact ⟨A0, c0, blk_far hb hne u, hg, hr0⟩
theorem cellS90_0 {W : World} {g : Nat} {A0 : Option Addr} {c0 : Nat} {f0 : List Int} {f1 : Int} {f2 : Int} (h : W.heap[g]? = some (.cells #[.slice A0 f0.length c0, .int .i64 f1, .int .u64 f2] 90 (0, 0))) : W.cell? ⟨g, 0, none⟩ = some (.slice A0 f0.length c0) := (blk_cell h 0).trans rfl
theorem cellS90_1 {W : World} {g : Nat} {A0 : Option Addr} {c0 : Nat} {f0 : List Int} {f1 : Int} {f2 : Int} (h : W.heap[g]? = some (.cells #[.slice A0 f0.length c0, .int .i64 f1, .int .u64 f2] 90 (0, 0))) : W.cell? ⟨g, 1, none⟩ = some (.int .i64 f1) := (blk_cell h 1).trans rfl
theorem IsS90.set_1 {w0 W : World} {g : Nat} {f0 : List Int} {f1 : Int} {f2 : Int} (h : IsS90 w0 W g f0 f1 f2) (x : Int) : IsS90 w0 (W.setCell ⟨g, 1, none⟩ (.int .i64 x)) g f0 x f2 := by
 obtain ⟨A0, c0, hb, hg, hr0⟩ := h
 exact ⟨A0, c0, by simpa using blk_set hb 1 (.int .i64 x), hg, hr0⟩
theorem cellS90_2 {W : World} {g : Nat} {A0 : Option Addr} {c0 : Nat} {f0 : List Int} {f1 : Int} {f2 : Int} (h : W.heap[g]? = some (.cells #[.slice A0 f0.length c0, .int .i64 f1, .int .u64 f2] 90 (0, 0))) : W.cell? ⟨g, 2, none⟩ = some (.int .u64 f2) := (blk_cell h 2).trans rfl
theorem IsS90.set_2 {w0 W : World} {g : Nat} {f0 : List Int} {f1 : Int} {f2 : Int} (h : IsS90 w0 W g f0 f1 f2) (x : Int) : IsS90 w0 (W.setCell ⟨g, 2, none⟩ (.int .u64 x)) g f0 f1 x := by
 obtain ⟨A0, c0, hb, hg, hr0⟩ := h
 exact ⟨A0, c0, by simpa using blk_set hb 2 (.int .u64 x), hg, hr0⟩
theorem is90_0 {w0 W W1 : World} {g : Nat} {f0 f0' : List Int} {f1 f1' : Int} {f2 f2' : Int} (h : IsS90 w0 W g f0 f1 f2) (hh : IsS90 w0 W g f0 f1 f2 → IsS90 w0 W1 g f0' f1' f2' := by intro h_ ; repeat (first | (with_reducible first | exact h_ | apply IsS90.alloc | apply IsS90.drewN | apply IsS90.drew | apply IsS90.set_1 | apply IsS90.set_2) | exact h_)) : IsS90 w0 W1 g f0' f1' f2' := hh h
theorem is90_1 {w0 W W1 : World} {g : Nat} {f0 f0' : List Int} {f1 f1' : Int} {f2 f2' : Int} {A : Prop} (h : IsS90 w0 W g f0 f1 f2) (h0 : A) (hh : IsS90 w0 W g f0 f1 f2 → A → IsS90 w0 W1 g f0' f1' f2' := by intro h_ n0_; repeat (first | (with_reducible first | exact h_ | apply IsS90.alloc | apply IsS90.drewN | apply IsS90.drew | apply IsS90.set_1 | apply IsS90.set_2 | refine IsS90.far ?_ n0_ _) | exact h_)) : IsS90 w0 W1 g f0' f1' f2' := hh h h0
def spec_l1Cur_next.f (s0_0 : List Int) (s0_1 : Int) (s0_2 : Int) : Option (Int × Int × Int) := if s0_1 < (s0_0.length : Int) then (if 0 ≤ s0_1 then (if (wrap64 (s0_1 + 1)) ≤ (s0_0.length : Int) then (some (wrap64 (rd s0_0 s0_1), wrap64 (s0_1 + 1), IntKind.u64.wrap ((IntKind.u64.wrap ((IntKind.u64.wrap (s0_2 * 6364136223846793005)) + (IntKind.u64.wrap (wrap64 (rd s0_0 s0_1))))) + 933933))) else (some (wrap64 (Go.bits .and .u64 ((IntKind.u64.wrap ((IntKind.u64.wrap ((IntKind.u64.wrap (s0_2 * 6364136223846793005)) + (IntKind.u64.wrap (wrap64 (rd s0_0 s0_1))))) + 933933)) / 1099511627776) 255), wrap64 (s0_1 + 1), IntKind.u64.wrap ((IntKind.u64.wrap ((IntKind.u64.wrap (s0_2 * 6364136223846793005)) + (IntKind.u64.wrap (wrap64 (rd s0_0 s0_1))))) + 933933)))) else (none)) else (if (wrap64 (s0_1 + 1)) ≤ (s0_0.length : Int) then (some (0, wrap64 (s0_1 + 1), IntKind.u64.wrap ((IntKind.u64.wrap ((IntKind.u64.wrap (s0_2 * 6364136223846793005)) + 0)) + 933933))) else (some (wrap64 (Go.bits .and .u64 ((IntKind.u64.wrap ((IntKind.u64.wrap ((IntKind.u64.wrap (s0_2 * 6364136223846793005)) + 0)) + 933933)) / 1099511627776) 255), wrap64 (s0_1 + 1), IntKind.u64.wrap ((IntKind.u64.wrap ((IntKind.u64.wrap (s0_2 * 6364136223846793005)) + 0)) + 933933))))
set_option maxHeartbeats 8000000 in
set_option maxRecDepth 100000 in
theorem spec_l1Cur_next.calls (g : Nat) (s0_0 : List Int) (s0_1 : Int) (s0_2 : Int) (r1 : Int) (r2 : Int) (r3 : Int) (w0 w : World) (hI : IsS90 w0 w g s0_0 s0_1 s0_2) (hB : Below w0.heap.size w0 w) (h : spec_l1Cur_next.f s0_0 s0_1 s0_2 = some (r1, r2, r3)) :
  Calls Try.prog 97 #[.pointer (some ⟨g, 0, none⟩)] w fun e w' => e = .returned (.int .i64 r1) ∧ IsS90 w0 w' g s0_0 r2 r3 ∧ Below w0.heap.size w0 w' ∧ KeepBut w w' g none := by
 have HI0 := Aside0.mk hI
 have HK := Aside0.mk (KeepBut.refl w g none)
 have HL := Aside0.mk hB.size
 clear hI
 have HW0 := Aside0.mk hB.size
 have HB := Aside0.mk hB
 clear hB
 have H : (if s0_1 < (s0_0.length : Int) then (if 0 ≤ s0_1 then (if (wrap64 (s0_1 + 1)) ≤ (s0_0.length : Int) then (some (wrap64 (rd s0_0 s0_1), wrap64 (s0_1 + 1), IntKind.u64.wrap ((IntKind.u64.wrap ((IntKind.u64.wrap (s0_2 * 6364136223846793005)) + (IntKind.u64.wrap (wrap64 (rd s0_0 s0_1))))) + 933933))) else (some (wrap64 (Go.bits .and .u64 ((IntKind.u64.wrap ((IntKind.u64.wrap ((IntKind.u64.wrap (s0_2 * 6364136223846793005)) + (IntKind.u64.wrap (wrap64 (rd s0_0 s0_1))))) + 933933)) / 1099511627776) 255), wrap64 (s0_1 + 1), IntKind.u64.wrap ((IntKind.u64.wrap ((IntKind.u64.wrap (s0_2 * 6364136223846793005)) + (IntKind.u64.wrap (wrap64 (rd s0_0 s0_1))))) + 933933)))) else (none)) else (if (wrap64 (s0_1 + 1)) ≤ (s0_0.length : Int) then (some (0, wrap64 (s0_1 + 1), IntKind.u64.wrap ((IntKind.u64.wrap ((IntKind.u64.wrap (s0_2 * 6364136223846793005)) + 0)) + 933933))) else (some (wrap64 (Go.bits .and .u64 ((IntKind.u64.wrap ((IntKind.u64.wrap ((IntKind.u64.wrap (s0_2 * 6364136223846793005)) + 0)) + 933933)) / 1099511627776) 255), wrap64 (s0_1 + 1), IntKind.u64.wrap ((IntKind.u64.wrap ((IntKind.u64.wrap (s0_2 * 6364136223846793005)) + 0)) + 933933))))) = some (r1, r2, r3) := h
 clear h
 by_cases c2 : s0_1 < (s0_0.length : Int)
 ·
  rw [if_pos c2] at H
  have c2b0 : decide (s0_1 < (s0_0.length : Int)) = true := decide_eq_true c2
  clear c2
  by_cases c3 : 0 ≤ s0_1
  ·
   rw [if_pos c3] at H
   have c3b0 : decide (0 ≤ s0_1) = true := decide_eq_true c3
   clear c3
   by_cases c4 : (wrap64 (s0_1 + 1)) ≤ (s0_0.length : Int)
   ·
    rw [if_pos c4] at H
    have c4b0 : decide ((wrap64 (s0_1 + 1)) ≤ (s0_0.length : Int)) = true := decide_eq_true c4
    clear c4
    simp only [Option.some.injEq, Prod.mk.injEq] at H
    obtain ⟨rfl, rfl, rfl⟩ := H
    obtain ⟨ASz5_0, cSz5_0, HGz5, hgz5, HSz5_0⟩ := HI0.out
    have hcz5_0 := cellS90_0 HGz5
    have hcz5_1 := cellS90_1 HGz5
    have hcz5_2 := cellS90_2 HGz5
    have hfz5_1 := blk_frozen HGz5 1
    have hfz5_2 := blk_frozen HGz5 2
    clear HGz5 hgz5
    have p304 : 0 ≤ (s0_1 : Int) := dt_
    have q304 : s0_1 < (s0_0.length : Int) := dt_
    obtain ⟨ad304, e304, hx304_0⟩ := Kd.at_int HSz5_0 s0_1 p304 q304
    cases e304
    replace hx304_0 := pw_cell_below HB.out hx304_0
    replace p304 := eq_true p304
    replace q304 := eq_true q304
    go_enter Try.func97, Try.ntmps97
    go_wp2
    repeat (go_quiet (fail); try go_wp2)
    go_ret
    (try simp only [Int.add_zero])
    exact ⟨rr_, is90_0 HI0.out, lb1_ HB.out (IsS90.ge HI0.out), kb0_ HK.out⟩
   ·
    rw [if_neg c4] at H
    have c4b0 : decide ((wrap64 (s0_1 + 1)) ≤ (s0_0.length : Int)) = false := decide_eq_false c4
    clear c4
    simp only [Option.some.injEq, Prod.mk.injEq] at H
    obtain ⟨rfl, rfl, rfl⟩ := H
    obtain ⟨ASz6_0, cSz6_0, HGz6, hgz6, HSz6_0⟩ := HI0.out
    have hcz6_0 := cellS90_0 HGz6
    have hcz6_1 := cellS90_1 HGz6
    have hcz6_2 := cellS90_2 HGz6
    have hfz6_1 := blk_frozen HGz6 1
    have hfz6_2 := blk_frozen HGz6 2
    clear HGz6 hgz6
    have p304 : 0 ≤ (s0_1 : Int) := dt_
    have q304 : s0_1 < (s0_0.length : Int) := dt_
    obtain ⟨ad304, e304, hx304_0⟩ := Kd.at_int HSz6_0 s0_1 p304 q304
    cases e304
    replace hx304_0 := pw_cell_below HB.out hx304_0
    replace p304 := eq_true p304
    replace q304 := eq_true q304
    go_enter Try.func97, Try.ntmps97
    go_wp2
    repeat (go_quiet (fail); try go_wp2)
    go_ret
    (try simp only [Int.add_zero])
    exact ⟨rr_, is90_0 HI0.out, lb1_ HB.out (IsS90.ge HI0.out), kb0_ HK.out⟩
  ·
   rw [if_neg c3] at H
   exact absurd H (by simp)
 ·
  rw [if_neg c2] at H
  have c2b0 : decide (s0_1 < (s0_0.length : Int)) = false := decide_eq_false c2
  clear c2
  by_cases c7 : (wrap64 (s0_1 + 1)) ≤ (s0_0.length : Int)
  ·
   rw [if_pos c7] at H
   have c7b0 : decide ((wrap64 (s0_1 + 1)) ≤ (s0_0.length : Int)) = true := decide_eq_true c7
   clear c7
   simp only [Option.some.injEq, Prod.mk.injEq] at H
   obtain ⟨rfl, rfl, rfl⟩ := H
   obtain ⟨ASz8_0, cSz8_0, HGz8, hgz8, HSz8_0⟩ := HI0.out
   have hcz8_0 := cellS90_0 HGz8
   have hcz8_1 := cellS90_1 HGz8
   have hcz8_2 := cellS90_2 HGz8
   have hfz8_1 := blk_frozen HGz8 1
   have hfz8_2 := blk_frozen HGz8 2
   clear HGz8 hgz8
   go_enter Try.func97, Try.ntmps97
   go_wp2
   repeat (go_quiet (fail); try go_wp2)
   go_ret
   (try simp only [Int.add_zero])
   exact ⟨rr_, is90_0 HI0.out, lb1_ HB.out (IsS90.ge HI0.out), kb0_ HK.out⟩
  ·
   rw [if_neg c7] at H
   have c7b0 : decide ((wrap64 (s0_1 + 1)) ≤ (s0_0.length : Int)) = false := decide_eq_false c7
   clear c7
   simp only [Option.some.injEq, Prod.mk.injEq] at H
   obtain ⟨rfl, rfl, rfl⟩ := H
   obtain ⟨ASz9_0, cSz9_0, HGz9, hgz9, HSz9_0⟩ := HI0.out
   have hcz9_0 := cellS90_0 HGz9
   have hcz9_1 := cellS90_1 HGz9
   have hcz9_2 := cellS90_2 HGz9
   have hfz9_1 := blk_frozen HGz9 1
   have hfz9_2 := blk_frozen HGz9 2
   clear HGz9 hgz9
   go_enter Try.func97, Try.ntmps97
   go_wp2
   repeat (go_quiet (fail); try go_wp2)
   go_ret
   (try simp only [Int.add_zero])
   exact ⟨rr_, is90_0 HI0.out, lb1_ HB.out (IsS90.ge HI0.out), kb0_ HK.out⟩
def spec_l1Cur_pick.f (s0_0 : List Int) (s0_1 : Int) (s0_2 : Int) (a1 : Int) : Option (Int × Int × Int) := if a1 ≤ 1 then (some (0, s0_1, s0_2)) else ((spec_l1Cur_next.f s0_0 s0_1 s0_2).bind fun bt305 => (if a1 > 200 then ((spec_l1Cur_next.f s0_0 bt305.2.1 bt305.2.2).bind fun bt308 => (if a1 = 0 then (none) else (some (Int.tmod (wrap64 ((wrap64 (bt305.1 * 256)) + bt308.1)) a1, bt308.2.1, bt308.2.2)))) else (if a1 = 0 then (none) else (some (Int.tmod bt305.1 a1, bt305.2.1, bt305.2.2)))))
set_option maxHeartbeats 8000000 in
set_option maxRecDepth 100000 in
theorem spec_l1Cur_pick.calls (g : Nat) (s0_0 : List Int) (s0_1 : Int) (s0_2 : Int) (a1 : Int) (r1 : Int) (r2 : Int) (r3 : Int) (w0 w : World) (hI : IsS90 w0 w g s0_0 s0_1 s0_2) (hB : Below w0.heap.size w0 w) (h : spec_l1Cur_pick.f s0_0 s0_1 s0_2 a1 = some (r1, r2, r3)) :
  Calls Try.prog 87 #[.pointer (some ⟨g, 0, none⟩), .int .i64 a1] w fun e w' => e = .returned (.int .i64 r1) ∧ IsS90 w0 w' g s0_0 r2 r3 ∧ Below w0.heap.size w0 w' ∧ KeepBut w w' g none := by
 have HI0 := Aside0.mk hI
 have HK := Aside0.mk (KeepBut.refl w g none)
 have HL := Aside0.mk hB.size
 clear hI
 have HW0 := Aside0.mk hB.size
 have HB := Aside0.mk hB
 clear hB
 have H : (if a1 ≤ 1 then (some (0, s0_1, s0_2)) else ((spec_l1Cur_next.f s0_0 s0_1 s0_2).bind fun bt305 => (if a1 > 200 then ((spec_l1Cur_next.f s0_0 bt305.2.1 bt305.2.2).bind fun bt308 => (if a1 = 0 then (none) else (some (Int.tmod (wrap64 ((wrap64 (bt305.1 * 256)) + bt308.1)) a1, bt308.2.1, bt308.2.2)))) else (if a1 = 0 then (none) else (some (Int.tmod bt305.1 a1, bt305.2.1, bt305.2.2)))))) = some (r1, r2, r3) := h
 clear h
 by_cases c3 : a1 ≤ 1
 ·
  rw [if_pos c3] at H
  have c3b0 : decide (a1 ≤ 1) = true := decide_eq_true c3
  clear c3
  simp only [Option.some.injEq, Prod.mk.injEq] at H
  obtain ⟨rfl, rfl, rfl⟩ := H
  go_enter Try.func87, Try.ntmps87
  go_wp2
  go_ret
  exact ⟨rr_, is90_0 HI0.out, lb1_ HB.out (IsS90.ge HI0.out), kb0_ HK.out⟩
 ·
  rw [if_neg c3] at H
  have c3b0 : decide (a1 ≤ 1) = false := decide_eq_false c3
  clear c3
  replace H := Option.bind_eq_some_iff.mp H
  obtain ⟨⟨t305, t306, t307⟩, A40, H⟩ := H
  replace H : (if a1 > 200 then ((spec_l1Cur_next.f s0_0 t306 t307).bind fun bt308 => (if a1 = 0 then (none) else (some (Int.tmod (wrap64 ((wrap64 (t305 * 256)) + bt308.1)) a1, bt308.2.1, bt308.2.2)))) else (if a1 = 0 then (none) else (some (Int.tmod t305 a1, t306, t307)))) = some (r1, r2, r3) := H
  have A4 := Aside0.mk A40
  clear A40
  by_cases c5 : a1 > 200
  ·
   rw [if_pos c5] at H
   have c5b0 : decide (200 < a1) = true := decide_eq_true c5
   clear c5
   replace H := Option.bind_eq_some_iff.mp H
   obtain ⟨⟨t308, t309, t310⟩, A60, H⟩ := H
   replace H : (if a1 = 0 then (none) else (some (Int.tmod (wrap64 ((wrap64 (t305 * 256)) + t308)) a1, t309, t310))) = some (r1, r2, r3) := H
   have A6 := Aside0.mk A60
   clear A60
   by_cases c7 : a1 = 0
   ·
    rw [if_pos c7] at H
    exact absurd H (by simp)
   ·
    rw [if_neg c7] at H
    have c7b0 : (a1 == 0) = false := beq_eq_false_iff_ne.mpr c7
    have c7b1 : (a1 != 0) = true := bne_iff_ne.mpr c7
    simp only [Option.some.injEq, Prod.mk.injEq] at H
    obtain ⟨rfl, rfl, rfl⟩ := H
    go_enter Try.func87, Try.ntmps87
    go_wp2_with (first | ((with_reducible refine gate_callee (f := 97) rfl ?_); refine ga_ (some 9) Try.func97 #[.pointer (some ⟨g, 0, none⟩)] ?_; (with_reducible refine (spec_l1Cur_next.calls g s0_0 s0_1 s0_2 t305 t306 t307 w0 _ ?side1 ?side2 A4.out).mono ?_); (case side1 => exact is90_0 HI0.out); (case side2 => exact lb1_ HB.out (IsS90.ge HI0.out)); rintro e w8 ⟨rfl, hi, hb, hk⟩; refine ⟨_, rfl, ?_⟩; replace HK := Aside0.mk (KeepBut.trans (kb0_ HK.out) hk (.inl rfl)); replace HB := Aside0.mk (hb); replace HI0 := Aside0.mk (hi); (try clear hb); (try clear hb2); (try clear hk); (try clear hi)) | ((with_reducible refine gate_callee (f := 97) rfl ?_); refine ga_ (some 15) Try.func97 #[.pointer (some ⟨g, 0, none⟩)] ?_; (with_reducible refine (spec_l1Cur_next.calls g s0_0 t306 t307 t308 t309 t310 w0 _ ?side1 ?side2 A6.out).mono ?_); (case side1 => exact is90_0 HI0.out); (case side2 => exact lb1_ HB.out (IsS90.ge HI0.out)); rintro e w9 ⟨rfl, hi, hb, hk⟩; refine ⟨_, rfl, ?_⟩; replace HK := Aside0.mk (KeepBut.trans (kb0_ HK.out) hk (.inl rfl)); replace HB := Aside0.mk (hb); replace HI0 := Aside0.mk (hi); (try clear hb); (try clear hb2); (try clear hk); (try clear hi)))
    go_ret
    exact ⟨rr_, is90_0 HI0.out, lb1_ HB.out (IsS90.ge HI0.out), kb0_ HK.out⟩
  ·
   rw [if_neg c5] at H
   have c5b0 : decide (200 < a1) = false := decide_eq_false c5
   clear c5
   by_cases c10 : a1 = 0
   ·
    rw [if_pos c10] at H
    exact absurd H (by simp)
   ·
    rw [if_neg c10] at H
    have c10b0 : (a1 == 0) = false := beq_eq_false_iff_ne.mpr c10
    have c10b1 : (a1 != 0) = true := bne_iff_ne.mpr c10
    simp only [Option.some.injEq, Prod.mk.injEq] at H
    obtain ⟨rfl, rfl, rfl⟩ := H
    go_enter Try.func87, Try.ntmps87
    go_wp2_with (first | ((with_reducible refine gate_callee (f := 97) rfl ?_); refine ga_ (some 9) Try.func97 #[.pointer (some ⟨g, 0, none⟩)] ?_; (with_reducible refine (spec_l1Cur_next.calls g s0_0 s0_1 s0_2 t305 t306 t307 w0 _ ?side1 ?side2 A4.out).mono ?_); (case side1 => exact is90_0 HI0.out); (case side2 => exact lb1_ HB.out (IsS90.ge HI0.out)); rintro e w11 ⟨rfl, hi, hb, hk⟩; refine ⟨_, rfl, ?_⟩; replace HK := Aside0.mk (KeepBut.trans (kb0_ HK.out) hk (.inl rfl)); replace HB := Aside0.mk (hb); replace HI0 := Aside0.mk (hi); (try clear hb); (try clear hb2); (try clear hk); (try clear hi)))
    go_ret
    exact ⟨rr_, is90_0 HI0.out, lb1_ HB.out (IsS90.ge HI0.out), kb0_ HK.out⟩
def spec_l1Cur_among.f (s0_0 : List Int) (s0_1 : Int) (s0_2 : Int) (l1 : List Int) : Option (Int × Int × Int) := (spec_l1Cur_pick.f s0_0 s0_1 s0_2 (l1.length : Int)).bind fun bt311 => (if 0 ≤ bt311.1 then (if bt311.1 < (l1.length : Int) then (some (rd l1 bt311.1, bt311.2.1, bt311.2.2)) else (none)) else (none))
set_option maxHeartbeats 8000000 in
set_option maxRecDepth 100000 in
theorem spec_l1Cur_among.calls (g : Nat) (s0_0 : List Int) (s0_1 : Int) (s0_2 : Int) (A1 : Option Addr) (c1 : Nat) (l1 : List Int) (r1 : Int) (r2 : Int) (r3 : Int) (w0 w : World) (hI : IsS90 w0 w g s0_0 s0_1 s0_2) (hB : Below w0.heap.size w0 w) (hr1 : Kd.C (Kd.int .i64) w A1 l1.length l1) (hc1 : l1.length ≤ c1) (hf1 : ∀ ad, A1 = some ad → 0 < l1.length → ad.block ≠ g) (h : spec_l1Cur_among.f s0_0 s0_1 s0_2 l1 = some (r1, r2, r3)) :
  Calls Try.prog 86 #[.pointer (some ⟨g, 0, none⟩), .slice A1 l1.length c1] w fun e w' => e = .returned (.int .i64 r1) ∧ IsS90 w0 w' g s0_0 r2 r3 ∧ Below w0.heap.size w0 w' ∧ KeepBut w w' g none := by
 have HR1 := Aside0.mk hr1
 have HC1 := Aside0.mk hc1
 clear hr1 hc1
 have HI0 := Aside0.mk hI
 have HK := Aside0.mk (KeepBut.refl w g none)
 have HL := Aside0.mk hB.size
 clear hI
 have HW0 := Aside0.mk hB.size
 have HB := Aside0.mk hB
 clear hB
 have H : ((spec_l1Cur_pick.f s0_0 s0_1 s0_2 (l1.length : Int)).bind fun bt311 => (if 0 ≤ bt311.1 then (if bt311.1 < (l1.length : Int) then (some (rd l1 bt311.1, bt311.2.1, bt311.2.2)) else (none)) else (none))) = some (r1, r2, r3) := h
 clear h
 replace H := Option.bind_eq_some_iff.mp H
 obtain ⟨⟨t311, t312, t313⟩, A30, H⟩ := H
 replace H : (if 0 ≤ t311 then (if t311 < (l1.length : Int) then (some (rd l1 t311, t312, t313)) else (none)) else (none)) = some (r1, r2, r3) := H
 have A3 := Aside0.mk A30
 clear A30
 by_cases c4 : 0 ≤ t311
 ·
  rw [if_pos c4] at H
  have c4b0 : decide (0 ≤ t311) = true := decide_eq_true c4
  clear c4
  by_cases c5 : t311 < (l1.length : Int)
  ·
   rw [if_pos c5] at H
   have c5b0 : decide (t311 < (l1.length : Int)) = true := decide_eq_true c5
   clear c5
   simp only [Option.some.injEq, Prod.mk.injEq] at H
   obtain ⟨rfl, rfl, rfl⟩ := H
   go_enter Try.func86, Try.ntmps86
   go_wp2_with (first | ((with_reducible refine gate_callee (f := 87) rfl ?_); refine ga_ (some 9) Try.func87 #[.pointer (some ⟨g, 0, none⟩), .int .i64 (l1.length : Int)] ?_; (with_reducible refine (spec_l1Cur_pick.calls g s0_0 s0_1 s0_2 (l1.length : Int) t311 t312 t313 w0 _ ?side1 ?side2 A3.out).mono ?_); (case side1 => exact is90_0 HI0.out); (case side2 => exact lb1_ HB.out (IsS90.ge HI0.out)); rintro e w6 ⟨rfl, hi, hb, hk⟩; refine ⟨_, rfl, ?_⟩; replace HK := Aside0.mk (KeepBut.trans (kb0_ HK.out) hk (.inl rfl)); replace HB := Aside0.mk (hb); replace HI0 := Aside0.mk (hi); (try clear hb); (try clear hb2); (try clear hk); (try clear hi); have p314 : 0 ≤ (t311 : Int) := dt_; have q314 : t311 < (l1.length : Int) := dt_; obtain ⟨ad314, e314, hx314_0⟩ := Kd.at_int HR1.out t311 p314 q314; cases e314; replace hx314_0 := keep_cell HK.out hx314_0 (by first | (rw [add_block]; exact hf1 _ rfl (by omega)) | exact hf1 _ rfl (by omega) | exact hf1 ad314 rfl (by omega)); replace p314 := eq_true p314; replace q314 := eq_true q314))
   go_ret
   exact ⟨rr_, is90_0 HI0.out, lb1_ HB.out (IsS90.ge HI0.out), kb0_ HK.out⟩
  ·
   rw [if_neg c5] at H
   exact absurd H (by simp)
 ·
  rw [if_neg c4] at H
  exact absurd H (by simp)
mutual
def spec_l1Cur_readings.l0 : Nat → List (S54) → Int → Int → List Int → Int → Int → Option ((List (S54)) × Int × Int)
 | 0, _, _, _, _, _, _ => none
 | k + 1, x3, x4, x5, x1000, x1001, x1002 => if x5 > 0 then ((spec_l1Cur_among.f x1000 x1001 x1002 (([(-500), (-20), 0, 5, 10, 10, 40, 500] : List Int))).bind fun bt330 => (if x3.length < 8796093022208 then ((spec_l1Cur_among.f x1000 bt330.2.1 bt330.2.2 (([1, 2, 3, 7, 20] : List Int))).bind fun bt339 => (spec_l1Cur_readings.l0 k (x3 ++ [(⟨x4, bt330.1⟩ : S54)]) (wrap64 (x4 + bt339.1)) (wrap64 (x5 - 1)) x1000 bt339.2.1 bt339.2.2)) else (none))) else (if (x3.length : Int) = 0 then (some (x3, x1001, x1002)) else ((spec_l1Cur_pick.f x1000 x1001 x1002 (x3.length : Int)).bind fun bt342 => (if 0 ≤ bt342.1 then (if bt342.1 < (x3.length : Int) then ((spec_l1Cur_pick.f x1000 bt342.2.1 bt342.2.2 50).bind fun bt347 => (if bt347.1 = 0 then (if 0 < (x3.length : Int) then ((spec_l1Cur_among.f x1000 bt347.2.1 bt347.2.2 (([(-1), 1000, (rd_T54 x3 0).f0] : List Int))).bind fun bt354 => (some ((x3.set (bt342.1 : Int).toNat (⟨bt354.1, (rd_T54 x3 bt342.1).f1⟩ : S54)), bt354.2.1, bt354.2.2))) else (none)) else (if bt347.1 = 1 then ((spec_l1Cur_among.f x1000 bt347.2.1 bt347.2.2 (([(-501), 501] : List Int))).bind fun bt361 => (some ((x3.set (bt342.1 : Int).toNat (⟨(rd_T54 x3 bt342.1).f0, bt361.1⟩ : S54)), bt361.2.1, bt361.2.2))) else (if bt347.1 = 2 then (spec_l1Cur_readings.l1 k x3 bt342.1 x1000 bt347.2.1 bt347.2.2 ((rd_T54 x3 bt342.1).f0) ((rd_T54 x3 bt342.1).f1)) else (some ((x3.set (bt342.1 : Int).toNat (⟨(rd_T54 x3 bt342.1).f0, (rd_T54 x3 bt342.1).f1⟩ : S54)), bt347.2.1, bt347.2.2)))))) else (none)) else (none))))
def spec_l1Cur_readings.l1 : Nat → List (S54) → Int → List Int → Int → Int → Int → Int → Option ((List (S54)) × Int × Int)
 | 0, _, _, _, _, _, _, _ => none
 | k + 1, x3, x6, x1000, x1001, x1002, x347000, x347001 => (spec_l1Cur_pick.f x1000 x1001 x1002 2).bind fun bt365 => (if (x3.length : Int) < (wrap64 (15 + bt365.1)) then (if x3.length < 8796093022208 then (spec_l1Cur_readings.l1 k (x3 ++ [(⟨wrap64 (980 + (x3.length : Int)), 2⟩ : S54)]) x6 x1000 bt365.2.1 bt365.2.2 x347000 x347001) else (none)) else (if 0 ≤ x6 then (if x6 < (x3.length : Int) then (some ((x3.set (x6 : Int).toNat (⟨x347000, x347001⟩ : S54)), bt365.2.1, bt365.2.2)) else (none)) else (none)))
end
def spec_l1Cur_readings.f (k : Nat) (s0_0 : List Int) (s0_1 : Int) (s0_2 : Int) : Option ((List (S54)) × Int × Int) := (spec_l1Cur_among.f s0_0 s0_1 s0_2 (([0, 5, 900] : List Int))).bind fun bt321 => ((spec_l1Cur_pick.f s0_0 bt321.2.1 bt321.2.2 7).bind fun bt324 => (spec_l1Cur_readings.l0 k (([] : List (S54))) bt321.1 bt324.1 s0_0 bt324.2.1 bt324.2.2))
set_option maxHeartbeats 8000000 in
set_option maxRecDepth 100000 in
theorem spec_l1Cur_readings.calls (k : Nat) (g : Nat) (s0_0 : List Int) (s0_1 : Int) (s0_2 : Int) (r1 : List (S54)) (r2 : Int) (r3 : Int) (w0 w : World) (hI : IsS90 w0 w g s0_0 s0_1 s0_2) (hB : Below w0.heap.size w0 w) (h : spec_l1Cur_readings.f k s0_0 s0_1 s0_2 = some (r1, r2, r3)) :
  Calls Try.prog 67 #[.pointer (some ⟨g, 0, none⟩)] w fun e w' => ∃ v0_ : Value, e = .returned (v0_) ∧ Kd.R k54 54 w' w.heap.size (fun _ => True) v0_ r1 ∧ IsS90 w0 w' g s0_0 r2 r3 ∧ Below w0.heap.size w0 w' ∧ KeepBut w w' g none := by
 have hu54 := Try.underlying54
 have HI0 := Aside0.mk hI
 have HK := Aside0.mk (KeepBut.refl w g none)
 have HL := Aside0.mk hB.size
 clear hI
 have HW0 := Aside0.mk hB.size
 have HB := Aside0.mk hB
 clear hB
 have H : ((spec_l1Cur_among.f s0_0 s0_1 s0_2 (([0, 5, 900] : List Int))).bind fun bt321 => ((spec_l1Cur_pick.f s0_0 bt321.2.1 bt321.2.2 7).bind fun bt324 => (spec_l1Cur_readings.l0 k (([] : List (S54))) bt321.1 bt324.1 s0_0 bt324.2.1 bt324.2.2))) = some (r1, r2, r3) := h
 clear h
 obtain ⟨y315, hy315⟩ : ∃ y_ : List (S54), y_ = (([] : List (S54))) := ⟨_, rfl⟩
 replace H : ((spec_l1Cur_among.f s0_0 s0_1 s0_2 (([0, 5, 900] : List Int))).bind fun bt321 => ((spec_l1Cur_pick.f s0_0 bt321.2.1 bt321.2.2 7).bind fun bt324 => (spec_l1Cur_readings.l0 k y315 bt321.1 bt324.1 s0_0 bt324.2.1 bt324.2.2))) = some (r1, r2, r3) := by first | (rw [hy315]; with_reducible exact H) | (have H2_ := (Option.bind_some _ _).symm.trans H; rw [hy315]; with_reducible exact H2_) | (have H2_ := (Option.bind_some _ _).symm.trans H; with_reducible exact H2_) | with_reducible exact H | (rw [hy315]; exact H) | exact H
 have Ny315 := Aside0.mk hy315
 clear hy315
 obtain ⟨y318, hy318⟩ : ∃ y_ : List Int, y_ = (([0, 5, 900] : List Int)) := ⟨_, rfl⟩
 replace H : ((spec_l1Cur_among.f s0_0 s0_1 s0_2 y318).bind fun bt321 => ((spec_l1Cur_pick.f s0_0 bt321.2.1 bt321.2.2 7).bind fun bt324 => (spec_l1Cur_readings.l0 k y315 bt321.1 bt324.1 s0_0 bt324.2.1 bt324.2.2))) = some (r1, r2, r3) := by first | (rw [hy318]; with_reducible exact H) | (have H2_ := (Option.bind_some _ _).symm.trans H; rw [hy318]; with_reducible exact H2_) | (have H2_ := (Option.bind_some _ _).symm.trans H; with_reducible exact H2_) | with_reducible exact H | (rw [hy318]; exact H) | exact H
 have Ny318 := Aside0.mk hy318
 clear hy318
 replace H := Option.bind_eq_some_iff.mp H
 obtain ⟨⟨t321, t322, t323⟩, A20, H⟩ := H
 replace H : ((spec_l1Cur_pick.f s0_0 t322 t323 7).bind fun bt324 => (spec_l1Cur_readings.l0 k y315 t321 bt324.1 s0_0 bt324.2.1 bt324.2.2)) = some (r1, r2, r3) := H
 have A2 := Aside0.mk A20
 clear A20
 replace H := Option.bind_eq_some_iff.mp H
 obtain ⟨⟨t324, t325, t326⟩, A30, H⟩ := H
 replace H : (spec_l1Cur_readings.l0 k y315 t321 t324 s0_0 t325 t326) = some (r1, r2, r3) := H
 have A3 := Aside0.mk A30
 clear A30
 have H' := Aside0.mk H
 clear H
 go_enter Try.func67, Try.ntmps67
 go_wp2_with (first | ((with_reducible refine gate_dst (N := 8) rfl ?_); refine Kd.R_lit k54 _ 54 ?hg (N := 8) ?hd (xs := ([] : List (S54))) (inner := []) (ok := fun _ => True) (okp := fun _ => True) ?hr ?hp (fun _ hk => hk) trivial (Below.refl _ _) (Nat.le_refl _) (by simp) ?_; (case hd => rfl); (case hg => rfl); (case hr => first | (go_simp; done) | (go_simp; rfl)); (case hp => exact (Reps.none _ _)); intro v316 w4 ho5 hb hg_ hnew_; clear hg_ hnew_; replace ho5 := ry_ Ny315.out ho5; have HO317 := Aside0.mk (Kd.R_lower ho5 (keep_size (w := w) (g := g) (row := none) (kb0_ HK.out))); replace HK := Aside0.mk (KeepBut.trans (kb0_ HK.out) (KeepBut.of_below hb g none) (.inl rfl)); replace HB := Aside0.mk (below_step (lb1_ HB.out (IsS90.ge HI0.out)) hb); replace HI0 := Aside0.mk (IsS90.below (is90_0 HI0.out) hb); clear hb ho5) | ((with_reducible refine gate_dst (N := 10) rfl ?_); refine Kd.R_lit (Kd.int .i64) _ 3 ?hg (N := 10) ?hd (xs := ([0, 5, 900] : List Int)) (inner := [.int .i64 0, .int .i64 5, .int .i64 900]) (ok := fun _ => True) (okp := fun _ => True) ?hr ?hp (fun _ hk => hk) trivial (Below.refl _ _) (Nat.le_refl _) (by simp) ?_; (case hd => rfl); (case hg => rfl); (case hr => first | (go_simp; done) | (go_simp; rfl)); (case hp => exact (Reps.one (show Kd.M (Kd.int .i64) _ _ _ 0 [.int .i64 0] from rfl) (Reps.one (show Kd.M (Kd.int .i64) _ _ _ 5 [.int .i64 5] from rfl) (Reps.one (show Kd.M (Kd.int .i64) _ _ _ 900 [.int .i64 900] from rfl) (Reps.none _ _))))); intro v319 w6 ho7 hb hg_ hnew_; clear hg_ hnew_; replace ho7 := ry_ Ny318.out ho7; replace HO317 := Aside0.mk (Kd.R_below (kr_ HO317.out) hb); have HO320 := Aside0.mk (Kd.R_lower ho7 (keep_size (w := w) (g := g) (row := none) (kb0_ HK.out))); replace HK := Aside0.mk (KeepBut.trans (kb0_ HK.out) (KeepBut.of_below hb g none) (.inl rfl)); replace HB := Aside0.mk (below_step (lb1_ HB.out (IsS90.ge HI0.out)) hb); replace HI0 := Aside0.mk (IsS90.below (is90_0 HI0.out) hb); clear hb ho7; obtain ⟨Ao8, co8, eo8⟩ := Kd.R_slice HO320.out; subst eo8) | ((with_reducible refine gate_callee (f := 86) rfl ?_); refine ga_ (some 11) Try.func86 #[.pointer (some ⟨g, 0, none⟩), .slice Ao8 y318.length co8] ?_; (with_reducible refine (spec_l1Cur_among.calls g s0_0 s0_1 s0_2 _ _ y318 t321 t322 t323 w0 _ ?side1 ?side2 ?side3 ?side4 ?side5 A2.out).mono ?_); (case side1 => exact is90_0 HI0.out); (case side2 => exact lb1_ HB.out (IsS90.ge HI0.out)); (case side3 => exact kc_ (Kd.R_reads' HO320.out).2.2); (case side4 => exact (Kd.R_reads' HO320.out).2.1); (case side5 => exact far_slice (IsS90.own_ne HI0.out HO320.out (by decide))); rintro e w9 ⟨rfl, hi, hb, hk⟩; refine ⟨_, rfl, ?_⟩; replace HO317 := Aside0.mk (Kd.R_mono (Kd.R_keep (IsS90.apart (show IsS90 w0 _ g s0_0 s0_1 s0_2 from is90_0 HI0.out) (kr_ HO317.out) (by decide)) hk (fun _ h => h.2)) (fun _ h => h.1)); replace HO320 := Aside0.mk (Kd.R_mono (Kd.R_keep (IsS90.apart (show IsS90 w0 _ g s0_0 s0_1 s0_2 from is90_0 HI0.out) (kr_ HO320.out) (by decide)) hk (fun _ h => h.2)) (fun _ h => h.1)); replace HK := Aside0.mk (KeepBut.trans (kb0_ HK.out) hk (.inl rfl)); replace HB := Aside0.mk (hb); replace HI0 := Aside0.mk (hi); (try clear hb); (try clear hb2); (try clear hk); (try clear hi)) | ((with_reducible refine gate_callee (f := 87) rfl ?_); refine ga_ (some 13) Try.func87 #[.pointer (some ⟨g, 0, none⟩), .int .i64 7] ?_; (with_reducible refine (spec_l1Cur_pick.calls g s0_0 t322 t323 7 t324 t325 t326 w0 _ ?side1 ?side2 A3.out).mono ?_); (case side1 => exact is90_0 HI0.out); (case side2 => exact lb1_ HB.out (IsS90.ge HI0.out)); rintro e w10 ⟨rfl, hi, hb, hk⟩; refine ⟨_, rfl, ?_⟩; replace HO317 := Aside0.mk (Kd.R_mono (Kd.R_keep (IsS90.apart (show IsS90 w0 _ g s0_0 t322 t323 from is90_0 HI0.out) (kr_ HO317.out) (by decide)) hk (fun _ h => h.2)) (fun _ h => h.1)); replace HO320 := Aside0.mk (Kd.R_mono (Kd.R_keep (IsS90.apart (show IsS90 w0 _ g s0_0 t322 t323 from is90_0 HI0.out) (kr_ HO320.out) (by decide)) hk (fun _ h => h.2)) (fun _ h => h.1)); replace HK := Aside0.mk (KeepBut.trans (kb0_ HK.out) hk (.inl rfl)); replace HB := Aside0.mk (hb); replace HI0 := Aside0.mk (hi); (try clear hb); (try clear hb2); (try clear hk); (try clear hi)))
 go_loopg [3, 4, 5] k (fun kq v3 v4 v5 w' => ∃ (x3_1 : List (S54)) (x4_1 : Int) (x5_1 : Int) (x1001_1 : Int) (x1002_1 : Int), v4 = .int .i64 x4_1 ∧ v5 = .int .i64 x5_1 ∧ Aside0 (spec_l1Cur_readings.l0 kq x3_1 x4_1 x5_1 s0_0 x1001_1 x1002_1 = some (r1, r2, r3)) ∧ Aside0 (kq ≤ k) ∧ Aside0 (Kd.R k54 54 w' w.heap.size (fun _ => True) v3 x3_1) ∧ Aside0 (IsS90 w0 w' g s0_0 x1001_1 x1002_1) ∧ Aside0 (KeepBut w w' g none) ∧ Aside0 (Below w0.heap.size w0 w'))
 case atStart => exact ⟨(y315), (t321), (t324), (t325), (t326), (by first | rfl | (simp; done) | (simp [*]; done)), (by first | rfl | (simp; done) | (simp [*]; done)), H', ⟨Nat.le_refl _⟩, ⟨kr_ HO317.out⟩, ⟨is90_0 HI0.out⟩, ⟨kb0_ HK.out⟩, ⟨lb1_ HB.out (IsS90.ge HI0.out)⟩⟩
 case round =>
  clear H'
  try clear p2
  try clear c6
  try clear c8
  obtain ⟨x3_1, x4_1, x5_1, x1001_1, x1002_1, rfl, rfl, HA, HK1, HO_3, HI0, HK, HB⟩ := hrel
  cases gk with
  | zero => exact absurd HA.out (by simp [spec_l1Cur_readings.l0])
  | succ k1 =>
   have H := HA.out
   clear HA
   simp only [spec_l1Cur_readings.l0] at H
   by_cases c11 : x5_1 > 0
   ·
    rw [if_pos c11] at H
    have c11b0 : decide (0 < x5_1) = true := decide_eq_true c11
    clear c11
    obtain ⟨y327, hy327⟩ : ∃ y_ : List Int, y_ = (([(-500), (-20), 0, 5, 10, 10, 40, 500] : List Int)) := ⟨_, rfl⟩
    replace H : ((spec_l1Cur_among.f s0_0 x1001_1 x1002_1 y327).bind fun bt330 => (if x3_1.length < 8796093022208 then ((spec_l1Cur_among.f s0_0 bt330.2.1 bt330.2.2 (([1, 2, 3, 7, 20] : List Int))).bind fun bt339 => (spec_l1Cur_readings.l0 k1 (x3_1 ++ [(⟨x4_1, bt330.1⟩ : S54)]) (wrap64 (x4_1 + bt339.1)) (wrap64 (x5_1 - 1)) s0_0 bt339.2.1 bt339.2.2)) else (none))) = some (r1, r2, r3) := by first | (rw [hy327]; with_reducible exact H) | (have H2_ := (Option.bind_some _ _).symm.trans H; rw [hy327]; with_reducible exact H2_) | (have H2_ := (Option.bind_some _ _).symm.trans H; with_reducible exact H2_) | with_reducible exact H | (rw [hy327]; exact H) | exact H
    have Ny327 := Aside0.mk hy327
    clear hy327
    replace H := Option.bind_eq_some_iff.mp H
    obtain ⟨⟨t330, t331, t332⟩, A120, H⟩ := H
    replace H : (if x3_1.length < 8796093022208 then ((spec_l1Cur_among.f s0_0 t331 t332 (([1, 2, 3, 7, 20] : List Int))).bind fun bt339 => (spec_l1Cur_readings.l0 k1 (x3_1 ++ [(⟨x4_1, t330⟩ : S54)]) (wrap64 (x4_1 + bt339.1)) (wrap64 (x5_1 - 1)) s0_0 bt339.2.1 bt339.2.2)) else (none)) = some (r1, r2, r3) := H
    have A12 := Aside0.mk A120
    clear A120
    by_cases c13 : x3_1.length < 8796093022208
    ·
     rw [if_pos c13] at H
     have LMc13 := Aside0.mk c13
     clear c13
     obtain ⟨y333, hy333⟩ : ∃ y_ : List (S54), y_ = (x3_1 ++ [(⟨x4_1, t330⟩ : S54)]) := ⟨_, rfl⟩
     replace H : ((spec_l1Cur_among.f s0_0 t331 t332 (([1, 2, 3, 7, 20] : List Int))).bind fun bt339 => (spec_l1Cur_readings.l0 k1 y333 (wrap64 (x4_1 + bt339.1)) (wrap64 (x5_1 - 1)) s0_0 bt339.2.1 bt339.2.2)) = some (r1, r2, r3) := by first | (rw [hy333]; with_reducible exact H) | (have H2_ := (Option.bind_some _ _).symm.trans H; rw [hy333]; with_reducible exact H2_) | (have H2_ := (Option.bind_some _ _).symm.trans H; with_reducible exact H2_) | with_reducible exact H | (rw [hy333]; exact H) | exact H
     have Ny333 := Aside0.mk hy333
     clear hy333
     obtain ⟨y336, hy336⟩ : ∃ y_ : List Int, y_ = (([1, 2, 3, 7, 20] : List Int)) := ⟨_, rfl⟩
     replace H : ((spec_l1Cur_among.f s0_0 t331 t332 y336).bind fun bt339 => (spec_l1Cur_readings.l0 k1 y333 (wrap64 (x4_1 + bt339.1)) (wrap64 (x5_1 - 1)) s0_0 bt339.2.1 bt339.2.2)) = some (r1, r2, r3) := by first | (rw [hy336]; with_reducible exact H) | (have H2_ := (Option.bind_some _ _).symm.trans H; rw [hy336]; with_reducible exact H2_) | (have H2_ := (Option.bind_some _ _).symm.trans H; with_reducible exact H2_) | with_reducible exact H | (rw [hy336]; exact H) | exact H
     have Ny336 := Aside0.mk hy336
     clear hy336
     replace H := Option.bind_eq_some_iff.mp H
     obtain ⟨⟨t339, t340, t341⟩, A140, H⟩ := H
     replace H : (spec_l1Cur_readings.l0 k1 y333 (wrap64 (x4_1 + t339)) (wrap64 (x5_1 - 1)) s0_0 t340 t341) = some (r1, r2, r3) := H
     have A14 := Aside0.mk A140
     clear A140
     have H' := Aside0.mk H
     clear H
     go_wp2_with (first | ((with_reducible refine gate_dst (N := 21) rfl ?_); refine Kd.R_lit (Kd.int .i64) _ 3 ?hg (N := 21) ?hd (xs := ([(-500), (-20), 0, 5, 10, 10, 40, 500] : List Int)) (inner := [.int .i64 (-500), .int .i64 (-20), .int .i64 0, .int .i64 5, .int .i64 10, .int .i64 10, .int .i64 40, .int .i64 500]) (ok := fun _ => True) (okp := fun _ => True) ?hr ?hp (fun _ hk => hk) trivial (Below.refl _ _) (Nat.le_refl _) (by simp) ?_; (case hd => rfl); (case hg => rfl); (case hr => first | (go_simp; done) | (go_simp; rfl)); (case hp => exact (Reps.one (show Kd.M (Kd.int .i64) _ _ _ (-500) [.int .i64 (-500)] from rfl) (Reps.one (show Kd.M (Kd.int .i64) _ _ _ (-20) [.int .i64 (-20)] from rfl) (Reps.one (show Kd.M (Kd.int .i64) _ _ _ 0 [.int .i64 0] from rfl) (Reps.one (show Kd.M (Kd.int .i64) _ _ _ 5 [.int .i64 5] from rfl) (Reps.one (show Kd.M (Kd.int .i64) _ _ _ 10 [.int .i64 10] from rfl) (Reps.one (show Kd.M (Kd.int .i64) _ _ _ 10 [.int .i64 10] from rfl) (Reps.one (show Kd.M (Kd.int .i64) _ _ _ 40 [.int .i64 40] from rfl) (Reps.one (show Kd.M (Kd.int .i64) _ _ _ 500 [.int .i64 500] from rfl) (Reps.none _ _)))))))))); intro v328 w15 ho16 hb hg_ hnew_; clear hg_ hnew_; replace ho16 := ry_ Ny327.out ho16; replace HO_3 := Aside0.mk (Kd.R_below (kr_ HO_3.out) hb); have HO329 := Aside0.mk (Kd.R_lower ho16 (keep_size (w := w) (g := g) (row := none) (kb0_ HK.out))); replace HK := Aside0.mk (KeepBut.trans (kb0_ HK.out) (KeepBut.of_below hb g none) (.inl rfl)); replace HB := Aside0.mk (below_step (lb1_ HB.out (IsS90.ge HI0.out)) hb); replace HI0 := Aside0.mk (IsS90.below (is90_0 HI0.out) hb); clear hb ho16; obtain ⟨Ao17, co17, eo17⟩ := Kd.R_slice HO329.out; subst eo17) | ((with_reducible refine gate_callee (f := 86) rfl ?_); refine ga_ (some 22) Try.func86 #[.pointer (some ⟨g, 0, none⟩), .slice Ao17 y327.length co17] ?_; (with_reducible refine (spec_l1Cur_among.calls g s0_0 x1001_1 x1002_1 _ _ y327 t330 t331 t332 w0 _ ?side1 ?side2 ?side3 ?side4 ?side5 A12.out).mono ?_); (case side1 => exact is90_0 HI0.out); (case side2 => exact lb1_ HB.out (IsS90.ge HI0.out)); (case side3 => exact kc_ (Kd.R_reads' HO329.out).2.2); (case side4 => exact (Kd.R_reads' HO329.out).2.1); (case side5 => exact far_slice (IsS90.own_ne HI0.out HO329.out (by decide))); rintro e w18 ⟨rfl, hi, hb, hk⟩; refine ⟨_, rfl, ?_⟩; replace HO_3 := Aside0.mk (Kd.R_mono (Kd.R_keep (IsS90.apart (show IsS90 w0 _ g s0_0 x1001_1 x1002_1 from is90_0 HI0.out) (kr_ HO_3.out) (by decide)) hk (fun _ h => h.2)) (fun _ h => h.1)); replace HO329 := Aside0.mk (Kd.R_mono (Kd.R_keep (IsS90.apart (show IsS90 w0 _ g s0_0 x1001_1 x1002_1 from is90_0 HI0.out) (kr_ HO329.out) (by decide)) hk (fun _ h => h.2)) (fun _ h => h.1)); replace HK := Aside0.mk (KeepBut.trans (kb0_ HK.out) hk (.inl rfl)); replace HB := Aside0.mk (hb); replace HI0 := Aside0.mk (hi); (try clear hb); (try clear hb2); (try clear hk); (try clear hi)) | ((with_reducible refine gate_builtin (b := .append) (xs := #[.tmp 18, .tmp 24]) rfl ?_); at_builtin; refine Kd.R_append k54 w.heap.size rfl (.tmp 18) (.tmp 24) 28 54 (.agg #[(.int .i64 0), (.int .i64 0)]) 16 rfl Try.underlying28 info54 rfl (by decide) (by omega) u3 x3_1 (⟨x4_1, t330⟩ : S54) [.int .i64 x4_1, .int .i64 t330] (fun _ => True) (fun _ => False) rfl rfl ?aP (fun _ hk => hk.elim) ?aF ?aO (Below.refl _ _) ?aS ?aL ?_; (case aP => exact k54_mkM _ _ _ (⟨x4_1, t330⟩ : S54)); (case aF => exact (fun _ _ => trivial)); (case aO => exact (kr_ HO_3.out)); (case aS => exact (keep_size (w := w) (g := g) (row := none) (kb0_ HK.out))); (case aL => have := LMc13.out; omega); intro v334 w19 ho hb hg hat; rw [← Ny333.out] at ho; replace HO329 := Aside0.mk (Kd.R_over' (kr_ HO329.out) (Kd.R_typed (kr_ HO_3.out)) (by decide) hg); replace HB := Aside0.mk (below_weaken (lb1_ HB.out (IsS90.ge HI0.out)) HL.out hb); replace HI0 := Aside0.mk (IsS90.grown (is90_0 HI0.out) hg (IsS90.own_ne HI0.out HO_3.out (by decide))); replace HK := Aside0.mk (KeepBut.trans (kb0_ HK.out) (KeepBut.of_grown hg g) (Kd.R_base2 HO_3.out)); have HO335 := Aside0.mk (ho); clear HO_3; clear ho hb hg hat) | ((with_reducible refine gate_dst (N := 28) rfl ?_); refine Kd.R_lit (Kd.int .i64) _ 3 ?hg (N := 28) ?hd (xs := ([1, 2, 3, 7, 20] : List Int)) (inner := [.int .i64 1, .int .i64 2, .int .i64 3, .int .i64 7, .int .i64 20]) (ok := fun _ => True) (okp := fun _ => True) ?hr ?hp (fun _ hk => hk) trivial (Below.refl _ _) (Nat.le_refl _) (by simp) ?_; (case hd => rfl); (case hg => rfl); (case hr => first | (go_simp; done) | (go_simp; rfl)); (case hp => exact (Reps.one (show Kd.M (Kd.int .i64) _ _ _ 1 [.int .i64 1] from rfl) (Reps.one (show Kd.M (Kd.int .i64) _ _ _ 2 [.int .i64 2] from rfl) (Reps.one (show Kd.M (Kd.int .i64) _ _ _ 3 [.int .i64 3] from rfl) (Reps.one (show Kd.M (Kd.int .i64) _ _ _ 7 [.int .i64 7] from rfl) (Reps.one (show Kd.M (Kd.int .i64) _ _ _ 20 [.int .i64 20] from rfl) (Reps.none _ _))))))); intro v337 w20 ho21 hb hg_ hnew_; clear hg_ hnew_; replace ho21 := ry_ Ny336.out ho21; replace HO335 := Aside0.mk (Kd.R_below (kr_ HO335.out) hb); have HO338 := Aside0.mk (Kd.R_lower (Kd.R_new' ho21 (Kd.R_lt (kr_ HO329.out))) (keep_size (w := w) (g := g) (row := none) (kb0_ HK.out))); replace HO329 := Aside0.mk (Kd.R_elder' (kr_ HO329.out) (Kd.R_base ho21) hb); replace HK := Aside0.mk (KeepBut.trans (kb0_ HK.out) (KeepBut.of_below hb g none) (.inl rfl)); replace HB := Aside0.mk (below_step (lb1_ HB.out (IsS90.ge HI0.out)) hb); replace HI0 := Aside0.mk (IsS90.below (is90_0 HI0.out) hb); clear hb ho21; obtain ⟨Ao22, co22, eo22⟩ := Kd.R_slice HO338.out; subst eo22) | ((with_reducible refine gate_callee (f := 86) rfl ?_); refine ga_ (some 29) Try.func86 #[.pointer (some ⟨g, 0, none⟩), .slice Ao22 y336.length co22] ?_; (with_reducible refine (spec_l1Cur_among.calls g s0_0 t331 t332 _ _ y336 t339 t340 t341 w0 _ ?side1 ?side2 ?side3 ?side4 ?side5 A14.out).mono ?_); (case side1 => exact is90_0 HI0.out); (case side2 => exact lb1_ HB.out (IsS90.ge HI0.out)); (case side3 => exact kc_ (Kd.R_reads' HO338.out).2.2); (case side4 => exact (Kd.R_reads' HO338.out).2.1); (case side5 => exact far_slice (IsS90.own_ne HI0.out HO338.out (by decide))); rintro e w23 ⟨rfl, hi, hb, hk⟩; refine ⟨_, rfl, ?_⟩; replace HO329 := Aside0.mk (Kd.R_mono (Kd.R_keep (IsS90.apart (show IsS90 w0 _ g s0_0 t331 t332 from is90_0 HI0.out) (kr_ HO329.out) (by decide)) hk (fun _ h => h.2)) (fun _ h => h.1)); replace HO335 := Aside0.mk (Kd.R_mono (Kd.R_keep (IsS90.apart (show IsS90 w0 _ g s0_0 t331 t332 from is90_0 HI0.out) (kr_ HO335.out) (by decide)) hk (fun _ h => h.2)) (fun _ h => h.1)); replace HO338 := Aside0.mk (Kd.R_mono (Kd.R_keep (IsS90.apart (show IsS90 w0 _ g s0_0 t331 t332 from is90_0 HI0.out) (kr_ HO338.out) (by decide)) hk (fun _ h => h.2)) (fun _ h => h.1)); replace HK := Aside0.mk (KeepBut.trans (kb0_ HK.out) hk (.inl rfl)); replace HB := Aside0.mk (hb); replace HI0 := Aside0.mk (hi); (try clear hb); (try clear hb2); (try clear hk); (try clear hi)))
     go_roundg k1
     case measure => have := HK1.out; omega
     case rel => exact ⟨(y333), (wrap64 (x4_1 + t339)), (wrap64 (x5_1 - 1)), (t340), (t341), (by first | rfl | (simp; done) | (simp [*]; done)), (by first | rfl | (simp; done) | (simp [*]; done)), H', ⟨by have := HK1.out; omega⟩, ⟨kr_ HO335.out⟩, ⟨is90_0 HI0.out⟩, ⟨kb0_ HK.out⟩, ⟨lb1_ HB.out (IsS90.ge HI0.out)⟩⟩
    ·
     rw [if_neg c13] at H
     exact absurd H (by simp)
   ·
    rw [if_neg c11] at H
    have c11b0 : decide (0 < x5_1) = false := decide_eq_false c11
    clear c11
    by_cases c24 : (x3_1.length : Int) = 0
    ·
     rw [if_pos c24] at H
     have c24b0 : ((x3_1.length : Int) == 0) = true := beq_iff_eq.mpr c24
     have c24b1 : ((x3_1.length : Int) != 0) = false := bne_eq_false_iff_eq.mpr c24
     clear c24
     simp only [Option.some.injEq, Prod.mk.injEq] at H
     obtain ⟨rfl, rfl, rfl⟩ := H
     obtain ⟨Ao25, co25, eo25⟩ := Kd.R_slice HO_3.out
     subst eo25
     go_wp2
     go_ret
     exact ⟨_, rr_, kr_ HO_3.out, is90_0 HI0.out, lb1_ HB.out (IsS90.ge HI0.out), kb0_ HK.out⟩
    ·
     rw [if_neg c24] at H
     have c24b0 : ((x3_1.length : Int) == 0) = false := beq_eq_false_iff_ne.mpr c24
     have c24b1 : ((x3_1.length : Int) != 0) = true := bne_iff_ne.mpr c24
     have c24b2 : ¬ (x3_1 = []) := fun h_ => c24 (by rw [h_]; rfl)
     replace H := Option.bind_eq_some_iff.mp H
     obtain ⟨⟨t342, t343, t344⟩, A260, H⟩ := H
     replace H : (if 0 ≤ t342 then (if t342 < (x3_1.length : Int) then ((spec_l1Cur_pick.f s0_0 t343 t344 50).bind fun bt347 => (if bt347.1 = 0 then (if 0 < (x3_1.length : Int) then ((spec_l1Cur_among.f s0_0 bt347.2.1 bt347.2.2 (([(-1), 1000, (rd_T54 x3_1 0).f0] : List Int))).bind fun bt354 => (some ((x3_1.set (t342 : Int).toNat (⟨bt354.1, (rd_T54 x3_1 t342).f1⟩ : S54)), bt354.2.1, bt354.2.2))) else (none)) else (if bt347.1 = 1 then ((spec_l1Cur_among.f s0_0 bt347.2.1 bt347.2.2 (([(-501), 501] : List Int))).bind fun bt361 => (some ((x3_1.set (t342 : Int).toNat (⟨(rd_T54 x3_1 t342).f0, bt361.1⟩ : S54)), bt361.2.1, bt361.2.2))) else (if bt347.1 = 2 then (spec_l1Cur_readings.l1 k1 x3_1 t342 s0_0 bt347.2.1 bt347.2.2 ((rd_T54 x3_1 t342).f0) ((rd_T54 x3_1 t342).f1)) else (some ((x3_1.set (t342 : Int).toNat (⟨(rd_T54 x3_1 t342).f0, (rd_T54 x3_1 t342).f1⟩ : S54)), bt347.2.1, bt347.2.2)))))) else (none)) else (none)) = some (r1, r2, r3) := H
     have A26 := Aside0.mk A260
     clear A260
     by_cases c27 : 0 ≤ t342
     ·
      rw [if_pos c27] at H
      have c27b0 : decide (0 ≤ t342) = true := decide_eq_true c27
      clear c27
      by_cases c28 : t342 < (x3_1.length : Int)
      ·
       rw [if_pos c28] at H
       have c28b0 : decide (t342 < (x3_1.length : Int)) = true := decide_eq_true c28
       clear c28
       replace H := Option.bind_eq_some_iff.mp H
       obtain ⟨⟨t347, t348, t349⟩, A290, H⟩ := H
       replace H : (if t347 = 0 then (if 0 < (x3_1.length : Int) then ((spec_l1Cur_among.f s0_0 t348 t349 (([(-1), 1000, (rd_T54 x3_1 0).f0] : List Int))).bind fun bt354 => (some ((x3_1.set (t342 : Int).toNat (⟨bt354.1, (rd_T54 x3_1 t342).f1⟩ : S54)), bt354.2.1, bt354.2.2))) else (none)) else (if t347 = 1 then ((spec_l1Cur_among.f s0_0 t348 t349 (([(-501), 501] : List Int))).bind fun bt361 => (some ((x3_1.set (t342 : Int).toNat (⟨(rd_T54 x3_1 t342).f0, bt361.1⟩ : S54)), bt361.2.1, bt361.2.2))) else (if t347 = 2 then (spec_l1Cur_readings.l1 k1 x3_1 t342 s0_0 t348 t349 ((rd_T54 x3_1 t342).f0) ((rd_T54 x3_1 t342).f1)) else (some ((x3_1.set (t342 : Int).toNat (⟨(rd_T54 x3_1 t342).f0, (rd_T54 x3_1 t342).f1⟩ : S54)), t348, t349))))) = some (r1, r2, r3) := H
       have A29 := Aside0.mk A290
       clear A290
       by_cases c30 : t347 = 0
       ·
        rw [if_pos c30] at H
        have c30b0 : (t347 == 0) = true := beq_iff_eq.mpr c30; have c30b1 : (t347 != 0) = false := bne_eq_false_iff_eq.mpr c30; clear c30
        by_cases c31 : 0 < (x3_1.length : Int)
        ·
         rw [if_pos c31] at H
         have c31b0 : decide (0 < (x3_1.length : Int)) = true := decide_eq_true c31; have c31b1 : decide (0 < x3_1.length) = true := decide_eq_true (by omega); clear c31
         obtain ⟨y351, hy351⟩ : ∃ y_ : List Int, y_ = (([(-1), 1000, (rd_T54 x3_1 0).f0] : List Int)) := ⟨_, rfl⟩
         replace H : ((spec_l1Cur_among.f s0_0 t348 t349 y351).bind fun bt354 => (some ((x3_1.set (t342 : Int).toNat (⟨bt354.1, (rd_T54 x3_1 t342).f1⟩ : S54)), bt354.2.1, bt354.2.2))) = some (r1, r2, r3) := by first | (rw [hy351]; with_reducible exact H) | (have H2_ := (Option.bind_some _ _).symm.trans H; rw [hy351]; with_reducible exact H2_) | (have H2_ := (Option.bind_some _ _).symm.trans H; with_reducible exact H2_) | with_reducible exact H | (rw [hy351]; exact H) | exact H
         have Ny351 := Aside0.mk hy351; clear hy351; replace H := Option.bind_eq_some_iff.mp H; obtain ⟨⟨t354, t355, t356⟩, A320, H⟩ := H; replace H : (some ((x3_1.set (t342 : Int).toNat (⟨t354, (rd_T54 x3_1 t342).f1⟩ : S54)), t355, t356)) = some (r1, r2, r3) := H; have A32 := Aside0.mk A320; clear A320
         obtain ⟨y357, hy357⟩ : ∃ y_ : List (S54), y_ = (x3_1.set (t342 : Int).toNat (⟨t354, (rd_T54 x3_1 t342).f1⟩ : S54)) := ⟨_, rfl⟩
         replace H : (some (y357, t355, t356)) = some (r1, r2, r3) := by first | (rw [hy357]; with_reducible exact H) | (have H2_ := (Option.bind_some _ _).symm.trans H; rw [hy357]; with_reducible exact H2_) | (have H2_ := (Option.bind_some _ _).symm.trans H; with_reducible exact H2_) | with_reducible exact H | (rw [hy357]; exact H) | exact H
         have Ny357 := Aside0.mk hy357; clear hy357; simp only [Option.some.injEq, Prod.mk.injEq] at H; obtain ⟨rfl, rfl, rfl⟩ := H; obtain ⟨Ao34, co34, eo34⟩ := Kd.R_slice HO_3.out; subst eo34
         go_wp2_with (first | ((with_reducible refine gate_callee (f := 87) rfl ?_); refine ga_ (some 38) Try.func87 #[.pointer (some ⟨g, 0, none⟩), .int .i64 (x3_1.length : Int)] ?_; (with_reducible refine (spec_l1Cur_pick.calls g s0_0 x1001_1 x1002_1 (x3_1.length : Int) t342 t343 t344 w0 _ ?side1 ?side2 A26.out).mono ?_); (case side1 => exact is90_0 HI0.out); (case side2 => exact lb1_ HB.out (IsS90.ge HI0.out)); rintro e w35 ⟨rfl, hi, hb, hk⟩; refine ⟨_, rfl, ?_⟩; replace HO_3 := Aside0.mk (Kd.R_mono (Kd.R_keep (IsS90.apart (show IsS90 w0 _ g s0_0 x1001_1 x1002_1 from is90_0 HI0.out) (kr_ HO_3.out) (by decide)) hk (fun _ h => h.2)) (fun _ h => h.1)); replace HK := Aside0.mk (KeepBut.trans (kb0_ HK.out) hk (.inl rfl)); replace HB := Aside0.mk (hb); replace HI0 := Aside0.mk (hi); (try clear hb); (try clear hb2); (try clear hk); (try clear hi); have p345 : 0 ≤ (t342 : Int) := dt_; have q345 : t342 < (x3_1.length : Int) := dt_; obtain ⟨ad345, e345, hx345_0, hx345_1⟩ := at_T54 (Kd.R_reads' HO_3.out).2.2 t342 p345 q345; cases e345; replace p345 := eq_true p345; replace q345 := eq_true q345) | ((with_reducible refine gate_dst (N := 7) rfl ?_); refine box_event ?hg (N := 7) ?hd (cs := #[.int .i64 0, .int .i64 0]) (t := 54) ?hr ?_; (case hd => rfl); (case hg => rfl); (case hr => first | (go_simp; done) | (go_simp; rfl)); intro gb346 hg w36 hbox hb; replace HO_3 := Aside0.mk (Kd.R_below (Kd.R_elderB (kr_ HO_3.out) gb346 (Nat.le_of_eq hg.symm)) hb); replace HB := Aside0.mk (below_step (lb1_ HB.out (IsS90.ge HI0.out)) hb); have BK346 := Aside0.mk (hbox); have GW346 := Aside0.mk ((by rw [hg]; exact (keep_size (w := w) (g := g) (row := none) (kb0_ HK.out)) : w.heap.size ≤ gb346)); have GE346 := Aside0.mk ((Nat.le_trans HW0.out (by rw [hg]; exact (keep_size (w := w) (g := g) (row := none) (kb0_ HK.out)) : w.heap.size ≤ gb346) : w0.heap.size ≤ gb346)); replace HK := Aside0.mk (KeepBut.trans (kb0_ HK.out) (KeepBut.of_below hb g none) (.inl rfl)); have NB0_346 := Aside0.mk ((by rw [hg]; exact Nat.ne_of_lt (IsS90.lt (show IsS90 w0 _ g s0_0 t343 t344 from is90_0 HI0.out)) : g ≠ gb346)); have NB346_0 := Aside0.mk ((by rw [hg]; exact Nat.ne_of_gt (IsS90.lt (show IsS90 w0 _ g s0_0 t343 t344 from is90_0 HI0.out)) : gb346 ≠ g)); replace HI0 := Aside0.mk (IsS90.below (is90_0 HI0.out) hb); clear hb hbox hg; have hnb37 := NB346_0.out; have hnc37 := NB0_346.out; obtain ⟨hcz38_0, hcz38_1⟩ := cz2_ BK346.out; obtain ⟨hfz38_0, hfz38_1⟩ := fz2_ BK346.out) | ((with_reducible refine gate_callee (f := 87) rfl ?_); refine ga_ (some 44) Try.func87 #[.pointer (some ⟨g, 0, none⟩), .int .i64 50] ?_; (with_reducible refine (spec_l1Cur_pick.calls g s0_0 t343 t344 50 t347 t348 t349 w0 _ ?side1 ?side2 A29.out).mono ?_); (case side1 => exact is90_1 HI0.out NB0_346.out); (case side2 => exact lb2_ HB.out (IsS90.ge HI0.out) GE346.out); rintro e w39 ⟨rfl, hi, hb, hk⟩; refine ⟨_, rfl, ?_⟩; replace HO_3 := Aside0.mk (Kd.R_mono (Kd.R_keep (IsS90.apart (show IsS90 w0 _ g s0_0 t343 t344 from is90_1 HI0.out NB0_346.out) (by (with_reducible repeat (first | apply Kd.R_alloc | apply Kd.R_drewN | apply Kd.R_drew)); exact (Kd.R_mono (Kd.R_far (p := ⟨gb346, 1, none⟩) (Kd.R_far (p := ⟨gb346, 0, none⟩) (Kd.R_mono HO_3.out (fun k_ hk => (⟨hk, hk.2⟩ : _ ∧ k_ ≠ gb346))) (fun _ hk => hk.2) (.int .i64 ((rd_T54 x3_1 t342).f0))) (fun _ hk => hk.2) (.int .i64 ((rd_T54 x3_1 t342).f1))) (fun _ h_ => h_.1))) (by decide)) hk (fun _ h => h.2)) (fun _ h => h.1)); replace BK346 := Aside0.mk (KeepBut.blk hk (g' := gb346) (o := .cells #[.int .i64 ((rd_T54 x3_1 t342).f0), .int .i64 ((rd_T54 x3_1 t342).f1)] 54 (0, 0)) (by (with_reducible repeat (first | refine blk_drewN ?_ _ | refine blk_drew ?_ | refine blk_alloc ?_ _)); exact (p2_ BK346.out _ _)) NB346_0.out (by simp)); replace HK := Aside0.mk (KeepBut.trans (kb1_ HK.out GW346.out) hk (.inl rfl)); replace HB := Aside0.mk (hb); replace HI0 := Aside0.mk (hi); (try clear hb); (try clear hb2); (try clear hk); (try clear hi); have p350 : 0 ≤ (0 : Int) := (by omega); have q350 : 0 < (x3_1.length : Int) := dt_; obtain ⟨ad350, e350, hx350_0, hx350_1⟩ := at_T54 (Kd.R_reads' HO_3.out).2.2 0 p350 q350; obtain rfl : ad345 = ad350 := (by injection e350); have qi350 : (0 < x3_1.length) = True := eq_true (by omega); (try rw [show ((0 : Int)).toNat = 0 from rfl] at hx350_0); (try rw [show 0 * 2 = 0 from rfl] at hx350_0); (try rw [Addr.add_zero'] at hx350_0); (try rw [show ((0 : Int)).toNat = 0 from rfl] at hx350_1); (try rw [show 0 * 2 = 0 from rfl] at hx350_1); (try rw [Addr.add_zero'] at hx350_1); replace p350 := eq_true p350; replace q350 := eq_true q350) | ((with_reducible refine gate_dst (N := 52) rfl ?_); refine Kd.R_lit (Kd.int .i64) _ 3 ?hg (N := 52) ?hd (xs := ([(-1), 1000, (rd_T54 x3_1 0).f0] : List Int)) (inner := [.int .i64 (-1), .int .i64 1000, .int .i64 ((rd_T54 x3_1 0).f0)]) (ok := fun _ => True) (okp := fun _ => True) ?hr ?hp (fun _ hk => hk) trivial (Below.refl _ _) (Nat.le_refl _) (by simp) ?_; (case hd => rfl); (case hg => rfl); (case hr => first | (go_simp; done) | (go_simp; rfl)); (case hp => exact (Reps.one (show Kd.M (Kd.int .i64) _ _ _ (-1) [.int .i64 (-1)] from rfl) (Reps.one (show Kd.M (Kd.int .i64) _ _ _ 1000 [.int .i64 1000] from rfl) (Reps.one (show Kd.M (Kd.int .i64) _ _ _ ((rd_T54 x3_1 0).f0) [.int .i64 ((rd_T54 x3_1 0).f0)] from rfl) (Reps.none _ _))))); intro v352 w40 ho41 hb hg_ hnew_; clear hg_ hnew_; replace ho41 := ry_ Ny351.out ho41; replace HO_3 := Aside0.mk (Kd.R_below (kr_ HO_3.out) hb); have HO353 := Aside0.mk (Kd.R_lower ho41 (keep_size (w := w) (g := g) (row := none) (kb1_ HK.out GW346.out))); replace BK346 := Aside0.mk (bb_ (bk_ BK346.out) hb); replace HK := Aside0.mk (KeepBut.trans (kb1_ HK.out GW346.out) (KeepBut.of_below hb g none) (.inl rfl)); replace HB := Aside0.mk (below_step (lb2_ HB.out (IsS90.ge HI0.out) GE346.out) hb); replace HI0 := Aside0.mk (IsS90.below (is90_1 HI0.out NB0_346.out) hb); clear hb ho41; obtain ⟨Ao42, co42, eo42⟩ := Kd.R_slice HO353.out; subst eo42) | ((with_reducible refine gate_callee (f := 86) rfl ?_); refine ga_ (some 53) Try.func86 #[.pointer (some ⟨g, 0, none⟩), .slice Ao42 y351.length co42] ?_; (with_reducible refine (spec_l1Cur_among.calls g s0_0 t348 t349 _ _ y351 t354 t355 t356 w0 _ ?side1 ?side2 ?side3 ?side4 ?side5 A32.out).mono ?_); (case side1 => exact is90_1 HI0.out NB0_346.out); (case side2 => exact lb2_ HB.out (IsS90.ge HI0.out) GE346.out); (case side3 => exact kc_ (Kd.R_reads' HO353.out).2.2); (case side4 => exact (Kd.R_reads' HO353.out).2.1); (case side5 => exact far_slice (IsS90.own_ne HI0.out HO353.out (by decide))); rintro e w43 ⟨rfl, hi, hb, hk⟩; refine ⟨_, rfl, ?_⟩; replace HO_3 := Aside0.mk (Kd.R_mono (Kd.R_keep (IsS90.apart (show IsS90 w0 _ g s0_0 t348 t349 from is90_1 HI0.out NB0_346.out) (kr_ HO_3.out) (by decide)) hk (fun _ h => h.2)) (fun _ h => h.1)); replace BK346 := Aside0.mk (KeepBut.blk hk (g' := gb346) (o := .cells #[.int .i64 ((rd_T54 x3_1 t342).f0), .int .i64 ((rd_T54 x3_1 t342).f1)] 54 (0, 0)) (bk_ BK346.out) NB346_0.out (by simp)); replace HO353 := Aside0.mk (Kd.R_mono (Kd.R_keep (IsS90.apart (show IsS90 w0 _ g s0_0 t348 t349 from is90_1 HI0.out NB0_346.out) (kr_ HO353.out) (by decide)) hk (fun _ h => h.2)) (fun _ h => h.1)); replace HK := Aside0.mk (KeepBut.trans (kb1_ HK.out GW346.out) hk (.inl rfl)); replace HB := Aside0.mk (hb); replace HI0 := Aside0.mk (hi); (try clear hb); (try clear hb2); (try clear hk); (try clear hi); obtain ⟨hcz44_0, hcz44_1⟩ := cz2_ BK346.out; obtain ⟨hfz44_0, hfz44_1⟩ := fz2_ BK346.out) | ((with_reducible refine gate_store (t := 3) (p := 54) rfl ?_); refine store_event (t := 3) (p := 54) (v := ?vo_w45) (w1 := (w43.setCell ⟨gb346, 0, none⟩ (.int .i64 t354))) ?hg ?ho ?hn ?hr ?_; (case ho => rfl); (case hg => rfl); (case hn => rfl); (case hr => first | (go_simp; done) | (go_simp; rfl)); intro w45 hw; have n0_ : Aside0 (Kd.R k54 54 w45 w.heap.size (fun k_ => k_ ≠ gb346) (.slice (some ad345) x3_1.length co34) x3_1) := ⟨(by rw [hw]; exact (by (with_reducible repeat (first | apply Kd.R_alloc | apply Kd.R_drewN | apply Kd.R_drew)); exact Kd.R_mono (Kd.R_far (p := ⟨gb346, 0, none⟩) (Kd.R_mono HO_3.out (fun k_ hk => (⟨hk, hk.2⟩ : _ ∧ k_ ≠ gb346))) (fun _ hk => hk.2) (.int .i64 t354)) (fun _ hk => hk.1.2)))⟩; have n1_ : Aside0 (Kd.R (Kd.int .i64) 3 w45 w.heap.size (fun _ => True) (.slice Ao42 y351.length co42) y351) := ⟨(by rw [hw]; exact (by (with_reducible repeat (first | apply Kd.R_alloc | apply Kd.R_drewN | apply Kd.R_drew)); exact Kd.R_mono (Kd.R_far (p := ⟨gb346, 0, none⟩) (Kd.R_types HO353.out BK346.out (by decide)) (fun _ hk => hk.2) (.int .i64 t354)) (fun _ hk => trivial)))⟩; have n2_ : Aside0 (w45.heap[gb346]? = some (.cells #[.int .i64 t354, .int .i64 ((rd_T54 x3_1 t342).f1)] 54 (0, 0))) := ⟨(by rw [hw]; exact (by (with_reducible repeat (first | refine blk_drewN ?_ _ | refine blk_drew ?_ | refine blk_alloc ?_ _)); refine blk_put (cs := #[.int .i64 ((rd_T54 x3_1 t342).f0), .int .i64 ((rd_T54 x3_1 t342).f1)]) ?_ 0 _ rfl; (with_reducible repeat (first | refine blk_drewN ?_ _ | refine blk_drew ?_ | refine blk_alloc ?_ _)); exact BK346.out))⟩; have n3_ : Aside0 (IsS90 w0 w45 g s0_0 t355 t356) := ⟨(by rw [hw]; exact (is90_1 HI0.out NB0_346.out))⟩; have n4_ : Aside0 (KeepBut w w45 g none) := ⟨(by rw [hw]; exact (kb1_ HK.out GW346.out))⟩; have n5_ : Aside0 (Below w0.heap.size w0 w45) := ⟨(by rw [hw]; exact (lb2_ HB.out (IsS90.ge HI0.out) GE346.out))⟩; clear hw; clear HO_3; clear HO353; clear BK346; clear HI0; clear HK; clear HB; have HO_3 := n0_; have HO353 := n1_; have BK346 := n2_; have HI0 := n3_; have HK := n4_; have HB := n5_; clear n0_ n1_ n2_ n3_ n4_ n5_; obtain ⟨hcz46_0, hcz46_1⟩ := cz2_ BK346.out; obtain ⟨hfz46_0, hfz46_1⟩ := fz2_ BK346.out; have p33 : 0 ≤ (t342 : Int) := dt_; have q33 : (t342 : Int) < ((x3_1.length : Int) : Int) := dt_; obtain ⟨go33, co33, eo33, gb33, gl33, cl33, HG33⟩ := Kd.R_form HO_3.out (by omega); (first | cases eo33 | (injection eo33 with ea_ en_ ec_; (first | subst ea_ | (injection ea_ with ea_; subst ea_)); subst ec_; clear en_)); have GB33 := Aside0.mk gb33; have GG33 := Aside0.mk HG33; clear gb33 gl33 HG33; (first | simp only [add_plain] at hx345_0 | skip); (first | simp only [add_plain] at hx345_1 | skip); (first | simp only [add_plain] at hx350_0 | skip); (first | simp only [add_plain] at hx350_1 | skip); obtain ⟨ce33, hcl33, hM33, hcc33, hfr33⟩ := Kd.R_elem HO_3.out z54 (t342 : Int) p33 q33; obtain rfl := k54_openM hM33; have hx33_0 : w45.cell? ⟨go33, (t342 : Int).toNat * 2, none⟩ = some (.int .i64 ((rd_T54 x3_1 t342).f0)) := hcc33 0 _ rfl; have hx33_1 : w45.cell? ⟨go33, (t342 : Int).toNat * 2 + 1, none⟩ = some (.int .i64 ((rd_T54 x3_1 t342).f1)) := hcc33 1 _ rfl; have hf33_0 : w45.frozen? ⟨go33, (t342 : Int).toNat * 2, none⟩ = false := hfr33 0; have hf33_1 : w45.frozen? ⟨go33, (t342 : Int).toNat * 2 + 1, none⟩ = false := hfr33 1; clear hcl33 hcc33 hfr33 hM33; replace p33 := eq_true p33; replace q33 := eq_true q33; have HX47 := Aside0.mk (show Kd.R k54 54 w45 w.heap.size (fun k_ => k_ ≠ gb346) (.slice (some ⟨go33, 0, none⟩) x3_1.length co34) x3_1 from (kr_ HO_3.out)); obtain ⟨ce47, hcl47, hM47, hcc47, hfr47⟩ := Kd.R_elem HX47.out z54 (t342 : Int) (dt_) (by have h_ : (t342 : Int) < ((x3_1.length : Int) : Int) := dt_; first | exact h_ | (have e_ := (Kd.R_reads' HO_3.out).1; omega) | simpa using h_); obtain rfl := k54_openM hM47; have HP47 := Kd.R_seg HX47.out (t342 : Int) (dt_) (by have h_ : (t342 : Int) < ((x3_1.length : Int) : Int) := dt_; first | exact h_ | (have e_ := (Kd.R_reads' HO_3.out).1; omega) | simpa using h_) (seg := [.int .i64 t354, .int .i64 ((rd_T54 x3_1 t342).f1)]) (j := 0) hcl47 hcc47 (show 2 ≤ 2 from by decide) (x' := (⟨t354, (rd_T54 x3_1 t342).f1⟩ : S54)) (k54_mkM _ _ _ (⟨t354, (rd_T54 x3_1 t342).f1⟩ : S54) ) (fun _ hk => hk); have hx47_0 := hcc47 0 _ rfl; (try simp only [show (k54).sz = 2 from rfl, Nat.mul_one, Nat.add_zero] at hx47_0); have hf47_0 := hfr47 0; (try simp only [show (k54).sz = 2 from rfl, Nat.mul_one, Nat.add_zero] at hf47_0); have hx47_1 := hcc47 1 _ rfl; (try simp only [show (k54).sz = 2 from rfl, Nat.mul_one, Nat.add_zero] at hx47_1); have hf47_1 := hfr47 1; (try simp only [show (k54).sz = 2 from rfl, Nat.mul_one, Nat.add_zero] at hf47_1); clear hcl47 hcc47 hfr47 hM47) | ((with_reducible refine gate_store (t := 54) (p := 79) rfl ?_); refine store_event (t := 54) (p := 79) (v := ?vo_w48) (w1 := ((w45.setCell ⟨go33, (t342 : Int).toNat * 2, none⟩ (.int .i64 t354)).setCell ⟨go33, (t342 : Int).toNat * 2 + 1, none⟩ (.int .i64 ((rd_T54 x3_1 t342).f1)))) ?hg ?ho ?hn ?hr ?_; (case ho => rfl); (case hg => rfl); (case hn => rfl); (case hr => first | (go_simp; done) | (go_simp; rfl)); intro w48 hw; have hg : w45.grownBy w48 (some go33) := (by rw [hw]; exact HP47.2); have hp_ : Kd.R k54 54 w48 w.heap.size (fun k_ => k_ ≠ gb346) (.slice (some ⟨go33, 0, none⟩) x3_1.length co34) y357 := (by rw [hw, Ny357.out]; exact HP47.1); clear HP47; replace HI0 := Aside0.mk (IsS90.grown (is90_1 HI0.out NB0_346.out) hg (IsS90.own_ne HI0.out HO_3.out (by decide))); replace BK346 := Aside0.mk (blk_grown (g := gb346) (o := .cells #[.int .i64 t354, .int .i64 ((rd_T54 x3_1 t342).f1)] 54 (0, 0)) (bk_ BK346.out) hg (Kd.R_away HO_3.out (fun _ hk => hk))); replace HO353 := Aside0.mk (Kd.R_over' (v := (.slice (some ⟨go33, 0, none⟩) x3_1.length co34)) (kr_ HO353.out) (Kd.R_typed HO_3.out) (by decide) hg); replace HB := Aside0.mk ((by rw [hw]; exact below_set (below_set (HB.out) (Nat.le_trans HL.out GB33.out)) (Nat.le_trans HL.out GB33.out) : Below w0.heap.size w0 w48)); replace HK := Aside0.mk (KeepBut.trans (kb1_ HK.out GW346.out) (KeepBut.of_grown hg g) (Kd.R_base2 HO_3.out)); replace HO_3 := Aside0.mk (hp_); clear hg hw hp_))
         go_ret
         exact ⟨_, rr_, krm_ HO_3.out (fun _ hk => trivial), is90_1 HI0.out NB0_346.out, lb2_ HB.out (IsS90.ge HI0.out) GE346.out, kb1_ HK.out GW346.out⟩
        ·
         rw [if_neg c31] at H
         exact absurd H (by simp)
       ·
        rw [if_neg c30] at H
        have c30b0 : (t347 == 0) = false := beq_eq_false_iff_ne.mpr c30; have c30b1 : (t347 != 0) = true := bne_iff_ne.mpr c30
        by_cases c49 : t347 = 1
        ·
         rw [if_pos c49] at H
         have c49b0 : (t347 == 1) = true := beq_iff_eq.mpr c49; have c49b1 : (t347 != 1) = false := bne_eq_false_iff_eq.mpr c49; clear c49
         obtain ⟨y358, hy358⟩ : ∃ y_ : List Int, y_ = (([(-501), 501] : List Int)) := ⟨_, rfl⟩
         replace H : ((spec_l1Cur_among.f s0_0 t348 t349 y358).bind fun bt361 => (some ((x3_1.set (t342 : Int).toNat (⟨(rd_T54 x3_1 t342).f0, bt361.1⟩ : S54)), bt361.2.1, bt361.2.2))) = some (r1, r2, r3) := by first | (rw [hy358]; with_reducible exact H) | (have H2_ := (Option.bind_some _ _).symm.trans H; rw [hy358]; with_reducible exact H2_) | (have H2_ := (Option.bind_some _ _).symm.trans H; with_reducible exact H2_) | with_reducible exact H | (rw [hy358]; exact H) | exact H
         have Ny358 := Aside0.mk hy358; clear hy358; replace H := Option.bind_eq_some_iff.mp H; obtain ⟨⟨t361, t362, t363⟩, A500, H⟩ := H; replace H : (some ((x3_1.set (t342 : Int).toNat (⟨(rd_T54 x3_1 t342).f0, t361⟩ : S54)), t362, t363)) = some (r1, r2, r3) := H; have A50 := Aside0.mk A500; clear A500
         obtain ⟨y364, hy364⟩ : ∃ y_ : List (S54), y_ = (x3_1.set (t342 : Int).toNat (⟨(rd_T54 x3_1 t342).f0, t361⟩ : S54)) := ⟨_, rfl⟩
         replace H : (some (y364, t362, t363)) = some (r1, r2, r3) := by first | (rw [hy364]; with_reducible exact H) | (have H2_ := (Option.bind_some _ _).symm.trans H; rw [hy364]; with_reducible exact H2_) | (have H2_ := (Option.bind_some _ _).symm.trans H; with_reducible exact H2_) | with_reducible exact H | (rw [hy364]; exact H) | exact H
         have Ny364 := Aside0.mk hy364; clear hy364; simp only [Option.some.injEq, Prod.mk.injEq] at H; obtain ⟨rfl, rfl, rfl⟩ := H; obtain ⟨Ao52, co52, eo52⟩ := Kd.R_slice HO_3.out; subst eo52
         go_wp2_with (first | ((with_reducible refine gate_callee (f := 87) rfl ?_); refine ga_ (some 38) Try.func87 #[.pointer (some ⟨g, 0, none⟩), .int .i64 (x3_1.length : Int)] ?_; (with_reducible refine (spec_l1Cur_pick.calls g s0_0 x1001_1 x1002_1 (x3_1.length : Int) t342 t343 t344 w0 _ ?side1 ?side2 A26.out).mono ?_); (case side1 => exact is90_0 HI0.out); (case side2 => exact lb1_ HB.out (IsS90.ge HI0.out)); rintro e w53 ⟨rfl, hi, hb, hk⟩; refine ⟨_, rfl, ?_⟩; replace HO_3 := Aside0.mk (Kd.R_mono (Kd.R_keep (IsS90.apart (show IsS90 w0 _ g s0_0 x1001_1 x1002_1 from is90_0 HI0.out) (kr_ HO_3.out) (by decide)) hk (fun _ h => h.2)) (fun _ h => h.1)); replace HK := Aside0.mk (KeepBut.trans (kb0_ HK.out) hk (.inl rfl)); replace HB := Aside0.mk (hb); replace HI0 := Aside0.mk (hi); (try clear hb); (try clear hb2); (try clear hk); (try clear hi); have p345 : 0 ≤ (t342 : Int) := dt_; have q345 : t342 < (x3_1.length : Int) := dt_; obtain ⟨ad345, e345, hx345_0, hx345_1⟩ := at_T54 (Kd.R_reads' HO_3.out).2.2 t342 p345 q345; cases e345; replace p345 := eq_true p345; replace q345 := eq_true q345) | ((with_reducible refine gate_dst (N := 7) rfl ?_); refine box_event ?hg (N := 7) ?hd (cs := #[.int .i64 0, .int .i64 0]) (t := 54) ?hr ?_; (case hd => rfl); (case hg => rfl); (case hr => first | (go_simp; done) | (go_simp; rfl)); intro gb346 hg w54 hbox hb; replace HO_3 := Aside0.mk (Kd.R_below (Kd.R_elderB (kr_ HO_3.out) gb346 (Nat.le_of_eq hg.symm)) hb); replace HB := Aside0.mk (below_step (lb1_ HB.out (IsS90.ge HI0.out)) hb); have BK346 := Aside0.mk (hbox); have GW346 := Aside0.mk ((by rw [hg]; exact (keep_size (w := w) (g := g) (row := none) (kb0_ HK.out)) : w.heap.size ≤ gb346)); have GE346 := Aside0.mk ((Nat.le_trans HW0.out (by rw [hg]; exact (keep_size (w := w) (g := g) (row := none) (kb0_ HK.out)) : w.heap.size ≤ gb346) : w0.heap.size ≤ gb346)); replace HK := Aside0.mk (KeepBut.trans (kb0_ HK.out) (KeepBut.of_below hb g none) (.inl rfl)); have NB0_346 := Aside0.mk ((by rw [hg]; exact Nat.ne_of_lt (IsS90.lt (show IsS90 w0 _ g s0_0 t343 t344 from is90_0 HI0.out)) : g ≠ gb346)); have NB346_0 := Aside0.mk ((by rw [hg]; exact Nat.ne_of_gt (IsS90.lt (show IsS90 w0 _ g s0_0 t343 t344 from is90_0 HI0.out)) : gb346 ≠ g)); replace HI0 := Aside0.mk (IsS90.below (is90_0 HI0.out) hb); clear hb hbox hg; have hnb55 := NB346_0.out; have hnc55 := NB0_346.out; obtain ⟨hcz56_0, hcz56_1⟩ := cz2_ BK346.out; obtain ⟨hfz56_0, hfz56_1⟩ := fz2_ BK346.out) | ((with_reducible refine gate_callee (f := 87) rfl ?_); refine ga_ (some 44) Try.func87 #[.pointer (some ⟨g, 0, none⟩), .int .i64 50] ?_; (with_reducible refine (spec_l1Cur_pick.calls g s0_0 t343 t344 50 t347 t348 t349 w0 _ ?side1 ?side2 A29.out).mono ?_); (case side1 => exact is90_1 HI0.out NB0_346.out); (case side2 => exact lb2_ HB.out (IsS90.ge HI0.out) GE346.out); rintro e w57 ⟨rfl, hi, hb, hk⟩; refine ⟨_, rfl, ?_⟩; replace HO_3 := Aside0.mk (Kd.R_mono (Kd.R_keep (IsS90.apart (show IsS90 w0 _ g s0_0 t343 t344 from is90_1 HI0.out NB0_346.out) (by (with_reducible repeat (first | apply Kd.R_alloc | apply Kd.R_drewN | apply Kd.R_drew)); exact (Kd.R_mono (Kd.R_far (p := ⟨gb346, 1, none⟩) (Kd.R_far (p := ⟨gb346, 0, none⟩) (Kd.R_mono HO_3.out (fun k_ hk => (⟨hk, hk.2⟩ : _ ∧ k_ ≠ gb346))) (fun _ hk => hk.2) (.int .i64 ((rd_T54 x3_1 t342).f0))) (fun _ hk => hk.2) (.int .i64 ((rd_T54 x3_1 t342).f1))) (fun _ h_ => h_.1))) (by decide)) hk (fun _ h => h.2)) (fun _ h => h.1)); replace BK346 := Aside0.mk (KeepBut.blk hk (g' := gb346) (o := .cells #[.int .i64 ((rd_T54 x3_1 t342).f0), .int .i64 ((rd_T54 x3_1 t342).f1)] 54 (0, 0)) (by (with_reducible repeat (first | refine blk_drewN ?_ _ | refine blk_drew ?_ | refine blk_alloc ?_ _)); exact (p2_ BK346.out _ _)) NB346_0.out (by simp)); replace HK := Aside0.mk (KeepBut.trans (kb1_ HK.out GW346.out) hk (.inl rfl)); replace HB := Aside0.mk (hb); replace HI0 := Aside0.mk (hi); (try clear hb); (try clear hb2); (try clear hk); (try clear hi)) | ((with_reducible refine gate_dst (N := 58) rfl ?_); refine Kd.R_lit (Kd.int .i64) _ 3 ?hg (N := 58) ?hd (xs := ([(-501), 501] : List Int)) (inner := [.int .i64 (-501), .int .i64 501]) (ok := fun _ => True) (okp := fun _ => True) ?hr ?hp (fun _ hk => hk) trivial (Below.refl _ _) (Nat.le_refl _) (by simp) ?_; (case hd => rfl); (case hg => rfl); (case hr => first | (go_simp; done) | (go_simp; rfl)); (case hp => exact (Reps.one (show Kd.M (Kd.int .i64) _ _ _ (-501) [.int .i64 (-501)] from rfl) (Reps.one (show Kd.M (Kd.int .i64) _ _ _ 501 [.int .i64 501] from rfl) (Reps.none _ _)))); intro v359 w58 ho59 hb hg_ hnew_; clear hg_ hnew_; replace ho59 := ry_ Ny358.out ho59; replace HO_3 := Aside0.mk (Kd.R_below (kr_ HO_3.out) hb); have HO360 := Aside0.mk (Kd.R_lower ho59 (keep_size (w := w) (g := g) (row := none) (kb1_ HK.out GW346.out))); replace BK346 := Aside0.mk (bb_ (bk_ BK346.out) hb); replace HK := Aside0.mk (KeepBut.trans (kb1_ HK.out GW346.out) (KeepBut.of_below hb g none) (.inl rfl)); replace HB := Aside0.mk (below_step (lb2_ HB.out (IsS90.ge HI0.out) GE346.out) hb); replace HI0 := Aside0.mk (IsS90.below (is90_1 HI0.out NB0_346.out) hb); clear hb ho59; obtain ⟨Ao60, co60, eo60⟩ := Kd.R_slice HO360.out; subst eo60) | ((with_reducible refine gate_callee (f := 86) rfl ?_); refine ga_ (some 59) Try.func86 #[.pointer (some ⟨g, 0, none⟩), .slice Ao60 y358.length co60] ?_; (with_reducible refine (spec_l1Cur_among.calls g s0_0 t348 t349 _ _ y358 t361 t362 t363 w0 _ ?side1 ?side2 ?side3 ?side4 ?side5 A50.out).mono ?_); (case side1 => exact is90_1 HI0.out NB0_346.out); (case side2 => exact lb2_ HB.out (IsS90.ge HI0.out) GE346.out); (case side3 => exact kc_ (Kd.R_reads' HO360.out).2.2); (case side4 => exact (Kd.R_reads' HO360.out).2.1); (case side5 => exact far_slice (IsS90.own_ne HI0.out HO360.out (by decide))); rintro e w61 ⟨rfl, hi, hb, hk⟩; refine ⟨_, rfl, ?_⟩; replace HO_3 := Aside0.mk (Kd.R_mono (Kd.R_keep (IsS90.apart (show IsS90 w0 _ g s0_0 t348 t349 from is90_1 HI0.out NB0_346.out) (kr_ HO_3.out) (by decide)) hk (fun _ h => h.2)) (fun _ h => h.1)); replace BK346 := Aside0.mk (KeepBut.blk hk (g' := gb346) (o := .cells #[.int .i64 ((rd_T54 x3_1 t342).f0), .int .i64 ((rd_T54 x3_1 t342).f1)] 54 (0, 0)) (bk_ BK346.out) NB346_0.out (by simp)); replace HO360 := Aside0.mk (Kd.R_mono (Kd.R_keep (IsS90.apart (show IsS90 w0 _ g s0_0 t348 t349 from is90_1 HI0.out NB0_346.out) (kr_ HO360.out) (by decide)) hk (fun _ h => h.2)) (fun _ h => h.1)); replace HK := Aside0.mk (KeepBut.trans (kb1_ HK.out GW346.out) hk (.inl rfl)); replace HB := Aside0.mk (hb); replace HI0 := Aside0.mk (hi); (try clear hb); (try clear hb2); (try clear hk); (try clear hi); obtain ⟨hcz62_0, hcz62_1⟩ := cz2_ BK346.out; obtain ⟨hfz62_0, hfz62_1⟩ := fz2_ BK346.out) | ((with_reducible refine gate_store (t := 3) (p := 60) rfl ?_); refine store_event (t := 3) (p := 60) (v := ?vo_w63) (w1 := (w61.setCell ⟨gb346, 1, none⟩ (.int .i64 t361))) ?hg ?ho ?hn ?hr ?_; (case ho => rfl); (case hg => rfl); (case hn => rfl); (case hr => first | (go_simp; done) | (go_simp; rfl)); intro w63 hw; have n0_ : Aside0 (Kd.R k54 54 w63 w.heap.size (fun k_ => k_ ≠ gb346) (.slice (some ad345) x3_1.length co52) x3_1) := ⟨(by rw [hw]; exact (by (with_reducible repeat (first | apply Kd.R_alloc | apply Kd.R_drewN | apply Kd.R_drew)); exact Kd.R_mono (Kd.R_far (p := ⟨gb346, 1, none⟩) (Kd.R_mono HO_3.out (fun k_ hk => (⟨hk, hk.2⟩ : _ ∧ k_ ≠ gb346))) (fun _ hk => hk.2) (.int .i64 t361)) (fun _ hk => hk.1.2)))⟩; have n1_ : Aside0 (Kd.R (Kd.int .i64) 3 w63 w.heap.size (fun _ => True) (.slice Ao60 y358.length co60) y358) := ⟨(by rw [hw]; exact (by (with_reducible repeat (first | apply Kd.R_alloc | apply Kd.R_drewN | apply Kd.R_drew)); exact Kd.R_mono (Kd.R_far (p := ⟨gb346, 1, none⟩) (Kd.R_types HO360.out BK346.out (by decide)) (fun _ hk => hk.2) (.int .i64 t361)) (fun _ hk => trivial)))⟩; have n2_ : Aside0 (w63.heap[gb346]? = some (.cells #[.int .i64 ((rd_T54 x3_1 t342).f0), .int .i64 t361] 54 (0, 0))) := ⟨(by rw [hw]; exact (by (with_reducible repeat (first | refine blk_drewN ?_ _ | refine blk_drew ?_ | refine blk_alloc ?_ _)); refine blk_put (cs := #[.int .i64 ((rd_T54 x3_1 t342).f0), .int .i64 ((rd_T54 x3_1 t342).f1)]) ?_ 1 _ rfl; (with_reducible repeat (first | refine blk_drewN ?_ _ | refine blk_drew ?_ | refine blk_alloc ?_ _)); exact BK346.out))⟩; have n3_ : Aside0 (IsS90 w0 w63 g s0_0 t362 t363) := ⟨(by rw [hw]; exact (is90_1 HI0.out NB0_346.out))⟩; have n4_ : Aside0 (KeepBut w w63 g none) := ⟨(by rw [hw]; exact (kb1_ HK.out GW346.out))⟩; have n5_ : Aside0 (Below w0.heap.size w0 w63) := ⟨(by rw [hw]; exact (lb2_ HB.out (IsS90.ge HI0.out) GE346.out))⟩; clear hw; clear HO_3; clear HO360; clear BK346; clear HI0; clear HK; clear HB; have HO_3 := n0_; have HO360 := n1_; have BK346 := n2_; have HI0 := n3_; have HK := n4_; have HB := n5_; clear n0_ n1_ n2_ n3_ n4_ n5_; obtain ⟨hcz64_0, hcz64_1⟩ := cz2_ BK346.out; obtain ⟨hfz64_0, hfz64_1⟩ := fz2_ BK346.out; have p51 : 0 ≤ (t342 : Int) := dt_; have q51 : (t342 : Int) < ((x3_1.length : Int) : Int) := dt_; obtain ⟨go51, co51, eo51, gb51, gl51, cl51, HG51⟩ := Kd.R_form HO_3.out (by omega); (first | cases eo51 | (injection eo51 with ea_ en_ ec_; (first | subst ea_ | (injection ea_ with ea_; subst ea_)); subst ec_; clear en_)); have GB51 := Aside0.mk gb51; have GG51 := Aside0.mk HG51; clear gb51 gl51 HG51; (first | simp only [add_plain] at hx345_0 | skip); (first | simp only [add_plain] at hx345_1 | skip); obtain ⟨ce51, hcl51, hM51, hcc51, hfr51⟩ := Kd.R_elem HO_3.out z54 (t342 : Int) p51 q51; obtain rfl := k54_openM hM51; have hx51_0 : w63.cell? ⟨go51, (t342 : Int).toNat * 2, none⟩ = some (.int .i64 ((rd_T54 x3_1 t342).f0)) := hcc51 0 _ rfl; have hx51_1 : w63.cell? ⟨go51, (t342 : Int).toNat * 2 + 1, none⟩ = some (.int .i64 ((rd_T54 x3_1 t342).f1)) := hcc51 1 _ rfl; have hf51_0 : w63.frozen? ⟨go51, (t342 : Int).toNat * 2, none⟩ = false := hfr51 0; have hf51_1 : w63.frozen? ⟨go51, (t342 : Int).toNat * 2 + 1, none⟩ = false := hfr51 1; clear hcl51 hcc51 hfr51 hM51; replace p51 := eq_true p51; replace q51 := eq_true q51; have HX65 := Aside0.mk (show Kd.R k54 54 w63 w.heap.size (fun k_ => k_ ≠ gb346) (.slice (some ⟨go51, 0, none⟩) x3_1.length co52) x3_1 from (kr_ HO_3.out)); obtain ⟨ce65, hcl65, hM65, hcc65, hfr65⟩ := Kd.R_elem HX65.out z54 (t342 : Int) (dt_) (by have h_ : (t342 : Int) < ((x3_1.length : Int) : Int) := dt_; first | exact h_ | (have e_ := (Kd.R_reads' HO_3.out).1; omega) | simpa using h_); obtain rfl := k54_openM hM65; have HP65 := Kd.R_seg HX65.out (t342 : Int) (dt_) (by have h_ : (t342 : Int) < ((x3_1.length : Int) : Int) := dt_; first | exact h_ | (have e_ := (Kd.R_reads' HO_3.out).1; omega) | simpa using h_) (seg := [.int .i64 ((rd_T54 x3_1 t342).f0), .int .i64 t361]) (j := 0) hcl65 hcc65 (show 2 ≤ 2 from by decide) (x' := (⟨(rd_T54 x3_1 t342).f0, t361⟩ : S54)) (k54_mkM _ _ _ (⟨(rd_T54 x3_1 t342).f0, t361⟩ : S54) ) (fun _ hk => hk); have hx65_0 := hcc65 0 _ rfl; (try simp only [show (k54).sz = 2 from rfl, Nat.mul_one, Nat.add_zero] at hx65_0); have hf65_0 := hfr65 0; (try simp only [show (k54).sz = 2 from rfl, Nat.mul_one, Nat.add_zero] at hf65_0); have hx65_1 := hcc65 1 _ rfl; (try simp only [show (k54).sz = 2 from rfl, Nat.mul_one, Nat.add_zero] at hx65_1); have hf65_1 := hfr65 1; (try simp only [show (k54).sz = 2 from rfl, Nat.mul_one, Nat.add_zero] at hf65_1); clear hcl65 hcc65 hfr65 hM65) | ((with_reducible refine gate_store (t := 54) (p := 79) rfl ?_); refine store_event (t := 54) (p := 79) (v := ?vo_w66) (w1 := ((w63.setCell ⟨go51, (t342 : Int).toNat * 2, none⟩ (.int .i64 ((rd_T54 x3_1 t342).f0))).setCell ⟨go51, (t342 : Int).toNat * 2 + 1, none⟩ (.int .i64 t361))) ?hg ?ho ?hn ?hr ?_; (case ho => rfl); (case hg => rfl); (case hn => rfl); (case hr => first | (go_simp; done) | (go_simp; rfl)); intro w66 hw; have hg : w63.grownBy w66 (some go51) := (by rw [hw]; exact HP65.2); have hp_ : Kd.R k54 54 w66 w.heap.size (fun k_ => k_ ≠ gb346) (.slice (some ⟨go51, 0, none⟩) x3_1.length co52) y364 := (by rw [hw, Ny364.out]; exact HP65.1); clear HP65; replace HI0 := Aside0.mk (IsS90.grown (is90_1 HI0.out NB0_346.out) hg (IsS90.own_ne HI0.out HO_3.out (by decide))); replace BK346 := Aside0.mk (blk_grown (g := gb346) (o := .cells #[.int .i64 ((rd_T54 x3_1 t342).f0), .int .i64 t361] 54 (0, 0)) (bk_ BK346.out) hg (Kd.R_away HO_3.out (fun _ hk => hk))); replace HO360 := Aside0.mk (Kd.R_over' (v := (.slice (some ⟨go51, 0, none⟩) x3_1.length co52)) (kr_ HO360.out) (Kd.R_typed HO_3.out) (by decide) hg); replace HB := Aside0.mk ((by rw [hw]; exact below_set (below_set (HB.out) (Nat.le_trans HL.out GB51.out)) (Nat.le_trans HL.out GB51.out) : Below w0.heap.size w0 w66)); replace HK := Aside0.mk (KeepBut.trans (kb1_ HK.out GW346.out) (KeepBut.of_grown hg g) (Kd.R_base2 HO_3.out)); replace HO_3 := Aside0.mk (hp_); clear hg hw hp_))
         go_ret
         exact ⟨_, rr_, krm_ HO_3.out (fun _ hk => trivial), is90_1 HI0.out NB0_346.out, lb2_ HB.out (IsS90.ge HI0.out) GE346.out, kb1_ HK.out GW346.out⟩
        ·
         rw [if_neg c49] at H
         have c49b0 : (t347 == 1) = false := beq_eq_false_iff_ne.mpr c49; have c49b1 : (t347 != 1) = true := bne_iff_ne.mpr c49
         by_cases c67 : t347 = 2
         ·
          rw [if_pos c67] at H
          have c67b0 : (t347 == 2) = true := beq_iff_eq.mpr c67; have c67b1 : (t347 != 2) = false := bne_eq_false_iff_eq.mpr c67; clear c67; have H' := Aside0.mk H; clear H; obtain ⟨Ao68, co68, eo68⟩ := Kd.R_slice HO_3.out; subst eo68
          go_wp2_with (first | ((with_reducible refine gate_callee (f := 87) rfl ?_); refine ga_ (some 38) Try.func87 #[.pointer (some ⟨g, 0, none⟩), .int .i64 (x3_1.length : Int)] ?_; (with_reducible refine (spec_l1Cur_pick.calls g s0_0 x1001_1 x1002_1 (x3_1.length : Int) t342 t343 t344 w0 _ ?side1 ?side2 A26.out).mono ?_); (case side1 => exact is90_0 HI0.out); (case side2 => exact lb1_ HB.out (IsS90.ge HI0.out)); rintro e w69 ⟨rfl, hi, hb, hk⟩; refine ⟨_, rfl, ?_⟩; replace HO_3 := Aside0.mk (Kd.R_mono (Kd.R_keep (IsS90.apart (show IsS90 w0 _ g s0_0 x1001_1 x1002_1 from is90_0 HI0.out) (kr_ HO_3.out) (by decide)) hk (fun _ h => h.2)) (fun _ h => h.1)); replace HK := Aside0.mk (KeepBut.trans (kb0_ HK.out) hk (.inl rfl)); replace HB := Aside0.mk (hb); replace HI0 := Aside0.mk (hi); (try clear hb); (try clear hb2); (try clear hk); (try clear hi); have p345 : 0 ≤ (t342 : Int) := dt_; have q345 : t342 < (x3_1.length : Int) := dt_; obtain ⟨ad345, e345, hx345_0, hx345_1⟩ := at_T54 (Kd.R_reads' HO_3.out).2.2 t342 p345 q345; cases e345; replace p345 := eq_true p345; replace q345 := eq_true q345) | ((with_reducible refine gate_dst (N := 7) rfl ?_); refine box_event ?hg (N := 7) ?hd (cs := #[.int .i64 0, .int .i64 0]) (t := 54) ?hr ?_; (case hd => rfl); (case hg => rfl); (case hr => first | (go_simp; done) | (go_simp; rfl)); intro gb346 hg w70 hbox hb; replace HO_3 := Aside0.mk (Kd.R_below (Kd.R_elderB (kr_ HO_3.out) gb346 (Nat.le_of_eq hg.symm)) hb); replace HB := Aside0.mk (below_step (lb1_ HB.out (IsS90.ge HI0.out)) hb); have BK346 := Aside0.mk (hbox); have GW346 := Aside0.mk ((by rw [hg]; exact (keep_size (w := w) (g := g) (row := none) (kb0_ HK.out)) : w.heap.size ≤ gb346)); have GE346 := Aside0.mk ((Nat.le_trans HW0.out (by rw [hg]; exact (keep_size (w := w) (g := g) (row := none) (kb0_ HK.out)) : w.heap.size ≤ gb346) : w0.heap.size ≤ gb346)); replace HK := Aside0.mk (KeepBut.trans (kb0_ HK.out) (KeepBut.of_below hb g none) (.inl rfl)); have NB0_346 := Aside0.mk ((by rw [hg]; exact Nat.ne_of_lt (IsS90.lt (show IsS90 w0 _ g s0_0 t343 t344 from is90_0 HI0.out)) : g ≠ gb346)); have NB346_0 := Aside0.mk ((by rw [hg]; exact Nat.ne_of_gt (IsS90.lt (show IsS90 w0 _ g s0_0 t343 t344 from is90_0 HI0.out)) : gb346 ≠ g)); replace HI0 := Aside0.mk (IsS90.below (is90_0 HI0.out) hb); clear hb hbox hg; have hnb71 := NB346_0.out; have hnc71 := NB0_346.out; obtain ⟨hcz72_0, hcz72_1⟩ := cz2_ BK346.out; obtain ⟨hfz72_0, hfz72_1⟩ := fz2_ BK346.out) | ((with_reducible refine gate_callee (f := 87) rfl ?_); refine ga_ (some 44) Try.func87 #[.pointer (some ⟨g, 0, none⟩), .int .i64 50] ?_; (with_reducible refine (spec_l1Cur_pick.calls g s0_0 t343 t344 50 t347 t348 t349 w0 _ ?side1 ?side2 A29.out).mono ?_); (case side1 => exact is90_1 HI0.out NB0_346.out); (case side2 => exact lb2_ HB.out (IsS90.ge HI0.out) GE346.out); rintro e w73 ⟨rfl, hi, hb, hk⟩; refine ⟨_, rfl, ?_⟩; replace HO_3 := Aside0.mk (Kd.R_mono (Kd.R_keep (IsS90.apart (show IsS90 w0 _ g s0_0 t343 t344 from is90_1 HI0.out NB0_346.out) (by (with_reducible repeat (first | apply Kd.R_alloc | apply Kd.R_drewN | apply Kd.R_drew)); exact (Kd.R_mono (Kd.R_far (p := ⟨gb346, 1, none⟩) (Kd.R_far (p := ⟨gb346, 0, none⟩) (Kd.R_mono HO_3.out (fun k_ hk => (⟨hk, hk.2⟩ : _ ∧ k_ ≠ gb346))) (fun _ hk => hk.2) (.int .i64 ((rd_T54 x3_1 t342).f0))) (fun _ hk => hk.2) (.int .i64 ((rd_T54 x3_1 t342).f1))) (fun _ h_ => h_.1))) (by decide)) hk (fun _ h => h.2)) (fun _ h => h.1)); replace BK346 := Aside0.mk (KeepBut.blk hk (g' := gb346) (o := .cells #[.int .i64 ((rd_T54 x3_1 t342).f0), .int .i64 ((rd_T54 x3_1 t342).f1)] 54 (0, 0)) (by (with_reducible repeat (first | refine blk_drewN ?_ _ | refine blk_drew ?_ | refine blk_alloc ?_ _)); exact (p2_ BK346.out _ _)) NB346_0.out (by simp)); replace HK := Aside0.mk (KeepBut.trans (kb1_ HK.out GW346.out) hk (.inl rfl)); replace HB := Aside0.mk (hb); replace HI0 := Aside0.mk (hi); (try clear hb); (try clear hb2); (try clear hk); (try clear hi)))
          go_loopg [3] k1 (fun kq v3 w' => ∃ (x3_2 : List (S54)) (x1001_2 : Int) (x1002_2 : Int), Aside0 (spec_l1Cur_readings.l1 kq x3_2 t342 s0_0 x1001_2 x1002_2 ((rd_T54 x3_1 t342).f0) ((rd_T54 x3_1 t342).f1) = some (r1, r2, r3)) ∧ Aside0 (kq ≤ k1) ∧ Aside0 (Kd.R k54 54 w' w.heap.size (fun k_ => k_ ≠ gb346) v3 x3_2) ∧ Aside0 (w'.heap[gb346]? = some (.cells #[.int .i64 ((rd_T54 x3_1 t342).f0), .int .i64 ((rd_T54 x3_1 t342).f1)] 54 (0, 0))) ∧ Aside0 (IsS90 w0 w' g s0_0 x1001_2 x1002_2) ∧ Aside0 (KeepBut w w' g none) ∧ Aside0 (Below w0.heap.size w0 w'))
          case atStart => exact ⟨(x3_1), (t348), (t349), H', ⟨Nat.le_refl _⟩, ⟨krm_ HO_3.out (fun _ hk => hk.2)⟩, ⟨bk_ BK346.out⟩, ⟨is90_1 HI0.out NB0_346.out⟩, ⟨kb1_ HK.out GW346.out⟩, ⟨lb2_ HB.out (IsS90.ge HI0.out) GE346.out⟩⟩
          case round =>
           clear H'
           try clear c1
           try clear c2
           try clear p2
           try clear c3
           try clear p3
           try clear q3
           try clear hx3
           try clear qi3
           try clear hf3
           try clear c4
           try clear hx4
           try clear hf4
           try clear c5
           try clear p5
           try clear q5
           try clear hx5
           try clear hf5
           try clear c6
           try clear p6
           try clear hx6
           try clear hf6
           try clear c7
           try clear c8
           try clear c11
           try clear c11b0
           try clear c13
           try clear c24
           try clear c24b0
           try clear c24b1
           try clear c24b2
           try clear c27
           try clear c27b0
           try clear c28
           try clear c28b0
           try clear c30
           try clear c30b0
           try clear c30b1
           try clear c31
           try clear c31b0
           try clear c31b1
           try clear c33
           try clear p33
           try clear q33
           try clear hx33
           try clear hf33
           try clear p34
           try clear q34
           try clear hx34
           try clear p35
           try clear q35
           try clear hx35
           try clear qi35
           try clear c37
           try clear c47
           try clear hx47
           try clear hf47
           try clear c49
           try clear c49b0
           try clear c49b1
           try clear c51
           try clear p51
           try clear q51
           try clear hx51
           try clear hf51
           try clear c55
           try clear p64
           try clear c65
           try clear hx65
           try clear hf65
           try clear c67
           try clear c67b0
           try clear c67b1
           try clear c71
           try clear hcz38_0 hcz38_1
           try clear hcz44_0 hcz44_1
           try clear hcz46_0 hcz46_1
           try clear hcz56_0 hcz56_1
           try clear hcz62_0 hcz62_1
           try clear hcz64_0 hcz64_1
           try clear hcz72_0 hcz72_1
           try clear hfz38_0 hfz38_1
           try clear hfz44_0 hfz44_1
           try clear hfz46_0 hfz46_1
           try clear hfz56_0 hfz56_1
           try clear hfz62_0 hfz62_1
           try clear hfz64_0 hfz64_1
           try clear hfz72_0 hfz72_1
           try clear hx33_0
           try clear hx33_1
           try clear hx345_0
           try clear hx345_1
           try clear hx350_0
           try clear hx350_1
           try clear hx47_0
           try clear hx47_1
           try clear hx51_0
           try clear hx51_1
           try clear hx65_0
           try clear hx65_1
           try clear p2
           try clear p33
           try clear p345
           try clear p350
           try clear p51
           try clear q33
           try clear q345
           try clear q350
           try clear q51
           obtain ⟨x3_2, x1001_2, x1002_2, HA, HK2, HO_3, BK346, HI0, HK, HB⟩ := hrel
           cases gk with
           | zero => exact absurd HA.out (by simp [spec_l1Cur_readings.l1])
           | succ k2 =>
            have H := HA.out; clear HA; simp only [spec_l1Cur_readings.l1] at H; replace H := Option.bind_eq_some_iff.mp H; obtain ⟨⟨t365, t366, t367⟩, A740, H⟩ := H; replace H : (if (x3_2.length : Int) < (wrap64 (15 + t365)) then (if x3_2.length < 8796093022208 then (spec_l1Cur_readings.l1 k2 (x3_2 ++ [(⟨wrap64 (980 + (x3_2.length : Int)), 2⟩ : S54)]) t342 s0_0 t366 t367 ((rd_T54 x3_1 t342).f0) ((rd_T54 x3_1 t342).f1)) else (none)) else (if 0 ≤ t342 then (if t342 < (x3_2.length : Int) then (some ((x3_2.set (t342 : Int).toNat (⟨((rd_T54 x3_1 t342).f0), ((rd_T54 x3_1 t342).f1)⟩ : S54)), t366, t367)) else (none)) else (none))) = some (r1, r2, r3) := H; have A74 := Aside0.mk A740; clear A740
            by_cases c75 : (x3_2.length : Int) < (wrap64 (15 + t365))
            ·
             rw [if_pos c75] at H
             have c75b0 : decide ((x3_2.length : Int) < (wrap64 (15 + t365))) = true := decide_eq_true c75; clear c75
             by_cases c76 : x3_2.length < 8796093022208
             ·
              rw [if_pos c76] at H
              have LMc76 := Aside0.mk c76; clear c76
              obtain ⟨y368, hy368⟩ : ∃ y_ : List (S54), y_ = (x3_2 ++ [(⟨wrap64 (980 + (x3_2.length : Int)), 2⟩ : S54)]) := ⟨_, rfl⟩
              replace H : (spec_l1Cur_readings.l1 k2 y368 t342 s0_0 t366 t367 ((rd_T54 x3_1 t342).f0) ((rd_T54 x3_1 t342).f1)) = some (r1, r2, r3) := by first | (rw [hy368]; with_reducible exact H) | (have H2_ := (Option.bind_some _ _).symm.trans H; rw [hy368]; with_reducible exact H2_) | (have H2_ := (Option.bind_some _ _).symm.trans H; with_reducible exact H2_) | with_reducible exact H | (rw [hy368]; exact H) | exact H
              have Ny368 := Aside0.mk hy368; clear hy368; have H' := Aside0.mk H; clear H; obtain ⟨Ao77, co77, eo77⟩ := Kd.R_slice HO_3.out; subst eo77
              go_wp2_with (first | ((with_reducible refine gate_callee (f := 87) rfl ?_); refine ga_ (some 66) Try.func87 #[.pointer (some ⟨g, 0, none⟩), .int .i64 2] ?_; (with_reducible refine (spec_l1Cur_pick.calls g s0_0 x1001_2 x1002_2 2 t365 t366 t367 w0 _ ?side1 ?side2 A74.out).mono ?_); (case side1 => exact is90_1 HI0.out NB0_346.out); (case side2 => exact lb2_ HB.out (IsS90.ge HI0.out) GE346.out); rintro e w78 ⟨rfl, hi, hb, hk⟩; refine ⟨_, rfl, ?_⟩; replace HO_3 := Aside0.mk (Kd.R_mono (Kd.R_keep (IsS90.apart (show IsS90 w0 _ g s0_0 x1001_2 x1002_2 from is90_1 HI0.out NB0_346.out) (kr_ HO_3.out) (by decide)) hk (fun _ h => h.2)) (fun _ h => h.1)); replace BK346 := Aside0.mk (KeepBut.blk hk (g' := gb346) (o := .cells #[.int .i64 ((rd_T54 x3_1 t342).f0), .int .i64 ((rd_T54 x3_1 t342).f1)] 54 (0, 0)) (bk_ BK346.out) NB346_0.out (by simp)); replace HK := Aside0.mk (KeepBut.trans (kb1_ HK.out GW346.out) hk (.inl rfl)); replace HB := Aside0.mk (hb); replace HI0 := Aside0.mk (hi); (try clear hb); (try clear hb2); (try clear hk); (try clear hi)) | ((with_reducible refine gate_builtin (b := .append) (xs := #[.tmp 69, .tmp 74]) rfl ?_); at_builtin; refine Kd.R_append k54 w.heap.size rfl (.tmp 69) (.tmp 74) 28 54 (.agg #[(.int .i64 0), (.int .i64 0)]) 16 rfl Try.underlying28 info54 rfl (by decide) (by omega) (.slice Ao77 x3_2.length co77) x3_2 (⟨wrap64 (980 + (x3_2.length : Int)), 2⟩ : S54) [.int .i64 (wrap64 (980 + (x3_2.length : Int))), .int .i64 2] (fun k_ => k_ ≠ gb346) (fun _ => False) rfl rfl ?aP (fun _ hk => hk.elim) ?aF ?aO (Below.refl _ _) ?aS ?aL ?_; (case aP => exact k54_mkM _ _ _ (⟨wrap64 (980 + (x3_2.length : Int)), 2⟩ : S54)); (case aF => exact (fun k_ hk => Kd.freshB (g := gb346) (o := .cells #[.int .i64 ((rd_T54 x3_1 t342).f0), .int .i64 ((rd_T54 x3_1 t342).f1)] 54 (0, 0)) (bk_ BK346.out) k_ hk)); (case aO => exact (kr_ HO_3.out)); (case aS => exact (keep_size (w := w) (g := g) (row := none) (kb1_ HK.out GW346.out))); (case aL => have := LMc76.out; omega); intro v369 w79 ho hb hg hat; rw [← Ny368.out] at ho; replace BK346 := Aside0.mk (blk_grown (g := gb346) (o := .cells #[.int .i64 ((rd_T54 x3_1 t342).f0), .int .i64 ((rd_T54 x3_1 t342).f1)] 54 (0, 0)) (bk_ BK346.out) hg (Kd.R_away HO_3.out (fun _ hk => hk))); replace HB := Aside0.mk (below_weaken (lb2_ HB.out (IsS90.ge HI0.out) GE346.out) HL.out hb); replace HI0 := Aside0.mk (IsS90.grown (is90_1 HI0.out NB0_346.out) hg (IsS90.own_ne HI0.out HO_3.out (by decide))); replace HK := Aside0.mk (KeepBut.trans (kb1_ HK.out GW346.out) (KeepBut.of_grown hg g) (Kd.R_base2 HO_3.out)); have HO370 := Aside0.mk (ho); clear HO_3; clear ho hb hg hat))
              go_roundg k2
              case measure => have := HK1.out; have := HK2.out; omega
              case rel => exact ⟨(y368), (t366), (t367), H', ⟨by have := HK1.out; have := HK2.out; omega⟩, ⟨kr_ HO370.out⟩, ⟨bk_ BK346.out⟩, ⟨is90_1 HI0.out NB0_346.out⟩, ⟨kb1_ HK.out GW346.out⟩, ⟨lb2_ HB.out (IsS90.ge HI0.out) GE346.out⟩⟩
             ·
              rw [if_neg c76] at H
              exact absurd H (by simp)
            ·
             rw [if_neg c75] at H
             have c75b0 : decide ((x3_2.length : Int) < (wrap64 (15 + t365))) = false := decide_eq_false c75; clear c75
             by_cases c80 : 0 ≤ t342
             ·
              rw [if_pos c80] at H
              have c80b0 : decide (0 ≤ t342) = true := decide_eq_true c80; clear c80
              by_cases c81 : t342 < (x3_2.length : Int)
              ·
               rw [if_pos c81] at H
               have c81b0 : decide (t342 < (x3_2.length : Int)) = true := decide_eq_true c81; clear c81
               obtain ⟨y371, hy371⟩ : ∃ y_ : List (S54), y_ = (x3_2.set (t342 : Int).toNat (⟨((rd_T54 x3_1 t342).f0), ((rd_T54 x3_1 t342).f1)⟩ : S54)) := ⟨_, rfl⟩
               replace H : (some (y371, t366, t367)) = some (r1, r2, r3) := by first | (rw [hy371]; with_reducible exact H) | (have H2_ := (Option.bind_some _ _).symm.trans H; rw [hy371]; with_reducible exact H2_) | (have H2_ := (Option.bind_some _ _).symm.trans H; with_reducible exact H2_) | with_reducible exact H | (rw [hy371]; exact H) | exact H
               have Ny371 := Aside0.mk hy371; clear hy371; simp only [Option.some.injEq, Prod.mk.injEq] at H; obtain ⟨rfl, rfl, rfl⟩ := H; obtain ⟨Ao83, co83, eo83⟩ := Kd.R_slice HO_3.out; subst eo83
               go_wp2_with (first | ((with_reducible refine gate_callee (f := 87) rfl ?_); refine ga_ (some 66) Try.func87 #[.pointer (some ⟨g, 0, none⟩), .int .i64 2] ?_; (with_reducible refine (spec_l1Cur_pick.calls g s0_0 x1001_2 x1002_2 2 t365 t366 t367 w0 _ ?side1 ?side2 A74.out).mono ?_); (case side1 => exact is90_1 HI0.out NB0_346.out); (case side2 => exact lb2_ HB.out (IsS90.ge HI0.out) GE346.out); rintro e w84 ⟨rfl, hi, hb, hk⟩; refine ⟨_, rfl, ?_⟩; replace HO_3 := Aside0.mk (Kd.R_mono (Kd.R_keep (IsS90.apart (show IsS90 w0 _ g s0_0 x1001_2 x1002_2 from is90_1 HI0.out NB0_346.out) (kr_ HO_3.out) (by decide)) hk (fun _ h => h.2)) (fun _ h => h.1)); replace BK346 := Aside0.mk (KeepBut.blk hk (g' := gb346) (o := .cells #[.int .i64 ((rd_T54 x3_1 t342).f0), .int .i64 ((rd_T54 x3_1 t342).f1)] 54 (0, 0)) (bk_ BK346.out) NB346_0.out (by simp)); replace HK := Aside0.mk (KeepBut.trans (kb1_ HK.out GW346.out) hk (.inl rfl)); replace HB := Aside0.mk (hb); replace HI0 := Aside0.mk (hi); (try clear hb); (try clear hb2); (try clear hk); (try clear hi); have hnb85 := NB346_0.out; have hnc85 := NB0_346.out; obtain ⟨hcz86_0, hcz86_1⟩ := cz2_ BK346.out; obtain ⟨hfz86_0, hfz86_1⟩ := fz2_ BK346.out; have p82 : 0 ≤ (t342 : Int) := dt_; have q82 : (t342 : Int) < ((x3_2.length : Int) : Int) := dt_; obtain ⟨go82, co82, eo82, gb82, gl82, cl82, HG82⟩ := Kd.R_form HO_3.out (by omega); (first | cases eo82 | (injection eo82 with ea_ en_ ec_; (first | subst ea_ | (injection ea_ with ea_; subst ea_)); subst ec_; clear en_)); have GB82 := Aside0.mk gb82; have GG82 := Aside0.mk HG82; clear gb82 gl82 HG82; obtain ⟨ce82, hcl82, hM82, hcc82, hfr82⟩ := Kd.R_elem HO_3.out z54 (t342 : Int) p82 q82; obtain rfl := k54_openM hM82; have hx82_0 : w84.cell? ⟨go82, (t342 : Int).toNat * 2, none⟩ = some (.int .i64 ((rd_T54 x3_2 t342).f0)) := hcc82 0 _ rfl; have hx82_1 : w84.cell? ⟨go82, (t342 : Int).toNat * 2 + 1, none⟩ = some (.int .i64 ((rd_T54 x3_2 t342).f1)) := hcc82 1 _ rfl; have hf82_0 : w84.frozen? ⟨go82, (t342 : Int).toNat * 2, none⟩ = false := hfr82 0; have hf82_1 : w84.frozen? ⟨go82, (t342 : Int).toNat * 2 + 1, none⟩ = false := hfr82 1; clear hcl82 hcc82 hfr82 hM82; replace p82 := eq_true p82; replace q82 := eq_true q82; have HX87 := Aside0.mk (show Kd.R k54 54 w84 w.heap.size (fun k_ => k_ ≠ gb346) (.slice (some ⟨go82, 0, none⟩) x3_2.length co83) x3_2 from (kr_ HO_3.out)); obtain ⟨ce87, hcl87, hM87, hcc87, hfr87⟩ := Kd.R_elem HX87.out z54 (t342 : Int) (dt_) (by have h_ : (t342 : Int) < ((x3_2.length : Int) : Int) := dt_; first | exact h_ | (have e_ := (Kd.R_reads' HO_3.out).1; omega) | simpa using h_); obtain rfl := k54_openM hM87; have HP87 := Kd.R_seg HX87.out (t342 : Int) (dt_) (by have h_ : (t342 : Int) < ((x3_2.length : Int) : Int) := dt_; first | exact h_ | (have e_ := (Kd.R_reads' HO_3.out).1; omega) | simpa using h_) (seg := [.int .i64 ((rd_T54 x3_1 t342).f0), .int .i64 ((rd_T54 x3_1 t342).f1)]) (j := 0) hcl87 hcc87 (show 2 ≤ 2 from by decide) (x' := (⟨((rd_T54 x3_1 t342).f0), ((rd_T54 x3_1 t342).f1)⟩ : S54)) (k54_mkM _ _ _ (⟨((rd_T54 x3_1 t342).f0), ((rd_T54 x3_1 t342).f1)⟩ : S54) ) (fun _ hk => hk); have hx87_0 := hcc87 0 _ rfl; (try simp only [show (k54).sz = 2 from rfl, Nat.mul_one, Nat.add_zero] at hx87_0); have hf87_0 := hfr87 0; (try simp only [show (k54).sz = 2 from rfl, Nat.mul_one, Nat.add_zero] at hf87_0); have hx87_1 := hcc87 1 _ rfl; (try simp only [show (k54).sz = 2 from rfl, Nat.mul_one, Nat.add_zero] at hx87_1); have hf87_1 := hfr87 1; (try simp only [show (k54).sz = 2 from rfl, Nat.mul_one, Nat.add_zero] at hf87_1); clear hcl87 hcc87 hfr87 hM87) | ((with_reducible refine gate_store (t := 54) (p := 79) rfl ?_); refine store_event (t := 54) (p := 79) (v := ?vo_w88) (w1 := ((w84.setCell ⟨go82, (t342 : Int).toNat * 2, none⟩ (.int .i64 ((rd_T54 x3_1 t342).f0))).setCell ⟨go82, (t342 : Int).toNat * 2 + 1, none⟩ (.int .i64 ((rd_T54 x3_1 t342).f1)))) ?hg ?ho ?hn ?hr ?_; (case ho => rfl); (case hg => rfl); (case hn => rfl); (case hr => first | (go_simp; done) | (go_simp; rfl)); intro w88 hw; have hg : w84.grownBy w88 (some go82) := (by rw [hw]; exact HP87.2); have hp_ : Kd.R k54 54 w88 w.heap.size (fun k_ => k_ ≠ gb346) (.slice (some ⟨go82, 0, none⟩) x3_2.length co83) y371 := (by rw [hw, Ny371.out]; exact HP87.1); clear HP87; replace BK346 := Aside0.mk (blk_grown (g := gb346) (o := .cells #[.int .i64 ((rd_T54 x3_1 t342).f0), .int .i64 ((rd_T54 x3_1 t342).f1)] 54 (0, 0)) (bk_ BK346.out) hg (Kd.R_away HO_3.out (fun _ hk => hk))); replace HI0 := Aside0.mk (IsS90.grown (is90_1 HI0.out NB0_346.out) hg (IsS90.own_ne HI0.out HO_3.out (by decide))); replace HB := Aside0.mk ((by rw [hw]; exact below_set (below_set (HB.out) (Nat.le_trans HL.out GB82.out)) (Nat.le_trans HL.out GB82.out) : Below w0.heap.size w0 w88)); replace HK := Aside0.mk (KeepBut.trans (kb1_ HK.out GW346.out) (KeepBut.of_grown hg g) (Kd.R_base2 HO_3.out)); replace HO_3 := Aside0.mk (hp_); clear hg hw hp_))
               go_ret
               exact ⟨_, rr_, krm_ HO_3.out (fun _ hk => trivial), is90_1 HI0.out NB0_346.out, lb2_ HB.out (IsS90.ge HI0.out) GE346.out, kb1_ HK.out GW346.out⟩
              ·
               rw [if_neg c81] at H
               exact absurd H (by simp)
             ·
              rw [if_neg c80] at H
              exact absurd H (by simp)
         ·
          rw [if_neg c67] at H
          have c67b0 : (t347 == 2) = false := beq_eq_false_iff_ne.mpr c67; have c67b1 : (t347 != 2) = true := bne_iff_ne.mpr c67
          obtain ⟨y372, hy372⟩ : ∃ y_ : List (S54), y_ = (x3_1.set (t342 : Int).toNat (⟨(rd_T54 x3_1 t342).f0, (rd_T54 x3_1 t342).f1⟩ : S54)) := ⟨_, rfl⟩
          replace H : (some (y372, t348, t349)) = some (r1, r2, r3) := by first | (rw [hy372]; with_reducible exact H) | (have H2_ := (Option.bind_some _ _).symm.trans H; rw [hy372]; with_reducible exact H2_) | (have H2_ := (Option.bind_some _ _).symm.trans H; with_reducible exact H2_) | with_reducible exact H | (rw [hy372]; exact H) | exact H
          have Ny372 := Aside0.mk hy372; clear hy372; simp only [Option.some.injEq, Prod.mk.injEq] at H; obtain ⟨rfl, rfl, rfl⟩ := H; obtain ⟨Ao90, co90, eo90⟩ := Kd.R_slice HO_3.out; subst eo90
          go_wp2_with (first | ((with_reducible refine gate_callee (f := 87) rfl ?_); refine ga_ (some 38) Try.func87 #[.pointer (some ⟨g, 0, none⟩), .int .i64 (x3_1.length : Int)] ?_; (with_reducible refine (spec_l1Cur_pick.calls g s0_0 x1001_1 x1002_1 (x3_1.length : Int) t342 t343 t344 w0 _ ?side1 ?side2 A26.out).mono ?_); (case side1 => exact is90_0 HI0.out); (case side2 => exact lb1_ HB.out (IsS90.ge HI0.out)); rintro e w91 ⟨rfl, hi, hb, hk⟩; refine ⟨_, rfl, ?_⟩; replace HO_3 := Aside0.mk (Kd.R_mono (Kd.R_keep (IsS90.apart (show IsS90 w0 _ g s0_0 x1001_1 x1002_1 from is90_0 HI0.out) (kr_ HO_3.out) (by decide)) hk (fun _ h => h.2)) (fun _ h => h.1)); replace HK := Aside0.mk (KeepBut.trans (kb0_ HK.out) hk (.inl rfl)); replace HB := Aside0.mk (hb); replace HI0 := Aside0.mk (hi); (try clear hb); (try clear hb2); (try clear hk); (try clear hi); have p345 : 0 ≤ (t342 : Int) := dt_; have q345 : t342 < (x3_1.length : Int) := dt_; obtain ⟨ad345, e345, hx345_0, hx345_1⟩ := at_T54 (Kd.R_reads' HO_3.out).2.2 t342 p345 q345; cases e345; replace p345 := eq_true p345; replace q345 := eq_true q345) | ((with_reducible refine gate_dst (N := 7) rfl ?_); refine box_event ?hg (N := 7) ?hd (cs := #[.int .i64 0, .int .i64 0]) (t := 54) ?hr ?_; (case hd => rfl); (case hg => rfl); (case hr => first | (go_simp; done) | (go_simp; rfl)); intro gb346 hg w92 hbox hb; replace HO_3 := Aside0.mk (Kd.R_below (Kd.R_elderB (kr_ HO_3.out) gb346 (Nat.le_of_eq hg.symm)) hb); replace HB := Aside0.mk (below_step (lb1_ HB.out (IsS90.ge HI0.out)) hb); have BK346 := Aside0.mk (hbox); have GW346 := Aside0.mk ((by rw [hg]; exact (keep_size (w := w) (g := g) (row := none) (kb0_ HK.out)) : w.heap.size ≤ gb346)); have GE346 := Aside0.mk ((Nat.le_trans HW0.out (by rw [hg]; exact (keep_size (w := w) (g := g) (row := none) (kb0_ HK.out)) : w.heap.size ≤ gb346) : w0.heap.size ≤ gb346)); replace HK := Aside0.mk (KeepBut.trans (kb0_ HK.out) (KeepBut.of_below hb g none) (.inl rfl)); have NB0_346 := Aside0.mk ((by rw [hg]; exact Nat.ne_of_lt (IsS90.lt (show IsS90 w0 _ g s0_0 t343 t344 from is90_0 HI0.out)) : g ≠ gb346)); have NB346_0 := Aside0.mk ((by rw [hg]; exact Nat.ne_of_gt (IsS90.lt (show IsS90 w0 _ g s0_0 t343 t344 from is90_0 HI0.out)) : gb346 ≠ g)); replace HI0 := Aside0.mk (IsS90.below (is90_0 HI0.out) hb); clear hb hbox hg; have hnb93 := NB346_0.out; have hnc93 := NB0_346.out; obtain ⟨hcz94_0, hcz94_1⟩ := cz2_ BK346.out; obtain ⟨hfz94_0, hfz94_1⟩ := fz2_ BK346.out) | ((with_reducible refine gate_callee (f := 87) rfl ?_); refine ga_ (some 44) Try.func87 #[.pointer (some ⟨g, 0, none⟩), .int .i64 50] ?_; (with_reducible refine (spec_l1Cur_pick.calls g s0_0 t343 t344 50 t347 t348 t349 w0 _ ?side1 ?side2 A29.out).mono ?_); (case side1 => exact is90_1 HI0.out NB0_346.out); (case side2 => exact lb2_ HB.out (IsS90.ge HI0.out) GE346.out); rintro e w95 ⟨rfl, hi, hb, hk⟩; refine ⟨_, rfl, ?_⟩; replace HO_3 := Aside0.mk (Kd.R_mono (Kd.R_keep (IsS90.apart (show IsS90 w0 _ g s0_0 t343 t344 from is90_1 HI0.out NB0_346.out) (by (with_reducible repeat (first | apply Kd.R_alloc | apply Kd.R_drewN | apply Kd.R_drew)); exact (Kd.R_mono (Kd.R_far (p := ⟨gb346, 1, none⟩) (Kd.R_far (p := ⟨gb346, 0, none⟩) (Kd.R_mono HO_3.out (fun k_ hk => (⟨hk, hk.2⟩ : _ ∧ k_ ≠ gb346))) (fun _ hk => hk.2) (.int .i64 ((rd_T54 x3_1 t342).f0))) (fun _ hk => hk.2) (.int .i64 ((rd_T54 x3_1 t342).f1))) (fun _ h_ => h_.1))) (by decide)) hk (fun _ h => h.2)) (fun _ h => h.1)); replace BK346 := Aside0.mk (KeepBut.blk hk (g' := gb346) (o := .cells #[.int .i64 ((rd_T54 x3_1 t342).f0), .int .i64 ((rd_T54 x3_1 t342).f1)] 54 (0, 0)) (by (with_reducible repeat (first | refine blk_drewN ?_ _ | refine blk_drew ?_ | refine blk_alloc ?_ _)); exact (p2_ BK346.out _ _)) NB346_0.out (by simp)); replace HK := Aside0.mk (KeepBut.trans (kb1_ HK.out GW346.out) hk (.inl rfl)); replace HB := Aside0.mk (hb); replace HI0 := Aside0.mk (hi); (try clear hb); (try clear hb2); (try clear hk); (try clear hi); obtain ⟨hcz96_0, hcz96_1⟩ := cz2_ BK346.out; obtain ⟨hfz96_0, hfz96_1⟩ := fz2_ BK346.out; have p89 : 0 ≤ (t342 : Int) := dt_; have q89 : (t342 : Int) < ((x3_1.length : Int) : Int) := dt_; obtain ⟨go89, co89, eo89, gb89, gl89, cl89, HG89⟩ := Kd.R_form HO_3.out (by omega); (first | cases eo89 | (injection eo89 with ea_ en_ ec_; (first | subst ea_ | (injection ea_ with ea_; subst ea_)); subst ec_; clear en_)); have GB89 := Aside0.mk gb89; have GG89 := Aside0.mk HG89; clear gb89 gl89 HG89; (first | simp only [add_plain] at hx345_0 | skip); (first | simp only [add_plain] at hx345_1 | skip); obtain ⟨ce89, hcl89, hM89, hcc89, hfr89⟩ := Kd.R_elem HO_3.out z54 (t342 : Int) p89 q89; obtain rfl := k54_openM hM89; have hx89_0 : w95.cell? ⟨go89, (t342 : Int).toNat * 2, none⟩ = some (.int .i64 ((rd_T54 x3_1 t342).f0)) := hcc89 0 _ rfl; have hx89_1 : w95.cell? ⟨go89, (t342 : Int).toNat * 2 + 1, none⟩ = some (.int .i64 ((rd_T54 x3_1 t342).f1)) := hcc89 1 _ rfl; have hf89_0 : w95.frozen? ⟨go89, (t342 : Int).toNat * 2, none⟩ = false := hfr89 0; have hf89_1 : w95.frozen? ⟨go89, (t342 : Int).toNat * 2 + 1, none⟩ = false := hfr89 1; clear hcl89 hcc89 hfr89 hM89; replace p89 := eq_true p89; replace q89 := eq_true q89; have n_ := Aside0.mk (Kd.R_mono (ok' := (fun k_ => k_ ≠ gb346)) HO_3.out (fun k_ hk => hk.2)); clear HO_3; have HO_3 := n_; clear n_; have HX97 := Aside0.mk (show Kd.R k54 54 w95 w.heap.size (fun k_ => k_ ≠ gb346) (.slice (some ⟨go89, 0, none⟩) x3_1.length co90) x3_1 from (kr_ HO_3.out)); obtain ⟨ce97, hcl97, hM97, hcc97, hfr97⟩ := Kd.R_elem HX97.out z54 (t342 : Int) (dt_) (by have h_ : (t342 : Int) < ((x3_1.length : Int) : Int) := dt_; first | exact h_ | (have e_ := (Kd.R_reads' HO_3.out).1; omega) | simpa using h_); obtain rfl := k54_openM hM97; have HP97 := Kd.R_seg HX97.out (t342 : Int) (dt_) (by have h_ : (t342 : Int) < ((x3_1.length : Int) : Int) := dt_; first | exact h_ | (have e_ := (Kd.R_reads' HO_3.out).1; omega) | simpa using h_) (seg := [.int .i64 ((rd_T54 x3_1 t342).f0), .int .i64 ((rd_T54 x3_1 t342).f1)]) (j := 0) hcl97 hcc97 (show 2 ≤ 2 from by decide) (x' := (⟨(rd_T54 x3_1 t342).f0, (rd_T54 x3_1 t342).f1⟩ : S54)) (k54_mkM _ _ _ (⟨(rd_T54 x3_1 t342).f0, (rd_T54 x3_1 t342).f1⟩ : S54) ) (fun _ hk => hk); have hx97_0 := hcc97 0 _ rfl; (try simp only [show (k54).sz = 2 from rfl, Nat.mul_one, Nat.add_zero] at hx97_0); have hf97_0 := hfr97 0; (try simp only [show (k54).sz = 2 from rfl, Nat.mul_one, Nat.add_zero] at hf97_0); have hx97_1 := hcc97 1 _ rfl; (try simp only [show (k54).sz = 2 from rfl, Nat.mul_one, Nat.add_zero] at hx97_1); have hf97_1 := hfr97 1; (try simp only [show (k54).sz = 2 from rfl, Nat.mul_one, Nat.add_zero] at hf97_1); clear hcl97 hcc97 hfr97 hM97) | ((with_reducible refine gate_store (t := 54) (p := 79) rfl ?_); refine store_event (t := 54) (p := 79) (v := ?vo_w98) (w1 := ((w95.setCell ⟨go89, (t342 : Int).toNat * 2, none⟩ (.int .i64 ((rd_T54 x3_1 t342).f0))).setCell ⟨go89, (t342 : Int).toNat * 2 + 1, none⟩ (.int .i64 ((rd_T54 x3_1 t342).f1)))) ?hg ?ho ?hn ?hr ?_; (case ho => rfl); (case hg => rfl); (case hn => rfl); (case hr => first | (go_simp; done) | (go_simp; rfl)); intro w98 hw; have hg : w95.grownBy w98 (some go89) := (by rw [hw]; exact HP97.2); have hp_ : Kd.R k54 54 w98 w.heap.size (fun k_ => k_ ≠ gb346) (.slice (some ⟨go89, 0, none⟩) x3_1.length co90) y372 := (by rw [hw, Ny372.out]; exact HP97.1); clear HP97; replace HI0 := Aside0.mk (IsS90.grown (is90_1 HI0.out NB0_346.out) hg (IsS90.own_ne HI0.out HO_3.out (by decide))); replace BK346 := Aside0.mk (blk_grown (g := gb346) (o := .cells #[.int .i64 ((rd_T54 x3_1 t342).f0), .int .i64 ((rd_T54 x3_1 t342).f1)] 54 (0, 0)) (bk_ BK346.out) hg (Kd.R_away HO_3.out (fun _ hk => hk))); replace HB := Aside0.mk ((by rw [hw]; exact below_set (below_set (HB.out) (Nat.le_trans HL.out GB89.out)) (Nat.le_trans HL.out GB89.out) : Below w0.heap.size w0 w98)); replace HK := Aside0.mk (KeepBut.trans (kb1_ HK.out GW346.out) (KeepBut.of_grown hg g) (Kd.R_base2 HO_3.out)); replace HO_3 := Aside0.mk (hp_); clear hg hw hp_))
          go_ret
          exact ⟨_, rr_, krm_ HO_3.out (fun _ hk => trivial), is90_1 HI0.out NB0_346.out, lb2_ HB.out (IsS90.ge HI0.out) GE346.out, kb1_ HK.out GW346.out⟩
      ·
       rw [if_neg c28] at H
       exact absurd H (by simp)
     ·
      rw [if_neg c27] at H
      exact absurd H (by simp)
def spec_l1Cur_one.f (s0_0 : List Int) (s0_1 : Int) (s0_2 : Int) (a1 : Int) : Option (Bool × Int × Int) := (spec_l1Cur_pick.f s0_0 s0_1 s0_2 a1).bind fun bt373 => (some ((bt373.1 == 0), bt373.2.1, bt373.2.2))
set_option maxHeartbeats 8000000 in
set_option maxRecDepth 100000 in
theorem spec_l1Cur_one.calls (g : Nat) (s0_0 : List Int) (s0_1 : Int) (s0_2 : Int) (a1 : Int) (r1 : Bool) (r2 : Int) (r3 : Int) (w0 w : World) (hI : IsS90 w0 w g s0_0 s0_1 s0_2) (hB : Below w0.heap.size w0 w) (h : spec_l1Cur_one.f s0_0 s0_1 s0_2 a1 = some (r1, r2, r3)) :
  Calls Try.prog 92 #[.pointer (some ⟨g, 0, none⟩), .int .i64 a1] w fun e w' => e = .returned (.bool r1) ∧ IsS90 w0 w' g s0_0 r2 r3 ∧ Below w0.heap.size w0 w' ∧ KeepBut w w' g none := by
 have HI0 := Aside0.mk hI
 have HK := Aside0.mk (KeepBut.refl w g none)
 have HL := Aside0.mk hB.size
 clear hI
 have HW0 := Aside0.mk hB.size
 have HB := Aside0.mk hB
 clear hB
 have H : ((spec_l1Cur_pick.f s0_0 s0_1 s0_2 a1).bind fun bt373 => (some ((bt373.1 == 0), bt373.2.1, bt373.2.2))) = some (r1, r2, r3) := h
 clear h
 replace H := Option.bind_eq_some_iff.mp H
 obtain ⟨⟨t373, t374, t375⟩, A30, H⟩ := H
 replace H : (some ((t373 == 0), t374, t375)) = some (r1, r2, r3) := H
 have A3 := Aside0.mk A30
 clear A30
 simp only [Option.some.injEq, Prod.mk.injEq] at H
 obtain ⟨rfl, rfl, rfl⟩ := H
 go_enter Try.func92, Try.ntmps92
 go_wp2_with (first | ((with_reducible refine gate_callee (f := 87) rfl ?_); refine ga_ (some 7) Try.func87 #[.pointer (some ⟨g, 0, none⟩), .int .i64 a1] ?_; (with_reducible refine (spec_l1Cur_pick.calls g s0_0 s0_1 s0_2 a1 t373 t374 t375 w0 _ ?side1 ?side2 A3.out).mono ?_); (case side1 => exact is90_0 HI0.out); (case side2 => exact lb1_ HB.out (IsS90.ge HI0.out)); rintro e w4 ⟨rfl, hi, hb, hk⟩; refine ⟨_, rfl, ?_⟩; replace HK := Aside0.mk (KeepBut.trans (kb0_ HK.out) hk (.inl rfl)); replace HB := Aside0.mk (hb); replace HI0 := Aside0.mk (hi); (try clear hb); (try clear hb2); (try clear hk); (try clear hi)))
 go_ret
 exact ⟨rr_, is90_0 HI0.out, lb1_ HB.out (IsS90.ge HI0.out), kb0_ HK.out⟩
def spec_l1Cur_hour23.j0 : Nat → List (S54) → Bool → List Int → Int → Int → Option (Int × Int × Int)
 | 0, _, _, _, _, _ => none
 | k + 1, x1, x12, x1000, x1001, x1002 => if x12 = true then ((spec_l1Cur_pick.f x1000 x1001 x1002 (x1.length : Int)).bind fun bt379 => (if 0 ≤ bt379.1 then (if bt379.1 < (x1.length : Int) then ((spec_l1Cur_among.f x1000 bt379.2.1 bt379.2.2 (([0, 1, 2, (-1)] : List Int))).bind fun bt386 => (some (wrap64 (((rd_T54 x1 bt379.1).f0) + bt386.1), bt386.2.1, bt386.2.2))) else (none)) else (none))) else ((spec_l1Cur_among.f x1000 x1001 x1002 (([0, 6, 905, 999, (-1), 1000] : List Int))).bind fun bt392 => (some (bt392.1, bt392.2.1, bt392.2.2)))
def spec_l1Cur_hour23.f (k : Nat) (s0_0 : List Int) (s0_1 : Int) (s0_2 : Int) (l1 : List (S54)) : Option (Int × Int × Int) := if (l1.length : Int) > 0 then ((spec_l1Cur_one.f s0_0 s0_1 s0_2 4).bind fun bt376 => (spec_l1Cur_hour23.j0 k l1 (!bt376.1) s0_0 bt376.2.1 bt376.2.2)) else (spec_l1Cur_hour23.j0 k l1 false s0_0 s0_1 s0_2)
def spec_l1Cur_hour23.T2 : Bool × List (List Nat × List Nat) := (true, [([], []), ([], []), ([], []), ([2], [2]), ([1, 3], [1, 3]), ([0, 4], [0, 4]), ([5], [5]), ([6], [6]), ([], []), ([], []), ([8, 9, 4], [8, 9]), ([7, 10], [7, 10]), ([11, 10, 0, 1, 2, 3, 4, 5, 6, 7, 8, 9, 10, 11], [11])])
def spec_l1Cur_hour23.B2 : List Nat := [0, 0, 0, 4, 14, 31, 63, 127, 0, 0, 798, 2047, 4095]
theorem spec_l1Cur_hour23.tab2 : rtab .any (opsOf Try.f68 2) = spec_l1Cur_hour23.T2 := by kernel_rfl
theorem spec_l1Cur_hour23.bits2 : waitsOk spec_l1Cur_hour23.T2.2 spec_l1Cur_hour23.B2 = true := by kernel_rfl
abbrev spec_l1Cur_hour23.mk0 : Array Bool := #[fF,fF,fF,fF,fF,fF,fF,fF,fF,fF,fF,fF,fF]
abbrev spec_l1Cur_hour23.mk1 : Array Bool := #[tT,fF,fF,fF,fF,fF,fF,fF,fF,fF,fF,fF,fF]
abbrev spec_l1Cur_hour23.mk2 : Array Bool := #[tT,tT,fF,fF,fF,fF,fF,fF,fF,fF,fF,fF,fF]
abbrev spec_l1Cur_hour23.mk3 : Array Bool := #[tT,tT,tT,fF,fF,fF,fF,fF,fF,fF,fF,fF,fF]
abbrev spec_l1Cur_hour23.mk4 : Array Bool := #[tT,tT,tT,fF,fF,fF,fF,fF,tT,fF,fF,fF,fF]
set_option maxHeartbeats 8000000 in
set_option maxRecDepth 100000 in
theorem spec_l1Cur_hour23.calls (k : Nat) (g : Nat) (s0_0 : List Int) (s0_1 : Int) (s0_2 : Int) (A1 : Option Addr) (c1 : Nat) (l1 : List (S54)) (r1 : Int) (r2 : Int) (r3 : Int) (w0 w : World) (hI : IsS90 w0 w g s0_0 s0_1 s0_2) (hB : Below w0.heap.size w0 w) (hr1 : ∀ W_, KeepBut w W_ g none → Kd.C k54 W_ A1 l1.length l1) (hc1 : l1.length ≤ c1) (h : spec_l1Cur_hour23.f k s0_0 s0_1 s0_2 l1 = some (r1, r2, r3)) :
  Calls Try.prog 68 #[.pointer (some ⟨g, 0, none⟩), .slice A1 l1.length c1] w fun e w' => e = .returned (.int .i64 r1) ∧ IsS90 w0 w' g s0_0 r2 r3 ∧ Below w0.heap.size w0 w' ∧ KeepBut w w' g none := by
 have HR1 := Aside0.mk hr1
 have HC1 := Aside0.mk hc1
 clear hr1 hc1
 have HI0 := Aside0.mk hI
 have HK := Aside0.mk (KeepBut.refl w g none)
 have HL := Aside0.mk hB.size
 clear hI
 have HW0 := Aside0.mk hB.size
 have HB := Aside0.mk hB
 clear hB
 have H : (if (l1.length : Int) > 0 then ((spec_l1Cur_one.f s0_0 s0_1 s0_2 4).bind fun bt376 => (spec_l1Cur_hour23.j0 k l1 (!bt376.1) s0_0 bt376.2.1 bt376.2.2)) else (spec_l1Cur_hour23.j0 k l1 false s0_0 s0_1 s0_2)) = some (r1, r2, r3) := h
 clear h
 have HC3 := Aside0.mk H
 clear H
 go_enter Try.func68, Try.ntmps68
 go_upto_region 1 with (fail)
 go_cut [12] (fun v12 wc => ∃ (kq : Nat) (x12_2 : Bool) (x1001_2 : Int) (x1002_2 : Int), v12 = .bool x12_2 ∧ Aside0 (spec_l1Cur_hour23.j0 kq l1 x12_2 s0_0 x1001_2 x1002_2 = some (r1, r2, r3)) ∧ Aside0 (kq ≤ k) ∧ Aside0 (IsS90 w0 wc g s0_0 x1001_2 x1002_2) ∧ Aside0 (KeepBut w wc g none) ∧ Aside0 (Below w0.heap.size w0 wc))
 case first =>
  have H := HC3.out
  clear HC3
  by_cases c4 : (l1.length : Int) > 0
  ·
   rw [if_pos c4] at H
   have c4b0 : decide (0 < (l1.length : Int)) = true := decide_eq_true c4
   have c4b1 : decide (0 < l1.length) = true := decide_eq_true (by omega)
   clear c4
   (first | rw [c4b0] | (simp only [i64_w, i32_w]; rw [c4b0]) | skip)
   replace H := Option.bind_eq_some_iff.mp H
   obtain ⟨⟨t376, t377, t378⟩, A50, H⟩ := H
   replace H : (spec_l1Cur_hour23.j0 k l1 (!t376) s0_0 t377 t378) = some (r1, r2, r3) := H
   have A5 := Aside0.mk A50
   clear A50
   have H' := Aside0.mk H
   clear H
   go_wp2_with (first | (go_at_call 92; (with_reducible refine (spec_l1Cur_one.calls g s0_0 s0_1 s0_2 4 t376 t377 t378 w0 _ ?side1 ?side2 A5.out).mono ?_); (case side1 => exact is90_0 HI0.out); (case side2 => exact lb1_ HB.out (IsS90.ge HI0.out)); rintro e w6 ⟨rfl, hi, hb, hk⟩; replace HK := Aside0.mk (KeepBut.trans (kb0_ HK.out) hk (.inl rfl)); replace HB := Aside0.mk (hb); replace HI0 := Aside0.mk (hi); (try clear hb); (try clear hb2); (try clear hk); (try clear hi)))
   go_meet
   case rel => exact ⟨_, (!t376), (t377), (t378), (by first | rfl | (simp; done) | (simp [*]; done)), H', ⟨by first | omega | exact Nat.le_refl _⟩, ⟨is90_0 HI0.out⟩, ⟨kb0_ HK.out⟩, ⟨lb1_ HB.out (IsS90.ge HI0.out)⟩⟩
  ·
   rw [if_neg c4] at H
   have c4b0 : decide (0 < (l1.length : Int)) = false := decide_eq_false c4
   have c4b1 : decide (0 < l1.length) = false := decide_eq_false (by omega)
   clear c4
   (first | rw [c4b0] | (simp only [i64_w, i32_w]; rw [c4b0]) | skip)
   have H' := Aside0.mk H
   clear H
   go_wp2
   go_meet
   case rel => exact ⟨_, (false), (s0_1), (s0_2), (by first | rfl | (simp; done) | (simp [*]; done)), H', ⟨by first | omega | exact Nat.le_refl _⟩, ⟨is90_0 HI0.out⟩, ⟨kb0_ HK.out⟩, ⟨lb1_ HB.out (IsS90.ge HI0.out)⟩⟩
 case rest =>
  clear HC3
  try clear c1
  try clear p2
  try clear c4
  try clear c4b0
  try clear c4b1
  try clear c6
  obtain ⟨kq, x12_2, x1001_2, x1002_2, rfl, HA, HJ2, HI0, HK, HB⟩ := hcut
  cases kq with
  | zero => exact absurd HA.out (by simp [spec_l1Cur_hour23.j0])
  | succ kj2 =>
   have H := HA.out
   clear HA
   simp only [spec_l1Cur_hour23.j0] at H
   by_cases c7 : x12_2 = true
   ·
    subst c7
    have H1 : ((spec_l1Cur_pick.f s0_0 x1001_2 x1002_2 (l1.length : Int)).bind fun bt379 => (if 0 ≤ bt379.1 then (if bt379.1 < (l1.length : Int) then ((spec_l1Cur_among.f s0_0 bt379.2.1 bt379.2.2 (([0, 1, 2, (-1)] : List Int))).bind fun bt386 => (some (wrap64 (((rd_T54 l1 bt379.1).f0) + bt386.1), bt386.2.1, bt386.2.2))) else (none)) else (none))) = some (r1, r2, r3) := by rw [if_pos rfl] at H; exact H
    clear H
    have H := H1
    clear H1
    replace H := Option.bind_eq_some_iff.mp H
    obtain ⟨⟨t379, t380, t381⟩, A80, H⟩ := H
    replace H : (if 0 ≤ t379 then (if t379 < (l1.length : Int) then ((spec_l1Cur_among.f s0_0 t380 t381 (([0, 1, 2, (-1)] : List Int))).bind fun bt386 => (some (wrap64 (((rd_T54 l1 t379).f0) + bt386.1), bt386.2.1, bt386.2.2))) else (none)) else (none)) = some (r1, r2, r3) := H
    have A8 := Aside0.mk A80
    clear A80
    by_cases c9 : 0 ≤ t379
    ·
     rw [if_pos c9] at H
     have c9b0 : decide (0 ≤ t379) = true := decide_eq_true c9
     clear c9
     by_cases c10 : t379 < (l1.length : Int)
     ·
      rw [if_pos c10] at H
      have c10b0 : decide (t379 < (l1.length : Int)) = true := decide_eq_true c10
      clear c10
      obtain ⟨y383, hy383⟩ : ∃ y_ : List Int, y_ = (([0, 1, 2, (-1)] : List Int)) := ⟨_, rfl⟩
      replace H : ((spec_l1Cur_among.f s0_0 t380 t381 y383).bind fun bt386 => (some (wrap64 (((rd_T54 l1 t379).f0) + bt386.1), bt386.2.1, bt386.2.2))) = some (r1, r2, r3) := by first | (rw [hy383]; with_reducible exact H) | (have H2_ := (Option.bind_some _ _).symm.trans H; rw [hy383]; with_reducible exact H2_) | (have H2_ := (Option.bind_some _ _).symm.trans H; with_reducible exact H2_) | with_reducible exact H | (rw [hy383]; exact H) | exact H
      have Ny383 := Aside0.mk hy383
      clear hy383
      replace H := Option.bind_eq_some_iff.mp H
      obtain ⟨⟨t386, t387, t388⟩, A110, H⟩ := H
      replace H : (some (wrap64 (((rd_T54 l1 t379).f0) + t386), t387, t388)) = some (r1, r2, r3) := H
      have A11 := Aside0.mk A110
      clear A110
      simp only [Option.some.injEq, Prod.mk.injEq] at H
      obtain ⟨rfl, rfl, rfl⟩ := H
      try go_wp2
      replace HI0 := Aside0.mk (IsS90.drew HI0.out)
      replace HK := Aside0.mk (keep_drew HK.out)
      replace HB := Aside0.mk (below_drew1 HB.out)
      have p382 : 0 ≤ (t379 : Int) := dt_
      have q382 : t379 < (l1.length : Int) := dt_
      obtain ⟨ad382, e382, hx382_0, hx382_1⟩ := at_T54 (Kd.C_foot_now HR1.out HK.out) t379 p382 q382
      have hw382_1 := hx382_1
      have hw382_0 := hx382_0
      cases e382
      have hne382_1 := (show (⟨(ad382.add ((t379).toNat * 2)).block, (ad382.add ((t379).toNat * 2)).off + 1, none⟩ : Addr).block ≠ g from by first | (rw [add_block]; exact Kd.foot_ne HR1.out (by omega) (by decide)) | (show (Addr.add _ _).block ≠ _; rw [add_block]; exact Kd.foot_ne HR1.out (by omega) (by decide)) | exact Kd.foot_ne HR1.out (by omega) (by decide) | (dsimp only; exact Kd.foot_ne HR1.out (by omega) (by decide)))
      have hlt382_1 := (Kd.foot_lt HR1.out (by omega) (by decide))
      have hne382_0 := (show ((ad382.add ((t379).toNat * 2)) : Addr).block ≠ g from by first | (rw [add_block]; exact Kd.foot_ne HR1.out (by omega) (by decide)) | (show (Addr.add _ _).block ≠ _; rw [add_block]; exact Kd.foot_ne HR1.out (by omega) (by decide)) | exact Kd.foot_ne HR1.out (by omega) (by decide) | (dsimp only; exact Kd.foot_ne HR1.out (by omega) (by decide)))
      have hlt382_0 := (Kd.foot_lt HR1.out (by omega) (by decide))
      replace p382 := eq_true p382
      replace q382 := eq_true q382
      refine start_ (n := 13) (S := fun w' => True) (ds := []) spec_l1Cur_hour23.mk0 (by kernel_rfl) rfl rfl trivial (fun hHeld => ?_); refine with_tabW spec_l1Cur_hour23.tab2 spec_l1Cur_hour23.bits2 (fun HT_ HW_ => ?_)
      generalize wc.drew = w12 at HI0 HK HB hx382_0 hx382_1 hHeld ⊢
      refine pz_ HT_ 0 (some 13) spec_l1Cur_hour23.mk1 ?_
      refine pz_ HT_ 1 (some 14) spec_l1Cur_hour23.mk2 ?_
      refine pz_ HT_ 2 (some 15) spec_l1Cur_hour23.mk3 ?_
      refine pz_ HT_ 8 (some 21) spec_l1Cur_hour23.mk4 ?_
      refine inv_at [3, 4, 5, 6, 7, 9, 10, 11, 12] (fun a0_ b a w' => ∃ (v384 : Value), a = putSel a0_ b [(3, 16, .int .i64 (l1.length : Int)), (4, 17, .int .i64 t379), (5, 18, .pointer (some (ad382.add ((t379).toNat * 2)))), (6, 19, .pointer (some (ad382.add ((t379).toNat * 2)))), (7, 20, .int .i64 ((rd_T54 l1 t379).f0)), (9, 22, v384), (10, 23, .int .i64 t386), (11, 24, .int .i64 (wrap64 (((rd_T54 l1 t379).f0) + t386))), (12, 4, .int .i64 (wrap64 (((rd_T54 l1 t379).f0) + t386)))] ∧ (b 4 = false → IsS90 w0 w' g s0_0 x1001_2 x1002_2) ∧ (KeepBut w w' g none) ∧ (Below w0.heap.size w0 w') ∧ (b 4 = true → b 10 = false → IsS90 w0 w' g s0_0 t380 t381) ∧ (b 9 = true → Kd.R (Kd.int .i64) 3 w' w.heap.size (fun _ => True) v384 y383) ∧ (b 10 = true → IsS90 w0 w' g s0_0 t387 t388)) HT_.out HW_.out (by kernel_rfl) (by kernel_rfl) ?_ ?_ ?_
      ·
       exact ⟨.bool false, by simp only [putSel, Bool.false_eq_true, if_false], fun _ => HI0.out, HK.out, HB.out, fun h_ => absurd h_ (by decide), fun h_ => absurd h_ (by decide), fun h_ => absurd h_ (by decide)⟩
      ·
       skip
       clear HB HI0 HK
       refine steps_cons ?_ ?_
       ·
        rintro b a w' ⟨v384, ha, Q_HI0, Q_HK, Q_HB, Q_HI0_e4, Q_HO385, Q_HI0_e10⟩ hb_ hon hoff; refine ⟨_, rfl, fun K hK => ?_⟩
        have e15 : a.tmps[15]? = some (.slice (some ad382) l1.length c1) := by rw [ha]; exact (putSel_off rfl).trans rfl
        replace ha := Aside0.mk ha; have HI0 := Aside0.mk (Q_HI0 (hoff 4 (by kernel_rfl))); have HK := Aside0.mk Q_HK; have HB := Aside0.mk Q_HB; refine value_ (w1 := w') (v := .int .i64 (l1.length : Int)) (by rfl) rfl ?_ ?_
        ·
         go_simp; (try simp only [i64_w])
         try rfl
        refine hK.out _ _ ⟨v384, (by rw [ha.out]; exact putSel_upk 0 hb_ rfl rfl rfl), Q_HI0, Q_HK, Q_HB, fun h0_ _ => absurd ((hoff 4 (by kernel_rfl)).symm.trans h0_) (by decide), Q_HO385, fun h0_ => absurd ((hoff 10 (by kernel_rfl)).symm.trans h0_) (by decide)⟩
       refine steps_cons ?_ ?_
       ·
        rintro b a w' ⟨v384, ha, Q_HI0, Q_HK, Q_HB, Q_HI0_e4, Q_HO385, Q_HI0_e10⟩ hb_ hon hoff; refine ⟨_, rfl, fun K hK => ?_⟩
        have e14 : a.tmps[14]? = some (.pointer (some ⟨g, 0, none⟩)) := by rw [ha]; exact (putSel_off rfl).trans rfl
        have e16 : a.tmps[16]? = some (.int .i64 (l1.length : Int)) := by rw [ha]; exact putSel_on (e := (3, 16, .int .i64 (l1.length : Int))) 0 rfl rfl (hon 3 (by kernel_rfl)) rfl
        replace ha := Aside0.mk ha; have HI0 := Aside0.mk (Q_HI0 hb_); have HK := Aside0.mk Q_HK; have HB := Aside0.mk Q_HB; refine goes_ Try.func87 (by kernel_rfl) rfl #[.pointer (some ⟨g, 0, none⟩), .int .i64 (l1.length : Int)] (by rfl) rfl rfl (by first | (simp only [List.map_toArray, List.map_cons, List.map_nil, Act.eval, Array.getD_eq_getD_getElem?, Option.getD_some, e14, e16]; done) | (simp only [List.map_toArray, List.map_cons, List.map_nil, Act.eval, Array.getD_eq_getD_getElem?, Option.getD_some, e14, e16]; rfl)) ?_; (with_reducible refine (spec_l1Cur_pick.calls g s0_0 x1001_2 x1002_2 (l1.length : Int) t379 t380 t381 w0 _ ?side1 ?side2 A8.out).mono ?_); (case side1 => exact is90_0 HI0.out); (case side2 => exact lb1_ HB.out (IsS90.ge HI0.out)); rintro e w13 ⟨rfl, hi, hb, hk⟩; refine ⟨_, rfl, ?_⟩; have n0_ := Aside0.mk (KeepBut.trans (kb0_ HK.out) hk (.inl rfl)); have n1_ := Aside0.mk (hb); have n2_ := Aside0.mk (hi)
        have z_HO385 := fun (h0_ : b 9 = true) => (show Kd.R (Kd.int .i64) 3 w13 w.heap.size (fun _ => True) v384 y383 from by first | exact (Kd.R_mono (Kd.R_keep (IsS90.apart (show IsS90 w0 _ g s0_0 x1001_2 x1002_2 from is90_0 HI0.out) (by (with_reducible repeat (first | apply Kd.R_alloc | apply Kd.R_drewN | apply Kd.R_drew)); exact (Q_HO385 h0_)) (by decide)) hk (fun _ h => h.2)) (fun _ h => h.1)) | exact Kd.R_mono (Kd.R_mono (Kd.R_keep (IsS90.apart (show IsS90 w0 _ g s0_0 x1001_2 x1002_2 from is90_0 HI0.out) (by (with_reducible repeat (first | apply Kd.R_alloc | apply Kd.R_drewN | apply Kd.R_drew)); exact (Q_HO385 h0_)) (by decide)) hk (fun _ h => h.2)) (fun _ h => h.1)) (fun _ h_ => by first | trivial | exact h_ | exact h_.1))
        clear HK; clear HB; clear HI0; have HK := n0_; have HB := n1_; have HI0 := n2_; clear n0_ n1_ n2_; (try clear hb); (try clear hb2); (try clear hk); (try clear hi); refine hK.out _ _ ⟨v384, (by rw [ha.out]; exact putSel_upk 1 hb_ rfl rfl rfl), fun h0_ => absurd ((up_self b 4).symm.trans h0_) (by decide), (kb0_ HK.out), (lb1_ HB.out (IsS90.ge HI0.out)), fun _ _ => (is90_0 HI0.out), z_HO385, fun h0_ => absurd ((hoff 10 (by kernel_rfl)).symm.trans h0_) (by decide)⟩
       refine steps_cons ?_ ?_
       ·
        rintro b a w' ⟨v384, ha, Q_HI0, Q_HK, Q_HB, Q_HI0_e4, Q_HO385, Q_HI0_e10⟩ hb_ hon hoff; refine ⟨_, rfl, fun K hK => ?_⟩
        have e13 : a.tmps[13]? = some (.slice (some ad382) l1.length c1) := by rw [ha]; exact (putSel_off rfl).trans rfl
        have e17 : a.tmps[17]? = some (.int .i64 t379) := by rw [ha]; exact putSel_on (e := (4, 17, .int .i64 t379)) 1 rfl rfl (hon 4 (by kernel_rfl)) rfl
        replace ha := Aside0.mk ha; have HK := Aside0.mk Q_HK; have HB := Aside0.mk Q_HB
        have hs0_ : w'.cell? (ad382.add ((t379).toNat * 2)) = some (.int .i64 ((rd_T54 l1 t379).f0)) := by first | exact hx382_0 | (obtain ⟨ad_, e_, z_⟩ := at_T54 (Kd.C_foot_now HR1.out HK.out) t379 (of_eq_true p382) (of_eq_true q382); injection e_ with e_; subst e_; first | exact z_.1 | exact z_)
        have hs1_ : w'.cell? ⟨(ad382.add ((t379).toNat * 2)).block, (ad382.add ((t379).toNat * 2)).off + 1, none⟩ = some (.int .i64 ((rd_T54 l1 t379).f1)) := by first | exact hx382_1 | (obtain ⟨ad_, e_, z_⟩ := at_T54 (Kd.C_foot_now HR1.out HK.out) t379 (of_eq_true p382) (of_eq_true q382); injection e_ with e_; subst e_; first | exact z_.2 | exact z_)
        refine value_ (w1 := w') (v := .pointer (some (ad382.add ((t379).toNat * 2)))) (by rfl) rfl ?_ ?_
        ·
         go_simp; (try simp only [i64_w])
         try rfl
        refine hK.out _ _ ⟨v384, (by rw [ha.out]; exact putSel_upk 2 hb_ rfl rfl rfl), fun h0_ => absurd ((hon 4 (by kernel_rfl)).symm.trans h0_) (by decide), Q_HK, Q_HB, Q_HI0_e4, Q_HO385, Q_HI0_e10⟩
       refine steps_cons ?_ ?_
       ·
        rintro b a w' ⟨v384, ha, Q_HI0, Q_HK, Q_HB, Q_HI0_e4, Q_HO385, Q_HI0_e10⟩ hb_ hon hoff; refine ⟨_, rfl, fun K hK => ?_⟩
        have e18 : a.tmps[18]? = some (.pointer (some (ad382.add ((t379).toNat * 2)))) := by rw [ha]; exact putSel_on (e := (5, 18, .pointer (some (ad382.add ((t379).toNat * 2))))) 2 rfl rfl (hon 5 (by kernel_rfl)) rfl
        replace ha := Aside0.mk ha; have HK := Aside0.mk Q_HK; have HB := Aside0.mk Q_HB; refine value_ (w1 := w') (v := .pointer (some (ad382.add ((t379).toNat * 2)))) (by rfl) rfl ?_ ?_
        ·
         go_simp; (try simp only [i64_w])
         try rfl
        refine hK.out _ _ ⟨v384, (by rw [ha.out]; exact putSel_upk 3 hb_ rfl rfl rfl), fun h0_ => absurd ((hon 4 (by kernel_rfl)).symm.trans h0_) (by decide), Q_HK, Q_HB, Q_HI0_e4, Q_HO385, Q_HI0_e10⟩
       refine steps_cons ?_ ?_
       ·
        rintro b a w' ⟨v384, ha, Q_HI0, Q_HK, Q_HB, Q_HI0_e4, Q_HO385, Q_HI0_e10⟩ hb_ hon hoff; refine ⟨_, rfl, fun K hK => ?_⟩
        have e19 : a.tmps[19]? = some (.pointer (some (ad382.add ((t379).toNat * 2)))) := by rw [ha]; exact putSel_on (e := (6, 19, .pointer (some (ad382.add ((t379).toNat * 2))))) 3 rfl rfl (hon 6 (by kernel_rfl)) rfl
        replace ha := Aside0.mk ha; have HK := Aside0.mk Q_HK; have HB := Aside0.mk Q_HB
        have hs0_ : w'.cell? (ad382.add ((t379).toNat * 2)) = some (.int .i64 ((rd_T54 l1 t379).f0)) := by first | exact hx382_0 | (obtain ⟨ad_, e_, z_⟩ := at_T54 (Kd.C_foot_now HR1.out HK.out) t379 (of_eq_true p382) (of_eq_true q382); injection e_ with e_; subst e_; first | exact z_.1 | exact z_)
        have hs1_ : w'.cell? ⟨(ad382.add ((t379).toNat * 2)).block, (ad382.add ((t379).toNat * 2)).off + 1, none⟩ = some (.int .i64 ((rd_T54 l1 t379).f1)) := by first | exact hx382_1 | (obtain ⟨ad_, e_, z_⟩ := at_T54 (Kd.C_foot_now HR1.out HK.out) t379 (of_eq_true p382) (of_eq_true q382); injection e_ with e_; subst e_; first | exact z_.2 | exact z_)
        refine value_ (w1 := w') (v := .int .i64 ((rd_T54 l1 t379).f0)) (by rfl) rfl ?_ ?_
        ·
         go_simp; (try simp only [i64_w])
         try rfl
        refine hK.out _ _ ⟨v384, (by rw [ha.out]; exact putSel_upk 4 hb_ rfl rfl rfl), fun h0_ => absurd ((hon 4 (by kernel_rfl)).symm.trans h0_) (by decide), Q_HK, Q_HB, Q_HI0_e4, Q_HO385, Q_HI0_e10⟩
       refine steps_cons ?_ ?_
       ·
        rintro b a w' ⟨v384, ha, Q_HI0, Q_HK, Q_HB, Q_HI0_e4, Q_HO385, Q_HI0_e10⟩ hb_ hon hoff; refine ⟨_, rfl, fun K hK => ?_⟩; replace ha := Aside0.mk ha; have HK := Aside0.mk Q_HK; have HB := Aside0.mk Q_HB; refine Kd.R_lit_step (Kd.int .i64) _ 3 ?hg (N := 22) ?hd (xs := ([0, 1, 2, (-1)] : List Int)) (inner := [.int .i64 0, .int .i64 1, .int .i64 2, .int .i64 (-1)]) (ok := fun _ => True) (okp := fun _ => True) ?hr ?hp (fun _ hk => hk) trivial (Below.refl _ _) (Nat.le_refl _) (by simp) ?_; (case hd => rfl); (case hg => rfl); (case hr => first | (go_simp; done) | (go_simp; rfl)); (case hp => exact (Reps.one (show Kd.M (Kd.int .i64) _ _ _ 0 [.int .i64 0] from rfl) (Reps.one (show Kd.M (Kd.int .i64) _ _ _ 1 [.int .i64 1] from rfl) (Reps.one (show Kd.M (Kd.int .i64) _ _ _ 2 [.int .i64 2] from rfl) (Reps.one (show Kd.M (Kd.int .i64) _ _ _ (-1) [.int .i64 (-1)] from rfl) (Reps.none _ _)))))); intro v384 w13 ho14 hb hg_ hnew_; clear hg_ hnew_; replace ho14 := ry_ Ny383.out ho14; have n0_ := Aside0.mk (Kd.R_lower ho14 (keep_size (w := w) (g := g) (row := none) (kb0_ HK.out))); have n2_ := Aside0.mk (KeepBut.trans (kb0_ HK.out) (KeepBut.of_below hb g none) (.inl rfl)); have n3_ := Aside0.mk (below_step (lb0_ HB.out) hb)
        have z_HI0 := fun (h0_ : b 4 = false) => (show IsS90 w0 w13 g s0_0 x1001_2 x1002_2 from by first | exact (IsS90.below (by repeat (first | (with_reducible first | exact (Q_HI0 h0_) | apply IsS90.alloc | apply IsS90.drewN | apply IsS90.drew | apply IsS90.set_1 | apply IsS90.set_2) | exact (Q_HI0 h0_))) hb))
        have z_HI0_e4 := fun (h0_ : b 4 = true) (h1_ : b 10 = false) => (show IsS90 w0 w13 g s0_0 t380 t381 from by first | exact (IsS90.below (by repeat (first | (with_reducible first | exact (Q_HI0_e4 h0_ h1_) | apply IsS90.alloc | apply IsS90.drewN | apply IsS90.drew | apply IsS90.set_1 | apply IsS90.set_2) | exact (Q_HI0_e4 h0_ h1_))) hb))
        clear HK; clear HB; have HO385 := n0_; have HK := n2_; have HB := n3_; clear n0_ n2_ n3_; clear hb ho14; refine hK.out _ _ ⟨v384, (by rw [ha.out]; exact putSel_upk 5 hb_ rfl rfl rfl), z_HI0, (kb0_ HK.out), (lb0_ HB.out), z_HI0_e4, fun _ => (kr_ HO385.out), fun h0_ => absurd ((hoff 10 (by kernel_rfl)).symm.trans h0_) (by decide)⟩
       refine steps_cons ?_ ?_
       ·
        rintro b a w' ⟨v384, ha, Q_HI0, Q_HK, Q_HB, Q_HI0_e4, Q_HO385, Q_HI0_e10⟩ hb_ hon hoff; refine ⟨_, rfl, fun K hK => ?_⟩
        have e21 : a.tmps[21]? = some (.pointer (some ⟨g, 0, none⟩)) := by rw [ha]; exact (putSel_off rfl).trans rfl
        have e22 : a.tmps[22]? = some (v384) := by rw [ha]; exact putSel_on (e := (9, 22, v384)) 5 rfl rfl (hon 9 (by kernel_rfl)) rfl
        replace ha := Aside0.mk ha; have HK := Aside0.mk Q_HK; have HB := Aside0.mk Q_HB; have HI0 := Aside0.mk (Q_HI0_e4 (hon 4 (by kernel_rfl)) hb_); have HO385 := Aside0.mk (Q_HO385 (hon 9 (by kernel_rfl))); obtain ⟨Ao17, co17, eo17⟩ := Kd.R_slice HO385.out
        (first | subst eo17 | (injection eo17 with f1_ f2_ f3_; have f4_ := f1_.symm; have f5_ := f3_.symm; clear f1_ f2_ f3_; subst f4_; subst f5_))
        refine goes_ Try.func86 (by kernel_rfl) rfl #[.pointer (some ⟨g, 0, none⟩), .slice Ao17 y383.length co17] (by rfl) rfl rfl (by first | (simp only [List.map_toArray, List.map_cons, List.map_nil, Act.eval, Array.getD_eq_getD_getElem?, Option.getD_some, e21, e22]; done) | (simp only [List.map_toArray, List.map_cons, List.map_nil, Act.eval, Array.getD_eq_getD_getElem?, Option.getD_some, e21, e22]; rfl)) ?_; (with_reducible refine (spec_l1Cur_among.calls g s0_0 t380 t381 _ _ y383 t386 t387 t388 w0 _ ?side1 ?side2 ?side3 ?side4 ?side5 A11.out).mono ?_); (case side1 => exact is90_0 HI0.out); (case side2 => exact lb1_ HB.out (IsS90.ge HI0.out)); (case side3 => exact kc_ (Kd.R_reads' HO385.out).2.2); (case side4 => exact (Kd.R_reads' HO385.out).2.1); (case side5 => exact far_slice (IsS90.own_ne HI0.out HO385.out (by decide))); rintro e w18 ⟨rfl, hi, hb, hk⟩; refine ⟨_, rfl, ?_⟩; replace HO385 := Aside0.mk (Kd.R_mono (Kd.R_keep (IsS90.apart (show IsS90 w0 _ g s0_0 t380 t381 from is90_0 HI0.out) (kr_ HO385.out) (by decide)) hk (fun _ h => h.2)) (fun _ h => h.1)); replace HK := Aside0.mk (KeepBut.trans (kb0_ HK.out) hk (.inl rfl)); replace HB := Aside0.mk (hb); replace HI0 := Aside0.mk (hi); (try clear hb); (try clear hb2); (try clear hk); (try clear hi); refine hK.out _ _ ⟨.slice Ao17 y383.length co17, (by rw [ha.out]; exact putSel_upk 6 hb_ rfl rfl rfl), fun h0_ => absurd ((hon 4 (by kernel_rfl)).symm.trans h0_) (by decide), (kb0_ HK.out), (lb1_ HB.out (IsS90.ge HI0.out)), fun _ h1_ => absurd ((up_self b 10).symm.trans h1_) (by decide), fun _ => (kr_ HO385.out), fun _ => (is90_0 HI0.out)⟩
       refine steps_cons ?_ ?_
       ·
        rintro b a w' ⟨v384, ha, Q_HI0, Q_HK, Q_HB, Q_HI0_e4, Q_HO385, Q_HI0_e10⟩ hb_ hon hoff; refine ⟨_, rfl, fun K hK => ?_⟩
        have e20 : a.tmps[20]? = some (.int .i64 ((rd_T54 l1 t379).f0)) := by rw [ha]; exact putSel_on (e := (7, 20, .int .i64 ((rd_T54 l1 t379).f0))) 4 rfl rfl (hon 7 (by kernel_rfl)) rfl
        have e23 : a.tmps[23]? = some (.int .i64 t386) := by rw [ha]; exact putSel_on (e := (10, 23, .int .i64 t386)) 6 rfl rfl (hon 10 (by kernel_rfl)) rfl
        replace ha := Aside0.mk ha; have HK := Aside0.mk Q_HK; have HB := Aside0.mk Q_HB; have HO385 := Aside0.mk (Q_HO385 (hon 9 (by kernel_rfl))); have HI0 := Aside0.mk (Q_HI0_e10 (hon 10 (by kernel_rfl))); refine value_ (w1 := w') (v := .int .i64 (wrap64 (((rd_T54 l1 t379).f0) + t386))) (by rfl) rfl ?_ ?_
        ·
         go_simp; (try simp only [i64_w])
         try rfl
        refine hK.out _ _ ⟨v384, (by rw [ha.out]; exact putSel_upk 7 hb_ rfl rfl rfl), fun h0_ => absurd ((hon 4 (by kernel_rfl)).symm.trans h0_) (by decide), Q_HK, Q_HB, fun _ h1_ => absurd ((hon 10 (by kernel_rfl)).symm.trans h1_) (by decide), Q_HO385, Q_HI0_e10⟩
       refine steps_cons ?_ ?_
       ·
        rintro b a w' ⟨v384, ha, Q_HI0, Q_HK, Q_HB, Q_HI0_e4, Q_HO385, Q_HI0_e10⟩ hb_ hon hoff; refine ⟨_, rfl, fun K hK => ?_⟩
        have e24 : a.tmps[24]? = some (.int .i64 (wrap64 (((rd_T54 l1 t379).f0) + t386))) := by rw [ha]; exact putSel_on (e := (11, 24, .int .i64 (wrap64 (((rd_T54 l1 t379).f0) + t386)))) 7 rfl rfl (hon 11 (by kernel_rfl)) rfl
        replace ha := Aside0.mk ha; have HK := Aside0.mk Q_HK; have HB := Aside0.mk Q_HB; have HO385 := Aside0.mk (Q_HO385 (hon 9 (by kernel_rfl))); have HI0 := Aside0.mk (Q_HI0_e10 (hon 10 (by kernel_rfl))); refine value_ (w1 := w') (v := .int .i64 (wrap64 (((rd_T54 l1 t379).f0) + t386))) (by rfl) rfl ?_ ?_
        ·
         go_simp; (try simp only [i64_w])
         try rfl
        refine hK.out _ _ ⟨v384, (by rw [ha.out]; exact putSel_upk 8 hb_ rfl rfl rfl), fun h0_ => absurd ((hon 4 (by kernel_rfl)).symm.trans h0_) (by decide), Q_HK, Q_HB, fun _ h1_ => absurd ((hon 10 (by kernel_rfl)).symm.trans h1_) (by decide), Q_HO385, Q_HI0_e10⟩
       exact steps_nil
      rintro b a w18 hall ⟨v384, ha, Q_HI0, Q_HK, Q_HB, Q_HI0_e4, Q_HO385, Q_HI0_e10⟩
      clear HB HI0 HK
      have hb3_ := hall 3 (by kernel_rfl)
      have hb4_ := hall 4 (by kernel_rfl)
      have hb5_ := hall 5 (by kernel_rfl)
      have hb6_ := hall 6 (by kernel_rfl)
      have hb7_ := hall 7 (by kernel_rfl)
      have hb9_ := hall 9 (by kernel_rfl)
      have hb10_ := hall 10 (by kernel_rfl)
      have hb11_ := hall 11 (by kernel_rfl)
      have hb12_ := hall 12 (by kernel_rfl)
      subst ha
      simp only [putSel, hb3_, hb4_, hb5_, hb6_, hb7_, hb9_, hb10_, hb11_, hb12_, if_true, Act.put, List.setIfInBounds_toArray, List.set_cons_zero, List.set_cons_succ]
      clear Q_HI0
      have HK := Aside0.mk Q_HK
      clear Q_HK
      have HB := Aside0.mk Q_HB
      clear Q_HB
      clear Q_HI0_e4
      have HO385 := Aside0.mk (Q_HO385 hb9_)
      clear Q_HO385
      have HI0 := Aside0.mk (Q_HI0_e10 hb10_)
      clear Q_HI0_e10
      clear hall hb3_ hb4_ hb5_ hb6_ hb7_ hb9_ hb10_ hb11_ hb12_
      try go_wp2
      go_ret
      exact ⟨rr_, is90_0 HI0.out, lb1_ HB.out (IsS90.ge HI0.out), kb0_ HK.out⟩
     ·
      rw [if_neg c10] at H
      exact absurd H (by simp)
    ·
     rw [if_neg c9] at H
     exact absurd H (by simp)
   ·
    replace c7 := Bool.eq_false_iff.mpr c7
    subst c7
    have H1 : ((spec_l1Cur_among.f s0_0 x1001_2 x1002_2 (([0, 6, 905, 999, (-1), 1000] : List Int))).bind fun bt392 => (some (bt392.1, bt392.2.1, bt392.2.2))) = some (r1, r2, r3) := by rw [if_neg (show ¬ (false = true) by decide)] at H; exact H
    clear H
    have H := H1
    clear H1
    obtain ⟨y389, hy389⟩ : ∃ y_ : List Int, y_ = (([0, 6, 905, 999, (-1), 1000] : List Int)) := ⟨_, rfl⟩
    replace H : ((spec_l1Cur_among.f s0_0 x1001_2 x1002_2 y389).bind fun bt392 => (some (bt392.1, bt392.2.1, bt392.2.2))) = some (r1, r2, r3) := by first | (rw [hy389]; with_reducible exact H) | (have H2_ := (Option.bind_some _ _).symm.trans H; rw [hy389]; with_reducible exact H2_) | (have H2_ := (Option.bind_some _ _).symm.trans H; with_reducible exact H2_) | with_reducible exact H | (rw [hy389]; exact H) | exact H
    have Ny389 := Aside0.mk hy389
    clear hy389
    replace H := Option.bind_eq_some_iff.mp H
    obtain ⟨⟨t392, t393, t394⟩, A190, H⟩ := H
    replace H : (some (t392, t393, t394)) = some (r1, r2, r3) := H
    have A19 := Aside0.mk A190
    clear A190
    simp only [Option.some.injEq, Prod.mk.injEq] at H
    obtain ⟨rfl, rfl, rfl⟩ := H
    go_wp2_with (first | ((with_reducible refine gate_dst (N := 26) rfl ?_); refine Kd.R_lit (Kd.int .i64) _ 3 ?hg (N := 26) ?hd (xs := ([0, 6, 905, 999, (-1), 1000] : List Int)) (inner := [.int .i64 0, .int .i64 6, .int .i64 905, .int .i64 999, .int .i64 (-1), .int .i64 1000]) (ok := fun _ => True) (okp := fun _ => True) ?hr ?hp (fun _ hk => hk) trivial (Below.refl _ _) (Nat.le_refl _) (by simp) ?_; (case hd => rfl); (case hg => rfl); (case hr => first | (go_simp; done) | (go_simp; rfl)); (case hp => exact (Reps.one (show Kd.M (Kd.int .i64) _ _ _ 0 [.int .i64 0] from rfl) (Reps.one (show Kd.M (Kd.int .i64) _ _ _ 6 [.int .i64 6] from rfl) (Reps.one (show Kd.M (Kd.int .i64) _ _ _ 905 [.int .i64 905] from rfl) (Reps.one (show Kd.M (Kd.int .i64) _ _ _ 999 [.int .i64 999] from rfl) (Reps.one (show Kd.M (Kd.int .i64) _ _ _ (-1) [.int .i64 (-1)] from rfl) (Reps.one (show Kd.M (Kd.int .i64) _ _ _ 1000 [.int .i64 1000] from rfl) (Reps.none _ _)))))))); intro v390 w20 ho21 hb hg_ hnew_; clear hg_ hnew_; replace ho21 := ry_ Ny389.out ho21; have HO391 := Aside0.mk (Kd.R_lower ho21 (keep_size (w := w) (g := g) (row := none) (kb0_ HK.out))); replace HK := Aside0.mk (KeepBut.trans (kb0_ HK.out) (KeepBut.of_below hb g none) (.inl rfl)); replace HB := Aside0.mk (below_step (lb1_ HB.out (IsS90.ge HI0.out)) hb); replace HI0 := Aside0.mk (IsS90.below (is90_0 HI0.out) hb); clear hb ho21; obtain ⟨Ao22, co22, eo22⟩ := Kd.R_slice HO391.out; subst eo22) | ((with_reducible refine gate_callee (f := 86) rfl ?_); refine ga_ (some 27) Try.func86 #[.pointer (some ⟨g, 0, none⟩), .slice Ao22 y389.length co22] ?_; (with_reducible refine (spec_l1Cur_among.calls g s0_0 x1001_2 x1002_2 _ _ y389 t392 t393 t394 w0 _ ?side1 ?side2 ?side3 ?side4 ?side5 A19.out).mono ?_); (case side1 => exact is90_0 HI0.out); (case side2 => exact lb1_ HB.out (IsS90.ge HI0.out)); (case side3 => exact kc_ (Kd.R_reads' HO391.out).2.2); (case side4 => exact (Kd.R_reads' HO391.out).2.1); (case side5 => exact far_slice (IsS90.own_ne HI0.out HO391.out (by decide))); rintro e w23 ⟨rfl, hi, hb, hk⟩; refine ⟨_, rfl, ?_⟩; replace HO391 := Aside0.mk (Kd.R_mono (Kd.R_keep (IsS90.apart (show IsS90 w0 _ g s0_0 x1001_2 x1002_2 from is90_0 HI0.out) (kr_ HO391.out) (by decide)) hk (fun _ h => h.2)) (fun _ h => h.1)); replace HK := Aside0.mk (KeepBut.trans (kb0_ HK.out) hk (.inl rfl)); replace HB := Aside0.mk (hb); replace HI0 := Aside0.mk (hi); (try clear hb); (try clear hb2); (try clear hk); (try clear hi)))
    go_ret
    exact ⟨rr_, is90_0 HI0.out, lb1_ HB.out (IsS90.ge HI0.out), kb0_ HK.out⟩
def spec_DrawLevelIn.f (k : Nat) (l0 : List Int) : Option (List S54 × Int) :=
 (spec_l1Cur_readings.f k l0 0 0).bind fun t1 => (spec_l1Cur_hour23.f k l0 t1.2.1 t1.2.2 t1.1).bind fun t2 => some (t1.1, t2.1)
set_option maxHeartbeats 8000000 in
set_option maxRecDepth 100000 in
theorem spec_DrawLevelIn.calls (k : Nat) (A0 : Option Addr) (c0 : Nat) (l0 : List Int) (r1 : List S54) (r2 : Int) (w : World) (hr0 : Kd.C (Kd.int .u8) w A0 l0.length l0) (hc0 : l0.length ≤ c0) (h : spec_DrawLevelIn.f k l0 = some (r1, r2)) :
  Calls Try.prog 27 #[.slice A0 l0.length c0] w fun e w' => ∃ v0_ : Value, e = .returned (.tuple #[v0_, .int .i64 r2]) ∧ Kd.R k54 54 w' w.heap.size (fun _ => True) v0_ r1 ∧ Below w.heap.size w w' := by
 unfold spec_DrawLevelIn.f at h
 obtain ⟨⟨x1, p1, q1⟩, h1, h⟩ := Option.bind_eq_some_iff.mp h
 obtain ⟨⟨x2, p2, q2⟩, h2, h⟩ := Option.bind_eq_some_iff.mp h
 simp only [Option.some.injEq, Prod.mk.injEq] at h
 obtain ⟨rfl, rfl⟩ := h
 have A1 := Aside0.mk h1
 have A2 := Aside0.mk h2
 clear h1 h2
 have hI0 : IsS90 w (w.alloc (.cells #[.slice A0 l0.length c0, .int .i64 0, .int .u64 0] 90)) w.heap.size l0 0 0 := ⟨A0, c0, heap_new_ _ _ _, Nat.le_refl _, hr0⟩
 have HI := Aside0.mk hI0
 have HB := Aside0.mk (below_alloc (Below.refl _ w) (.cells #[.slice A0 l0.length c0, .int .i64 0, .int .u64 0] 90))
 clear hI0
 go_enter Try.func27, Try.ntmps27
 go_wp2_with (first | (go_at_call 67; refine (spec_l1Cur_readings.calls k _ l0 0 0 x1 p1 q1 w _ HI.out HB.out A1.out).mono ?_; rintro e w1 ⟨v0, rfl, hR, hI1, hB1, hK1⟩; obtain ⟨Av, cv, ev⟩ := Kd.R_slice hR; subst ev; have HR := Aside0.mk hR; have HI1 := Aside0.mk hI1; have HB1 := Aside0.mk hB1; clear hR hI1 hB1 hK1) | (go_at_call 68; refine (spec_l1Cur_hour23.calls k _ l0 p1 q1 Av cv x1 x2 p2 q2 w _ HI1.out HB1.out (fun W_ hk_ => (Kd.R_reads' (row_keep HR.out (by rw [heap_size_]; omega) hk_)).2.2) (Kd.R_reads' HR.out).2.1 A2.out).mono ?_; rintro e w2 ⟨rfl, hI2, hB2, hK2⟩))
 go_ret2
 exact ⟨_, rfl, Kd.R_lower (row_keep HR.out (by rw [heap_size_]; omega) hK2) (by rw [heap_size_]; omega), hB2⟩
def impl_hours.f (l0 : List (S54)) : Option (Int × Int) := if (l0.length : Int) = 0 then (some (0, (-1))) else (if 0 < (l0.length : Int) then (if 0 ≤ (wrap64 ((l0.length : Int) - 1)) then (if (wrap64 ((l0.length : Int) - 1)) < (l0.length : Int) then (some ((rd_T54 l0 0).f0, (rd_T54 l0 (wrap64 ((l0.length : Int) - 1))).f0)) else (none)) else (none)) else (none))
set_option maxHeartbeats 8000000 in
set_option maxRecDepth 100000 in
theorem impl_hours.calls (A0 : Option Addr) (c0 : Nat) (l0 : List (S54)) (r1 : Int) (r2 : Int) (w : World) (hr0 : Kd.C k54 w A0 l0.length l0) (hc0 : l0.length ≤ c0) (h : impl_hours.f l0 = some (r1, r2)) :
  Calls Try.prog 76 #[.slice A0 l0.length c0] w fun e w' => e = .returned (.tuple #[.int .i64 r1, .int .i64 r2]) ∧ Drawn0 w w' := by
 have HR0 := Aside0.mk hr0
 have HC0 := Aside0.mk hc0
 clear hr0 hc0
 have H : (if (l0.length : Int) = 0 then (some (0, (-1))) else (if 0 < (l0.length : Int) then (if 0 ≤ (wrap64 ((l0.length : Int) - 1)) then (if (wrap64 ((l0.length : Int) - 1)) < (l0.length : Int) then (some ((rd_T54 l0 0).f0, (rd_T54 l0 (wrap64 ((l0.length : Int) - 1))).f0)) else (none)) else (none)) else (none))) = some (r1, r2) := h
 clear h
 by_cases c2 : (l0.length : Int) = 0
 ·
  rw [if_pos c2] at H
  have c2b0 : ((l0.length : Int) == 0) = true := beq_iff_eq.mpr c2
  have c2b1 : ((l0.length : Int) != 0) = false := bne_eq_false_iff_eq.mpr c2
  clear c2
  simp only [Option.some.injEq, Prod.mk.injEq] at H
  obtain ⟨rfl, rfl⟩ := H
  go_enter Try.func76, Try.ntmps76
  go_wp2
  repeat (go_quiet (fail); try go_wp2)
  go_ret2
  exact ⟨by first | rfl | (simp; done) | (simp [*]; done), by repeat (first | exact Drawn0.refl _ | apply Drawn0.step)⟩
 ·
  rw [if_neg c2] at H
  have c2b0 : ((l0.length : Int) == 0) = false := beq_eq_false_iff_ne.mpr c2
  have c2b1 : ((l0.length : Int) != 0) = true := bne_iff_ne.mpr c2
  have c2b2 : ¬ (l0 = []) := fun h_ => c2 (by rw [h_]; rfl)
  by_cases c3 : 0 < (l0.length : Int)
  ·
   rw [if_pos c3] at H
   have c3b0 : decide (0 < (l0.length : Int)) = true := decide_eq_true c3
   have c3b1 : decide (0 < l0.length) = true := decide_eq_true (by omega)
   clear c3
   obtain ⟨ji4, hji4⟩ : ∃ j_ : Int, (wrap64 ((l0.length : Int) - 1)) = j_ := ⟨_, rfl⟩
   replace H : (if 0 ≤ (ji4) then (if (ji4) < (l0.length : Int) then (some ((rd_T54 l0 0).f0, (rd_T54 l0 (ji4)).f0)) else (none)) else (none)) = some (r1, r2) := by first | (rw [hji4] at H; exact H) | (simp only [hji4] at H ⊢; exact H)
   have hji4w : (IntKind.i64.wrap ((l0.length : Int) - 1)) = ji4 := (i64_w _).trans hji4
   by_cases c5 : 0 ≤ (ji4)
   ·
    rw [if_pos c5] at H
    have c5b0 : decide (0 ≤ (ji4)) = true := decide_eq_true c5
    clear c5
    by_cases c6 : (ji4) < (l0.length : Int)
    ·
     rw [if_pos c6] at H
     have c6b0 : decide ((ji4) < (l0.length : Int)) = true := decide_eq_true c6
     clear c6
     simp only [Option.some.injEq, Prod.mk.injEq] at H
     obtain ⟨rfl, rfl⟩ := H
     have p154 : 0 ≤ (0 : Int) := (by omega)
     have q154 : 0 < (l0.length : Int) := dt_
     obtain ⟨ad154, e154, hx154_0, hx154_1⟩ := at_T54 HR0.out 0 p154 q154
     cases e154
     have qi154 : (0 < l0.length) = True := eq_true (by omega)
     (try rw [show ((0 : Int)).toNat = 0 from rfl] at hx154_0)
     (try rw [show 0 * 2 = 0 from rfl] at hx154_0)
     (try rw [Addr.add_zero'] at hx154_0)
     (try rw [show ((0 : Int)).toNat = 0 from rfl] at hx154_1)
     (try rw [show 0 * 2 = 0 from rfl] at hx154_1)
     (try rw [Addr.add_zero'] at hx154_1)
     replace p154 := eq_true p154
     replace q154 := eq_true q154
     have p155 : 0 ≤ ((ji4) : Int) := dt_
     have q155 : (ji4) < (l0.length : Int) := dt_
     obtain ⟨ad155, e155, hx155_0, hx155_1⟩ := at_T54 HR0.out (ji4) p155 q155
     obtain rfl : ad154 = ad155 := (by injection e155)
     replace p155 := eq_true p155
     replace q155 := eq_true q155
     go_enter Try.func76, Try.ntmps76
     go_wp2
     repeat (go_quiet (fail); try go_wp2)
     go_ret2
     exact ⟨by first | rfl | (simp; done) | (simp only [← hji4] <;> (first | rfl | simp)) | (simp [*]; done), by repeat (first | exact Drawn0.refl _ | apply Drawn0.step)⟩
    ·
     rw [if_neg c6] at H
     exact absurd H (by simp)
   ·
    rw [if_neg c5] at H
    exact absurd H (by simp)
  ·
   rw [if_neg c3] at H
   exact absurd H (by simp)
def impl_hasHour.f (k : Nat) (l0 : List (S54)) (a1 : Int) : Option (Bool) := (impl_hours.f l0).bind fun bt156 => ((impl_AreReadings.f k l0).bind fun t158 => (if t158 = true then ((impl_within.f a1 bt156.1 bt156.2).bind fun t159 => (some t159)) else (some false)))
set_option maxHeartbeats 8000000 in
set_option maxRecDepth 100000 in
theorem impl_hasHour.calls (k : Nat) (A0 : Option Addr) (c0 : Nat) (l0 : List (S54)) (a1 : Int) (r : Bool) (w : World) (hr0 : Kd.C k54 w A0 l0.length l0) (hc0 : l0.length ≤ c0) (h : impl_hasHour.f k l0 a1 = some r) :
  Calls Try.prog 58 #[.slice A0 l0.length c0, .int .i64 a1] w fun e w' => e = .returned (.bool r) ∧ Below w.heap.size w w' := by
 have HR0 := Aside0.mk hr0
 have HC0 := Aside0.mk hc0
 clear hr0 hc0
 have HB := Aside0.mk (Below.refl w.heap.size w)
 have H : ((impl_hours.f l0).bind fun bt156 => ((impl_AreReadings.f k l0).bind fun t158 => (if t158 = true then ((impl_within.f a1 bt156.1 bt156.2).bind fun t159 => (some t159)) else (some false)))) = some r := h
 clear h
 replace H := Option.bind_eq_some_iff.mp H
 obtain ⟨⟨t156, t157⟩, A30, H⟩ := H
 replace H : ((impl_AreReadings.f k l0).bind fun t158 => (if t158 = true then ((impl_within.f a1 t156 t157).bind fun t159 => (some t159)) else (some false))) = some r := H
 have A3 := Aside0.mk A30
 clear A30
 replace H := Option.bind_eq_some_iff.mp H
 obtain ⟨t158, A40, H⟩ := H
 replace H : (if t158 = true then ((impl_within.f a1 t156 t157).bind fun t159 => (some t159)) else (some false)) = some r := H
 have A4 := Aside0.mk A40
 clear A40
 by_cases c5 : t158 = true
 ·
  subst c5
  have H1 : ((impl_within.f a1 t156 t157).bind fun t159 => (some t159)) = some r := by rw [if_pos rfl] at H; exact H
  clear H
  have H := H1
  clear H1
  replace H := Option.bind_eq_some_iff.mp H
  obtain ⟨t159, A60, H⟩ := H
  replace H : (some t159) = some r := H
  have A6 := Aside0.mk A60
  clear A60
  obtain rfl := Option.some.inj H
  go_enter Try.func58, Try.ntmps58
  go_wp2_with (first | ((with_reducible refine gate_callee (f := 76) rfl ?_); refine ga_ (some 9) Try.func76 #[.slice A0 l0.length c0] ?_; (with_reducible refine (impl_hours.calls _ _ l0 t156 t157 _ ?side1 ?side2 A3.out).mono ?_); (case side1 => exact kc_ HR0.out); (case side2 => exact HC0.out); rintro e w' ⟨rfl, ⟨nd, rfl⟩⟩; refine ⟨_, rfl, ?_⟩) | ((with_reducible refine gate_callee (f := 34) rfl ?_); refine ga_ (some 13) Try.func34 #[.slice A0 l0.length c0] ?_; (with_reducible refine (impl_AreReadings.calls k _ _ l0 true _ ?side1 ?side2 A4.out).mono ?_); (case side1 => exact kc_ HR0.out); (case side2 => exact HC0.out); rintro e w7 ⟨rfl, hb⟩; refine ⟨_, rfl, ?_⟩; replace HB := Aside0.mk (below_step (lb0_ HB.out) hb); (try clear hb); (try clear hb2); (try clear hk); (try clear hi)) | (go_at_call 74; (with_reducible refine (impl_within.calls a1 t156 t157 t159 _ A6.out).mono ?_); rintro e w' ⟨rfl, ⟨nd, rfl⟩⟩))
  go_ret
  exact ⟨rr_, lb0_ HB.out⟩
 ·
  replace c5 := Bool.eq_false_iff.mpr c5
  subst c5
  have H1 : (some false) = some r := by rw [if_neg (show ¬ (false = true) by decide)] at H; exact H
  clear H
  have H := H1
  clear H1
  obtain rfl := Option.some.inj H
  go_enter Try.func58, Try.ntmps58
  go_wp2_with (first | ((with_reducible refine gate_callee (f := 76) rfl ?_); refine ga_ (some 9) Try.func76 #[.slice A0 l0.length c0] ?_; (with_reducible refine (impl_hours.calls _ _ l0 t156 t157 _ ?side1 ?side2 A3.out).mono ?_); (case side1 => exact kc_ HR0.out); (case side2 => exact HC0.out); rintro e w' ⟨rfl, ⟨nd, rfl⟩⟩; refine ⟨_, rfl, ?_⟩) | ((with_reducible refine gate_callee (f := 34) rfl ?_); refine ga_ (some 13) Try.func34 #[.slice A0 l0.length c0] ?_; (with_reducible refine (impl_AreReadings.calls k _ _ l0 false _ ?side1 ?side2 A4.out).mono ?_); (case side1 => exact kc_ HR0.out); (case side2 => exact HC0.out); rintro e w8 ⟨rfl, hb⟩; refine ⟨_, rfl, ?_⟩; replace HB := Aside0.mk (below_step (lb0_ HB.out) hb); (try clear hb); (try clear hb2); (try clear hk); (try clear hi)))
  go_ret
  exact ⟨rr_, lb0_ HB.out⟩
def impl_absolute.f (a0 : Int) : Option (Int) := some (mx a0 (wrap64 (-a0)))
set_option maxHeartbeats 8000000 in
set_option maxRecDepth 100000 in
theorem impl_absolute.calls (a0 : Int) (r : Int) (w : World) (h : impl_absolute.f a0 = some r) :
  Calls Try.prog 98 #[.int .i64 a0] w fun e w' => e = .returned (.int .i64 r) ∧ Below w.heap.size w w' := by
 have HB := Aside0.mk (Below.refl w.heap.size w)
 have H : (some (mx a0 (wrap64 (-a0)))) = some r := h
 clear h
 obtain ⟨ji2, hji2⟩ : ∃ j_ : Int, (mx a0 (wrap64 (-a0))) = j_ := ⟨_, rfl⟩
 replace H : (some ji2) = some r := by first | (rw [hji2] at H; exact H) | (simp only [hji2] at H ⊢; exact H)
 have hji2_ : (if a0 < (wrap64 (-a0)) then (wrap64 (-a0)) else a0) = ji2 := hji2
 obtain rfl := Option.some.inj H
 go_enter Try.func98, Try.ntmps98
 go_wp2
 go_ret
 exact ⟨by first | rfl | (simp [errW_none, errW_some] <;> rfl) | (simp only [← hji2]; first | rfl | (simp [errW_none, errW_some] <;> rfl)) | (simp [*, errW_none, errW_some] <;> rfl), lb0_ HB.out⟩
def impl_gcd.l0 : Nat → Int → Int → Option (Int)
 | 0, _, _ => none
 | k + 1, x0, x1 => if x1 = 0 then ((impl_absolute.f x0).bind fun t165 => (some t165)) else (impl_gcd.l0 k x1 (Int.tmod x0 x1))
def impl_gcd.f (k : Nat) (a0 : Int) (a1 : Int) : Option (Int) := impl_gcd.l0 k a0 a1
set_option maxHeartbeats 8000000 in
set_option maxRecDepth 100000 in
theorem impl_gcd.calls (k : Nat) (a0 : Int) (a1 : Int) (r : Int) (w : World) (h : impl_gcd.f k a0 a1 = some r) :
  Calls Try.prog 93 #[.int .i64 a0, .int .i64 a1] w fun e w' => e = .returned (.int .i64 r) ∧ Below w.heap.size w w' := by
 have HB := Aside0.mk (Below.refl w.heap.size w)
 have H : (impl_gcd.l0 k a0 a1) = some r := h
 clear h
 have H' := Aside0.mk H
 clear H
 go_enter Try.func93, Try.ntmps93
 go_wp2
 repeat (go_quiet (fail); try go_wp2)
 go_loopg [0, 1] k (fun kq v0 v1 w' => ∃ (x0_1 : Int) (x1_1 : Int), v0 = .int .i64 x0_1 ∧ v1 = .int .i64 x1_1 ∧ Aside0 (impl_gcd.l0 kq x0_1 x1_1 = some r) ∧ Aside0 (kq ≤ k) ∧ Aside0 (Below w.heap.size w w'))
 case atStart => exact ⟨(a0), (a1), (by first | rfl | (simp; done) | (simp [*]; done)), (by first | rfl | (simp; done) | (simp [*]; done)), H', ⟨Nat.le_refl _⟩, ⟨lb0_ HB.out⟩⟩
 case round =>
  clear H'
  try clear p2
  obtain ⟨x0_1, x1_1, rfl, rfl, HA, HK1, HB⟩ := hrel
  cases gk with
  | zero => exact absurd HA.out (by simp [impl_gcd.l0])
  | succ k1 =>
   have H := HA.out
   clear HA
   simp only [impl_gcd.l0] at H
   by_cases c3 : x1_1 = 0
   ·
    rw [if_pos c3] at H
    have c3b0 : (x1_1 == 0) = true := beq_iff_eq.mpr c3
    have c3b1 : (x1_1 != 0) = false := bne_eq_false_iff_eq.mpr c3
    clear c3
    replace H := Option.bind_eq_some_iff.mp H
    obtain ⟨t165, A40, H⟩ := H
    replace H : (some t165) = some r := H
    have A4 := Aside0.mk A40
    clear A40
    obtain rfl := Option.some.inj H
    go_wp2_with (first | (go_at_call 98; (with_reducible refine (impl_absolute.calls x0_1 t165 _ A4.out).mono ?_); rintro e w5 ⟨rfl, hb⟩; replace HB := Aside0.mk (below_step (lb0_ HB.out) hb); (try clear hb); (try clear hb2); (try clear hk); (try clear hi)))
    repeat (go_quiet (first | (go_at_call 98; (with_reducible refine (impl_absolute.calls x0_1 t165 _ A4.out).mono ?_); rintro e w5 ⟨rfl, hb⟩; replace HB := Aside0.mk (below_step (lb0_ HB.out) hb); (try clear hb); (try clear hb2); (try clear hk); (try clear hi))); try go_wp2_with (first | (go_at_call 98; (with_reducible refine (impl_absolute.calls x0_1 t165 _ A4.out).mono ?_); rintro e w5 ⟨rfl, hb⟩; replace HB := Aside0.mk (below_step (lb0_ HB.out) hb); (try clear hb); (try clear hb2); (try clear hk); (try clear hi))))
    go_ret
    exact ⟨rr_, lb0_ HB.out⟩
   ·
    rw [if_neg c3] at H
    have c3b0 : (x1_1 == 0) = false := beq_eq_false_iff_ne.mpr c3
    have c3b1 : (x1_1 != 0) = true := bne_iff_ne.mpr c3
    have H' := Aside0.mk H
    clear H
    go_wp2
    repeat (go_quiet (fail); try go_wp2)
    go_roundg k1
    case measure => have := HK1.out; omega
    case rel => exact ⟨(x1_1), (Int.tmod x0_1 x1_1), (by first | rfl | (simp; done) | (simp [*]; done)), (by first | rfl | (simp; done) | (simp [*]; done)), H', ⟨by have := HK1.out; omega⟩, ⟨lb0_ HB.out⟩⟩
def impl_reduced.f (k : Nat) (a0 : Int) (a1 : Int) : Option (Int × Int) := (impl_gcd.f k a0 a1).bind fun t166 => (if t166 = 0 then (none) else (some (wrap64 (Int.tdiv a0 t166), wrap64 (Int.tdiv a1 t166))))
set_option maxHeartbeats 8000000 in
set_option maxRecDepth 100000 in
theorem impl_reduced.calls (k : Nat) (a0 : Int) (a1 : Int) (r1 : Int) (r2 : Int) (w : World) (h : impl_reduced.f k a0 a1 = some (r1, r2)) :
  Calls Try.prog 71 #[.int .i64 a0, .int .i64 a1] w fun e w' => e = .returned (.tuple #[.int .i64 r1, .int .i64 r2]) ∧ Below w.heap.size w w' := by
 have HB := Aside0.mk (Below.refl w.heap.size w)
 have H : ((impl_gcd.f k a0 a1).bind fun t166 => (if t166 = 0 then (none) else (some (wrap64 (Int.tdiv a0 t166), wrap64 (Int.tdiv a1 t166))))) = some (r1, r2) := h
 clear h
 replace H := Option.bind_eq_some_iff.mp H
 obtain ⟨t166, A30, H⟩ := H
 replace H : (if t166 = 0 then (none) else (some (wrap64 (Int.tdiv a0 t166), wrap64 (Int.tdiv a1 t166)))) = some (r1, r2) := H
 have A3 := Aside0.mk A30
 clear A30
 by_cases c4 : t166 = 0
 ·
  rw [if_pos c4] at H
  exact absurd H (by simp)
 ·
  rw [if_neg c4] at H
  have c4b0 : (t166 == 0) = false := beq_eq_false_iff_ne.mpr c4
  have c4b1 : (t166 != 0) = true := bne_iff_ne.mpr c4
  simp only [Option.some.injEq, Prod.mk.injEq] at H
  obtain ⟨rfl, rfl⟩ := H
  go_enter Try.func71, Try.ntmps71
  go_wp2_with (first | (go_at_call 93; (with_reducible refine (impl_gcd.calls k a0 a1 t166 _ A3.out).mono ?_); rintro e w5 ⟨rfl, hb⟩; replace HB := Aside0.mk (below_step (lb0_ HB.out) hb); (try clear hb); (try clear hb2); (try clear hk); (try clear hi)))
  repeat (go_quiet (first | (go_at_call 93; (with_reducible refine (impl_gcd.calls k a0 a1 t166 _ A3.out).mono ?_); rintro e w5 ⟨rfl, hb⟩; replace HB := Aside0.mk (below_step (lb0_ HB.out) hb); (try clear hb); (try clear hb2); (try clear hk); (try clear hi))); try go_wp2_with (first | (go_at_call 93; (with_reducible refine (impl_gcd.calls k a0 a1 t166 _ A3.out).mono ?_); rintro e w5 ⟨rfl, hb⟩; replace HB := Aside0.mk (below_step (lb0_ HB.out) hb); (try clear hb); (try clear hb2); (try clear hk); (try clear hi))))
  go_ret2
  exact ⟨rr_, lb0_ HB.out⟩
def impl_levelIn.l0 : Nat → List (S54) → Int → Int → Option (Int × Int)
 | 0, _, _, _ => none
 | k + 1, x0, x1, x5 => if (wrap64 (x5 + 1)) < (x0.length : Int) then (if 0 ≤ (wrap64 (x5 + 1)) then (if ((rd_T54 x0 (wrap64 (x5 + 1))).f0) ≤ x1 then (impl_levelIn.l0 k x0 x1 (wrap64 (x5 + 1))) else (if 0 ≤ x5 then (if x5 < (x0.length : Int) then (if ((rd_T54 x0 x5).f0) = x1 then (some ((rd_T54 x0 x5).f1, 1)) else ((impl_reduced.f k (wrap64 ((wrap64 (((rd_T54 x0 x5).f1) * (wrap64 (((rd_T54 x0 (wrap64 (x5 + 1))).f0) - x1)))) + (wrap64 (((rd_T54 x0 (wrap64 (x5 + 1))).f1) * (wrap64 (x1 - ((rd_T54 x0 x5).f0))))))) (wrap64 (((rd_T54 x0 (wrap64 (x5 + 1))).f0) - ((rd_T54 x0 x5).f0)))).bind fun bt173 => (some (bt173.1, bt173.2)))) else (none)) else (none))) else (none)) else (if 0 ≤ x5 then (if x5 < (x0.length : Int) then (if ((rd_T54 x0 x5).f0) = x1 then (some ((rd_T54 x0 x5).f1, 1)) else (if 0 ≤ (wrap64 (x5 + 1)) then (none) else (none))) else (none)) else (none))
def impl_levelIn.f (k : Nat) (l0 : List (S54)) (a1 : Int) : Option (Int × Int) := impl_levelIn.l0 k l0 a1 0
set_option maxHeartbeats 8000000 in
set_option maxRecDepth 100000 in
theorem impl_levelIn.calls (k : Nat) (A0 : Option Addr) (c0 : Nat) (l0 : List (S54)) (a1 : Int) (r1 : Int) (r2 : Int) (w : World) (hr0 : Kd.C k54 w A0 l0.length l0) (hc0 : l0.length ≤ c0) (h : impl_levelIn.f k l0 a1 = some (r1, r2)) :
  Calls Try.prog 69 #[.slice A0 l0.length c0, .int .i64 a1] w fun e w' => e = .returned (.agg #[.int .i64 r1, .int .i64 r2]) ∧ Below w.heap.size w w' := by
 have hu94 := Try.underlying94
 have hu54 := Try.underlying54
 have HR0 := Aside0.mk hr0
 have HC0 := Aside0.mk hc0
 clear hr0 hc0
 have HB := Aside0.mk (Below.refl w.heap.size w)
 have H : (impl_levelIn.l0 k l0 a1 0) = some (r1, r2) := h
 clear h
 have H' := Aside0.mk H
 clear H
 go_enter Try.func69, Try.ntmps69
 go_wp2_with (first | ((with_reducible refine gate_dst (N := 4) rfl ?_); refine box_event ?hg (N := 4) ?hd (cs := #[.int .i64 0, .int .i64 0]) (t := 94) ?hr ?_; (case hd => rfl); (case hg => rfl); (case hr => first | (go_simp; done) | (go_simp; rfl)); intro gb167 hg w3 hbox hb; have BK167 := Aside0.mk (hbox); have GW167 := Aside0.mk ((bz_ hg (lb0_ HB.out))); have GE167 := Aside0.mk ((bz_ hg (lb0_ HB.out))); replace HB := Aside0.mk (below_step (lb0_ HB.out) hb); clear hb hbox hg))
 go_loopg [5] k (fun kq v5 w' => ∃ (x5_1 : Int), v5 = .int .i64 x5_1 ∧ Aside0 (impl_levelIn.l0 kq l0 a1 x5_1 = some (r1, r2)) ∧ Aside0 (kq ≤ k) ∧ Aside0 (w'.heap[gb167]? = some (.cells #[.int .i64 0, .int .i64 0] 94 (0, 0))) ∧ Aside0 (Below w.heap.size w w'))
 case atStart => exact ⟨(0), (by first | rfl | (simp; done) | (simp [*]; done)), H', ⟨Nat.le_refl _⟩, ⟨bk_ BK167.out⟩, ⟨lb1_ HB.out GE167.out⟩⟩
 case round =>
  clear H'
  try clear p2
  obtain ⟨x5_1, rfl, HA, HK1, BK167, HB⟩ := hrel
  cases gk with
  | zero => exact absurd HA.out (by simp [impl_levelIn.l0])
  | succ k1 =>
   have H := HA.out
   clear HA
   simp only [impl_levelIn.l0] at H
   by_cases c4 : (wrap64 (x5_1 + 1)) < (l0.length : Int)
   ·
    rw [if_pos c4] at H
    have c4b0 : decide ((wrap64 (x5_1 + 1)) < (l0.length : Int)) = true := decide_eq_true c4
    clear c4
    obtain ⟨ji5, hji5⟩ : ∃ j_ : Int, (wrap64 (x5_1 + 1)) = j_ := ⟨_, rfl⟩
    replace H : (if 0 ≤ (ji5) then (if ((rd_T54 l0 (ji5)).f0) ≤ a1 then (impl_levelIn.l0 k1 l0 a1 ji5) else (if 0 ≤ x5_1 then (if x5_1 < (l0.length : Int) then (if ((rd_T54 l0 x5_1).f0) = a1 then (some ((rd_T54 l0 x5_1).f1, 1)) else ((impl_reduced.f k1 (wrap64 ((wrap64 (((rd_T54 l0 x5_1).f1) * (wrap64 (((rd_T54 l0 (ji5)).f0) - a1)))) + (wrap64 (((rd_T54 l0 (ji5)).f1) * (wrap64 (a1 - ((rd_T54 l0 x5_1).f0))))))) (wrap64 (((rd_T54 l0 (ji5)).f0) - ((rd_T54 l0 x5_1).f0)))).bind fun bt173 => (some (bt173.1, bt173.2)))) else (none)) else (none))) else (none)) = some (r1, r2) := by first | (rw [hji5] at H; exact H) | (simp only [hji5] at H ⊢; exact H)
    (try rw [hji5] at c4b0)
    have hji5w : (IntKind.i64.wrap (x5_1 + 1)) = ji5 := (i64_w _).trans hji5
    by_cases c6 : 0 ≤ (ji5)
    ·
     rw [if_pos c6] at H
     have c6b0 : decide (0 ≤ (ji5)) = true := decide_eq_true c6
     clear c6
     by_cases c7 : ((rd_T54 l0 (ji5)).f0) ≤ a1
     ·
      rw [if_pos c7] at H
      have c7b0 : decide (((rd_T54 l0 (ji5)).f0) ≤ a1) = true := decide_eq_true c7
      clear c7
      have H' := Aside0.mk H
      clear H
      have p168 : 0 ≤ ((ji5) : Int) := dt_
      have q168 : (ji5) < (l0.length : Int) := dt_
      obtain ⟨ad168, e168, hx168_0, hx168_1⟩ := at_T54 HR0.out (ji5) p168 q168
      cases e168
      replace hx168_0 := bc_ HB.out hx168_0
      replace hx168_1 := bc_ HB.out hx168_1
      replace p168 := eq_true p168
      replace q168 := eq_true q168
      go_wp2
      go_roundg k1
      case measure => have := HK1.out; omega
      case rel => exact ⟨(ji5), (by first | rfl | (simp; done) | (simp only [← hji5] <;> (first | rfl | simp)) | (simp [*]; done)), H', ⟨by have := HK1.out; omega⟩, ⟨bk_ BK167.out⟩, ⟨lb1_ HB.out GE167.out⟩⟩
     ·
      rw [if_neg c7] at H
      have c7b0 : decide (((rd_T54 l0 (ji5)).f0) ≤ a1) = false := decide_eq_false c7
      clear c7
      by_cases c8 : 0 ≤ x5_1
      ·
       rw [if_pos c8] at H
       have c8b0 : decide (0 ≤ x5_1) = true := decide_eq_true c8
       clear c8
       by_cases c9 : x5_1 < (l0.length : Int)
       ·
        rw [if_pos c9] at H
        have c9b0 : decide (x5_1 < (l0.length : Int)) = true := decide_eq_true c9; clear c9
        by_cases c10 : ((rd_T54 l0 x5_1).f0) = a1
        ·
         rw [if_pos c10] at H
         have c10b0 : (((rd_T54 l0 x5_1).f0) == a1) = true := beq_iff_eq.mpr c10; have c10b1 : (((rd_T54 l0 x5_1).f0) != a1) = false := bne_eq_false_iff_eq.mpr c10; clear c10; simp only [Option.some.injEq, Prod.mk.injEq] at H; obtain ⟨rfl, rfl⟩ := H; have p168 : 0 ≤ ((ji5) : Int) := dt_; have q168 : (ji5) < (l0.length : Int) := dt_; obtain ⟨ad168, e168, hx168_0, hx168_1⟩ := at_T54 HR0.out (ji5) p168 q168
         cases e168
         replace hx168_0 := bc_ HB.out hx168_0; replace hx168_1 := bc_ HB.out hx168_1; replace p168 := eq_true p168; replace q168 := eq_true q168; have p169 : 0 ≤ (x5_1 : Int) := dt_; have q169 : x5_1 < (l0.length : Int) := dt_; obtain ⟨ad169, e169, hx169_0, hx169_1⟩ := at_T54 HR0.out x5_1 p169 q169
         obtain rfl : ad168 = ad169 := (by injection e169)
         replace hx169_0 := bc_ HB.out hx169_0; replace hx169_1 := bc_ HB.out hx169_1; replace p169 := eq_true p169; replace q169 := eq_true q169
         go_wp2_with (first | ((with_reducible refine gate_dst (N := 6) rfl ?_); refine box_event ?hg (N := 6) ?hd (cs := #[.int .i64 0, .int .i64 0]) (t := 54) ?hr ?_; (case hd => rfl); (case hg => rfl); (case hr => first | (go_simp; done) | (go_simp; rfl)); intro gb170 hg w11 hbox hb; have BK170 := Aside0.mk (hbox); have GW170 := Aside0.mk ((bz_ hg (lb1_ HB.out GE167.out))); have GE170 := Aside0.mk ((bz_ hg (lb1_ HB.out GE167.out))); replace HB := Aside0.mk (below_step (lb1_ HB.out GE167.out) hb); have NB167_170 := Aside0.mk (nl_ hg BK167.out); have NB170_167 := Aside0.mk (ng_ hg BK167.out); replace BK167 := Aside0.mk (bb_ (bk_ BK167.out) hb); clear hb hbox hg; have hnb12 := NB170_167.out; have hnc12 := NB167_170.out; obtain ⟨hcz13_0, hcz13_1⟩ := cz2_ BK170.out; obtain ⟨hfz13_0, hfz13_1⟩ := fz2_ BK170.out; obtain ⟨hcz14_0, hcz14_1⟩ := cz2_ BK167.out; obtain ⟨hfz14_0, hfz14_1⟩ := fz2_ BK167.out))
         refine bodyPost_ret (results_cell_row rfl _ _ gb167 94 #[.int .i64 ((rd_T54 l0 x5_1).f1), .int .i64 1] (0, 0) _ rfl (by (with_reducible repeat (first | refine blk_drewN ?_ _ | refine blk_drew ?_ | refine blk_alloc ?_ _)); refine blk_put (cs := #[.int .i64 ((rd_T54 l0 x5_1).f1), .int .i64 0]) ?_ 1 _ rfl; (with_reducible repeat (first | refine blk_drewN ?_ _ | refine blk_drew ?_ | refine blk_alloc ?_ _)); refine blk_put (cs := #[.int .i64 0, .int .i64 0]) ?_ 0 _ rfl; (with_reducible repeat (first | refine blk_drewN ?_ _ | refine blk_drew ?_ | refine blk_alloc ?_ _)); refine blk_far ?_ NB167_170.out _; (with_reducible repeat (first | refine blk_drewN ?_ _ | refine blk_drew ?_ | refine blk_alloc ?_ _)); refine blk_far ?_ NB167_170.out _; (with_reducible repeat (first | refine blk_drewN ?_ _ | refine blk_drew ?_ | refine blk_alloc ?_ _)); exact BK167.out) Try.underlying94 rfl (by kernel_rfl)) rfl ?_; exact ⟨by first | rfl | (simp [errW_none, errW_some] <;> rfl) | (simp only [← hji5]; first | rfl | (simp [errW_none, errW_some] <;> rfl)) | (simp [*, errW_none, errW_some] <;> rfl), lb2_ HB.out GE167.out GE170.out⟩
        ·
         rw [if_neg c10] at H
         have c10b0 : (((rd_T54 l0 x5_1).f0) == a1) = false := beq_eq_false_iff_ne.mpr c10; have c10b1 : (((rd_T54 l0 x5_1).f0) != a1) = true := bne_iff_ne.mpr c10; replace H := Option.bind_eq_some_iff.mp H; obtain ⟨⟨t173, t174⟩, A150, H⟩ := H; replace H : (some (t173, t174)) = some (r1, r2) := H; have A15 := Aside0.mk A150; clear A150; simp only [Option.some.injEq, Prod.mk.injEq] at H; obtain ⟨rfl, rfl⟩ := H; have p168 : 0 ≤ ((ji5) : Int) := dt_; have q168 : (ji5) < (l0.length : Int) := dt_; obtain ⟨ad168, e168, hx168_0, hx168_1⟩ := at_T54 HR0.out (ji5) p168 q168
         cases e168
         replace hx168_0 := bc_ HB.out hx168_0; replace hx168_1 := bc_ HB.out hx168_1; replace p168 := eq_true p168; replace q168 := eq_true q168; have p169 : 0 ≤ (x5_1 : Int) := dt_; have q169 : x5_1 < (l0.length : Int) := dt_; obtain ⟨ad169, e169, hx169_0, hx169_1⟩ := at_T54 HR0.out x5_1 p169 q169
         obtain rfl : ad168 = ad169 := (by injection e169)
         replace hx169_0 := bc_ HB.out hx169_0; replace hx169_1 := bc_ HB.out hx169_1; replace p169 := eq_true p169; replace q169 := eq_true q169
         go_wp2_with (first | ((with_reducible refine gate_dst (N := 6) rfl ?_); refine box_event ?hg (N := 6) ?hd (cs := #[.int .i64 0, .int .i64 0]) (t := 54) ?hr ?_; (case hd => rfl); (case hg => rfl); (case hr => first | (go_simp; done) | (go_simp; rfl)); intro gb170 hg w16 hbox hb; have BK170 := Aside0.mk (hbox); have GW170 := Aside0.mk ((bz_ hg (lb1_ HB.out GE167.out))); have GE170 := Aside0.mk ((bz_ hg (lb1_ HB.out GE167.out))); replace HB := Aside0.mk (below_step (lb1_ HB.out GE167.out) hb); have NB167_170 := Aside0.mk (nl_ hg BK167.out); have NB170_167 := Aside0.mk (ng_ hg BK167.out); replace BK167 := Aside0.mk (bb_ (bk_ BK167.out) hb); clear hb hbox hg; have hnb17 := NB170_167.out; have hnc17 := NB167_170.out; obtain ⟨hcz18_0, hcz18_1⟩ := cz2_ BK170.out; obtain ⟨hfz18_0, hfz18_1⟩ := fz2_ BK170.out; have p171 : 0 ≤ ((ji5) : Int) := dt_; have q171 : (ji5) < (l0.length : Int) := dt_; obtain ⟨ad171, e171, hx171_0, hx171_1⟩ := at_T54 HR0.out (ji5) p171 q171; obtain rfl : ad168 = ad171 := (by injection e171); have hn171_0 : ad168.block ≠ gb170 := Nat.ne_of_lt (Nat.lt_of_lt_of_le (by have := World.block_lt_of_cell? _ _ hx171_0; first | rwa [add_block] at this | exact this) GW170.out); have hn171_1 : ad168.block ≠ gb170 := Nat.ne_of_lt (Nat.lt_of_lt_of_le (by have := World.block_lt_of_cell? _ _ hx171_0; first | rwa [add_block] at this | exact this) GW170.out); replace hx171_0 := bc_ HB.out hx171_0; replace hx171_1 := bc_ HB.out hx171_1; replace hx171_0 := (cell_far (p := ⟨gb170, 0, none⟩) (by first | (rw [add_block]; exact hn171_0) | (show (Addr.add _ _).block ≠ _; rw [add_block]; exact hn171_0) | exact hn171_0) (.int .i64 ((rd_T54 l0 x5_1).f0))).trans hx171_0; replace hx171_1 := (cell_far (p := ⟨gb170, 0, none⟩) (by first | (rw [add_block]; exact hn171_0) | (show (Addr.add _ _).block ≠ _; rw [add_block]; exact hn171_0) | exact hn171_0) (.int .i64 ((rd_T54 l0 x5_1).f0))).trans hx171_1; replace hx171_0 := (cell_far (p := ⟨gb170, 1, none⟩) (by first | (rw [add_block]; exact hn171_1) | (show (Addr.add _ _).block ≠ _; rw [add_block]; exact hn171_1) | exact hn171_1) (.int .i64 ((rd_T54 l0 x5_1).f1))).trans hx171_0; replace hx171_1 := (cell_far (p := ⟨gb170, 1, none⟩) (by first | (rw [add_block]; exact hn171_1) | (show (Addr.add _ _).block ≠ _; rw [add_block]; exact hn171_1) | exact hn171_1) (.int .i64 ((rd_T54 l0 x5_1).f1))).trans hx171_1; clear hn171_0; clear hn171_1; replace p171 := eq_true p171; replace q171 := eq_true q171) | ((with_reducible refine gate_dst (N := 7) rfl ?_); refine box_event ?hg (N := 7) ?hd (cs := #[.int .i64 0, .int .i64 0]) (t := 54) ?hr ?_; (case hd => rfl); (case hg => rfl); (case hr => first | (go_simp; done) | (go_simp; rfl)); intro gb172 hg w19 hbox hb; have BK172 := Aside0.mk (hbox); have GW172 := Aside0.mk ((bz_ hg (lb2_ HB.out GE167.out GE170.out))); have GE172 := Aside0.mk ((bz_ hg (lb2_ HB.out GE167.out GE170.out))); replace HB := Aside0.mk (below_step (lb2_ HB.out GE167.out GE170.out) hb); have NB167_172 := Aside0.mk ((by rw [hg]; exact Nat.ne_of_lt (blk_lt (g := gb167) (o := .cells #[.int .i64 0, .int .i64 0] 94 (0, 0)) (by (with_reducible repeat (first | refine blk_drewN ?_ _ | refine blk_drew ?_ | refine blk_alloc ?_ _)); exact (f2_ BK167.out NB167_170.out _ _))) : gb167 ≠ gb172)); have NB172_167 := Aside0.mk ((by rw [hg]; exact Nat.ne_of_gt (blk_lt (g := gb167) (o := .cells #[.int .i64 0, .int .i64 0] 94 (0, 0)) (by (with_reducible repeat (first | refine blk_drewN ?_ _ | refine blk_drew ?_ | refine blk_alloc ?_ _)); exact (f2_ BK167.out NB167_170.out _ _))) : gb172 ≠ gb167)); replace BK167 := Aside0.mk (blk_below (g := gb167) (o := .cells #[.int .i64 0, .int .i64 0] 94 (0, 0)) (by (with_reducible repeat (first | refine blk_drewN ?_ _ | refine blk_drew ?_ | refine blk_alloc ?_ _)); exact (f2_ BK167.out NB167_170.out _ _)) hb); have NB170_172 := Aside0.mk ((by rw [hg]; exact Nat.ne_of_lt (blk_lt (g := gb170) (o := .cells #[.int .i64 ((rd_T54 l0 x5_1).f0), .int .i64 ((rd_T54 l0 x5_1).f1)] 54 (0, 0)) (by (with_reducible repeat (first | refine blk_drewN ?_ _ | refine blk_drew ?_ | refine blk_alloc ?_ _)); exact (p2_ BK170.out _ _))) : gb170 ≠ gb172)); have NB172_170 := Aside0.mk ((by rw [hg]; exact Nat.ne_of_gt (blk_lt (g := gb170) (o := .cells #[.int .i64 ((rd_T54 l0 x5_1).f0), .int .i64 ((rd_T54 l0 x5_1).f1)] 54 (0, 0)) (by (with_reducible repeat (first | refine blk_drewN ?_ _ | refine blk_drew ?_ | refine blk_alloc ?_ _)); exact (p2_ BK170.out _ _))) : gb172 ≠ gb170)); replace BK170 := Aside0.mk (blk_below (g := gb170) (o := .cells #[.int .i64 ((rd_T54 l0 x5_1).f0), .int .i64 ((rd_T54 l0 x5_1).f1)] 54 (0, 0)) (by (with_reducible repeat (first | refine blk_drewN ?_ _ | refine blk_drew ?_ | refine blk_alloc ?_ _)); exact (p2_ BK170.out _ _)) hb); clear hb hbox hg; have hnb20 := NB172_167.out; have hnc20 := NB167_172.out; have hnb21 := NB172_170.out; have hnc21 := NB170_172.out; obtain ⟨hcz22_0, hcz22_1⟩ := cz2_ BK172.out; obtain ⟨hfz22_0, hfz22_1⟩ := fz2_ BK172.out; obtain ⟨hcz23_0, hcz23_1⟩ := cz2_ BK170.out; obtain ⟨hfz23_0, hfz23_1⟩ := fz2_ BK170.out) | ((with_reducible refine gate_callee (f := 71) rfl ?_); refine goesL_ (some 64) rfl rfl Try.func71 (by kernel_rfl) rfl #[.int .i64 (wrap64 ((wrap64 (((rd_T54 l0 x5_1).f1) * (wrap64 (((rd_T54 l0 (ji5)).f0) - a1)))) + (wrap64 (((rd_T54 l0 (ji5)).f1) * (wrap64 (a1 - ((rd_T54 l0 x5_1).f0))))))), .int .i64 (wrap64 (((rd_T54 l0 (ji5)).f0) - ((rd_T54 l0 x5_1).f0)))] rfl (by (try simp only [List.map_toArray, List.map_cons, List.map_nil]); first | done | (simp only [hji5]; rfl) | rfl | (simp only [List.length_drop, List.length_take]; rfl)) ?_; (with_reducible refine (impl_reduced.calls k1 (wrap64 ((wrap64 (((rd_T54 l0 x5_1).f1) * (wrap64 (((rd_T54 l0 (ji5)).f0) - a1)))) + (wrap64 (((rd_T54 l0 (ji5)).f1) * (wrap64 (a1 - ((rd_T54 l0 x5_1).f0))))))) (wrap64 (((rd_T54 l0 (ji5)).f0) - ((rd_T54 l0 x5_1).f0))) t173 t174 _ A15.out).mono ?_); rintro e w24 ⟨rfl, hb⟩; refine ⟨_, rfl, ?_⟩; replace BK167 := Aside0.mk (blk_below (g := gb167) (o := .cells #[.int .i64 0, .int .i64 0] 94 (0, 0)) (by (with_reducible repeat (first | refine blk_drewN ?_ _ | refine blk_drew ?_ | refine blk_alloc ?_ _)); exact (f2_ BK167.out NB167_172.out _ _)) hb); replace BK170 := Aside0.mk (blk_below (g := gb170) (o := .cells #[.int .i64 ((rd_T54 l0 x5_1).f0), .int .i64 ((rd_T54 l0 x5_1).f1)] 54 (0, 0)) (by (with_reducible repeat (first | refine blk_drewN ?_ _ | refine blk_drew ?_ | refine blk_alloc ?_ _)); exact (f2_ BK170.out NB170_172.out _ _)) hb); replace BK172 := Aside0.mk (blk_below (g := gb172) (o := .cells #[.int .i64 ((rd_T54 l0 (ji5)).f0), .int .i64 ((rd_T54 l0 (ji5)).f1)] 54 (0, 0)) (by (with_reducible repeat (first | refine blk_drewN ?_ _ | refine blk_drew ?_ | refine blk_alloc ?_ _)); exact (p2_ BK172.out _ _)) hb); replace HB := Aside0.mk (below_step (lb3_ HB.out GE167.out GE170.out GE172.out) hb); (try clear hb); (try clear hb2); (try clear hk); (try clear hi); obtain ⟨hcz25_0, hcz25_1⟩ := cz2_ BK167.out; obtain ⟨hfz25_0, hfz25_1⟩ := fz2_ BK167.out))
         refine bodyPost_ret (results_cell_row rfl _ _ gb167 94 #[.int .i64 t173, .int .i64 t174] (0, 0) _ rfl (by (with_reducible repeat (first | refine blk_drewN ?_ _ | refine blk_drew ?_ | refine blk_alloc ?_ _)); refine blk_put (cs := #[.int .i64 t173, .int .i64 0]) ?_ 1 _ rfl; (with_reducible repeat (first | refine blk_drewN ?_ _ | refine blk_drew ?_ | refine blk_alloc ?_ _)); refine blk_put (cs := #[.int .i64 0, .int .i64 0]) ?_ 0 _ rfl; (with_reducible repeat (first | refine blk_drewN ?_ _ | refine blk_drew ?_ | refine blk_alloc ?_ _)); exact BK167.out) Try.underlying94 rfl (by kernel_rfl)) rfl ?_; exact ⟨by first | rfl | (simp [errW_none, errW_some] <;> rfl) | (simp only [← hji5]; first | rfl | (simp [errW_none, errW_some] <;> rfl)) | (simp [*, errW_none, errW_some] <;> rfl), lb3_ HB.out GE167.out GE170.out GE172.out⟩
       ·
        rw [if_neg c9] at H
        exact absurd H (by simp)
      ·
       rw [if_neg c8] at H
       exact absurd H (by simp)
    ·
     rw [if_neg c6] at H
     exact absurd H (by simp)
   ·
    rw [if_neg c4] at H
    have c4b0 : decide ((wrap64 (x5_1 + 1)) < (l0.length : Int)) = false := decide_eq_false c4
    clear c4
    by_cases c26 : 0 ≤ x5_1
    ·
     rw [if_pos c26] at H
     have c26b0 : decide (0 ≤ x5_1) = true := decide_eq_true c26
     clear c26
     by_cases c27 : x5_1 < (l0.length : Int)
     ·
      rw [if_pos c27] at H
      have c27b0 : decide (x5_1 < (l0.length : Int)) = true := decide_eq_true c27
      clear c27
      by_cases c28 : ((rd_T54 l0 x5_1).f0) = a1
      ·
       rw [if_pos c28] at H
       have c28b0 : (((rd_T54 l0 x5_1).f0) == a1) = true := beq_iff_eq.mpr c28
       have c28b1 : (((rd_T54 l0 x5_1).f0) != a1) = false := bne_eq_false_iff_eq.mpr c28
       clear c28
       simp only [Option.some.injEq, Prod.mk.injEq] at H
       obtain ⟨rfl, rfl⟩ := H
       have p175 : 0 ≤ (x5_1 : Int) := dt_
       have q175 : x5_1 < (l0.length : Int) := dt_
       obtain ⟨ad175, e175, hx175_0, hx175_1⟩ := at_T54 HR0.out x5_1 p175 q175
       cases e175
       replace hx175_0 := bc_ HB.out hx175_0
       replace hx175_1 := bc_ HB.out hx175_1
       replace p175 := eq_true p175
       replace q175 := eq_true q175
       go_wp2_with (first | ((with_reducible refine gate_dst (N := 6) rfl ?_); refine box_event ?hg (N := 6) ?hd (cs := #[.int .i64 0, .int .i64 0]) (t := 54) ?hr ?_; (case hd => rfl); (case hg => rfl); (case hr => first | (go_simp; done) | (go_simp; rfl)); intro gb176 hg w29 hbox hb; have BK176 := Aside0.mk (hbox); have GW176 := Aside0.mk ((bz_ hg (lb1_ HB.out GE167.out))); have GE176 := Aside0.mk ((bz_ hg (lb1_ HB.out GE167.out))); replace HB := Aside0.mk (below_step (lb1_ HB.out GE167.out) hb); have NB167_176 := Aside0.mk (nl_ hg BK167.out); have NB176_167 := Aside0.mk (ng_ hg BK167.out); replace BK167 := Aside0.mk (bb_ (bk_ BK167.out) hb); clear hb hbox hg; have hnb30 := NB176_167.out; have hnc30 := NB167_176.out; obtain ⟨hcz31_0, hcz31_1⟩ := cz2_ BK176.out; obtain ⟨hfz31_0, hfz31_1⟩ := fz2_ BK176.out; obtain ⟨hcz32_0, hcz32_1⟩ := cz2_ BK167.out; obtain ⟨hfz32_0, hfz32_1⟩ := fz2_ BK167.out))
       refine bodyPost_ret (results_cell_row rfl _ _ gb167 94 #[.int .i64 ((rd_T54 l0 x5_1).f1), .int .i64 1] (0, 0) _ rfl (by (with_reducible repeat (first | refine blk_drewN ?_ _ | refine blk_drew ?_ | refine blk_alloc ?_ _)); refine blk_put (cs := #[.int .i64 ((rd_T54 l0 x5_1).f1), .int .i64 0]) ?_ 1 _ rfl; (with_reducible repeat (first | refine blk_drewN ?_ _ | refine blk_drew ?_ | refine blk_alloc ?_ _)); refine blk_put (cs := #[.int .i64 0, .int .i64 0]) ?_ 0 _ rfl; (with_reducible repeat (first | refine blk_drewN ?_ _ | refine blk_drew ?_ | refine blk_alloc ?_ _)); refine blk_far ?_ NB167_176.out _; (with_reducible repeat (first | refine blk_drewN ?_ _ | refine blk_drew ?_ | refine blk_alloc ?_ _)); refine blk_far ?_ NB167_176.out _; (with_reducible repeat (first | refine blk_drewN ?_ _ | refine blk_drew ?_ | refine blk_alloc ?_ _)); exact BK167.out) Try.underlying94 rfl (by kernel_rfl)) rfl ?_
       exact ⟨rr_, lb2_ HB.out GE167.out GE176.out⟩
      ·
       rw [if_neg c28] at H
       have c28b0 : (((rd_T54 l0 x5_1).f0) == a1) = false := beq_eq_false_iff_ne.mpr c28
       have c28b1 : (((rd_T54 l0 x5_1).f0) != a1) = true := bne_iff_ne.mpr c28
       obtain ⟨ji33, hji33⟩ : ∃ j_ : Int, (wrap64 (x5_1 + 1)) = j_ := ⟨_, rfl⟩
       replace H : (if 0 ≤ (ji33) then (none) else (none)) = some (r1, r2) := by first | (rw [hji33] at H; exact H) | (simp only [hji33] at H ⊢; exact H)
       (try rw [hji33] at c4b0)
       have hji33w : (IntKind.i64.wrap (x5_1 + 1)) = ji33 := (i64_w _).trans hji33
       by_cases c34 : 0 ≤ (ji33)
       ·
        rw [if_pos c34] at H
        exact absurd H (by simp)
       ·
        rw [if_neg c34] at H
        exact absurd H (by simp)
     ·
      rw [if_neg c27] at H
      exact absurd H (by simp)
    ·
     rw [if_neg c26] at H
     exact absurd H (by simp)
def impl_LevelIn.f (k : Nat) (l0 : List (S54)) (a1 : Int) : Option (Int × Int × Bool) := (impl_hasHour.f k l0 a1).bind fun t395 => (if t395 = true then ((impl_levelIn.f k l0 a1).bind fun bt396 => (some (bt396.1, bt396.2, true))) else (some (0, 0, false)))
set_option maxHeartbeats 8000000 in
set_option maxRecDepth 100000 in
theorem impl_LevelIn.calls (k : Nat) (A0 : Option Addr) (c0 : Nat) (l0 : List (S54)) (a1 : Int) (r1 : Int) (r2 : Int) (r3 : Bool) (w : World) (hr0 : Kd.C k54 w A0 l0.length l0) (hc0 : l0.length ≤ c0) (h : impl_LevelIn.f k l0 a1 = some (r1, r2, r3)) :
  Calls Try.prog 28 #[.slice A0 l0.length c0, .int .i64 a1] w fun e w' => e = .returned (.tuple #[.int .i64 r1, .int .i64 r2, .bool r3]) ∧ Below w.heap.size w w' := by
 have hu94 := Try.underlying94
 have HR0 := Aside0.mk hr0
 have HC0 := Aside0.mk hc0
 clear hr0 hc0
 have HB := Aside0.mk (Below.refl w.heap.size w)
 have H : ((impl_hasHour.f k l0 a1).bind fun t395 => (if t395 = true then ((impl_levelIn.f k l0 a1).bind fun bt396 => (some (bt396.1, bt396.2, true))) else (some (0, 0, false)))) = some (r1, r2, r3) := h
 clear h
 replace H := Option.bind_eq_some_iff.mp H
 obtain ⟨t395, A30, H⟩ := H
 replace H : (if t395 = true then ((impl_levelIn.f k l0 a1).bind fun bt396 => (some (bt396.1, bt396.2, true))) else (some (0, 0, false))) = some (r1, r2, r3) := H
 have A3 := Aside0.mk A30
 clear A30
 by_cases c4 : t395 = true
 ·
  subst c4
  have H1 : ((impl_levelIn.f k l0 a1).bind fun bt396 => (some (bt396.1, bt396.2, true))) = some (r1, r2, r3) := by rw [if_pos rfl] at H; exact H
  clear H
  have H := H1
  clear H1
  replace H := Option.bind_eq_some_iff.mp H
  obtain ⟨⟨t396, t397⟩, A50, H⟩ := H
  replace H : (some (t396, t397, true)) = some (r1, r2, r3) := H
  have A5 := Aside0.mk A50
  clear A50
  simp only [Option.some.injEq, Prod.mk.injEq] at H
  obtain ⟨rfl, rfl, rfl⟩ := H
  go_enter Try.func28, Try.ntmps28
  go_wp2_with (first | (go_at_call 58; (with_reducible refine (impl_hasHour.calls k _ _ l0 a1 true _ ?side1 ?side2 A3.out).mono ?_); (case side1 => exact kc_ HR0.out); (case side2 => exact HC0.out); rintro e w6 ⟨rfl, hb⟩; replace HB := Aside0.mk (below_step (lb0_ HB.out) hb); (try clear hb); (try clear hb2); (try clear hk); (try clear hi)) | (go_at_call 69; (with_reducible refine (impl_levelIn.calls k _ _ l0 a1 t396 t397 _ ?side1 ?side2 A5.out).mono ?_); (case side1 => exact kc_ (Kd.C_below HR0.out HB.out)); (case side2 => exact HC0.out); rintro e w7 ⟨rfl, hb⟩; replace HB := Aside0.mk (below_step (lb0_ HB.out) hb); (try clear hb); (try clear hb2); (try clear hk); (try clear hi)) | ((with_reducible refine gate_dst (N := 7) rfl ?_); refine box_event ?hg (N := 7) ?hd (cs := #[.int .i64 0, .int .i64 0]) (t := 94) ?hr ?_; (case hd => rfl); (case hg => rfl); (case hr => first | (go_simp; done) | (go_simp; rfl)); intro gb398 hg w8 hbox hb; have BK398 := Aside0.mk (hbox); have GW398 := Aside0.mk ((bz_ hg (lb0_ HB.out))); have GE398 := Aside0.mk ((bz_ hg (lb0_ HB.out))); replace HB := Aside0.mk (below_step (lb0_ HB.out) hb); clear hb hbox hg; obtain ⟨hcz9_0, hcz9_1⟩ := cz2_ BK398.out; obtain ⟨hfz9_0, hfz9_1⟩ := fz2_ BK398.out))
  repeat (go_quiet (first | (go_at_call 58; (with_reducible refine (impl_hasHour.calls k _ _ l0 a1 true _ ?side1 ?side2 A3.out).mono ?_); (case side1 => exact kc_ HR0.out); (case side2 => exact HC0.out); rintro e w6 ⟨rfl, hb⟩; replace HB := Aside0.mk (below_step (lb0_ HB.out) hb); (try clear hb); (try clear hb2); (try clear hk); (try clear hi)) | (go_at_call 69; (with_reducible refine (impl_levelIn.calls k _ _ l0 a1 t396 t397 _ ?side1 ?side2 A5.out).mono ?_); (case side1 => exact kc_ (Kd.C_below HR0.out HB.out)); (case side2 => exact HC0.out); rintro e w7 ⟨rfl, hb⟩; replace HB := Aside0.mk (below_step (lb0_ HB.out) hb); (try clear hb); (try clear hb2); (try clear hk); (try clear hi)) | ((with_reducible refine gate_dst (N := 7) rfl ?_); refine box_event ?hg (N := 7) ?hd (cs := #[.int .i64 0, .int .i64 0]) (t := 94) ?hr ?_; (case hd => rfl); (case hg => rfl); (case hr => first | (go_simp; done) | (go_simp; rfl)); intro gb398 hg w8 hbox hb; have BK398 := Aside0.mk (hbox); have GW398 := Aside0.mk ((bz_ hg (lb0_ HB.out))); have GE398 := Aside0.mk ((bz_ hg (lb0_ HB.out))); replace HB := Aside0.mk (below_step (lb0_ HB.out) hb); clear hb hbox hg; obtain ⟨hcz9_0, hcz9_1⟩ := cz2_ BK398.out; obtain ⟨hfz9_0, hfz9_1⟩ := fz2_ BK398.out)); try go_wp2_with (first | (go_at_call 58; (with_reducible refine (impl_hasHour.calls k _ _ l0 a1 true _ ?side1 ?side2 A3.out).mono ?_); (case side1 => exact kc_ HR0.out); (case side2 => exact HC0.out); rintro e w6 ⟨rfl, hb⟩; replace HB := Aside0.mk (below_step (lb0_ HB.out) hb); (try clear hb); (try clear hb2); (try clear hk); (try clear hi)) | (go_at_call 69; (with_reducible refine (impl_levelIn.calls k _ _ l0 a1 t396 t397 _ ?side1 ?side2 A5.out).mono ?_); (case side1 => exact kc_ (Kd.C_below HR0.out HB.out)); (case side2 => exact HC0.out); rintro e w7 ⟨rfl, hb⟩; replace HB := Aside0.mk (below_step (lb0_ HB.out) hb); (try clear hb); (try clear hb2); (try clear hk); (try clear hi)) | ((with_reducible refine gate_dst (N := 7) rfl ?_); refine box_event ?hg (N := 7) ?hd (cs := #[.int .i64 0, .int .i64 0]) (t := 94) ?hr ?_; (case hd => rfl); (case hg => rfl); (case hr => first | (go_simp; done) | (go_simp; rfl)); intro gb398 hg w8 hbox hb; have BK398 := Aside0.mk (hbox); have GW398 := Aside0.mk ((bz_ hg (lb0_ HB.out))); have GE398 := Aside0.mk ((bz_ hg (lb0_ HB.out))); replace HB := Aside0.mk (below_step (lb0_ HB.out) hb); clear hb hbox hg; obtain ⟨hcz9_0, hcz9_1⟩ := cz2_ BK398.out; obtain ⟨hfz9_0, hfz9_1⟩ := fz2_ BK398.out)))
  go_ret3
  exact ⟨rr_, lb1_ HB.out GE398.out⟩
 ·
  replace c4 := Bool.eq_false_iff.mpr c4
  subst c4
  have H1 : (some (0, 0, false)) = some (r1, r2, r3) := by rw [if_neg (show ¬ (false = true) by decide)] at H; exact H
  clear H
  have H := H1
  clear H1
  simp only [Option.some.injEq, Prod.mk.injEq] at H
  obtain ⟨rfl, rfl, rfl⟩ := H
  go_enter Try.func28, Try.ntmps28
  go_wp2_with (first | (go_at_call 58; (with_reducible refine (impl_hasHour.calls k _ _ l0 a1 false _ ?side1 ?side2 A3.out).mono ?_); (case side1 => exact kc_ HR0.out); (case side2 => exact HC0.out); rintro e w10 ⟨rfl, hb⟩; replace HB := Aside0.mk (below_step (lb0_ HB.out) hb); (try clear hb); (try clear hb2); (try clear hk); (try clear hi)))
  repeat (go_quiet (first | (go_at_call 58; (with_reducible refine (impl_hasHour.calls k _ _ l0 a1 false _ ?side1 ?side2 A3.out).mono ?_); (case side1 => exact kc_ HR0.out); (case side2 => exact HC0.out); rintro e w10 ⟨rfl, hb⟩; replace HB := Aside0.mk (below_step (lb0_ HB.out) hb); (try clear hb); (try clear hb2); (try clear hk); (try clear hi))); try go_wp2_with (first | (go_at_call 58; (with_reducible refine (impl_hasHour.calls k _ _ l0 a1 false _ ?side1 ?side2 A3.out).mono ?_); (case side1 => exact kc_ HR0.out); (case side2 => exact HC0.out); rintro e w10 ⟨rfl, hb⟩; replace HB := Aside0.mk (below_step (lb0_ HB.out) hb); (try clear hb); (try clear hb2); (try clear hk); (try clear hi))))
  go_ret3
  exact ⟨rr_, lb0_ HB.out⟩
def spec_l1In.f (a0 : Int) (a1 : Int) (a2 : Int) : Option (Bool) := if a0 ≥ a1 then (some (decide (a0 ≤ a2))) else (some false)
set_option maxHeartbeats 8000000 in
set_option maxRecDepth 100000 in
theorem spec_l1In.calls (a0 : Int) (a1 : Int) (a2 : Int) (r : Bool) (w : World) (h : spec_l1In.f a0 a1 a2 = some r) :
  Calls Try.prog 79 #[.int .i64 a0, .int .i64 a1, .int .i64 a2] w fun e w' => e = .returned (.bool r) ∧ Drawn0 w w' := by
 have H : (if a0 ≥ a1 then (some (decide (a0 ≤ a2))) else (some false)) = some r := h
 clear h
 by_cases c4 : a0 ≥ a1
 ·
  rw [if_pos c4] at H
  have c4b0 : decide (a1 ≤ a0) = true := decide_eq_true c4
  clear c4
  obtain rfl := Option.some.inj H
  go_enter Try.func79, Try.ntmps79
  go_wp2
  go_ret
  exact ⟨by first | rfl | (simp; done) | (simp [*]; done), by repeat (first | exact Drawn0.refl _ | apply Drawn0.step)⟩
 ·
  rw [if_neg c4] at H
  have c4b0 : decide (a1 ≤ a0) = false := decide_eq_false c4
  clear c4
  obtain rfl := Option.some.inj H
  go_enter Try.func79, Try.ntmps79
  go_wp2
  go_ret
  exact ⟨by first | rfl | (simp; done) | (simp [*]; done), by repeat (first | exact Drawn0.refl _ | apply Drawn0.step)⟩
def spec_l23Level.f (a0 : Int) : Option (Bool) := (spec_l1In.f a0 (-500) 500).bind fun t101 => (some t101)
set_option maxHeartbeats 8000000 in
set_option maxRecDepth 100000 in
theorem spec_l23Level.calls (a0 : Int) (r : Bool) (w : World) (h : spec_l23Level.f a0 = some r) :
  Calls Try.prog 89 #[.int .i64 a0] w fun e w' => e = .returned (.bool r) ∧ Drawn0 w w' := by
 have H : ((spec_l1In.f a0 (-500) 500).bind fun t101 => (some t101)) = some r := h
 clear h
 replace H := Option.bind_eq_some_iff.mp H
 obtain ⟨t101, A20, H⟩ := H
 replace H : (some t101) = some r := H
 have A2 := Aside0.mk A20
 clear A20
 obtain rfl := Option.some.inj H
 go_enter Try.func89, Try.ntmps89
 go_wp2_with (first | ((with_reducible refine gate_callee (f := 79) rfl ?_); refine ga_ (some 4) Try.func79 #[.int .i64 a0, .int .i64 (-500), .int .i64 500] ?_; (with_reducible refine (spec_l1In.calls a0 (-500) 500 t101 _ A2.out).mono ?_); rintro e w' ⟨rfl, ⟨nd, rfl⟩⟩; refine ⟨_, rfl, ?_⟩))
 go_ret
 exact ⟨by first | rfl | (simp; done) | (simp [*]; done), by repeat (first | exact Drawn0.refl _ | apply Drawn0.step)⟩
end Go.Proofs.Ytojaeidabmfajaa.Pr

