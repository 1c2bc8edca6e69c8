/-
What is proved: parts of the law FnSumps: what the functions that it reaches compute, and the plain law.
Conditions: those of each theorem.
-/
import Derived.ArgAppend
import Derived.Below
import Derived.BigQuiet
import Derived.Deep.AppendLies
import Derived.Deep.CutBlock
import Derived.Deep.DeepCutAuto
import Derived.Deep.Draws
import Derived.Deep.LoopGhost
import Derived.Deep.OwnRows
import Derived.Deep.QuietTactic
import Derived.Deep.RegionHeld3
import Derived.Deep.RegionLaw
import Derived.KernelRfl
import Derived.Laws.BitsLemmas
import Derived.Laws.BytesArg
import Derived.Laws.CopyOwn
import Derived.Laws.Cover1
import Derived.Laws.IdiomCopy
import Derived.Laws.IdiomStrings
import Derived.Laws.MakeOwn
import Derived.Laws.OwnMore
import Derived.Laws.Rows
import Derived.Laws.Slices
import Derived.Lib.AppendStr
import Derived.Lib.ConvBytes
import Derived.Maps.AppendAt
import Derived.OrdersHeld
import Derived.OwnWalk
import Derived.RowKit
import Derived.RowKit3
import Derived.Shelf.Abstract
import Derived.StillTailTactics
import Derived.Tactics
import Derived.Test.YtojaeidabmfajaaProg
import Derived.WalkKit
import Derived.WideLaws
import Derived.Test.YtojaeidabmfajaaCFnSumps0
namespace Go.Proofs.Ytojaeidabmfajaa.Pr
open Go.RowKit Go.Proofs.YtojaeidabmfajaaW.PrintWords Go.Proofs.YtojaeidabmfajaaW.PrintLast Go.Proofs.YtojaeidabmfajaaW.PrintMore
attribute [local go_sem] max2_int min2_int max_two min_two max_three min_three max_four min_four   -- for this text's walks alone
set_option linter.unusedVariables false
set_option linter.unusedSimpArgs false
def errW : Option Int → Value
 | none => .nilIface
 | some c => .iface 0 (.int .i64 c)
theorem errW_none : errW none = .nilIface := rfl
theorem errW_some (c : Int) : errW (some c) = .iface 0 (.int .i64 c) := rfl
theorem info3 : (Try.prog.info? 3).map (fun i => (i.zero, i.size, i.bytes)) = some (some (.int .i64 0), 1, 8) := by kernel_rfl
theorem info30 : (Try.prog.info? 30).map (fun i => (i.zero, i.size, i.bytes)) = some (some (.agg #[(.int .i64 0), (.int .i64 0), (.int .i64 0)]), 3, 24) := by kernel_rfl
theorem info36 : (Try.prog.info? 36).map (fun i => (i.zero, i.size, i.bytes)) = some (some (.slice none 0 0), 1, 24) := by kernel_rfl
theorem info54 : (Try.prog.info? 54).map (fun i => (i.zero, i.size, i.bytes)) = some (some (.agg #[(.int .i64 0), (.int .i64 0)]), 2, 16) := by kernel_rfl
structure S54 where
 f0 : Int
 f1 : Int
def z54 : S54 := ⟨(0 : Int), (0 : Int)⟩
def k54 : Kd S54 := Kd.iso (Kd.pair (Kd.int .i64) (Kd.int .i64)) (fun x : S54 => (x.f0, x.f1))
theorem k54_open {w : World} {x : S54} {cs : List Value} (h : k54.K w x cs) : cs = [.int .i64 x.f0, .int .i64 x.f1] := by
 obtain ⟨_, _, rfl, rfl, rfl⟩ := h
 exact rfl
theorem k54_openM {w : World} {base : Nat} {ok : Nat → Prop} {x : S54} {cs : List Value} (h : k54.M w base ok x cs) : cs = [.int .i64 x.f0, .int .i64 x.f1] := by
 obtain ⟨_, _, rfl, rfl, rfl⟩ := h
 exact rfl
theorem k54_mkM (w : World) (base : Nat) (ok : Nat → Prop) (x : S54)  : k54.M w base ok x [.int .i64 x.f0, .int .i64 x.f1] := ⟨[.int .i64 x.f0], [.int .i64 x.f1], rfl, rfl, rfl⟩
def rd_T54 (xs : List S54) (i : Int) : S54 := xs.getD i.toNat z54
theorem at_T54 {w : World} {A : Option Addr} {n : Nat} {xs : List S54} (h : Kd.C k54 w A n xs) (i : Int) (h0 : 0 ≤ i) (h1 : i < n) : ∃ ad , A = some ad ∧ w.cell? (ad.add (i.toNat * 2)) = some (.int .i64 (rd_T54 xs i).f0) ∧ w.cell? ⟨(ad.add (i.toNat * 2)).block, (ad.add (i.toNat * 2)).off + 1, none⟩ = some (.int .i64 (rd_T54 xs i).f1) := by
 obtain ⟨ad, c, e, _, hK, hc0⟩ := Kd.C_get h z54 i h0 h1
 have hc : ∀ j u, c[j]? = some u → w.cell? (ad.add (i.toNat * 2 + j)) = some u := hc0
 obtain rfl := k54_open hK
 exact ⟨ad, e, hc 0 _ rfl, by rw [← add_field _ _ 1 (by omega)]; exact hc 1 _ rfl⟩
structure S30 where
 f0 : Int
 f1 : Int
 f2 : Int
def z30 : S30 := ⟨(0 : Int), (0 : Int), (0 : Int)⟩
def k30 : Kd S30 := Kd.iso (Kd.pair (Kd.int .i64) (Kd.pair (Kd.int .i64) (Kd.int .i64))) (fun x : S30 => (x.f0, x.f1, x.f2))
theorem k30_open {w : World} {x : S30} {cs : List Value} (h : k30.K w x cs) : cs = [.int .i64 x.f0, .int .i64 x.f1, .int .i64 x.f2] := by
 obtain ⟨_, _, rfl, rfl, ⟨_, _, rfl, rfl, rfl⟩⟩ := h
 exact rfl
theorem k30_mkM (w : World) (base : Nat) (ok : Nat → Prop) (x : S30)  : k30.M w base ok x [.int .i64 x.f0, .int .i64 x.f1, .int .i64 x.f2] := ⟨[.int .i64 x.f0], [.int .i64 x.f1, .int .i64 x.f2], rfl, rfl, ⟨[.int .i64 x.f1], [.int .i64 x.f2], rfl, rfl, rfl⟩⟩
def rd_T30 (xs : List S30) (i : Int) : S30 := xs.getD i.toNat z30
theorem at_T30 {w : World} {A : Option Addr} {n : Nat} {xs : List S30} (h : Kd.C k30 w A n xs) (i : Int) (h0 : 0 ≤ i) (h1 : i < n) : ∃ ad , A = some ad ∧ w.cell? (ad.add (i.toNat * 3)) = some (.int .i64 (rd_T30 xs i).f0) ∧ w.cell? ⟨(ad.add (i.toNat * 3)).block, (ad.add (i.toNat * 3)).off + 1, none⟩ = some (.int .i64 (rd_T30 xs i).f1) ∧ w.cell? ⟨(ad.add (i.toNat * 3)).block, (ad.add (i.toNat * 3)).off + 2, none⟩ = some (.int .i64 (rd_T30 xs i).f2) := by
 obtain ⟨ad, c, e, _, hK, hc0⟩ := Kd.C_get h z30 i h0 h1
 have hc : ∀ j u, c[j]? = some u → w.cell? (ad.add (i.toNat * 3 + j)) = some u := hc0
 obtain rfl := k30_open hK
 exact ⟨ad, e, hc 0 _ rfl, by rw [← add_field _ _ 1 (by omega)]; exact hc 1 _ rfl, by rw [← add_field _ _ 2 (by omega)]; exact hc 2 _ rfl⟩
def rd_L9 (xs : List (List Int)) (i : Int) : (List Int) := xs.getD i.toNat ([] : List Int)
theorem at_L9 {w : World} {A : Option Addr} {n : Nat} {xs : List (List Int)} (h : Kd.C (Kd.slice 3 (Kd.int .i64)) w A n xs) (i : Int) (h0 : 0 ≤ i) (h1 : i < n) : ∃ ad A0 c0, A = some ad ∧ w.cell? (ad.add i.toNat) = some (.slice A0 (rd_L9 xs i).length c0) ∧ (rd_L9 xs i).length ≤ c0 ∧ (Kd.int .i64).C w A0 (rd_L9 xs i).length (rd_L9 xs i) := by
 obtain ⟨ad, c, e, _, hK, hc0⟩ := Kd.C_get h ([] : List Int) i h0 h1
 have hc : ∀ j u, c[j]? = some u → w.cell? (ad.add (i.toNat * 1 + j)) = some u := hc0
 obtain ⟨A0, c0, rfl, l0, g0⟩ := hK
 exact ⟨ad, A0, c0, e, by have hq := hc 0 _ rfl; rwa [Nat.mul_one, Nat.add_zero] at hq, l0, g0⟩
def spec_l1In.f (a0 : Int) (a1 : Int) (a2 : Int) : Option (Bool) := if a0 ≥ a1 then (some (decide (a0 ≤ a2))) else (some false)
set_option maxHeartbeats 8000000 in
set_option maxRecDepth 100000 in
theorem spec_l1In.calls (a0 : Int) (a1 : Int) (a2 : Int) (r : Bool) (w : World) (h : spec_l1In.f a0 a1 a2 = some r) :
  Calls Try.prog 79 #[.int .i64 a0, .int .i64 a1, .int .i64 a2] w fun e w' => e = .returned (.bool r) ∧ Drawn0 w w' := by
 have H : (if a0 ≥ a1 then (some (decide (a0 ≤ a2))) else (some false)) = some r := h
 clear h
 by_cases c4 : a0 ≥ a1
 ·
  rw [if_pos c4] at H
  have c4b0 : decide (a1 ≤ a0) = true := decide_eq_true c4
  clear c4
  obtain rfl := Option.some.inj H
  go_enter Try.func79, Try.ntmps79
  go_wp2
  go_ret
  exact ⟨by first | rfl | (simp; done) | (simp [*]; done), by repeat (first | exact Drawn0.refl _ | apply Drawn0.step)⟩
 ·
  rw [if_neg c4] at H
  have c4b0 : decide (a1 ≤ a0) = false := decide_eq_false c4
  clear c4
  obtain rfl := Option.some.inj H
  go_enter Try.func79, Try.ntmps79
  go_wp2
  go_ret
  exact ⟨by first | rfl | (simp; done) | (simp [*]; done), by repeat (first | exact Drawn0.refl _ | apply Drawn0.step)⟩
end Go.Proofs.Ytojaeidabmfajaa.Pr

namespace Go.Proofs.Ytojaeidabmfajaa.Pr
open Go.RowKit Go.Proofs.YtojaeidabmfajaaW.PrintWords Go.Proofs.YtojaeidabmfajaaW.PrintLast Go.Proofs.YtojaeidabmfajaaW.PrintMore
set_option linter.unusedVariables false
set_option linter.unusedSimpArgs false
section
variable {P : Program} {md : Region.Mode} {ops : Array Oper} {Q : Exit → Act → World → Prop} {S : World → Prop} {ds : List Nat} {T : Bool × List (List Nat × List Nat)}
theorem pz_ {fuel : Nat} {l : Array Bool} {a : Act} {w : World} {oi : Oper} {v : Value} {a' : Act} (HT : Aside0 (rtab md ops = T)) (i : Nat) (N : Option Tmp) (l' : Array Bool) (h : wpAnyLast P md ops Q S ds fuel l' a' w)
  (hi : ops[i]? = some oi := by exact rfl) (hN : oi.dst = N := by exact rfl) (hc : anyT T l.toList l'.toList i = true := by kernel_rfl) (hQ : ∀ c a w, Q (.panic c) (a.put oi.dst v) w → Q (.panic c) a w := by exact fun _ _ _ h => h)
  (hy : Yields P ops oi v a := by exact Or.inl ⟨by rfl, by intro w'; go_simp; with_reducible rfl⟩) (ha : a.put N v = a' := by simp only [Act.put, List.setIfInBounds_toArray, List.set_cons_zero, List.set_cons_succ, i64_w, i32_w]; rfl) :
  wpAnyLast P md ops Q S ds (fuel + 1) l a w := pure_ l' hi hN (any_of HT.out hc) hQ hy ha h
theorem ga_ {rest : List Oper} {oi : Oper} {a : Act} {w : World} {f : FuncId} {fn : Func} {ar : Array Operand} {ts : Array TypeId} (N : Option Tmp) (hf : P.funcs[f]? = some fn) (args : Array Value) (h : Calls P f args w fun e w' => ∃ v, e = .returned v ∧ wpList P ops Q rest (a.put N v) w')
  (hd : oi.dst = N := by exact rfl) (hg : oi.guard = none := by exact rfl) (hname : (fn.name == "runtime.NumGoroutine") = false := by kernel_rfl) (hb : fn.body.isSome = true := by exact rfl) (hop : oi.op = .call { callee := .value (.func f), args := ar, argTypes := ts } := by exact rfl)
  (hargs : ar.map a.eval = args := by (try simp only [List.map_toArray, List.map_cons, List.map_nil]); first | done | rfl | (simp only [List.length_drop, List.length_take]; rfl)) : wpList P ops Q (oi :: rest) a w := goesL_ N hd hg hf hname hb args hop hargs h
end
theorem lb0_ {n : Nat} {w w0 w1 : World} (HB : Below n w w0) (h : Below n w w0 → Below n w w1 := by intro HB_; repeat (first | (with_reducible first | exact HB_ | apply below_alloc | apply pw_below_drewN | apply below_drew1) | exact HB_)) : Below n w w1 := h HB
theorem lb1_ {n : Nat} {w w0 w1 : World} {A : Prop} (HB : Below n w w0) (G : A) (h : Below n w w0 → A → Below n w w1 := by intro HB_ G_; repeat (first | (with_reducible first | exact HB_ | apply below_alloc | apply pw_below_drewN | apply below_drew1 | refine below_set ?_ G_) | exact HB_)) : Below n w w1 := h HB G
theorem lb2_ {n : Nat} {w w0 w1 : World} {A B : Prop} (HB : Below n w w0) (G : A) (H : B) (h : Below n w w0 → A → B → Below n w w1 := by intro HB_ G_ H_; repeat (first | (with_reducible first | exact HB_ | apply below_alloc | apply pw_below_drewN | apply below_drew1 | refine below_set ?_ G_ | refine below_set ?_ H_) | exact HB_)) : Below n w w1 := h HB G H
theorem rr_ {α : Sort _} {a b : α} (h : a = b := by first | rfl | (simp [errW_none, errW_some] <;> rfl) | (simp [*, errW_none, errW_some] <;> rfl)) : a = b := h
theorem kr_ {α : Type} {d : Kd α} {e base : Nat} {w w1 : World} {ok : Nat → Prop} {v : Value} {xs : List α} (h : d.R e w base ok v xs) (hh : d.R e w base ok v xs → d.R e w1 base ok v xs := by intro h_; (with_reducible repeat (first | apply Kd.R_alloc | apply Kd.R_drewN | apply Kd.R_drew)); exact h_) : d.R e w1 base ok v xs := hh h
theorem kc_ {α : Type} {d : Kd α} {w w1 : World} {A : Option Addr} {n : Nat} {xs : List α} (h : d.C w A n xs) (hh : d.C w A n xs → d.C w1 A n xs := by intro h_; repeat (first | exact h_ | (with_reducible refine Kd.C_alloc ?_ _) | (with_reducible refine Kd.C_drewN ?_ _) | (with_reducible refine Kd.C_drew ?_))) : d.C w1 A n xs := hh h
theorem bk_ {w w1 : World} {g : Nat} {o : Obj} (h : w.heap[g]? = some o) (hh : w.heap[g]? = some o → w1.heap[g]? = some o := by intro h_; (with_reducible repeat (first | refine blk_drewN ?_ _ | refine blk_drew ?_ | refine blk_alloc ?_ _)); exact h_) : w1.heap[g]? = some o := hh h
theorem dt_ {p : Prop} [inst : Decidable p] (h : decide p = true := by first | (with_reducible assumption) | assumption) : p := of_decide_eq_true h
theorem bc_ {w w0 : World} {a : Addr} {v : Value} (hb : Below w.heap.size w w0) (h : w.cell? a = some v) : w0.cell? a = some v := (hb.cell (World.block_lt_of_cell? w _ h)).trans h
section
variable {P : Program} {md : Region.Mode} {ops : Array Oper} {Q : Exit → Act → World → Prop} {S : World → Prop} {ds : List Nat}
theorem na_ {fuel : Nat} {l : Array Bool} {a a' : Act} {w : World} (h : wpAnyLast P md ops Q S ds fuel l a' w) (ha : a = a' := by show Act.put _ (some _) _ = _; simp only [Act.put, List.setIfInBounds_toArray, List.set_cons_zero, List.set_cons_succ, i64_w, i32_w]; rfl) : wpAnyLast P md ops Q S ds fuel l a w := norm_ ha h
theorem nb_ {fuel : Nat} {l : Array Bool} {a a' : Act} {w : World} (h : wpAnyLast P md ops Q S ds fuel l a' w) (ha : a = a' := by simp only [putAll, Act.put, List.setIfInBounds_toArray, List.set_cons_zero, List.set_cons_succ]; rfl) : wpAnyLast P md ops Q S ds fuel l a w := norm_ ha h
end
theorem bz_ {w W : World} {g : Nat} (hg : g = W.heap.size) (h : Below w.heap.size w W) : w.heap.size ≤ g := by rw [hg]; exact h.size
theorem lb3_ {n : Nat} {w w0 w1 : World} {A B C : Prop} (HB : Below n w w0) (G : A) (H : B) (I : C) (h : Below n w w0 → A → B → C → Below n w w1 := by intro HB_ G_ H_ I_; repeat (first | (with_reducible first | exact HB_ | apply below_alloc | apply pw_below_drewN | apply below_drew1 | refine below_set ?_ G_ | refine below_set ?_ H_ | refine below_set ?_ I_) | exact HB_)) : Below n w w1 := h HB G H I
theorem kb0_ {w w0 w1 : World} {g : Nat} {row : Option Nat} (h : KeepBut w w0 g row) (hh : KeepBut w w0 g row → KeepBut w w1 g row := by intro h_; repeat (first | (with_reducible first | exact h_ | apply KeepBut.set_ | apply keep_drewN | apply keep_drew | apply keep_alloc) | exact h_)) : KeepBut w w1 g row := hh h
theorem kb1_ {w w0 w1 : World} {g : Nat} {row : Option Nat} {A : Prop} (h : KeepBut w w0 g row) (G : A) (hh : KeepBut w w0 g row → A → KeepBut w w1 g row := by intro h_ G_; repeat (first | (with_reducible first | exact h_ | apply KeepBut.set_ | apply keep_drewN | apply keep_drew | apply keep_alloc | refine keep_far ?_ G_ _) | exact h_)) : KeepBut w w1 g row := hh h G
theorem kb2_ {w w0 w1 : World} {g : Nat} {row : Option Nat} {A B : Prop} (h : KeepBut w w0 g row) (G : A) (H : B) (hh : KeepBut w w0 g row → A → B → KeepBut w w1 g row := by intro h_ G_ H_; repeat (first | (with_reducible first | exact h_ | apply KeepBut.set_ | apply keep_drewN | apply keep_drew | apply keep_alloc | refine keep_far ?_ G_ _ | refine keep_far ?_ H_ _) | exact h_)) : KeepBut w w1 g row := hh h G H
theorem krm_ {α : Type} {d : Kd α} {e base : Nat} {w w1 : World} {ok ok' : Nat → Prop} {v : Value} {xs : List α} (h : d.R e w base ok v xs) (hm : ∀ k, ok k → ok' k) (hh : d.R e w base ok v xs → d.R e w1 base ok v xs := by intro h_; (with_reducible repeat (first | apply Kd.R_alloc | apply Kd.R_drewN | apply Kd.R_drew)); exact h_) : d.R e w1 base ok' v xs := Kd.R_mono (hh h) hm
theorem bb_ {w1 w2 : World} {g : Nat} {o : Obj} (h : w1.heap[g]? = some o) (hb : Below w1.heap.size w1 w2) : w2.heap[g]? = some o := blk_below h hb
theorem ry_ {α : Type} {d : Kd α} {e base : Nat} {w : World} {ok : Nat → Prop} {v : Value} {xs ys : List α} (he : ys = xs) (h : d.R e w base ok v xs) : d.R e w base ok v ys := by rw [he]; exact h
section
variable {P : Program} {ops : Array Oper} {Q : Exit → Act → World → Prop}
theorem gs_ {oi : Oper} {N : Option Tmp} {a : Act} {w : World} {K : Act → World → Prop} {f : FuncId} {fn : Func} {ar : Array Operand} {ts : Array TypeId} (hf : P.funcs[f]? = some fn) (args : Array Value) (h : Calls P f args w fun e w' => ∃ v, e = .returned v ∧ K (a.put N v) w')
  (hname : (fn.name == "runtime.NumGoroutine") = false := by kernel_rfl) (hb : fn.body.isSome = true := by exact rfl) (hw : Region.wanted oi (yielded ops a.tmps) = true := by rfl) (hN : oi.dst = N := by exact rfl) (hop : oi.op = .call { callee := .value (.func f), args := ar, argTypes := ts } := by exact rfl)
  (hargs : ar.map a.eval = args := by (try simp only [List.map_toArray, List.map_cons, List.map_nil]); first | done | rfl | (simp only [List.length_drop, List.length_take]; rfl)) : if Region.wanted oi (yielded ops a.tmps) = true then Oper.wp P oi a w K Q else K (a.put N undef) w := goes_ hf hname hb args hw hN hop hargs h
end
theorem cz2_ {w : World} {g : Nat} {t : TypeId} {a0 a1 : Value} (h : w.heap[g]? = some (.cells #[a0, a1] t (0, 0))) : w.cell? ⟨g, 0, none⟩ = some a0 ∧ w.cell? ⟨g, 1, none⟩ = some a1 := ⟨(blk_cell h 0).trans rfl, (blk_cell h 1).trans rfl⟩
theorem fz2_ {w : World} {g : Nat} {t : TypeId} {a0 a1 : Value} (h : w.heap[g]? = some (.cells #[a0, a1] t (0, 0))) : w.frozen? ⟨g, 0, none⟩ = false ∧ w.frozen? ⟨g, 1, none⟩ = false := ⟨blk_frozen h 0, blk_frozen h 1⟩
theorem cz3_ {w : World} {g : Nat} {t : TypeId} {a0 a1 a2 : Value} (h : w.heap[g]? = some (.cells #[a0, a1, a2] t (0, 0))) : w.cell? ⟨g, 0, none⟩ = some a0 ∧ w.cell? ⟨g, 1, none⟩ = some a1 ∧ w.cell? ⟨g, 2, none⟩ = some a2 := ⟨(blk_cell h 0).trans rfl, (blk_cell h 1).trans rfl, (blk_cell h 2).trans rfl⟩
theorem fz3_ {w : World} {g : Nat} {t : TypeId} {a0 a1 a2 : Value} (h : w.heap[g]? = some (.cells #[a0, a1, a2] t (0, 0))) : w.frozen? ⟨g, 0, none⟩ = false ∧ w.frozen? ⟨g, 1, none⟩ = false ∧ w.frozen? ⟨g, 2, none⟩ = false := ⟨blk_frozen h 0, blk_frozen h 1, blk_frozen h 2⟩
abbrev tT : Bool := true
abbrev fF : Bool := false
section
variable {P : Program} {md : Region.Mode} {ops : Array Oper} {Q : Exit → Act → World → Prop} {S : World → Prop} {ds : List Nat} {T : Bool × List (List Nat × List Nat)} {B : List Nat}
theorem tk_ {fuel : Nat} {l : Array Bool} {a : Act} {w : World} {oi : Oper} {v : Value} {a' : Act} (HT : Aside0 (rtab md ops = T)) (HW : Aside0 (waitsOk T.2 B = true)) (hS : S w) (i : Nat) (N : Option Tmp) (l' : Array Bool) (h : wpAnyLast P md ops Q S ds fuel l' a' w)
  (hi : ops[i]? = some oi := by exact rfl) (hN : oi.dst = N := by exact rfl) (hc : takeW T B ds l.toList l'.toList i = true := by kernel_rfl) (hQ : ∀ c a w, Q (.panic c) (a.put oi.dst v) w → Q (.panic c) a w := by exact fun _ _ _ h => h)
  (hy : YieldsIf P ops S oi v a := by exact Or.inl ⟨by rfl, by intro w' hs; (repeat (obtain ⟨s_, hs⟩ := hs)); go_simp; with_reducible rfl⟩) (ha : a.put N v = a' := by simp only [Act.put, List.setIfInBounds_toArray, List.set_cons_zero, List.set_cons_succ, i64_w, i32_w]; rfl) :
  wpAnyLast P md ops Q S ds (fuel + 1) l a w := take_ l' hi hN (take_ofW HT.out HW.out hc) hQ hy hS ha h
theorem pu_ {fuel : Nat} {l : Array Bool} {a : Act} {w : World} {oi : Oper} {a' : Act} (HT : Aside0 (rtab md ops = T)) (i : Nat) (N : Option Tmp) (l' : Array Bool) (h : wpAnyLast P md ops Q S ds fuel l' a' w)
  (hi : ops[i]? = some oi := by exact rfl) (hN : oi.dst = N := by exact rfl) (hc : anyT T l.toList l'.toList i = true := by kernel_rfl) (hQ : ∀ c a w, Q (.panic c) (a.put oi.dst undef) w → Q (.panic c) a w := by exact fun _ _ _ h => h)
  (hy : Yields P ops oi undef a := by exact Or.inr ⟨by rfl, rfl⟩) (ha : a.put N undef = a' := by simp only [Act.put, List.setIfInBounds_toArray, List.set_cons_zero, List.set_cons_succ, i64_w, i32_w]; rfl) :
  wpAnyLast P md ops Q S ds (fuel + 1) l a w := pure_ l' hi hN (any_of HT.out hc) hQ hy ha h
end
theorem nl_ {w W : World} {g g' : Nat} {o : Obj} (hg : g' = W.heap.size) (h : w.heap[g]? = some o) (hh : w.heap[g]? = some o → W.heap[g]? = some o := by intro h_; (with_reducible repeat (first | refine blk_drewN ?_ _ | refine blk_drew ?_ | refine blk_alloc ?_ _)); exact h_) : g ≠ g' := by rw [hg]; exact Nat.ne_of_lt (blk_lt (hh h))
theorem ng_ {w W : World} {g g' : Nat} {o : Obj} (hg : g' = W.heap.size) (h : w.heap[g]? = some o) (hh : w.heap[g]? = some o → W.heap[g]? = some o := by intro h_; (with_reducible repeat (first | refine blk_drewN ?_ _ | refine blk_drew ?_ | refine blk_alloc ?_ _)); exact h_) : g' ≠ g := by rw [hg]; exact Nat.ne_of_gt (blk_lt (hh h))
theorem p2_ {w : World} {g : Nat} {t : TypeId} {b0 b1 : Value} (h : w.heap[g]? = some (.cells #[b0, b1] t (0, 0))) (a0 a1 : Value) : ((w.setCell ⟨g, 0, none⟩ a0).setCell ⟨g, 1, none⟩ a1).heap[g]? = some (.cells #[a0, a1] t (0, 0)) := (blk_put (cs := #[a0, b1]) (blk_put (cs := #[b0, b1]) h 0 _ rfl) 1 _ rfl)
theorem f2_ {w : World} {g g' : Nat} {t : TypeId} {cs : Array Value} {j0 j1 : Nat} (h : w.heap[g]? = some (.cells cs t (0, 0))) (hne : g ≠ g') (a0 a1 : Value) : ((w.setCell ⟨g', j0, none⟩ a0).setCell ⟨g', j1, none⟩ a1).heap[g]? = some (.cells cs t (0, 0)) := (blk_far (p := ⟨g', j1, none⟩) (blk_far (p := ⟨g', j0, none⟩) h hne _) hne _)
theorem p3_ {w : World} {g : Nat} {t : TypeId} {b0 b1 b2 : Value} (h : w.heap[g]? = some (.cells #[b0, b1, b2] t (0, 0))) (a0 a1 a2 : Value) : (((w.setCell ⟨g, 0, none⟩ a0).setCell ⟨g, 1, none⟩ a1).setCell ⟨g, 2, none⟩ a2).heap[g]? = some (.cells #[a0, a1, a2] t (0, 0)) := (blk_put (cs := #[a0, a1, b2]) (blk_put (cs := #[a0, b1, b2]) (blk_put (cs := #[b0, b1, b2]) h 0 _ rfl) 1 _ rfl) 2 _ rfl)
theorem f3_ {w : World} {g g' : Nat} {t : TypeId} {cs : Array Value} {j0 j1 j2 : Nat} (h : w.heap[g]? = some (.cells cs t (0, 0))) (hne : g ≠ g') (a0 a1 a2 : Value) : (((w.setCell ⟨g', j0, none⟩ a0).setCell ⟨g', j1, none⟩ a1).setCell ⟨g', j2, none⟩ a2).heap[g]? = some (.cells cs t (0, 0)) := (blk_far (p := ⟨g', j2, none⟩) (blk_far (p := ⟨g', j1, none⟩) (blk_far (p := ⟨g', j0, none⟩) h hne _) hne _) hne _)
theorem r3_ {α : Type} {d : Kd α} {e base : Nat} {ok : Nat → Prop} {w : World} {g : Nat} {t : TypeId} {v : Value} {xs : List α} {cs : Array Value} (h : d.R e w base ok v xs) (hb : w.heap[g]? = some (.cells cs t (0, 0))) (ht : ∀ q, q ∈ e :: d.E → q ≠ t) (a0 a1 a2 : Value) : d.R e (((w.setCell ⟨g, 0, none⟩ a0).setCell ⟨g, 1, none⟩ a1).setCell ⟨g, 2, none⟩ a2) base ok v xs := Kd.R_mono (Kd.R_far (p := ⟨g, 2, none⟩) (Kd.R_far (p := ⟨g, 1, none⟩) (Kd.R_far (p := ⟨g, 0, none⟩) (Kd.R_types h hb ht) (fun _ hk => hk.2) _) (fun _ hk => hk.2) _) (fun _ hk => hk.2) _) (fun _ hk => hk.1)
theorem f4_ {w : World} {g g' : Nat} {t : TypeId} {cs : Array Value} {j0 j1 j2 j3 : Nat} (h : w.heap[g]? = some (.cells cs t (0, 0))) (hne : g ≠ g') (a0 a1 a2 a3 : Value) : ((((w.setCell ⟨g', j0, none⟩ a0).setCell ⟨g', j1, none⟩ a1).setCell ⟨g', j2, none⟩ a2).setCell ⟨g', j3, none⟩ a3).heap[g]? = some (.cells cs t (0, 0)) := (blk_far (p := ⟨g', j3, none⟩) (blk_far (p := ⟨g', j2, none⟩) (blk_far (p := ⟨g', j1, none⟩) (blk_far (p := ⟨g', j0, none⟩) h hne _) hne _) hne _) hne _)
theorem f5_ {w : World} {g g' : Nat} {t : TypeId} {cs : Array Value} {j0 j1 j2 j3 j4 : Nat} (h : w.heap[g]? = some (.cells cs t (0, 0))) (hne : g ≠ g') (a0 a1 a2 a3 a4 : Value) : (((((w.setCell ⟨g', j0, none⟩ a0).setCell ⟨g', j1, none⟩ a1).setCell ⟨g', j2, none⟩ a2).setCell ⟨g', j3, none⟩ a3).setCell ⟨g', j4, none⟩ a4).heap[g]? = some (.cells cs t (0, 0)) := (blk_far (p := ⟨g', j4, none⟩) (blk_far (p := ⟨g', j3, none⟩) (blk_far (p := ⟨g', j2, none⟩) (blk_far (p := ⟨g', j1, none⟩) (blk_far (p := ⟨g', j0, none⟩) h hne _) hne _) hne _) hne _) hne _)
end Go.Proofs.Ytojaeidabmfajaa.Pr

namespace Go.Proofs.Ytojaeidabmfajaa.Pr
open Go.RowKit Go.Proofs.YtojaeidabmfajaaW.PrintWords Go.Proofs.YtojaeidabmfajaaW.PrintLast Go.Proofs.YtojaeidabmfajaaW.PrintMore
attribute [local go_sem] max2_int min2_int max_two min_two max_three min_three max_four min_four   -- for this text's walks alone
set_option linter.unusedVariables false
set_option linter.unusedSimpArgs false
def spec_l23Level.f (a0 : Int) : Option (Bool) := (spec_l1In.f a0 (-500) 500).bind fun t101 => (some t101)
set_option maxHeartbeats 8000000 in
set_option maxRecDepth 100000 in
theorem spec_l23Level.calls (a0 : Int) (r : Bool) (w : World) (h : spec_l23Level.f a0 = some r) :
  Calls Try.prog 89 #[.int .i64 a0] w fun e w' => e = .returned (.bool r) ∧ Drawn0 w w' := by
 have H : ((spec_l1In.f a0 (-500) 500).bind fun t101 => (some t101)) = some r := h
 clear h
 replace H := Option.bind_eq_some_iff.mp H
 obtain ⟨t101, A20, H⟩ := H
 replace H : (some t101) = some r := H
 have A2 := Aside0.mk A20
 clear A20
 obtain rfl := Option.some.inj H
 go_enter Try.func89, Try.ntmps89
 go_wp2_with (first | ((with_reducible refine gate_callee (f := 79) rfl ?_); refine ga_ (some 4) Try.func79 #[.int .i64 a0, .int .i64 (-500), .int .i64 500] ?_; (with_reducible refine (spec_l1In.calls a0 (-500) 500 t101 _ A2.out).mono ?_); rintro e w' ⟨rfl, ⟨nd, rfl⟩⟩; refine ⟨_, rfl, ?_⟩))
 go_ret
 exact ⟨by first | rfl | (simp; done) | (simp [*]; done), by repeat (first | exact Drawn0.refl _ | apply Drawn0.step)⟩
def spec_l23Good.l0 : Nat → List (S54) → Int → Option (Bool)
 | 0, _, _ => none
 | k + 1, x0, x3 => if x3 < (x0.length : Int) then (if 0 ≤ x3 then ((spec_l1In.f ((rd_T54 x0 x3).f0) 0 999).bind fun t103 => (if t103 = true then ((spec_l23Level.f ((rd_T54 x0 x3).f1)).bind fun t105 => (if t105 = true then (if x3 > 0 then (if 0 ≤ (wrap64 (x3 - 1)) then (if (wrap64 (x3 - 1)) < (x0.length : Int) then (if ((rd_T54 x0 (wrap64 (x3 - 1))).f0) ≥ ((rd_T54 x0 x3).f0) then (some false) else (spec_l23Good.l0 k x0 (wrap64 (x3 + 1)))) else (none)) else (none)) else (spec_l23Good.l0 k x0 (wrap64 (x3 + 1)))) else (some false))) else (some false))) else (none)) else (some (decide ((x0.length : Int) ≤ 15)))
def spec_l23Good.f (k : Nat) (l0 : List (S54)) : Option (Bool) := spec_l23Good.l0 k l0 0
def spec_l23Good.T4 : Bool × List (List Nat × List Nat) := (true, [([], []), ([], []), ([0, 1], [0, 1]), ([2], [2]), ([3], [3]), ([4], [4]), ([5], [5]), ([6, 5], [6]), ([7], [7]), ([7], [7]), ([8, 9, 7], [7, 8, 9]), ([10, 7], [7, 10]), ([11, 7], [7, 11]), ([12, 7, 7], [7, 12]), ([13, 7], [7, 13]), ([7, 14], [7, 14]), ([15, 13], [15]), ([16], [16]), ([17, 16], [16, 17]), ([18, 16, 16], [16, 18]), ([19], [19]), ([19], [19]), ([21, 19], [19, 21]), ([20, 22, 19], [19, 20, 22]), ([23, 19], [19, 23]), ([24, 19], [19, 24]), ([19], [19]), ([19], [19]), ([26, 27, 19], [19, 26, 27]), ([28, 19], [19, 28]), ([29, 19], [19, 29]), ([25, 30, 19], [19, 25, 30]), ([19, 31, 16], [16, 19, 31]), ([16, 32], [16, 32])])
def spec_l23Good.B4 : List Nat := [0, 0, 3, 7, 15, 31, 63, 127, 255, 255, 1023, 2047, 4095, 8191, 16383, 32767, 65535, 131071, 262143, 524287, 1048575, 1048575, 3145727, 8388607, 16777215, 33554431, 1048575, 1048575, 202375167, 470810623, 1007681535, 2147483647, 4294967295, 8589934591]
theorem spec_l23Good.tab4 : rtab .any (opsOf Try.f62 4) = spec_l23Good.T4 := by kernel_rfl
theorem spec_l23Good.bits4 : waitsOk spec_l23Good.T4.2 spec_l23Good.B4 = true := by kernel_rfl
abbrev spec_l23Good.mk0 : Array Bool := #[fF,fF,fF,fF,fF,fF,fF,fF,fF,fF,fF,fF,fF,fF,fF,fF,fF,fF,fF,fF,fF,fF,fF,fF,fF,fF,fF,fF,fF,fF,fF,fF,fF,fF]
abbrev spec_l23Good.mk1 : Array Bool := #[tT,fF,fF,fF,fF,fF,fF,fF,fF,fF,fF,fF,fF,fF,fF,fF,fF,fF,fF,fF,fF,fF,fF,fF,fF,fF,fF,fF,fF,fF,fF,fF,fF,fF]
abbrev spec_l23Good.mk2 : Array Bool := #[tT,tT,fF,fF,fF,fF,fF,fF,fF,fF,fF,fF,fF,fF,fF,fF,fF,fF,fF,fF,fF,fF,fF,fF,fF,fF,fF,fF,fF,fF,fF,fF,fF,fF]
abbrev spec_l23Good.mk3 : Array Bool := #[tT,tT,tT,fF,fF,fF,fF,fF,fF,fF,fF,fF,fF,fF,fF,fF,fF,fF,fF,fF,fF,fF,fF,fF,fF,fF,fF,fF,fF,fF,fF,fF,fF,fF]
abbrev spec_l23Good.mk4 : Array Bool := #[tT,tT,tT,tT,fF,fF,fF,fF,fF,fF,fF,fF,fF,fF,fF,fF,fF,fF,fF,fF,fF,fF,fF,fF,fF,fF,fF,fF,fF,fF,fF,fF,fF,fF]
abbrev spec_l23Good.mk5 : Array Bool := #[tT,tT,tT,tT,tT,fF,fF,fF,fF,fF,fF,fF,fF,fF,fF,fF,fF,fF,fF,fF,fF,fF,fF,fF,fF,fF,fF,fF,fF,fF,fF,fF,fF,fF]
abbrev spec_l23Good.mk6 : Array Bool := #[tT,tT,tT,tT,tT,tT,fF,fF,fF,fF,fF,fF,fF,fF,fF,fF,fF,fF,fF,fF,fF,fF,fF,fF,fF,fF,fF,fF,fF,fF,fF,fF,fF,fF]
abbrev spec_l23Good.mk7 : Array Bool := #[tT,tT,tT,tT,tT,tT,tT,fF,fF,fF,fF,fF,fF,fF,fF,fF,fF,fF,fF,fF,fF,fF,fF,fF,fF,fF,fF,fF,fF,fF,fF,fF,fF,fF]
abbrev spec_l23Good.mk8 : Array Bool := #[tT,tT,tT,tT,tT,tT,tT,tT,fF,fF,fF,fF,fF,fF,fF,fF,fF,fF,fF,fF,fF,fF,fF,fF,fF,fF,fF,fF,fF,fF,fF,fF,fF,fF]
abbrev spec_l23Good.mk9 : Array Bool := #[tT,tT,tT,tT,tT,tT,tT,tT,tT,fF,fF,fF,fF,fF,fF,fF,fF,fF,fF,fF,fF,fF,fF,fF,fF,fF,fF,fF,fF,fF,fF,fF,fF,fF]
abbrev spec_l23Good.mk10 : Array Bool := #[tT,tT,tT,tT,tT,tT,tT,tT,tT,tT,fF,fF,fF,fF,fF,fF,fF,fF,fF,fF,fF,fF,fF,fF,fF,fF,fF,fF,fF,fF,fF,fF,fF,fF]
abbrev spec_l23Good.mk11 : Array Bool := #[tT,tT,tT,tT,tT,tT,tT,tT,tT,tT,tT,fF,fF,fF,fF,fF,fF,fF,fF,fF,fF,fF,fF,fF,fF,fF,fF,fF,fF,fF,fF,fF,fF,fF]
abbrev spec_l23Good.mk12 : Array Bool := #[tT,tT,tT,tT,tT,tT,tT,tT,tT,tT,tT,tT,fF,fF,fF,fF,fF,fF,fF,fF,fF,fF,fF,fF,fF,fF,fF,fF,fF,fF,fF,fF,fF,fF]
abbrev spec_l23Good.mk13 : Array Bool := #[tT,tT,tT,tT,tT,tT,tT,tT,tT,tT,tT,tT,tT,fF,fF,fF,fF,fF,fF,fF,fF,fF,fF,fF,fF,fF,fF,fF,fF,fF,fF,fF,fF,fF]
abbrev spec_l23Good.mk14 : Array Bool := #[tT,tT,tT,tT,tT,tT,tT,tT,tT,tT,tT,tT,tT,tT,fF,fF,fF,fF,fF,fF,fF,fF,fF,fF,fF,fF,fF,fF,fF,fF,fF,fF,fF,fF]
abbrev spec_l23Good.mk15 : Array Bool := #[tT,tT,tT,tT,tT,tT,tT,tT,tT,tT,tT,tT,tT,tT,tT,fF,fF,fF,fF,fF,fF,fF,fF,fF,fF,fF,fF,fF,fF,fF,fF,fF,fF,fF]
abbrev spec_l23Good.mk16 : Array Bool := #[tT,tT,tT,tT,tT,tT,tT,tT,tT,tT,tT,tT,tT,tT,tT,tT,fF,fF,fF,fF,fF,fF,fF,fF,fF,fF,fF,fF,fF,fF,fF,fF,fF,fF]
abbrev spec_l23Good.mk17 : Array Bool := #[tT,tT,tT,tT,tT,tT,tT,tT,tT,tT,tT,tT,tT,tT,tT,tT,tT,fF,fF,fF,fF,fF,fF,fF,fF,fF,fF,fF,fF,fF,fF,fF,fF,fF]
abbrev spec_l23Good.mk18 : Array Bool := #[tT,tT,tT,tT,tT,tT,tT,tT,tT,tT,tT,tT,tT,tT,tT,tT,tT,tT,fF,fF,fF,fF,fF,fF,fF,fF,fF,fF,fF,fF,fF,fF,fF,fF]
abbrev spec_l23Good.mk19 : Array Bool := #[tT,tT,tT,tT,tT,tT,tT,tT,tT,tT,tT,tT,tT,tT,tT,tT,tT,tT,tT,fF,fF,fF,fF,fF,fF,fF,fF,fF,fF,fF,fF,fF,fF,fF]
abbrev spec_l23Good.mk20 : Array Bool := #[tT,tT,tT,tT,tT,tT,tT,tT,tT,tT,tT,tT,tT,tT,tT,tT,tT,tT,tT,tT,fF,fF,fF,fF,fF,fF,fF,fF,fF,fF,fF,fF,fF,fF]
abbrev spec_l23Good.mk21 : Array Bool := #[tT,tT,tT,tT,tT,tT,tT,tT,tT,tT,tT,tT,tT,tT,tT,tT,tT,tT,tT,tT,tT,fF,fF,fF,fF,fF,fF,fF,fF,fF,fF,fF,fF,fF]
abbrev spec_l23Good.mk22 : Array Bool := #[tT,tT,tT,tT,tT,tT,tT,tT,tT,tT,tT,tT,tT,tT,tT,tT,tT,tT,tT,tT,tT,tT,fF,fF,fF,fF,fF,fF,fF,fF,fF,fF,fF,fF]
abbrev spec_l23Good.mk23 : Array Bool := #[tT,tT,tT,tT,tT,tT,tT,tT,tT,tT,tT,tT,tT,tT,tT,tT,tT,tT,tT,tT,tT,tT,tT,fF,fF,fF,fF,fF,fF,fF,fF,fF,fF,fF]
abbrev spec_l23Good.mk24 : Array Bool := #[tT,tT,tT,tT,tT,tT,tT,tT,tT,tT,tT,tT,tT,tT,tT,tT,tT,tT,tT,tT,tT,tT,tT,tT,fF,fF,fF,fF,fF,fF,fF,fF,fF,fF]
abbrev spec_l23Good.mk25 : Array Bool := #[tT,tT,tT,tT,tT,tT,tT,tT,tT,tT,tT,tT,tT,tT,tT,tT,tT,tT,tT,tT,tT,tT,tT,tT,tT,fF,fF,fF,fF,fF,fF,fF,fF,fF]
abbrev spec_l23Good.mk26 : Array Bool := #[tT,tT,tT,tT,tT,tT,tT,tT,tT,tT,tT,tT,tT,tT,tT,tT,tT,tT,tT,tT,tT,tT,tT,tT,tT,fF,tT,fF,fF,fF,fF,fF,fF,fF]
abbrev spec_l23Good.mk27 : Array Bool := #[tT,tT,tT,tT,tT,tT,tT,tT,tT,tT,tT,tT,tT,tT,tT,tT,tT,tT,tT,tT,tT,tT,tT,tT,tT,fF,tT,tT,fF,fF,fF,fF,fF,fF]
abbrev spec_l23Good.mk28 : Array Bool := #[tT,tT,tT,tT,tT,tT,tT,tT,tT,tT,tT,tT,tT,tT,tT,tT,tT,tT,tT,tT,tT,tT,tT,tT,tT,fF,tT,tT,tT,fF,fF,fF,fF,fF]
abbrev spec_l23Good.mk29 : Array Bool := #[tT,tT,tT,tT,tT,tT,tT,tT,tT,tT,tT,tT,tT,tT,tT,tT,tT,tT,tT,tT,tT,tT,tT,tT,tT,fF,tT,tT,tT,tT,fF,fF,fF,fF]
abbrev spec_l23Good.mk30 : Array Bool := #[tT,tT,tT,tT,tT,tT,tT,tT,tT,tT,tT,tT,tT,tT,tT,tT,tT,tT,tT,tT,tT,tT,tT,tT,tT,tT,tT,tT,tT,tT,fF,fF,fF,fF]
abbrev spec_l23Good.mk31 : Array Bool := #[tT,tT,tT,tT,tT,tT,tT,tT,tT,tT,tT,tT,tT,tT,tT,tT,tT,tT,tT,tT,tT,tT,tT,tT,tT,tT,tT,tT,tT,tT,tT,fF,fF,fF]
abbrev spec_l23Good.mk32 : Array Bool := #[tT,tT,tT,tT,tT,tT,tT,tT,tT,tT,tT,tT,tT,tT,tT,tT,tT,tT,tT,tT,tT,tT,tT,tT,tT,tT,tT,tT,tT,tT,tT,tT,fF,fF]
abbrev spec_l23Good.mk33 : Array Bool := #[tT,tT,tT,tT,tT,tT,tT,tT,tT,tT,tT,tT,tT,tT,tT,tT,tT,tT,tT,tT,tT,tT,tT,tT,tT,tT,tT,tT,tT,tT,tT,tT,tT,fF]
abbrev spec_l23Good.mk34 : Array Bool := #[tT,tT,tT,tT,tT,tT,tT,tT,tT,tT,tT,tT,tT,tT,tT,tT,tT,tT,tT,tT,tT,tT,tT,tT,tT,tT,tT,tT,tT,tT,tT,tT,tT,tT]
abbrev spec_l23Good.mk35 : Array Bool := #[tT,tT,tT,tT,tT,tT,tT,tT,tT,tT,tT,tT,tT,tT,tT,tT,tT,tT,tT,tT,tT,tT,tT,tT,tT,tT,fF,fF,fF,fF,fF,fF,fF,fF]
abbrev spec_l23Good.mk36 : Array Bool := #[tT,tT,tT,tT,tT,tT,tT,tT,tT,tT,tT,tT,tT,tT,tT,tT,tT,tT,tT,tT,tT,tT,tT,tT,tT,tT,tT,fF,fF,fF,fF,fF,fF,fF]
abbrev spec_l23Good.mk37 : Array Bool := #[tT,tT,tT,tT,tT,tT,tT,tT,tT,tT,tT,tT,tT,tT,tT,tT,tT,tT,tT,tT,tT,tT,tT,tT,tT,tT,tT,tT,fF,fF,fF,fF,fF,fF]
abbrev spec_l23Good.mk38 : Array Bool := #[tT,tT,tT,tT,tT,tT,tT,tT,tT,tT,tT,tT,tT,tT,tT,tT,tT,tT,tT,tT,tT,tT,tT,tT,tT,tT,tT,tT,tT,fF,fF,fF,fF,fF]
set_option maxHeartbeats 8000000 in
set_option maxRecDepth 100000 in
theorem spec_l23Good.calls (k : Nat) (A0 : Option Addr) (c0 : Nat) (l0 : List (S54)) (r : Bool) (w : World) (hr0 : Kd.C k54 w A0 l0.length l0) (hc0 : l0.length ≤ c0) (h : spec_l23Good.f k l0 = some r) :
  Calls Try.prog 62 #[.slice A0 l0.length c0] w fun e w' => e = .returned (.bool r) ∧ Below w.heap.size w w' := by
 have HR0 := Aside0.mk hr0
 have HC0 := Aside0.mk hc0
 clear hr0 hc0
 have HB := Aside0.mk (Below.refl w.heap.size w)
 have H : (spec_l23Good.l0 k l0 0) = some r := h
 clear h
 have H' := Aside0.mk H
 clear H
 go_enter Try.func62, Try.ntmps62
 go_wp2
 go_loopg [3] k (fun kq v3 w' => ∃ (x3_1 : Int), v3 = .int .i64 x3_1 ∧ Aside0 (spec_l23Good.l0 kq l0 x3_1 = some r) ∧ Aside0 (kq ≤ k) ∧ Aside0 (Below w.heap.size w w'))
 case atStart => exact ⟨(0), (by first | rfl | (simp; done) | (simp [*]; done)), H', ⟨Nat.le_refl _⟩, ⟨lb0_ HB.out⟩⟩
 case round =>
  clear H'
  obtain ⟨x3_1, rfl, HA, HK1, HB⟩ := hrel
  cases gk with
  | zero => exact absurd HA.out (by simp [spec_l23Good.l0])
  | succ k1 =>
   have H := HA.out
   clear HA
   simp only [spec_l23Good.l0] at H
   by_cases c2 : x3_1 < (l0.length : Int)
   ·
    rw [if_pos c2] at H
    have c2b0 : decide (x3_1 < (l0.length : Int)) = true := decide_eq_true c2
    clear c2
    by_cases c3 : 0 ≤ x3_1
    ·
     rw [if_pos c3] at H
     have c3b0 : decide (0 ≤ x3_1) = true := decide_eq_true c3
     clear c3
     replace H := Option.bind_eq_some_iff.mp H
     obtain ⟨t103, A40, H⟩ := H
     replace H : (if t103 = true then ((spec_l23Level.f ((rd_T54 l0 x3_1).f1)).bind fun t105 => (if t105 = true then (if x3_1 > 0 then (if 0 ≤ (wrap64 (x3_1 - 1)) then (if (wrap64 (x3_1 - 1)) < (l0.length : Int) then (if ((rd_T54 l0 (wrap64 (x3_1 - 1))).f0) ≥ ((rd_T54 l0 x3_1).f0) then (some false) else (spec_l23Good.l0 k1 l0 (wrap64 (x3_1 + 1)))) else (none)) else (none)) else (spec_l23Good.l0 k1 l0 (wrap64 (x3_1 + 1)))) else (some false))) else (some false)) = some r := H
     have A4 := Aside0.mk A40
     clear A40
     by_cases c5 : t103 = true
     ·
      subst c5
      have H1 : ((spec_l23Level.f ((rd_T54 l0 x3_1).f1)).bind fun t105 => (if t105 = true then (if x3_1 > 0 then (if 0 ≤ (wrap64 (x3_1 - 1)) then (if (wrap64 (x3_1 - 1)) < (l0.length : Int) then (if ((rd_T54 l0 (wrap64 (x3_1 - 1))).f0) ≥ ((rd_T54 l0 x3_1).f0) then (some false) else (spec_l23Good.l0 k1 l0 (wrap64 (x3_1 + 1)))) else (none)) else (none)) else (spec_l23Good.l0 k1 l0 (wrap64 (x3_1 + 1)))) else (some false))) = some r := by rw [if_pos rfl] at H; exact H
      clear H
      have H := H1
      clear H1
      replace H := Option.bind_eq_some_iff.mp H
      obtain ⟨t105, A60, H⟩ := H
      replace H : (if t105 = true then (if x3_1 > 0 then (if 0 ≤ (wrap64 (x3_1 - 1)) then (if (wrap64 (x3_1 - 1)) < (l0.length : Int) then (if ((rd_T54 l0 (wrap64 (x3_1 - 1))).f0) ≥ ((rd_T54 l0 x3_1).f0) then (some false) else (spec_l23Good.l0 k1 l0 (wrap64 (x3_1 + 1)))) else (none)) else (none)) else (spec_l23Good.l0 k1 l0 (wrap64 (x3_1 + 1)))) else (some false)) = some r := H
      have A6 := Aside0.mk A60
      clear A60
      by_cases c7 : t105 = true
      ·
       subst c7
       have H1 : (if x3_1 > 0 then (if 0 ≤ (wrap64 (x3_1 - 1)) then (if (wrap64 (x3_1 - 1)) < (l0.length : Int) then (if ((rd_T54 l0 (wrap64 (x3_1 - 1))).f0) ≥ ((rd_T54 l0 x3_1).f0) then (some false) else (spec_l23Good.l0 k1 l0 (wrap64 (x3_1 + 1)))) else (none)) else (none)) else (spec_l23Good.l0 k1 l0 (wrap64 (x3_1 + 1)))) = some r := by rw [if_pos rfl] at H; exact H
       clear H
       have H := H1
       clear H1
       by_cases c8 : x3_1 > 0
       ·
        rw [if_pos c8] at H
        have c8b0 : decide (0 < x3_1) = true := decide_eq_true c8; clear c8
        obtain ⟨ji9, hji9⟩ : ∃ j_ : Int, (wrap64 (x3_1 - 1)) = j_ := ⟨_, rfl⟩
        replace H : (if 0 ≤ (ji9) then (if (ji9) < (l0.length : Int) then (if ((rd_T54 l0 (ji9)).f0) ≥ ((rd_T54 l0 x3_1).f0) then (some false) else (spec_l23Good.l0 k1 l0 (wrap64 (x3_1 + 1)))) else (none)) else (none)) = some r := by first | (rw [hji9] at H; exact H) | (simp only [hji9] at H ⊢; exact H)
        (try rw [hji9] at A4); (try rw [hji9] at A6); have hji9w : (IntKind.i64.wrap (x3_1 - 1)) = ji9 := (i64_w _).trans hji9
        by_cases c10 : 0 ≤ (ji9)
        ·
         rw [if_pos c10] at H
         have c10b0 : decide (0 ≤ (ji9)) = true := decide_eq_true c10; clear c10
         by_cases c11 : (ji9) < (l0.length : Int)
         ·
          rw [if_pos c11] at H
          have c11b0 : decide ((ji9) < (l0.length : Int)) = true := decide_eq_true c11; clear c11
          by_cases c12 : ((rd_T54 l0 (ji9)).f0) ≥ ((rd_T54 l0 x3_1).f0)
          ·
           rw [if_pos c12] at H
           have c12b0 : decide (((rd_T54 l0 x3_1).f0) ≤ ((rd_T54 l0 (ji9)).f0)) = true := decide_eq_true c12; clear c12; obtain rfl := Option.some.inj H
           try go_wp2
           replace HB := Aside0.mk (below_drew1 HB.out); have p102 : 0 ≤ (x3_1 : Int) := dt_; have q102 : x3_1 < (l0.length : Int) := dt_; obtain ⟨ad102, e102, hx102_0, hx102_1⟩ := at_T54 HR0.out x3_1 p102 q102; have hw102_1 := hx102_1; have hw102_0 := hx102_0
           cases e102
           replace hx102_0 := bc_ HB.out hx102_0; replace hx102_1 := bc_ HB.out hx102_1; replace p102 := eq_true p102; replace q102 := eq_true q102; have p104 : 0 ≤ (x3_1 : Int) := dt_; have q104 : x3_1 < (l0.length : Int) := dt_; obtain ⟨ad104, e104, hx104_0, hx104_1⟩ := at_T54 HR0.out x3_1 p104 q104; have hw104_1 := hx104_1; have hw104_0 := hx104_0
           obtain rfl : ad102 = ad104 := (by injection e104)
           replace hx104_0 := bc_ HB.out hx104_0; replace hx104_1 := bc_ HB.out hx104_1; replace p104 := eq_true p104; replace q104 := eq_true q104; have p106 : 0 ≤ ((ji9) : Int) := dt_; have q106 : (ji9) < (l0.length : Int) := dt_; obtain ⟨ad106, e106, hx106_0, hx106_1⟩ := at_T54 HR0.out (ji9) p106 q106; have hw106_1 := hx106_1; have hw106_0 := hx106_0
           obtain rfl : ad102 = ad106 := (by injection e106)
           replace hx106_0 := bc_ HB.out hx106_0; replace hx106_1 := bc_ HB.out hx106_1; replace p106 := eq_true p106; replace q106 := eq_true q106; have p107 : 0 ≤ (x3_1 : Int) := dt_; have q107 : x3_1 < (l0.length : Int) := dt_; obtain ⟨ad107, e107, hx107_0, hx107_1⟩ := at_T54 HR0.out x3_1 p107 q107; have hw107_1 := hx107_1; have hw107_0 := hx107_0
           obtain rfl : ad102 = ad107 := (by injection e107)
           replace hx107_0 := bc_ HB.out hx107_0; replace hx107_1 := bc_ HB.out hx107_1; replace p107 := eq_true p107; replace q107 := eq_true q107; refine start_ (n := 34) (S := fun w' => w'.cell? (ad102.add ((x3_1).toNat * 2)) = some (.int .i64 ((rd_T54 l0 x3_1).f0)) ∧ w'.cell? ⟨(ad102.add ((x3_1).toNat * 2)).block, (ad102.add ((x3_1).toNat * 2)).off + 1, none⟩ = some (.int .i64 ((rd_T54 l0 x3_1).f1)) ∧ w'.cell? (ad102.add ((x3_1).toNat * 2)) = some (.int .i64 ((rd_T54 l0 x3_1).f0)) ∧ w'.cell? ⟨(ad102.add ((x3_1).toNat * 2)).block, (ad102.add ((x3_1).toNat * 2)).off + 1, none⟩ = some (.int .i64 ((rd_T54 l0 x3_1).f1)) ∧ w'.cell? (ad102.add (((ji9)).toNat * 2)) = some (.int .i64 ((rd_T54 l0 (ji9)).f0)) ∧ w'.cell? ⟨(ad102.add (((ji9)).toNat * 2)).block, (ad102.add (((ji9)).toNat * 2)).off + 1, none⟩ = some (.int .i64 ((rd_T54 l0 (ji9)).f1)) ∧ w'.cell? (ad102.add ((x3_1).toNat * 2)) = some (.int .i64 ((rd_T54 l0 x3_1).f0)) ∧ w'.cell? ⟨(ad102.add ((x3_1).toNat * 2)).block, (ad102.add ((x3_1).toNat * 2)).off + 1, none⟩ = some (.int .i64 ((rd_T54 l0 x3_1).f1))) (ds := []) spec_l23Good.mk0 (by kernel_rfl) rfl rfl ⟨(bc_ HB.out hw102_0), (bc_ HB.out hw102_1), (bc_ HB.out hw104_0), (bc_ HB.out hw104_1), (bc_ HB.out hw106_0), (bc_ HB.out hw106_1), (bc_ HB.out hw107_0), (bc_ HB.out hw107_1)⟩ (fun hHeld => ?_); refine with_tabW spec_l23Good.tab4 spec_l23Good.bits4 (fun HT_ HW_ => ?_); generalize wr.drew = w13 at HB hx102_0 hx102_1 hx104_0 hx104_1 hx106_0 hx106_1 hx107_0 hx107_1 hHeld ⊢; refine pz_ HT_ 0 (some 10) spec_l23Good.mk1 ?_; refine pz_ HT_ 1 (some 11) spec_l23Good.mk2 ?_; refine pz_ HT_ 2 (some 12) spec_l23Good.mk3 ?_; refine pz_ HT_ 3 (some 13) spec_l23Good.mk4 ?_; refine tk_ HT_ HW_ hHeld 4 (some 14) spec_l23Good.mk5 ?_; refine one_ (i := 5) (N := some 15) spec_l23Good.mk6 rfl rfl (one_of HT_.out (by kernel_rfl)) (by decide) (fun K hK => ?_); refine gs_ Try.func79 #[.int .i64 ((rd_T54 l0 x3_1).f0), .int .i64 0, .int .i64 999] ?_; (with_reducible refine (spec_l1In.calls ((rd_T54 l0 x3_1).f0) 0 999 true _ A4.out).mono ?_); rintro e w' ⟨rfl, ⟨nd, rfl⟩⟩; refine ⟨_, rfl, ?_⟩; refine hK.out _ _ ⟨((HB.out.cell (World.block_lt_of_cell? w _ hw102_0)).trans hw102_0), ((HB.out.cell (World.block_lt_of_cell? w _ hw102_1)).trans hw102_1), ((HB.out.cell (World.block_lt_of_cell? w _ hw104_0)).trans hw104_0), ((HB.out.cell (World.block_lt_of_cell? w _ hw104_1)).trans hw104_1), ((HB.out.cell (World.block_lt_of_cell? w _ hw106_0)).trans hw106_0), ((HB.out.cell (World.block_lt_of_cell? w _ hw106_1)).trans hw106_1), ((HB.out.cell (World.block_lt_of_cell? w _ hw107_0)).trans hw107_0), ((HB.out.cell (World.block_lt_of_cell? w _ hw107_1)).trans hw107_1)⟩ (fun hHeld => ?_); clear hK K; refine na_ ?_; refine pz_ HT_ 6 (some 16) spec_l23Good.mk7 ?_; refine pz_ HT_ 7 (some 17) spec_l23Good.mk8 ?_; refine pz_ HT_ 8 (some 18) spec_l23Good.mk9 ?_; refine pz_ HT_ 9 (some 19) spec_l23Good.mk10 ?_; refine pz_ HT_ 10 (some 20) spec_l23Good.mk11 ?_; refine pz_ HT_ 11 (some 21) spec_l23Good.mk12 ?_; refine tk_ HT_ HW_ hHeld 12 (some 22) spec_l23Good.mk13 ?_; refine one_ (i := 13) (N := some 23) spec_l23Good.mk14 rfl rfl (one_of HT_.out (by kernel_rfl)) (by decide) (fun K hK => ?_); refine gs_ Try.func89 #[.int .i64 ((rd_T54 l0 x3_1).f1)] ?_; (with_reducible refine (spec_l23Level.calls ((rd_T54 l0 x3_1).f1) true _ A6.out).mono ?_); rintro e w' ⟨rfl, ⟨nd, rfl⟩⟩; refine ⟨_, rfl, ?_⟩; refine hK.out _ _ ⟨((HB.out.cell (World.block_lt_of_cell? w _ hw102_0)).trans hw102_0), ((HB.out.cell (World.block_lt_of_cell? w _ hw102_1)).trans hw102_1), ((HB.out.cell (World.block_lt_of_cell? w _ hw104_0)).trans hw104_0), ((HB.out.cell (World.block_lt_of_cell? w _ hw104_1)).trans hw104_1), ((HB.out.cell (World.block_lt_of_cell? w _ hw106_0)).trans hw106_0), ((HB.out.cell (World.block_lt_of_cell? w _ hw106_1)).trans hw106_1), ((HB.out.cell (World.block_lt_of_cell? w _ hw107_0)).trans hw107_0), ((HB.out.cell (World.block_lt_of_cell? w _ hw107_1)).trans hw107_1)⟩ (fun hHeld => ?_); clear hK K; refine na_ ?_; refine pz_ HT_ 14 (some 24) spec_l23Good.mk15 ?_; refine pz_ HT_ 15 (some 25) spec_l23Good.mk16 ?_; refine pz_ HT_ 16 (some 26) spec_l23Good.mk17 ?_; refine pz_ HT_ 17 (some 27) spec_l23Good.mk18 ?_; refine pz_ HT_ 18 (some 28) spec_l23Good.mk19 ?_; refine pz_ HT_ 19 (some 29) spec_l23Good.mk20 ?_; refine pz_ HT_ 20 (some 30) spec_l23Good.mk21 ?_; refine pz_ HT_ 21 (some 31) spec_l23Good.mk22 ?_; refine pz_ HT_ 22 (some 32) spec_l23Good.mk23 ?_; refine pz_ HT_ 23 (some 33) spec_l23Good.mk24 ?_; refine pz_ HT_ 24 (some 34) spec_l23Good.mk25 ?_; refine pz_ HT_ 26 (some 36) spec_l23Good.mk26 ?_; refine pz_ HT_ 27 (some 37) spec_l23Good.mk27 ?_; refine pz_ HT_ 28 (some 38) spec_l23Good.mk28 ?_; refine pz_ HT_ 29 (some 39) spec_l23Good.mk29 ?_; refine tk_ HT_ HW_ hHeld 25 (some 35) spec_l23Good.mk30 ?_; refine tk_ HT_ HW_ hHeld 30 (some 40) spec_l23Good.mk31 ?_; refine pz_ HT_ 31 (some 41) spec_l23Good.mk32 ?_; refine pz_ HT_ 32 (some 42) spec_l23Good.mk33 ?_; refine pz_ HT_ 33 (some 43) spec_l23Good.mk34 ?_; refine done_ (done_of HT_.out (by kernel_rfl)) ?_
           try go_wp2
           go_ret
           exact ⟨by first | rfl | (simp [errW_none, errW_some] <;> rfl) | (simp only [← hji9]; first | rfl | (simp [errW_none, errW_some] <;> rfl)) | (simp [*, errW_none, errW_some] <;> rfl), lb0_ HB.out⟩
          ·
           rw [if_neg c12] at H
           have c12b0 : decide (((rd_T54 l0 x3_1).f0) ≤ ((rd_T54 l0 (ji9)).f0)) = false := decide_eq_false c12; clear c12; have H' := Aside0.mk H; clear H
           try go_wp2
           replace HB := Aside0.mk (below_drew1 HB.out); have p102 : 0 ≤ (x3_1 : Int) := dt_; have q102 : x3_1 < (l0.length : Int) := dt_; obtain ⟨ad102, e102, hx102_0, hx102_1⟩ := at_T54 HR0.out x3_1 p102 q102; have hw102_1 := hx102_1; have hw102_0 := hx102_0
           cases e102
           replace hx102_0 := bc_ HB.out hx102_0; replace hx102_1 := bc_ HB.out hx102_1; replace p102 := eq_true p102; replace q102 := eq_true q102; have p104 : 0 ≤ (x3_1 : Int) := dt_; have q104 : x3_1 < (l0.length : Int) := dt_; obtain ⟨ad104, e104, hx104_0, hx104_1⟩ := at_T54 HR0.out x3_1 p104 q104; have hw104_1 := hx104_1; have hw104_0 := hx104_0
           obtain rfl : ad102 = ad104 := (by injection e104)
           replace hx104_0 := bc_ HB.out hx104_0; replace hx104_1 := bc_ HB.out hx104_1; replace p104 := eq_true p104; replace q104 := eq_true q104; have p106 : 0 ≤ ((ji9) : Int) := dt_; have q106 : (ji9) < (l0.length : Int) := dt_; obtain ⟨ad106, e106, hx106_0, hx106_1⟩ := at_T54 HR0.out (ji9) p106 q106; have hw106_1 := hx106_1; have hw106_0 := hx106_0
           obtain rfl : ad102 = ad106 := (by injection e106)
           replace hx106_0 := bc_ HB.out hx106_0; replace hx106_1 := bc_ HB.out hx106_1; replace p106 := eq_true p106; replace q106 := eq_true q106; have p107 : 0 ≤ (x3_1 : Int) := dt_; have q107 : x3_1 < (l0.length : Int) := dt_; obtain ⟨ad107, e107, hx107_0, hx107_1⟩ := at_T54 HR0.out x3_1 p107 q107; have hw107_1 := hx107_1; have hw107_0 := hx107_0
           obtain rfl : ad102 = ad107 := (by injection e107)
           replace hx107_0 := bc_ HB.out hx107_0; replace hx107_1 := bc_ HB.out hx107_1; replace p107 := eq_true p107; replace q107 := eq_true q107; refine start_ (n := 34) (S := fun w' => w'.cell? (ad102.add ((x3_1).toNat * 2)) = some (.int .i64 ((rd_T54 l0 x3_1).f0)) ∧ w'.cell? ⟨(ad102.add ((x3_1).toNat * 2)).block, (ad102.add ((x3_1).toNat * 2)).off + 1, none⟩ = some (.int .i64 ((rd_T54 l0 x3_1).f1)) ∧ w'.cell? (ad102.add ((x3_1).toNat * 2)) = some (.int .i64 ((rd_T54 l0 x3_1).f0)) ∧ w'.cell? ⟨(ad102.add ((x3_1).toNat * 2)).block, (ad102.add ((x3_1).toNat * 2)).off + 1, none⟩ = some (.int .i64 ((rd_T54 l0 x3_1).f1)) ∧ w'.cell? (ad102.add (((ji9)).toNat * 2)) = some (.int .i64 ((rd_T54 l0 (ji9)).f0)) ∧ w'.cell? ⟨(ad102.add (((ji9)).toNat * 2)).block, (ad102.add (((ji9)).toNat * 2)).off + 1, none⟩ = some (.int .i64 ((rd_T54 l0 (ji9)).f1)) ∧ w'.cell? (ad102.add ((x3_1).toNat * 2)) = some (.int .i64 ((rd_T54 l0 x3_1).f0)) ∧ w'.cell? ⟨(ad102.add ((x3_1).toNat * 2)).block, (ad102.add ((x3_1).toNat * 2)).off + 1, none⟩ = some (.int .i64 ((rd_T54 l0 x3_1).f1))) (ds := []) spec_l23Good.mk0 (by kernel_rfl) rfl rfl ⟨(bc_ HB.out hw102_0), (bc_ HB.out hw102_1), (bc_ HB.out hw104_0), (bc_ HB.out hw104_1), (bc_ HB.out hw106_0), (bc_ HB.out hw106_1), (bc_ HB.out hw107_0), (bc_ HB.out hw107_1)⟩ (fun hHeld => ?_); refine with_tabW spec_l23Good.tab4 spec_l23Good.bits4 (fun HT_ HW_ => ?_); generalize wr.drew = w14 at HB hx102_0 hx102_1 hx104_0 hx104_1 hx106_0 hx106_1 hx107_0 hx107_1 hHeld ⊢; refine pz_ HT_ 0 (some 10) spec_l23Good.mk1 ?_; refine pz_ HT_ 1 (some 11) spec_l23Good.mk2 ?_; refine pz_ HT_ 2 (some 12) spec_l23Good.mk3 ?_; refine pz_ HT_ 3 (some 13) spec_l23Good.mk4 ?_; refine tk_ HT_ HW_ hHeld 4 (some 14) spec_l23Good.mk5 ?_; refine one_ (i := 5) (N := some 15) spec_l23Good.mk6 rfl rfl (one_of HT_.out (by kernel_rfl)) (by decide) (fun K hK => ?_); refine gs_ Try.func79 #[.int .i64 ((rd_T54 l0 x3_1).f0), .int .i64 0, .int .i64 999] ?_; (with_reducible refine (spec_l1In.calls ((rd_T54 l0 x3_1).f0) 0 999 true _ A4.out).mono ?_); rintro e w' ⟨rfl, ⟨nd, rfl⟩⟩; refine ⟨_, rfl, ?_⟩; refine hK.out _ _ ⟨((HB.out.cell (World.block_lt_of_cell? w _ hw102_0)).trans hw102_0), ((HB.out.cell (World.block_lt_of_cell? w _ hw102_1)).trans hw102_1), ((HB.out.cell (World.block_lt_of_cell? w _ hw104_0)).trans hw104_0), ((HB.out.cell (World.block_lt_of_cell? w _ hw104_1)).trans hw104_1), ((HB.out.cell (World.block_lt_of_cell? w _ hw106_0)).trans hw106_0), ((HB.out.cell (World.block_lt_of_cell? w _ hw106_1)).trans hw106_1), ((HB.out.cell (World.block_lt_of_cell? w _ hw107_0)).trans hw107_0), ((HB.out.cell (World.block_lt_of_cell? w _ hw107_1)).trans hw107_1)⟩ (fun hHeld => ?_); clear hK K; refine na_ ?_; refine pz_ HT_ 6 (some 16) spec_l23Good.mk7 ?_; refine pz_ HT_ 7 (some 17) spec_l23Good.mk8 ?_; refine pz_ HT_ 8 (some 18) spec_l23Good.mk9 ?_; refine pz_ HT_ 9 (some 19) spec_l23Good.mk10 ?_; refine pz_ HT_ 10 (some 20) spec_l23Good.mk11 ?_; refine pz_ HT_ 11 (some 21) spec_l23Good.mk12 ?_; refine tk_ HT_ HW_ hHeld 12 (some 22) spec_l23Good.mk13 ?_; refine one_ (i := 13) (N := some 23) spec_l23Good.mk14 rfl rfl (one_of HT_.out (by kernel_rfl)) (by decide) (fun K hK => ?_); refine gs_ Try.func89 #[.int .i64 ((rd_T54 l0 x3_1).f1)] ?_; (with_reducible refine (spec_l23Level.calls ((rd_T54 l0 x3_1).f1) true _ A6.out).mono ?_); rintro e w' ⟨rfl, ⟨nd, rfl⟩⟩; refine ⟨_, rfl, ?_⟩; refine hK.out _ _ ⟨((HB.out.cell (World.block_lt_of_cell? w _ hw102_0)).trans hw102_0), ((HB.out.cell (World.block_lt_of_cell? w _ hw102_1)).trans hw102_1), ((HB.out.cell (World.block_lt_of_cell? w _ hw104_0)).trans hw104_0), ((HB.out.cell (World.block_lt_of_cell? w _ hw104_1)).trans hw104_1), ((HB.out.cell (World.block_lt_of_cell? w _ hw106_0)).trans hw106_0), ((HB.out.cell (World.block_lt_of_cell? w _ hw106_1)).trans hw106_1), ((HB.out.cell (World.block_lt_of_cell? w _ hw107_0)).trans hw107_0), ((HB.out.cell (World.block_lt_of_cell? w _ hw107_1)).trans hw107_1)⟩ (fun hHeld => ?_); clear hK K; refine na_ ?_; refine pz_ HT_ 14 (some 24) spec_l23Good.mk15 ?_; refine pz_ HT_ 15 (some 25) spec_l23Good.mk16 ?_; refine pz_ HT_ 16 (some 26) spec_l23Good.mk17 ?_; refine pz_ HT_ 17 (some 27) spec_l23Good.mk18 ?_; refine pz_ HT_ 18 (some 28) spec_l23Good.mk19 ?_; refine pz_ HT_ 19 (some 29) spec_l23Good.mk20 ?_; refine pz_ HT_ 20 (some 30) spec_l23Good.mk21 ?_; refine pz_ HT_ 21 (some 31) spec_l23Good.mk22 ?_; refine pz_ HT_ 22 (some 32) spec_l23Good.mk23 ?_; refine pz_ HT_ 23 (some 33) spec_l23Good.mk24 ?_; refine pz_ HT_ 24 (some 34) spec_l23Good.mk25 ?_; refine pz_ HT_ 26 (some 36) spec_l23Good.mk26 ?_; refine pz_ HT_ 27 (some 37) spec_l23Good.mk27 ?_; refine pz_ HT_ 28 (some 38) spec_l23Good.mk28 ?_; refine pz_ HT_ 29 (some 39) spec_l23Good.mk29 ?_; refine tk_ HT_ HW_ hHeld 25 (some 35) spec_l23Good.mk30 ?_; refine tk_ HT_ HW_ hHeld 30 (some 40) spec_l23Good.mk31 ?_; refine pz_ HT_ 31 (some 41) spec_l23Good.mk32 ?_; refine pz_ HT_ 32 (some 42) spec_l23Good.mk33 ?_; refine pz_ HT_ 33 (some 43) spec_l23Good.mk34 ?_; refine done_ (done_of HT_.out (by kernel_rfl)) ?_
           try go_wp2
           go_roundg k1
           case measure => have := HK1.out; omega
           case rel => exact ⟨(wrap64 (x3_1 + 1)), (by first | rfl | (simp; done) | (simp [*]; done)), H', ⟨by have := HK1.out; omega⟩, ⟨lb0_ HB.out⟩⟩
         ·
          rw [if_neg c11] at H
          exact absurd H (by simp)
        ·
         rw [if_neg c10] at H
         exact absurd H (by simp)
       ·
        rw [if_neg c8] at H
        have c8b0 : decide (0 < x3_1) = false := decide_eq_false c8; clear c8; have H' := Aside0.mk H; clear H
        try go_wp2
        replace HB := Aside0.mk (below_drew1 HB.out); have p102 : 0 ≤ (x3_1 : Int) := dt_; have q102 : x3_1 < (l0.length : Int) := dt_; obtain ⟨ad102, e102, hx102_0, hx102_1⟩ := at_T54 HR0.out x3_1 p102 q102; have hw102_1 := hx102_1; have hw102_0 := hx102_0
        cases e102
        replace hx102_0 := bc_ HB.out hx102_0; replace hx102_1 := bc_ HB.out hx102_1; replace p102 := eq_true p102; replace q102 := eq_true q102; have p104 : 0 ≤ (x3_1 : Int) := dt_; have q104 : x3_1 < (l0.length : Int) := dt_; obtain ⟨ad104, e104, hx104_0, hx104_1⟩ := at_T54 HR0.out x3_1 p104 q104; have hw104_1 := hx104_1; have hw104_0 := hx104_0
        obtain rfl : ad102 = ad104 := (by injection e104)
        replace hx104_0 := bc_ HB.out hx104_0; replace hx104_1 := bc_ HB.out hx104_1; replace p104 := eq_true p104; replace q104 := eq_true q104; refine start_ (n := 34) (S := fun w' => w'.cell? (ad102.add ((x3_1).toNat * 2)) = some (.int .i64 ((rd_T54 l0 x3_1).f0)) ∧ w'.cell? ⟨(ad102.add ((x3_1).toNat * 2)).block, (ad102.add ((x3_1).toNat * 2)).off + 1, none⟩ = some (.int .i64 ((rd_T54 l0 x3_1).f1)) ∧ w'.cell? (ad102.add ((x3_1).toNat * 2)) = some (.int .i64 ((rd_T54 l0 x3_1).f0)) ∧ w'.cell? ⟨(ad102.add ((x3_1).toNat * 2)).block, (ad102.add ((x3_1).toNat * 2)).off + 1, none⟩ = some (.int .i64 ((rd_T54 l0 x3_1).f1))) (ds := []) spec_l23Good.mk0 (by kernel_rfl) rfl rfl ⟨(bc_ HB.out hw102_0), (bc_ HB.out hw102_1), (bc_ HB.out hw104_0), (bc_ HB.out hw104_1)⟩ (fun hHeld => ?_); refine with_tabW spec_l23Good.tab4 spec_l23Good.bits4 (fun HT_ HW_ => ?_); generalize wr.drew = w15 at HB hx102_0 hx102_1 hx104_0 hx104_1 hHeld ⊢; refine pz_ HT_ 0 (some 10) spec_l23Good.mk1 ?_; refine pz_ HT_ 1 (some 11) spec_l23Good.mk2 ?_; refine pz_ HT_ 2 (some 12) spec_l23Good.mk3 ?_; refine pz_ HT_ 3 (some 13) spec_l23Good.mk4 ?_; refine tk_ HT_ HW_ hHeld 4 (some 14) spec_l23Good.mk5 ?_; refine one_ (i := 5) (N := some 15) spec_l23Good.mk6 rfl rfl (one_of HT_.out (by kernel_rfl)) (by decide) (fun K hK => ?_); refine gs_ Try.func79 #[.int .i64 ((rd_T54 l0 x3_1).f0), .int .i64 0, .int .i64 999] ?_; (with_reducible refine (spec_l1In.calls ((rd_T54 l0 x3_1).f0) 0 999 true _ A4.out).mono ?_); rintro e w' ⟨rfl, ⟨nd, rfl⟩⟩; refine ⟨_, rfl, ?_⟩; refine hK.out _ _ ⟨((HB.out.cell (World.block_lt_of_cell? w _ hw102_0)).trans hw102_0), ((HB.out.cell (World.block_lt_of_cell? w _ hw102_1)).trans hw102_1), ((HB.out.cell (World.block_lt_of_cell? w _ hw104_0)).trans hw104_0), ((HB.out.cell (World.block_lt_of_cell? w _ hw104_1)).trans hw104_1)⟩ (fun hHeld => ?_); clear hK K; refine na_ ?_; refine pz_ HT_ 6 (some 16) spec_l23Good.mk7 ?_; refine pz_ HT_ 7 (some 17) spec_l23Good.mk8 ?_; refine pz_ HT_ 8 (some 18) spec_l23Good.mk9 ?_; refine pz_ HT_ 9 (some 19) spec_l23Good.mk10 ?_; refine pz_ HT_ 10 (some 20) spec_l23Good.mk11 ?_; refine pz_ HT_ 11 (some 21) spec_l23Good.mk12 ?_; refine tk_ HT_ HW_ hHeld 12 (some 22) spec_l23Good.mk13 ?_; refine one_ (i := 13) (N := some 23) spec_l23Good.mk14 rfl rfl (one_of HT_.out (by kernel_rfl)) (by decide) (fun K hK => ?_); refine gs_ Try.func89 #[.int .i64 ((rd_T54 l0 x3_1).f1)] ?_; (with_reducible refine (spec_l23Level.calls ((rd_T54 l0 x3_1).f1) true _ A6.out).mono ?_); rintro e w' ⟨rfl, ⟨nd, rfl⟩⟩; refine ⟨_, rfl, ?_⟩; refine hK.out _ _ ⟨((HB.out.cell (World.block_lt_of_cell? w _ hw102_0)).trans hw102_0), ((HB.out.cell (World.block_lt_of_cell? w _ hw102_1)).trans hw102_1), ((HB.out.cell (World.block_lt_of_cell? w _ hw104_0)).trans hw104_0), ((HB.out.cell (World.block_lt_of_cell? w _ hw104_1)).trans hw104_1)⟩ (fun hHeld => ?_); clear hK K; refine na_ ?_; refine pz_ HT_ 14 (some 24) spec_l23Good.mk15 ?_; refine pz_ HT_ 15 (some 25) spec_l23Good.mk16 ?_; refine pz_ HT_ 16 (some 26) spec_l23Good.mk17 ?_; refine pz_ HT_ 17 (some 27) spec_l23Good.mk18 ?_; refine pz_ HT_ 18 (some 28) spec_l23Good.mk19 ?_; refine pz_ HT_ 19 (some 29) spec_l23Good.mk20 ?_; refine pu_ HT_ 20 (some 30) spec_l23Good.mk21 ?_; refine pu_ HT_ 21 (some 31) spec_l23Good.mk22 ?_; refine pu_ HT_ 22 (some 32) spec_l23Good.mk23 ?_; refine pu_ HT_ 23 (some 33) spec_l23Good.mk24 ?_; refine pu_ HT_ 24 (some 34) spec_l23Good.mk25 ?_; refine pu_ HT_ 25 (some 35) spec_l23Good.mk35 ?_; refine pu_ HT_ 26 (some 36) spec_l23Good.mk36 ?_; refine pu_ HT_ 27 (some 37) spec_l23Good.mk37 ?_; refine pu_ HT_ 28 (some 38) spec_l23Good.mk38 ?_; refine pu_ HT_ 29 (some 39) spec_l23Good.mk30 ?_; refine pu_ HT_ 30 (some 40) spec_l23Good.mk31 ?_; refine pu_ HT_ 31 (some 41) spec_l23Good.mk32 ?_; refine pz_ HT_ 32 (some 42) spec_l23Good.mk33 ?_; refine pz_ HT_ 33 (some 43) spec_l23Good.mk34 ?_; refine done_ (done_of HT_.out (by kernel_rfl)) ?_
        try go_wp2
        go_roundg k1
        case measure => have := HK1.out; omega
        case rel => exact ⟨(wrap64 (x3_1 + 1)), (by first | rfl | (simp; done) | (simp [*]; done)), H', ⟨by have := HK1.out; omega⟩, ⟨lb0_ HB.out⟩⟩
      ·
       replace c7 := Bool.eq_false_iff.mpr c7
       subst c7
       have H1 : (some false) = some r := by rw [if_neg (show ¬ (false = true) by decide)] at H; exact H
       clear H
       have H := H1
       clear H1
       obtain rfl := Option.some.inj H
       try go_wp2
       replace HB := Aside0.mk (below_drew1 HB.out)
       have p102 : 0 ≤ (x3_1 : Int) := dt_
       have q102 : x3_1 < (l0.length : Int) := dt_
       obtain ⟨ad102, e102, hx102_0, hx102_1⟩ := at_T54 HR0.out x3_1 p102 q102
       have hw102_1 := hx102_1
       have hw102_0 := hx102_0
       cases e102
       replace hx102_0 := bc_ HB.out hx102_0
       replace hx102_1 := bc_ HB.out hx102_1
       replace p102 := eq_true p102
       replace q102 := eq_true q102
       have p104 : 0 ≤ (x3_1 : Int) := dt_
       have q104 : x3_1 < (l0.length : Int) := dt_
       obtain ⟨ad104, e104, hx104_0, hx104_1⟩ := at_T54 HR0.out x3_1 p104 q104
       have hw104_1 := hx104_1
       have hw104_0 := hx104_0
       obtain rfl : ad102 = ad104 := (by injection e104)
       replace hx104_0 := bc_ HB.out hx104_0
       replace hx104_1 := bc_ HB.out hx104_1
       replace p104 := eq_true p104
       replace q104 := eq_true q104
       refine start_ (n := 34) (S := fun w' => w'.cell? (ad102.add ((x3_1).toNat * 2)) = some (.int .i64 ((rd_T54 l0 x3_1).f0)) ∧ w'.cell? ⟨(ad102.add ((x3_1).toNat * 2)).block, (ad102.add ((x3_1).toNat * 2)).off + 1, none⟩ = some (.int .i64 ((rd_T54 l0 x3_1).f1)) ∧ w'.cell? (ad102.add ((x3_1).toNat * 2)) = some (.int .i64 ((rd_T54 l0 x3_1).f0)) ∧ w'.cell? ⟨(ad102.add ((x3_1).toNat * 2)).block, (ad102.add ((x3_1).toNat * 2)).off + 1, none⟩ = some (.int .i64 ((rd_T54 l0 x3_1).f1))) (ds := []) spec_l23Good.mk0 (by kernel_rfl) rfl rfl ⟨(bc_ HB.out hw102_0), (bc_ HB.out hw102_1), (bc_ HB.out hw104_0), (bc_ HB.out hw104_1)⟩ (fun hHeld => ?_); refine with_tabW spec_l23Good.tab4 spec_l23Good.bits4 (fun HT_ HW_ => ?_)
       generalize wr.drew = w16 at HB hx102_0 hx102_1 hx104_0 hx104_1 hHeld ⊢
       refine pz_ HT_ 0 (some 10) spec_l23Good.mk1 ?_
       refine pz_ HT_ 1 (some 11) spec_l23Good.mk2 ?_
       refine pz_ HT_ 2 (some 12) spec_l23Good.mk3 ?_
       refine pz_ HT_ 3 (some 13) spec_l23Good.mk4 ?_
       refine tk_ HT_ HW_ hHeld 4 (some 14) spec_l23Good.mk5 ?_
       refine one_ (i := 5) (N := some 15) spec_l23Good.mk6 rfl rfl (one_of HT_.out (by kernel_rfl)) (by decide) (fun K hK => ?_)
       refine gs_ Try.func79 #[.int .i64 ((rd_T54 l0 x3_1).f0), .int .i64 0, .int .i64 999] ?_
       with_reducible refine (spec_l1In.calls ((rd_T54 l0 x3_1).f0) 0 999 true _ A4.out).mono ?_
       rintro e w' ⟨rfl, ⟨nd, rfl⟩⟩
       refine ⟨_, rfl, ?_⟩
       refine hK.out _ _ ⟨((HB.out.cell (World.block_lt_of_cell? w _ hw102_0)).trans hw102_0), ((HB.out.cell (World.block_lt_of_cell? w _ hw102_1)).trans hw102_1), ((HB.out.cell (World.block_lt_of_cell? w _ hw104_0)).trans hw104_0), ((HB.out.cell (World.block_lt_of_cell? w _ hw104_1)).trans hw104_1)⟩ (fun hHeld => ?_)
       clear hK K
       refine na_ ?_
       refine pz_ HT_ 6 (some 16) spec_l23Good.mk7 ?_
       refine pz_ HT_ 7 (some 17) spec_l23Good.mk8 ?_
       refine pz_ HT_ 8 (some 18) spec_l23Good.mk9 ?_
       refine pz_ HT_ 9 (some 19) spec_l23Good.mk10 ?_
       refine pz_ HT_ 10 (some 20) spec_l23Good.mk11 ?_
       refine pz_ HT_ 11 (some 21) spec_l23Good.mk12 ?_
       refine tk_ HT_ HW_ hHeld 12 (some 22) spec_l23Good.mk13 ?_
       refine one_ (i := 13) (N := some 23) spec_l23Good.mk14 rfl rfl (one_of HT_.out (by kernel_rfl)) (by decide) (fun K hK => ?_)
       refine gs_ Try.func89 #[.int .i64 ((rd_T54 l0 x3_1).f1)] ?_
       with_reducible refine (spec_l23Level.calls ((rd_T54 l0 x3_1).f1) false _ A6.out).mono ?_
       rintro e w' ⟨rfl, ⟨nd, rfl⟩⟩
       refine ⟨_, rfl, ?_⟩
       refine hK.out _ _ ⟨((HB.out.cell (World.block_lt_of_cell? w _ hw102_0)).trans hw102_0), ((HB.out.cell (World.block_lt_of_cell? w _ hw102_1)).trans hw102_1), ((HB.out.cell (World.block_lt_of_cell? w _ hw104_0)).trans hw104_0), ((HB.out.cell (World.block_lt_of_cell? w _ hw104_1)).trans hw104_1)⟩ (fun hHeld => ?_)
       clear hK K
       refine na_ ?_
       refine pz_ HT_ 14 (some 24) spec_l23Good.mk15 ?_
       refine pz_ HT_ 15 (some 25) spec_l23Good.mk16 ?_
       refine pz_ HT_ 16 (some 26) spec_l23Good.mk17 ?_
       refine pu_ HT_ 17 (some 27) spec_l23Good.mk18 ?_
       refine pu_ HT_ 18 (some 28) spec_l23Good.mk19 ?_
       refine pu_ HT_ 19 (some 29) spec_l23Good.mk20 ?_
       refine pu_ HT_ 20 (some 30) spec_l23Good.mk21 ?_
       refine pu_ HT_ 21 (some 31) spec_l23Good.mk22 ?_
       refine pu_ HT_ 22 (some 32) spec_l23Good.mk23 ?_
       refine pu_ HT_ 23 (some 33) spec_l23Good.mk24 ?_
       refine pu_ HT_ 24 (some 34) spec_l23Good.mk25 ?_
       refine pu_ HT_ 25 (some 35) spec_l23Good.mk35 ?_
       refine pu_ HT_ 26 (some 36) spec_l23Good.mk36 ?_
       refine pu_ HT_ 27 (some 37) spec_l23Good.mk37 ?_
       refine pu_ HT_ 28 (some 38) spec_l23Good.mk38 ?_
       refine pu_ HT_ 29 (some 39) spec_l23Good.mk30 ?_
       refine pu_ HT_ 30 (some 40) spec_l23Good.mk31 ?_
       refine pu_ HT_ 31 (some 41) spec_l23Good.mk32 ?_
       refine pu_ HT_ 32 (some 42) spec_l23Good.mk33 ?_
       refine pz_ HT_ 33 (some 43) spec_l23Good.mk34 ?_
       refine done_ (done_of HT_.out (by kernel_rfl)) ?_
       try go_wp2
       go_ret
       exact ⟨rr_, lb0_ HB.out⟩
     ·
      replace c5 := Bool.eq_false_iff.mpr c5
      subst c5
      have H1 : (some false) = some r := by rw [if_neg (show ¬ (false = true) by decide)] at H; exact H
      clear H
      have H := H1
      clear H1
      obtain rfl := Option.some.inj H
      try go_wp2
      replace HB := Aside0.mk (below_drew1 HB.out)
      have p102 : 0 ≤ (x3_1 : Int) := dt_
      have q102 : x3_1 < (l0.length : Int) := dt_
      obtain ⟨ad102, e102, hx102_0, hx102_1⟩ := at_T54 HR0.out x3_1 p102 q102
      have hw102_1 := hx102_1
      have hw102_0 := hx102_0
      cases e102
      replace hx102_0 := bc_ HB.out hx102_0
      replace hx102_1 := bc_ HB.out hx102_1
      replace p102 := eq_true p102
      replace q102 := eq_true q102
      refine start_ (n := 34) (S := fun w' => w'.cell? (ad102.add ((x3_1).toNat * 2)) = some (.int .i64 ((rd_T54 l0 x3_1).f0)) ∧ w'.cell? ⟨(ad102.add ((x3_1).toNat * 2)).block, (ad102.add ((x3_1).toNat * 2)).off + 1, none⟩ = some (.int .i64 ((rd_T54 l0 x3_1).f1))) (ds := []) spec_l23Good.mk0 (by kernel_rfl) rfl rfl ⟨(bc_ HB.out hw102_0), (bc_ HB.out hw102_1)⟩ (fun hHeld => ?_); refine with_tabW spec_l23Good.tab4 spec_l23Good.bits4 (fun HT_ HW_ => ?_)
      generalize wr.drew = w17 at HB hx102_0 hx102_1 hHeld ⊢
      refine pz_ HT_ 0 (some 10) spec_l23Good.mk1 ?_
      refine pz_ HT_ 1 (some 11) spec_l23Good.mk2 ?_
      refine pz_ HT_ 2 (some 12) spec_l23Good.mk3 ?_
      refine pz_ HT_ 3 (some 13) spec_l23Good.mk4 ?_
      refine tk_ HT_ HW_ hHeld 4 (some 14) spec_l23Good.mk5 ?_
      refine one_ (i := 5) (N := some 15) spec_l23Good.mk6 rfl rfl (one_of HT_.out (by kernel_rfl)) (by decide) (fun K hK => ?_)
      refine gs_ Try.func79 #[.int .i64 ((rd_T54 l0 x3_1).f0), .int .i64 0, .int .i64 999] ?_
      with_reducible refine (spec_l1In.calls ((rd_T54 l0 x3_1).f0) 0 999 false _ A4.out).mono ?_
      rintro e w' ⟨rfl, ⟨nd, rfl⟩⟩
      refine ⟨_, rfl, ?_⟩
      refine hK.out _ _ ⟨((HB.out.cell (World.block_lt_of_cell? w _ hw102_0)).trans hw102_0), ((HB.out.cell (World.block_lt_of_cell? w _ hw102_1)).trans hw102_1)⟩ (fun hHeld => ?_)
      clear hK K
      refine na_ ?_
      refine pz_ HT_ 6 (some 16) spec_l23Good.mk7 ?_
      refine pz_ HT_ 7 (some 17) spec_l23Good.mk8 ?_
      refine pu_ HT_ 8 (some 18) spec_l23Good.mk9 ?_
      refine pu_ HT_ 9 (some 19) spec_l23Good.mk10 ?_
      refine pu_ HT_ 10 (some 20) spec_l23Good.mk11 ?_
      refine pu_ HT_ 11 (some 21) spec_l23Good.mk12 ?_
      refine pu_ HT_ 12 (some 22) spec_l23Good.mk13 ?_
      refine pu_ HT_ 13 (some 23) spec_l23Good.mk14 ?_
      refine pu_ HT_ 14 (some 24) spec_l23Good.mk15 ?_
      refine pz_ HT_ 15 (some 25) spec_l23Good.mk16 ?_
      refine pz_ HT_ 16 (some 26) spec_l23Good.mk17 ?_
      refine pu_ HT_ 17 (some 27) spec_l23Good.mk18 ?_
      refine pu_ HT_ 18 (some 28) spec_l23Good.mk19 ?_
      refine pu_ HT_ 19 (some 29) spec_l23Good.mk20 ?_
      refine pu_ HT_ 20 (some 30) spec_l23Good.mk21 ?_
      refine pu_ HT_ 21 (some 31) spec_l23Good.mk22 ?_
      refine pu_ HT_ 22 (some 32) spec_l23Good.mk23 ?_
      refine pu_ HT_ 23 (some 33) spec_l23Good.mk24 ?_
      refine pu_ HT_ 24 (some 34) spec_l23Good.mk25 ?_
      refine pu_ HT_ 25 (some 35) spec_l23Good.mk35 ?_
      refine pu_ HT_ 26 (some 36) spec_l23Good.mk36 ?_
      refine pu_ HT_ 27 (some 37) spec_l23Good.mk37 ?_
      refine pu_ HT_ 28 (some 38) spec_l23Good.mk38 ?_
      refine pu_ HT_ 29 (some 39) spec_l23Good.mk30 ?_
      refine pu_ HT_ 30 (some 40) spec_l23Good.mk31 ?_
      refine pu_ HT_ 31 (some 41) spec_l23Good.mk32 ?_
      refine pu_ HT_ 32 (some 42) spec_l23Good.mk33 ?_
      refine pz_ HT_ 33 (some 43) spec_l23Good.mk34 ?_
      refine done_ (done_of HT_.out (by kernel_rfl)) ?_
      try go_wp2
      go_ret
      exact ⟨rr_, lb0_ HB.out⟩
    ·
     rw [if_neg c3] at H
     exact absurd H (by simp)
   ·
    rw [if_neg c2] at H
    have c2b0 : decide (x3_1 < (l0.length : Int)) = false := decide_eq_false c2
    clear c2
    obtain rfl := Option.some.inj H
    go_wp2
    go_ret
    exact ⟨rr_, lb0_ HB.out⟩
def spec_l23Within.f (k : Nat) (l0 : List (S54)) (a1 : Int) : Option (Bool) := (spec_l23Good.f k l0).bind fun t108 => (if t108 = true then (if (l0.length : Int) > 0 then (if 0 < (l0.length : Int) then (if 0 ≤ (wrap64 ((l0.length : Int) - 1)) then (if (wrap64 ((l0.length : Int) - 1)) < (l0.length : Int) then ((spec_l1In.f a1 ((rd_T54 l0 0).f0) ((rd_T54 l0 (wrap64 ((l0.length : Int) - 1))).f0)).bind fun t111 => (some t111)) else (none)) else (none)) else (none)) else (some false)) else (some false))
def spec_l23Within.T1 : Bool × List (List Nat × List Nat) := (true, [([], []), ([0], [0]), ([1, 1], [1]), ([2], [2]), ([3, 2], [2, 3]), ([4, 2], [2, 4]), ([2, 5], [2, 5]), ([6, 2], [6]), ([7], [7]), ([7], [7]), ([9, 7], [7, 9]), ([10, 7], [7, 10]), ([11, 7], [7, 11]), ([7], [7]), ([7], [7]), ([14, 7], [7, 14]), ([15, 7], [7, 15]), ([13, 16, 7], [7, 13, 16]), ([17, 7], [7, 17]), ([18, 7], [7, 18]), ([8, 12, 19, 7, 7], [7, 8, 12, 19]), ([7, 20], [7, 20]), ([21, 20, 0, 1, 2, 3, 4, 5, 6, 7, 8, 9, 10, 11, 12, 13, 14, 15, 16, 17, 18, 19, 20, 21], [21])])
def spec_l23Within.B1 : List Nat := [0, 1, 3, 7, 15, 31, 63, 127, 255, 255, 767, 1791, 3839, 255, 255, 16639, 49407, 123135, 254207, 516351, 1048575, 2097151, 4194303]
theorem spec_l23Within.tab1 : rtab .any (opsOf Try.f54 1) = spec_l23Within.T1 := by kernel_rfl
theorem spec_l23Within.bits1 : waitsOk spec_l23Within.T1.2 spec_l23Within.B1 = true := by kernel_rfl
abbrev spec_l23Within.mk0 : Array Bool := #[fF,fF,fF,fF,fF,fF,fF,fF,fF,fF,fF,fF,fF,fF,fF,fF,fF,fF,fF,fF,fF,fF,fF]
abbrev spec_l23Within.mk1 : Array Bool := #[tT,fF,fF,fF,fF,fF,fF,fF,fF,fF,fF,fF,fF,fF,fF,fF,fF,fF,fF,fF,fF,fF,fF]
abbrev spec_l23Within.mk2 : Array Bool := #[tT,tT,fF,fF,fF,fF,fF,fF,fF,fF,fF,fF,fF,fF,fF,fF,fF,fF,fF,fF,fF,fF,fF]
abbrev spec_l23Within.mk3 : Array Bool := #[tT,tT,tT,fF,fF,fF,fF,fF,fF,fF,fF,fF,fF,fF,fF,fF,fF,fF,fF,fF,fF,fF,fF]
abbrev spec_l23Within.mk4 : Array Bool := #[tT,tT,tT,tT,fF,fF,fF,fF,fF,fF,fF,fF,fF,fF,fF,fF,fF,fF,fF,fF,fF,fF,fF]
abbrev spec_l23Within.mk5 : Array Bool := #[tT,tT,tT,tT,tT,fF,fF,fF,fF,fF,fF,fF,fF,fF,fF,fF,fF,fF,fF,fF,fF,fF,fF]
abbrev spec_l23Within.mk6 : Array Bool := #[tT,tT,tT,tT,tT,tT,fF,fF,fF,fF,fF,fF,fF,fF,fF,fF,fF,fF,fF,fF,fF,fF,fF]
abbrev spec_l23Within.mk7 : Array Bool := #[tT,tT,tT,tT,tT,tT,tT,fF,fF,fF,fF,fF,fF,fF,fF,fF,fF,fF,fF,fF,fF,fF,fF]
abbrev spec_l23Within.mk8 : Array Bool := #[tT,tT,tT,tT,tT,tT,tT,tT,fF,fF,fF,fF,fF,fF,fF,fF,fF,fF,fF,fF,fF,fF,fF]
abbrev spec_l23Within.mk9 : Array Bool := #[tT,tT,tT,tT,tT,tT,tT,tT,tT,fF,fF,fF,fF,fF,fF,fF,fF,fF,fF,fF,fF,fF,fF]
abbrev spec_l23Within.mk10 : Array Bool := #[tT,tT,tT,tT,tT,tT,tT,tT,tT,tT,fF,fF,fF,fF,fF,fF,fF,fF,fF,fF,fF,fF,fF]
abbrev spec_l23Within.mk11 : Array Bool := #[tT,tT,tT,tT,tT,tT,tT,tT,tT,tT,tT,fF,fF,fF,fF,fF,fF,fF,fF,fF,fF,fF,fF]
abbrev spec_l23Within.mk12 : Array Bool := #[tT,tT,tT,tT,tT,tT,tT,tT,tT,tT,tT,tT,fF,fF,fF,fF,fF,fF,fF,fF,fF,fF,fF]
abbrev spec_l23Within.mk13 : Array Bool := #[tT,tT,tT,tT,tT,tT,tT,tT,tT,tT,tT,tT,fF,tT,fF,fF,fF,fF,fF,fF,fF,fF,fF]
abbrev spec_l23Within.mk14 : Array Bool := #[tT,tT,tT,tT,tT,tT,tT,tT,tT,tT,tT,tT,fF,tT,tT,fF,fF,fF,fF,fF,fF,fF,fF]
abbrev spec_l23Within.mk15 : Array Bool := #[tT,tT,tT,tT,tT,tT,tT,tT,tT,tT,tT,tT,fF,tT,tT,tT,fF,fF,fF,fF,fF,fF,fF]
abbrev spec_l23Within.mk16 : Array Bool := #[tT,tT,tT,tT,tT,tT,tT,tT,tT,tT,tT,tT,fF,tT,tT,tT,tT,fF,fF,fF,fF,fF,fF]
abbrev spec_l23Within.mk17 : Array Bool := #[tT,tT,tT,tT,tT,tT,tT,tT,tT,tT,tT,tT,fF,tT,tT,tT,tT,tT,fF,fF,fF,fF,fF]
abbrev spec_l23Within.mk18 : Array Bool := #[tT,tT,tT,tT,tT,tT,tT,tT,tT,tT,tT,tT,fF,tT,tT,tT,tT,tT,tT,fF,fF,fF,fF]
abbrev spec_l23Within.mk19 : Array Bool := #[tT,tT,tT,tT,tT,tT,tT,tT,tT,tT,tT,tT,tT,tT,tT,tT,tT,tT,tT,fF,fF,fF,fF]
abbrev spec_l23Within.mk20 : Array Bool := #[tT,tT,tT,tT,tT,tT,tT,tT,tT,tT,tT,tT,tT,tT,tT,tT,tT,tT,tT,tT,fF,fF,fF]
abbrev spec_l23Within.mk21 : Array Bool := #[tT,tT,tT,tT,tT,tT,tT,tT,tT,tT,tT,tT,tT,tT,tT,tT,tT,tT,tT,tT,tT,fF,fF]
abbrev spec_l23Within.mk22 : Array Bool := #[tT,tT,tT,tT,tT,tT,tT,tT,tT,tT,tT,tT,tT,tT,tT,tT,tT,tT,tT,tT,tT,tT,fF]
abbrev spec_l23Within.mk23 : Array Bool := #[tT,tT,tT,tT,tT,tT,tT,tT,tT,tT,tT,tT,tT,tT,tT,tT,tT,tT,tT,tT,tT,tT,tT]
abbrev spec_l23Within.mk24 : Array Bool := #[tT,tT,tT,tT,tT,tT,tT,tT,tT,tT,tT,tT,tT,fF,fF,fF,fF,fF,fF,fF,fF,fF,fF]
abbrev spec_l23Within.mk25 : Array Bool := #[tT,tT,tT,tT,tT,tT,tT,tT,tT,tT,tT,tT,tT,tT,fF,fF,fF,fF,fF,fF,fF,fF,fF]
abbrev spec_l23Within.mk26 : Array Bool := #[tT,tT,tT,tT,tT,tT,tT,tT,tT,tT,tT,tT,tT,tT,tT,fF,fF,fF,fF,fF,fF,fF,fF]
abbrev spec_l23Within.mk27 : Array Bool := #[tT,tT,tT,tT,tT,tT,tT,tT,tT,tT,tT,tT,tT,tT,tT,tT,fF,fF,fF,fF,fF,fF,fF]
abbrev spec_l23Within.mk28 : Array Bool := #[tT,tT,tT,tT,tT,tT,tT,tT,tT,tT,tT,tT,tT,tT,tT,tT,tT,fF,fF,fF,fF,fF,fF]
abbrev spec_l23Within.mk29 : Array Bool := #[tT,tT,tT,tT,tT,tT,tT,tT,tT,tT,tT,tT,tT,tT,tT,tT,tT,tT,fF,fF,fF,fF,fF]
set_option maxHeartbeats 8000000 in
set_option maxRecDepth 100000 in
theorem spec_l23Within.calls (k : Nat) (A0 : Option Addr) (c0 : Nat) (l0 : List (S54)) (a1 : Int) (r : Bool) (w : World) (hr0 : Kd.C k54 w A0 l0.length l0) (hc0 : l0.length ≤ c0) (h : spec_l23Within.f k l0 a1 = some r) :
  Calls Try.prog 54 #[.slice A0 l0.length c0, .int .i64 a1] w fun e w' => e = .returned (.bool r) ∧ Below w.heap.size w w' := by
 have HR0 := Aside0.mk hr0
 have HC0 := Aside0.mk hc0
 clear hr0 hc0
 have HB := Aside0.mk (Below.refl w.heap.size w)
 have H : ((spec_l23Good.f k l0).bind fun t108 => (if t108 = true then (if (l0.length : Int) > 0 then (if 0 < (l0.length : Int) then (if 0 ≤ (wrap64 ((l0.length : Int) - 1)) then (if (wrap64 ((l0.length : Int) - 1)) < (l0.length : Int) then ((spec_l1In.f a1 ((rd_T54 l0 0).f0) ((rd_T54 l0 (wrap64 ((l0.length : Int) - 1))).f0)).bind fun t111 => (some t111)) else (none)) else (none)) else (none)) else (some false)) else (some false))) = some r := h
 clear h
 replace H := Option.bind_eq_some_iff.mp H
 obtain ⟨t108, A30, H⟩ := H
 replace H : (if t108 = true then (if (l0.length : Int) > 0 then (if 0 < (l0.length : Int) then (if 0 ≤ (wrap64 ((l0.length : Int) - 1)) then (if (wrap64 ((l0.length : Int) - 1)) < (l0.length : Int) then ((spec_l1In.f a1 ((rd_T54 l0 0).f0) ((rd_T54 l0 (wrap64 ((l0.length : Int) - 1))).f0)).bind fun t111 => (some t111)) else (none)) else (none)) else (none)) else (some false)) else (some false)) = some r := H
 have A3 := Aside0.mk A30
 clear A30
 by_cases c4 : t108 = true
 ·
  subst c4
  have H1 : (if (l0.length : Int) > 0 then (if 0 < (l0.length : Int) then (if 0 ≤ (wrap64 ((l0.length : Int) - 1)) then (if (wrap64 ((l0.length : Int) - 1)) < (l0.length : Int) then ((spec_l1In.f a1 ((rd_T54 l0 0).f0) ((rd_T54 l0 (wrap64 ((l0.length : Int) - 1))).f0)).bind fun t111 => (some t111)) else (none)) else (none)) else (none)) else (some false)) = some r := by rw [if_pos rfl] at H; exact H
  clear H
  have H := H1
  clear H1
  by_cases c5 : (l0.length : Int) > 0
  ·
   rw [if_pos c5] at H
   have c5b0 : decide (0 < (l0.length : Int)) = true := decide_eq_true c5
   have c5b1 : decide (0 < l0.length) = true := decide_eq_true (by omega)
   clear c5
   by_cases c6 : 0 < (l0.length : Int)
   ·
    rw [if_pos c6] at H
    have c6b0 : decide (0 < (l0.length : Int)) = true := decide_eq_true c6
    have c6b1 : decide (0 < l0.length) = true := decide_eq_true (by omega)
    clear c6
    obtain ⟨ji7, hji7⟩ : ∃ j_ : Int, (wrap64 ((l0.length : Int) - 1)) = j_ := ⟨_, rfl⟩
    replace H : (if 0 ≤ (ji7) then (if (ji7) < (l0.length : Int) then ((spec_l1In.f a1 ((rd_T54 l0 0).f0) ((rd_T54 l0 (ji7)).f0)).bind fun t111 => (some t111)) else (none)) else (none)) = some r := by first | (rw [hji7] at H; exact H) | (simp only [hji7] at H ⊢; exact H)
    (try rw [hji7] at A3)
    have hji7w : (IntKind.i64.wrap ((l0.length : Int) - 1)) = ji7 := (i64_w _).trans hji7
    by_cases c8 : 0 ≤ (ji7)
    ·
     rw [if_pos c8] at H
     have c8b0 : decide (0 ≤ (ji7)) = true := decide_eq_true c8
     clear c8
     by_cases c9 : (ji7) < (l0.length : Int)
     ·
      rw [if_pos c9] at H
      have c9b0 : decide ((ji7) < (l0.length : Int)) = true := decide_eq_true c9
      clear c9
      replace H := Option.bind_eq_some_iff.mp H
      obtain ⟨t111, A100, H⟩ := H
      replace H : (some t111) = some r := H
      have A10 := Aside0.mk A100
      clear A100
      obtain rfl := Option.some.inj H
      go_enter Try.func54, Try.ntmps54
      try go_wp2
      replace HB := Aside0.mk (below_drew1 HB.out)
      have p109 : 0 ≤ (0 : Int) := (by omega)
      have q109 : 0 < (l0.length : Int) := dt_
      obtain ⟨ad109, e109, hx109_0, hx109_1⟩ := at_T54 HR0.out 0 p109 q109
      have hw109_1 := hx109_1
      (try rw [show ((0 : Int)).toNat = 0 from rfl] at hw109_1)
      (try rw [show 0 * 2 = 0 from rfl] at hw109_1)
      (try rw [Addr.add_zero'] at hw109_1)
      have hw109_0 := hx109_0
      (try rw [show ((0 : Int)).toNat = 0 from rfl] at hw109_0)
      (try rw [show 0 * 2 = 0 from rfl] at hw109_0)
      (try rw [Addr.add_zero'] at hw109_0)
      cases e109
      have qi109 : (0 < l0.length) = True := eq_true (by omega)
      (try rw [show ((0 : Int)).toNat = 0 from rfl] at hx109_0)
      (try rw [show 0 * 2 = 0 from rfl] at hx109_0)
      (try rw [Addr.add_zero'] at hx109_0)
      (try rw [show ((0 : Int)).toNat = 0 from rfl] at hx109_1)
      (try rw [show 0 * 2 = 0 from rfl] at hx109_1)
      (try rw [Addr.add_zero'] at hx109_1)
      replace hx109_0 := bc_ HB.out hx109_0
      replace hx109_1 := bc_ HB.out hx109_1
      replace p109 := eq_true p109
      replace q109 := eq_true q109
      have p110 : 0 ≤ ((ji7) : Int) := dt_
      have q110 : (ji7) < (l0.length : Int) := dt_
      obtain ⟨ad110, e110, hx110_0, hx110_1⟩ := at_T54 HR0.out (ji7) p110 q110
      have hw110_1 := hx110_1
      have hw110_0 := hx110_0
      obtain rfl : ad109 = ad110 := (by injection e110)
      replace hx110_0 := bc_ HB.out hx110_0
      replace hx110_1 := bc_ HB.out hx110_1
      replace p110 := eq_true p110
      replace q110 := eq_true q110
      refine start_ (n := 23) (S := fun w' => w'.cell? ad109 = some (.int .i64 ((rd_T54 l0 0).f0)) ∧ w'.cell? ⟨ad109.block, ad109.off + 1, none⟩ = some (.int .i64 ((rd_T54 l0 0).f1)) ∧ w'.cell? (ad109.add (((ji7)).toNat * 2)) = some (.int .i64 ((rd_T54 l0 (ji7)).f0)) ∧ w'.cell? ⟨(ad109.add (((ji7)).toNat * 2)).block, (ad109.add (((ji7)).toNat * 2)).off + 1, none⟩ = some (.int .i64 ((rd_T54 l0 (ji7)).f1))) (ds := []) spec_l23Within.mk0 (by kernel_rfl) rfl rfl ⟨(bc_ HB.out hw109_0), (bc_ HB.out hw109_1), (bc_ HB.out hw110_0), (bc_ HB.out hw110_1)⟩ (fun hHeld => ?_); refine with_tabW spec_l23Within.tab1 spec_l23Within.bits1 (fun HT_ HW_ => ?_)
      generalize w.drew = w11 at HB hx109_0 hx109_1 hx110_0 hx110_1 hHeld ⊢
      refine pz_ HT_ 0 (some 5) spec_l23Within.mk1 ?_
      refine one_ (i := 1) (N := some 6) spec_l23Within.mk2 rfl rfl (one_of HT_.out (by kernel_rfl)) (by decide) (fun K hK => ?_)
      refine gs_ Try.func62 #[.slice (some ad109) l0.length c0] ?_
      with_reducible refine (spec_l23Good.calls k _ _ l0 true _ ?side1 ?side2 A3.out).mono ?_
      (case side1 => exact kc_ (Kd.C_below HR0.out HB.out))
      (case side2 => exact HC0.out)
      rintro e w12 ⟨rfl, hb⟩
      refine ⟨_, rfl, ?_⟩
      replace HB := Aside0.mk (below_step (lb0_ HB.out) hb)
      (try clear hb)
      (try clear hb2)
      (try clear hk)
      (try clear hi)
      refine hK.out _ _ ⟨((HB.out.cell (World.block_lt_of_cell? w _ hw109_0)).trans hw109_0), ((HB.out.cell (World.block_lt_of_cell? w _ hw109_1)).trans hw109_1), ((HB.out.cell (World.block_lt_of_cell? w _ hw110_0)).trans hw110_0), ((HB.out.cell (World.block_lt_of_cell? w _ hw110_1)).trans hw110_1)⟩ (fun hHeld => ?_)
      clear hK K
      refine na_ ?_
      refine pz_ HT_ 2 (some 7) spec_l23Within.mk3 ?_
      refine pz_ HT_ 3 (some 8) spec_l23Within.mk4 ?_
      refine pz_ HT_ 4 (some 9) spec_l23Within.mk5 ?_
      refine pz_ HT_ 5 (some 10) spec_l23Within.mk6 ?_
      refine pz_ HT_ 6 (some 11) spec_l23Within.mk7 ?_
      refine pz_ HT_ 7 (some 12) spec_l23Within.mk8 ?_
      refine pz_ HT_ 8 (some 13) spec_l23Within.mk9 ?_
      refine pz_ HT_ 9 (some 14) spec_l23Within.mk10 ?_
      refine pz_ HT_ 10 (some 15) spec_l23Within.mk11 ?_
      refine pz_ HT_ 11 (some 16) spec_l23Within.mk12 ?_
      refine pz_ HT_ 13 (some 18) spec_l23Within.mk13 ?_
      refine pz_ HT_ 14 (some 19) spec_l23Within.mk14 ?_
      refine pz_ HT_ 15 (some 20) spec_l23Within.mk15 ?_
      refine pz_ HT_ 16 (some 21) spec_l23Within.mk16 ?_
      refine pz_ HT_ 17 (some 22) spec_l23Within.mk17 ?_
      refine pz_ HT_ 18 (some 23) spec_l23Within.mk18 ?_
      refine tk_ HT_ HW_ hHeld 12 (some 17) spec_l23Within.mk19 ?_
      refine tk_ HT_ HW_ hHeld 19 (some 24) spec_l23Within.mk20 ?_
      refine one_ (i := 20) (N := some 25) spec_l23Within.mk21 rfl rfl (one_of HT_.out (by kernel_rfl)) (by decide) (fun K hK => ?_)
      refine goes_ Try.func79 (by kernel_rfl) rfl #[.int .i64 a1, .int .i64 ((rd_T54 l0 0).f0), .int .i64 ((rd_T54 l0 (ji7)).f0)] (by rfl) rfl rfl (by (try simp only [List.map_toArray, List.map_cons, List.map_nil]); first | done | (simp only [hji7]; rfl) | rfl | (simp only [List.length_drop, List.length_take]; rfl)) ?_
      with_reducible refine (spec_l1In.calls a1 ((rd_T54 l0 0).f0) ((rd_T54 l0 (ji7)).f0) t111 _ A10.out).mono ?_
      rintro e w' ⟨rfl, ⟨nd, rfl⟩⟩
      refine ⟨_, rfl, ?_⟩
      refine hK.out _ _ ⟨((HB.out.cell (World.block_lt_of_cell? w _ hw109_0)).trans hw109_0), ((HB.out.cell (World.block_lt_of_cell? w _ hw109_1)).trans hw109_1), ((HB.out.cell (World.block_lt_of_cell? w _ hw110_0)).trans hw110_0), ((HB.out.cell (World.block_lt_of_cell? w _ hw110_1)).trans hw110_1)⟩ (fun hHeld => ?_)
      clear hK K
      refine na_ ?_
      refine pz_ HT_ 21 (some 26) spec_l23Within.mk22 ?_
      refine pz_ HT_ 22 (some 4) spec_l23Within.mk23 ?_
      refine done_ (done_of HT_.out (by kernel_rfl)) ?_
      try go_wp2
      go_ret
      exact ⟨by first | rfl | (simp [errW_none, errW_some] <;> rfl) | (simp only [← hji7]; first | rfl | (simp [errW_none, errW_some] <;> rfl)) | (simp [*, errW_none, errW_some] <;> rfl), lb0_ HB.out⟩
     ·
      rw [if_neg c9] at H
      exact absurd H (by simp)
    ·
     rw [if_neg c8] at H
     exact absurd H (by simp)
   ·
    rw [if_neg c6] at H
    exact absurd H (by simp)
  ·
   rw [if_neg c5] at H
   have c5b0 : decide (0 < (l0.length : Int)) = false := decide_eq_false c5
   have c5b1 : decide (0 < l0.length) = false := decide_eq_false (by omega)
   clear c5
   obtain rfl := Option.some.inj H
   go_enter Try.func54, Try.ntmps54
   try go_wp2
   replace HB := Aside0.mk (below_drew1 HB.out)
   refine start_ (n := 23) (S := fun w' => True) (ds := []) spec_l23Within.mk0 (by kernel_rfl) rfl rfl trivial (fun hHeld => ?_); refine with_tabW spec_l23Within.tab1 spec_l23Within.bits1 (fun HT_ HW_ => ?_)
   generalize w.drew = w13 at HB hHeld ⊢
   refine pz_ HT_ 0 (some 5) spec_l23Within.mk1 ?_
   refine one_ (i := 1) (N := some 6) spec_l23Within.mk2 rfl rfl (one_of HT_.out (by kernel_rfl)) (by decide) (fun K hK => ?_)
   refine gs_ Try.func62 #[.slice A0 l0.length c0] ?_
   with_reducible refine (spec_l23Good.calls k _ _ l0 true _ ?side1 ?side2 A3.out).mono ?_
   (case side1 => exact kc_ (Kd.C_below HR0.out HB.out))
   (case side2 => exact HC0.out)
   rintro e w14 ⟨rfl, hb⟩
   refine ⟨_, rfl, ?_⟩
   replace HB := Aside0.mk (below_step (lb0_ HB.out) hb)
   (try clear hb)
   (try clear hb2)
   (try clear hk)
   (try clear hi)
   refine hK.out _ _ trivial (fun hHeld => ?_)
   clear hK K
   refine na_ ?_
   refine pz_ HT_ 2 (some 7) spec_l23Within.mk3 ?_
   refine pz_ HT_ 3 (some 8) spec_l23Within.mk4 ?_
   refine pz_ HT_ 4 (some 9) spec_l23Within.mk5 ?_
   refine pz_ HT_ 5 (some 10) spec_l23Within.mk6 ?_
   refine pz_ HT_ 6 (some 11) spec_l23Within.mk7 ?_
   refine pz_ HT_ 7 (some 12) spec_l23Within.mk8 ?_
   refine pu_ HT_ 8 (some 13) spec_l23Within.mk9 ?_
   refine pu_ HT_ 9 (some 14) spec_l23Within.mk10 ?_
   refine pu_ HT_ 10 (some 15) spec_l23Within.mk11 ?_
   refine pu_ HT_ 11 (some 16) spec_l23Within.mk12 ?_
   refine pu_ HT_ 12 (some 17) spec_l23Within.mk24 ?_
   refine pu_ HT_ 13 (some 18) spec_l23Within.mk25 ?_
   refine pu_ HT_ 14 (some 19) spec_l23Within.mk26 ?_
   refine pu_ HT_ 15 (some 20) spec_l23Within.mk27 ?_
   refine pu_ HT_ 16 (some 21) spec_l23Within.mk28 ?_
   refine pu_ HT_ 17 (some 22) spec_l23Within.mk29 ?_
   refine pu_ HT_ 18 (some 23) spec_l23Within.mk19 ?_
   refine pu_ HT_ 19 (some 24) spec_l23Within.mk20 ?_
   refine pu_ HT_ 20 (some 25) spec_l23Within.mk21 ?_
   refine pz_ HT_ 21 (some 26) spec_l23Within.mk22 ?_
   refine pz_ HT_ 22 (some 4) spec_l23Within.mk23 ?_
   refine done_ (done_of HT_.out (by kernel_rfl)) ?_
   try go_wp2
   go_ret
   exact ⟨rr_, lb0_ HB.out⟩
 ·
  replace c4 := Bool.eq_false_iff.mpr c4
  subst c4
  have H1 : (some false) = some r := by rw [if_neg (show ¬ (false = true) by decide)] at H; exact H
  clear H
  have H := H1
  clear H1
  obtain rfl := Option.some.inj H
  go_enter Try.func54, Try.ntmps54
  try go_wp2
  replace HB := Aside0.mk (below_drew1 HB.out)
  refine start_ (n := 23) (S := fun w' => True) (ds := []) spec_l23Within.mk0 (by kernel_rfl) rfl rfl trivial (fun hHeld => ?_); refine with_tabW spec_l23Within.tab1 spec_l23Within.bits1 (fun HT_ HW_ => ?_)
  generalize w.drew = w15 at HB hHeld ⊢
  refine pz_ HT_ 0 (some 5) spec_l23Within.mk1 ?_
  refine one_ (i := 1) (N := some 6) spec_l23Within.mk2 rfl rfl (one_of HT_.out (by kernel_rfl)) (by decide) (fun K hK => ?_)
  refine gs_ Try.func62 #[.slice A0 l0.length c0] ?_
  with_reducible refine (spec_l23Good.calls k _ _ l0 false _ ?side1 ?side2 A3.out).mono ?_
  (case side1 => exact kc_ (Kd.C_below HR0.out HB.out))
  (case side2 => exact HC0.out)
  rintro e w16 ⟨rfl, hb⟩
  refine ⟨_, rfl, ?_⟩
  replace HB := Aside0.mk (below_step (lb0_ HB.out) hb)
  (try clear hb)
  (try clear hb2)
  (try clear hk)
  (try clear hi)
  refine hK.out _ _ trivial (fun hHeld => ?_)
  clear hK K
  refine na_ ?_
  refine pz_ HT_ 2 (some 7) spec_l23Within.mk3 ?_
  refine pu_ HT_ 3 (some 8) spec_l23Within.mk4 ?_
  refine pu_ HT_ 4 (some 9) spec_l23Within.mk5 ?_
  refine pu_ HT_ 5 (some 10) spec_l23Within.mk6 ?_
  refine pz_ HT_ 6 (some 11) spec_l23Within.mk7 ?_
  refine pz_ HT_ 7 (some 12) spec_l23Within.mk8 ?_
  refine pu_ HT_ 8 (some 13) spec_l23Within.mk9 ?_
  refine pu_ HT_ 9 (some 14) spec_l23Within.mk10 ?_
  refine pu_ HT_ 10 (some 15) spec_l23Within.mk11 ?_
  refine pu_ HT_ 11 (some 16) spec_l23Within.mk12 ?_
  refine pu_ HT_ 12 (some 17) spec_l23Within.mk24 ?_
  refine pu_ HT_ 13 (some 18) spec_l23Within.mk25 ?_
  refine pu_ HT_ 14 (some 19) spec_l23Within.mk26 ?_
  refine pu_ HT_ 15 (some 20) spec_l23Within.mk27 ?_
  refine pu_ HT_ 16 (some 21) spec_l23Within.mk28 ?_
  refine pu_ HT_ 17 (some 22) spec_l23Within.mk29 ?_
  refine pu_ HT_ 18 (some 23) spec_l23Within.mk19 ?_
  refine pu_ HT_ 19 (some 24) spec_l23Within.mk20 ?_
  refine pu_ HT_ 20 (some 25) spec_l23Within.mk21 ?_
  refine pz_ HT_ 21 (some 26) spec_l23Within.mk22 ?_
  refine pz_ HT_ 22 (some 4) spec_l23Within.mk23 ?_
  refine done_ (done_of HT_.out (by kernel_rfl)) ?_
  try go_wp2
  go_ret
  exact ⟨rr_, lb0_ HB.out⟩
def spec_l4Station.f (a0 : Int) : Option (Bool) := (spec_l1In.f a0 0 7).bind fun t112 => (some t112)
set_option maxHeartbeats 8000000 in
set_option maxRecDepth 100000 in
theorem spec_l4Station.calls (a0 : Int) (r : Bool) (w : World) (h : spec_l4Station.f a0 = some r) :
  Calls Try.prog 88 #[.int .i64 a0] w fun e w' => e = .returned (.bool r) ∧ Drawn0 w w' := by
 have H : ((spec_l1In.f a0 0 7).bind fun t112 => (some t112)) = some r := h
 clear h
 replace H := Option.bind_eq_some_iff.mp H
 obtain ⟨t112, A20, H⟩ := H
 replace H : (some t112) = some r := H
 have A2 := Aside0.mk A20
 clear A20
 obtain rfl := Option.some.inj H
 go_enter Try.func88, Try.ntmps88
 go_wp2_with (first | ((with_reducible refine gate_callee (f := 79) rfl ?_); refine ga_ (some 4) Try.func79 #[.int .i64 a0, .int .i64 0, .int .i64 7] ?_; (with_reducible refine (spec_l1In.calls a0 0 7 t112 _ A2.out).mono ?_); rintro e w' ⟨rfl, ⟨nd, rfl⟩⟩; refine ⟨_, rfl, ?_⟩))
 go_ret
 exact ⟨by first | rfl | (simp; done) | (simp [*]; done), by repeat (first | exact Drawn0.refl _ | apply Drawn0.step)⟩
def spec_l23Sump.f (a0_0 : Int) (a0_1 : Int) (a0_2 : Int) : Option (Bool) := (spec_l4Station.f a0_0).bind fun t114 => (if t114 = true then ((spec_l23Level.f a0_1).bind fun t115 => (if t115 = true then ((spec_l1In.f a0_2 (-500) a0_1).bind fun t116 => (some t116)) else (some false))) else (some false))
set_option maxHeartbeats 8000000 in
set_option maxRecDepth 100000 in
theorem spec_l23Sump.calls (a0_0 : Int) (a0_1 : Int) (a0_2 : Int) (r : Bool) (w : World) (h : spec_l23Sump.f a0_0 a0_1 a0_2 = some r) :
  Calls Try.prog 55 #[.agg #[.int .i64 a0_0, .int .i64 a0_1, .int .i64 a0_2]] w fun e w' => e = .returned (.bool r) ∧ Below w.heap.size w w' := by
 have hu30 := Try.underlying30
 have HB := Aside0.mk (Below.refl w.heap.size w)
 have H : ((spec_l4Station.f a0_0).bind fun t114 => (if t114 = true then ((spec_l23Level.f a0_1).bind fun t115 => (if t115 = true then ((spec_l1In.f a0_2 (-500) a0_1).bind fun t116 => (some t116)) else (some false))) else (some false))) = some r := h
 clear h
 replace H := Option.bind_eq_some_iff.mp H
 obtain ⟨t114, A20, H⟩ := H
 replace H : (if t114 = true then ((spec_l23Level.f a0_1).bind fun t115 => (if t115 = true then ((spec_l1In.f a0_2 (-500) a0_1).bind fun t116 => (some t116)) else (some false))) else (some false)) = some r := H
 have A2 := Aside0.mk A20
 clear A20
 by_cases c3 : t114 = true
 ·
  subst c3
  have H1 : ((spec_l23Level.f a0_1).bind fun t115 => (if t115 = true then ((spec_l1In.f a0_2 (-500) a0_1).bind fun t116 => (some t116)) else (some false))) = some r := by rw [if_pos rfl] at H; exact H
  clear H
  have H := H1
  clear H1
  replace H := Option.bind_eq_some_iff.mp H
  obtain ⟨t115, A40, H⟩ := H
  replace H : (if t115 = true then ((spec_l1In.f a0_2 (-500) a0_1).bind fun t116 => (some t116)) else (some false)) = some r := H
  have A4 := Aside0.mk A40
  clear A40
  by_cases c5 : t115 = true
  ·
   subst c5
   have H1 : ((spec_l1In.f a0_2 (-500) a0_1).bind fun t116 => (some t116)) = some r := by rw [if_pos rfl] at H; exact H
   clear H
   have H := H1
   clear H1
   replace H := Option.bind_eq_some_iff.mp H
   obtain ⟨t116, A60, H⟩ := H
   replace H : (some t116) = some r := H
   have A6 := Aside0.mk A60
   clear A60
   obtain rfl := Option.some.inj H
   go_enter Try.func55, Try.ntmps55
   go_wp2_with (first | ((with_reducible refine gate_dst (N := 1) rfl ?_); refine box_event ?hg (N := 1) ?hd (cs := #[.int .i64 a0_0, .int .i64 a0_1, .int .i64 a0_2]) (t := 30) ?hr ?_; (case hd => rfl); (case hg => rfl); (case hr => first | (go_simp; done) | (go_simp; rfl)); intro gb113 hg w7 hbox hb; have BK113 := Aside0.mk (hbox); have GW113 := Aside0.mk ((bz_ hg (lb0_ HB.out))); have GE113 := Aside0.mk ((bz_ hg (lb0_ HB.out))); replace HB := Aside0.mk (below_step (lb0_ HB.out) hb); clear hb hbox hg; obtain ⟨hcz8_0, hcz8_1, hcz8_2⟩ := cz3_ BK113.out; obtain ⟨hfz8_0, hfz8_1, hfz8_2⟩ := fz3_ BK113.out) | ((with_reducible refine gate_callee (f := 88) rfl ?_); refine ga_ (some 5) Try.func88 #[.int .i64 a0_0] ?_; (with_reducible refine (spec_l4Station.calls a0_0 true _ A2.out).mono ?_); rintro e w' ⟨rfl, ⟨nd, rfl⟩⟩; refine ⟨_, rfl, ?_⟩) | (go_at_call 89; (with_reducible refine (spec_l23Level.calls a0_1 true _ A4.out).mono ?_); rintro e w' ⟨rfl, ⟨nd, rfl⟩⟩) | (go_at_call 79; (with_reducible refine (spec_l1In.calls a0_2 (-500) a0_1 t116 _ A6.out).mono ?_); rintro e w' ⟨rfl, ⟨nd, rfl⟩⟩))
   go_ret
   exact ⟨rr_, lb1_ HB.out GE113.out⟩
  ·
   replace c5 := Bool.eq_false_iff.mpr c5
   subst c5
   have H1 : (some false) = some r := by rw [if_neg (show ¬ (false = true) by decide)] at H; exact H
   clear H
   have H := H1
   clear H1
   obtain rfl := Option.some.inj H
   go_enter Try.func55, Try.ntmps55
   go_wp2_with (first | ((with_reducible refine gate_dst (N := 1) rfl ?_); refine box_event ?hg (N := 1) ?hd (cs := #[.int .i64 a0_0, .int .i64 a0_1, .int .i64 a0_2]) (t := 30) ?hr ?_; (case hd => rfl); (case hg => rfl); (case hr => first | (go_simp; done) | (go_simp; rfl)); intro gb113 hg w9 hbox hb; have BK113 := Aside0.mk (hbox); have GW113 := Aside0.mk ((bz_ hg (lb0_ HB.out))); have GE113 := Aside0.mk ((bz_ hg (lb0_ HB.out))); replace HB := Aside0.mk (below_step (lb0_ HB.out) hb); clear hb hbox hg; obtain ⟨hcz10_0, hcz10_1, hcz10_2⟩ := cz3_ BK113.out; obtain ⟨hfz10_0, hfz10_1, hfz10_2⟩ := fz3_ BK113.out) | ((with_reducible refine gate_callee (f := 88) rfl ?_); refine ga_ (some 5) Try.func88 #[.int .i64 a0_0] ?_; (with_reducible refine (spec_l4Station.calls a0_0 true _ A2.out).mono ?_); rintro e w' ⟨rfl, ⟨nd, rfl⟩⟩; refine ⟨_, rfl, ?_⟩) | (go_at_call 89; (with_reducible refine (spec_l23Level.calls a0_1 false _ A4.out).mono ?_); rintro e w' ⟨rfl, ⟨nd, rfl⟩⟩))
   go_ret
   exact ⟨rr_, lb1_ HB.out GE113.out⟩
 ·
  replace c3 := Bool.eq_false_iff.mpr c3
  subst c3
  have H1 : (some false) = some r := by rw [if_neg (show ¬ (false = true) by decide)] at H; exact H
  clear H
  have H := H1
  clear H1
  obtain rfl := Option.some.inj H
  go_enter Try.func55, Try.ntmps55
  go_wp2_with (first | ((with_reducible refine gate_dst (N := 1) rfl ?_); refine box_event ?hg (N := 1) ?hd (cs := #[.int .i64 a0_0, .int .i64 a0_1, .int .i64 a0_2]) (t := 30) ?hr ?_; (case hd => rfl); (case hg => rfl); (case hr => first | (go_simp; done) | (go_simp; rfl)); intro gb113 hg w11 hbox hb; have BK113 := Aside0.mk (hbox); have GW113 := Aside0.mk ((bz_ hg (lb0_ HB.out))); have GE113 := Aside0.mk ((bz_ hg (lb0_ HB.out))); replace HB := Aside0.mk (below_step (lb0_ HB.out) hb); clear hb hbox hg; obtain ⟨hcz12_0, hcz12_1, hcz12_2⟩ := cz3_ BK113.out; obtain ⟨hfz12_0, hfz12_1, hfz12_2⟩ := fz3_ BK113.out) | ((with_reducible refine gate_callee (f := 88) rfl ?_); refine ga_ (some 5) Try.func88 #[.int .i64 a0_0] ?_; (with_reducible refine (spec_l4Station.calls a0_0 false _ A2.out).mono ?_); rintro e w' ⟨rfl, ⟨nd, rfl⟩⟩; refine ⟨_, rfl, ?_⟩))
  go_ret
  exact ⟨rr_, lb1_ HB.out GE113.out⟩
def spec_l23Common.l0 : Nat → Int → Int → Option (Int)
 | 0, _, _ => none
 | k + 1, x0, x1 => if x1 > 0 then (if x1 = 0 then (none) else (spec_l23Common.l0 k x1 (Int.tmod x0 x1))) else (some x0)
def spec_l23Common.f (k : Nat) (a0 : Int) (a1 : Int) : Option (Int) := spec_l23Common.l0 k a0 a1
set_option maxHeartbeats 8000000 in
set_option maxRecDepth 100000 in
theorem spec_l23Common.calls (k : Nat) (a0 : Int) (a1 : Int) (r : Int) (w : World) (h : spec_l23Common.f k a0 a1 = some r) :
  Calls Try.prog 94 #[.int .i64 a0, .int .i64 a1] w fun e w' => e = .returned (.int .i64 r) ∧ Drawn0 w w' := by
 have H : (spec_l23Common.l0 k a0 a1) = some r := h
 clear h
 have H' := Aside0.mk H
 clear H
 go_enter Try.func94, Try.ntmps94
 go_wp2
 go_loopg [0, 1] k (fun kq v0 v1 w' => ∃ (x0_1 : Int) (x1_1 : Int), v0 = .int .i64 x0_1 ∧ v1 = .int .i64 x1_1 ∧ Aside0 (spec_l23Common.l0 kq x0_1 x1_1 = some r) ∧ Aside0 (kq ≤ k) ∧ Drawn0 w w')
 case atStart => exact ⟨(a0), (a1), (by first | rfl | (simp; done) | (simp [*]; done)), (by first | rfl | (simp; done) | (simp [*]; done)), H', ⟨Nat.le_refl _⟩, by repeat (first | exact Drawn0.refl _ | apply Drawn0.step)⟩
 case round =>
  clear H'
  try clear p2
  obtain ⟨x0_1, x1_1, rfl, rfl, HA, HK1, ⟨m1, rfl⟩⟩ := hrel
  cases gk with
  | zero => exact absurd HA.out (by simp [spec_l23Common.l0])
  | succ k1 =>
   have H := HA.out
   clear HA
   simp only [spec_l23Common.l0] at H
   by_cases c3 : x1_1 > 0
   ·
    rw [if_pos c3] at H
    have c3b0 : decide (0 < x1_1) = true := decide_eq_true c3
    clear c3
    by_cases c4 : x1_1 = 0
    ·
     rw [if_pos c4] at H
     exact absurd H (by simp)
    ·
     rw [if_neg c4] at H
     have c4b0 : (x1_1 == 0) = false := beq_eq_false_iff_ne.mpr c4
     have c4b1 : (x1_1 != 0) = true := bne_iff_ne.mpr c4
     have H' := Aside0.mk H
     clear H
     go_wp2
     go_roundg k1
     case measure => have := HK1.out; omega
     case rel => exact ⟨(x1_1), (Int.tmod x0_1 x1_1), (by first | rfl | (simp; done) | (simp [*]; done)), (by first | rfl | (simp; done) | (simp [*]; done)), H', ⟨by have := HK1.out; omega⟩, by repeat (first | exact Drawn0.refl _ | apply Drawn0.step)⟩
   ·
    rw [if_neg c3] at H
    have c3b0 : decide (0 < x1_1) = false := decide_eq_false c3
    clear c3
    obtain rfl := Option.some.inj H
    go_wp2
    go_ret
    exact ⟨by first | rfl | (simp; done) | (simp [*]; done), by repeat (first | exact Drawn0.refl _ | apply Drawn0.step)⟩
def spec_l1Most.f (a0 : Int) (a1 : Int) : Option (Int) := if a0 > a1 then (some a0) else (some a1)
set_option maxHeartbeats 8000000 in
set_option maxRecDepth 100000 in
theorem spec_l1Most.calls (a0 : Int) (a1 : Int) (r : Int) (w : World) (h : spec_l1Most.f a0 a1 = some r) :
  Calls Try.prog 95 #[.int .i64 a0, .int .i64 a1] w fun e w' => e = .returned (.int .i64 r) ∧ Drawn0 w w' := by
 have H : (if a0 > a1 then (some a0) else (some a1)) = some r := h
 clear h
 by_cases c3 : a0 > a1
 ·
  rw [if_pos c3] at H
  have c3b0 : decide (a1 < a0) = true := decide_eq_true c3
  clear c3
  obtain rfl := Option.some.inj H
  go_enter Try.func95, Try.ntmps95
  go_wp2
  go_ret
  exact ⟨by first | rfl | (simp; done) | (simp [*]; done), by repeat (first | exact Drawn0.refl _ | apply Drawn0.step)⟩
 ·
  rw [if_neg c3] at H
  have c3b0 : decide (a1 < a0) = false := decide_eq_false c3
  clear c3
  obtain rfl := Option.some.inj H
  go_enter Try.func95, Try.ntmps95
  go_wp2
  go_ret
  exact ⟨by first | rfl | (simp; done) | (simp [*]; done), by repeat (first | exact Drawn0.refl _ | apply Drawn0.step)⟩
def spec_l23Reduce.f (k : Nat) (a0 : Int) (a1 : Int) : Option (Int × Int) := (spec_l1Most.f a0 (wrap64 (-a0))).bind fun t117 => ((spec_l23Common.f k t117 a1).bind fun t118 => (if t118 = 0 then (none) else (some (wrap64 (Int.tdiv a0 t118), wrap64 (Int.tdiv a1 t118)))))
set_option maxHeartbeats 8000000 in
set_option maxRecDepth 100000 in
theorem spec_l23Reduce.calls (k : Nat) (a0 : Int) (a1 : Int) (r1 : Int) (r2 : Int) (w : World) (h : spec_l23Reduce.f k a0 a1 = some (r1, r2)) :
  Calls Try.prog 73 #[.int .i64 a0, .int .i64 a1] w fun e w' => e = .returned (.tuple #[.int .i64 r1, .int .i64 r2]) ∧ Drawn0 w w' := by
 have H : ((spec_l1Most.f a0 (wrap64 (-a0))).bind fun t117 => ((spec_l23Common.f k t117 a1).bind fun t118 => (if t118 = 0 then (none) else (some (wrap64 (Int.tdiv a0 t118), wrap64 (Int.tdiv a1 t118)))))) = some (r1, r2) := h
 clear h
 replace H := Option.bind_eq_some_iff.mp H
 obtain ⟨t117, A30, H⟩ := H
 replace H : ((spec_l23Common.f k t117 a1).bind fun t118 => (if t118 = 0 then (none) else (some (wrap64 (Int.tdiv a0 t118), wrap64 (Int.tdiv a1 t118))))) = some (r1, r2) := H
 have A3 := Aside0.mk A30
 clear A30
 replace H := Option.bind_eq_some_iff.mp H
 obtain ⟨t118, A40, H⟩ := H
 replace H : (if t118 = 0 then (none) else (some (wrap64 (Int.tdiv a0 t118), wrap64 (Int.tdiv a1 t118)))) = some (r1, r2) := H
 have A4 := Aside0.mk A40
 clear A40
 by_cases c5 : t118 = 0
 ·
  rw [if_pos c5] at H
  exact absurd H (by simp)
 ·
  rw [if_neg c5] at H
  have c5b0 : (t118 == 0) = false := beq_eq_false_iff_ne.mpr c5
  have c5b1 : (t118 != 0) = true := bne_iff_ne.mpr c5
  simp only [Option.some.injEq, Prod.mk.injEq] at H
  obtain ⟨rfl, rfl⟩ := H
  go_enter Try.func73, Try.ntmps73
  go_wp2_with (first | (go_at_call 95; (with_reducible refine (spec_l1Most.calls a0 (wrap64 (-a0)) t117 _ A3.out).mono ?_); rintro e w' ⟨rfl, ⟨nd, rfl⟩⟩; (try first | exact ⟨rfl, _, World.drewN_drewN _ _ _⟩ | exact ⟨rfl, _, Eq.trans (World.drewN_drewN _ _ _) (congrArg (World.drewN _) (Nat.add_assoc _ _ _))⟩)) | (go_at_call 94; (with_reducible refine (spec_l23Common.calls k t117 a1 t118 _ A4.out).mono ?_); rintro e w' ⟨rfl, ⟨nd, rfl⟩⟩; (try first | exact ⟨rfl, _, World.drewN_drewN _ _ _⟩ | exact ⟨rfl, _, Eq.trans (World.drewN_drewN _ _ _) (congrArg (World.drewN _) (Nat.add_assoc _ _ _))⟩)))
  repeat (go_quiet (first | (go_at_call 95; (with_reducible refine (spec_l1Most.calls a0 (wrap64 (-a0)) t117 _ A3.out).mono ?_); rintro e w' ⟨rfl, ⟨nd, rfl⟩⟩; (try first | exact ⟨rfl, _, World.drewN_drewN _ _ _⟩ | exact ⟨rfl, _, Eq.trans (World.drewN_drewN _ _ _) (congrArg (World.drewN _) (Nat.add_assoc _ _ _))⟩)) | (go_at_call 94; (with_reducible refine (spec_l23Common.calls k t117 a1 t118 _ A4.out).mono ?_); rintro e w' ⟨rfl, ⟨nd, rfl⟩⟩; (try first | exact ⟨rfl, _, World.drewN_drewN _ _ _⟩ | exact ⟨rfl, _, Eq.trans (World.drewN_drewN _ _ _) (congrArg (World.drewN _) (Nat.add_assoc _ _ _))⟩))); try go_wp2_with (first | (go_at_call 95; (with_reducible refine (spec_l1Most.calls a0 (wrap64 (-a0)) t117 _ A3.out).mono ?_); rintro e w' ⟨rfl, ⟨nd, rfl⟩⟩; (try first | exact ⟨rfl, _, World.drewN_drewN _ _ _⟩ | exact ⟨rfl, _, Eq.trans (World.drewN_drewN _ _ _) (congrArg (World.drewN _) (Nat.add_assoc _ _ _))⟩)) | (go_at_call 94; (with_reducible refine (spec_l23Common.calls k t117 a1 t118 _ A4.out).mono ?_); rintro e w' ⟨rfl, ⟨nd, rfl⟩⟩; (try first | exact ⟨rfl, _, World.drewN_drewN _ _ _⟩ | exact ⟨rfl, _, Eq.trans (World.drewN_drewN _ _ _) (congrArg (World.drewN _) (Nat.add_assoc _ _ _))⟩))))
  go_ret2
  exact ⟨by first | rfl | (simp; done) | (simp [*]; done), by repeat (first | exact Drawn0.refl _ | apply Drawn0.step)⟩
def spec_l23In.l0 : Nat → List (S54) → Int → Int → Option (Int × Int)
 | 0, _, _, _ => none
 | k + 1, x0, x1, x6 => if 0 ≤ x6 then (if x6 < (x0.length : Int) then (if ((rd_T54 x0 x6).f0) < x1 then (spec_l23In.l0 k x0 x1 (wrap64 (x6 + 1))) else (if ((rd_T54 x0 x6).f0) = x1 then (some ((rd_T54 x0 x6).f1, 1)) else (if 0 ≤ (wrap64 (x6 - 1)) then (if (wrap64 (x6 - 1)) < (x0.length : Int) then ((spec_l23Reduce.f k (wrap64 ((wrap64 (((rd_T54 x0 (wrap64 (x6 - 1))).f1) * (wrap64 (((rd_T54 x0 x6).f0) - x1)))) + (wrap64 (((rd_T54 x0 x6).f1) * (wrap64 (x1 - ((rd_T54 x0 (wrap64 (x6 - 1))).f0))))))) (wrap64 (((rd_T54 x0 x6).f0) - ((rd_T54 x0 (wrap64 (x6 - 1))).f0)))).bind fun bt126 => (some (bt126.1, bt126.2))) else (none)) else (none)))) else (none)) else (none)
def spec_l23In.f (k : Nat) (l0 : List (S54)) (a1 : Int) : Option (Int × Int) := spec_l23In.l0 k l0 a1 0
def spec_l23In.T6 : Bool × List (List Nat × List Nat) := (true, [([], []), ([], []), ([1], [1]), ([0, 2], [0, 2]), ([3], [3]), ([], []), ([], []), ([5, 6], [5, 6]), ([7], [7]), ([], []), ([], []), ([9, 4, 0, 1, 2, 3, 4, 9, 10], [4, 9]), ([10, 8, 11, 0, 1, 2, 3, 4, 5, 6, 7, 8, 9, 10, 11], [8, 10])])
def spec_l23In.B6 : List Nat := [0, 0, 2, 7, 15, 0, 0, 96, 224, 0, 0, 1567, 4095]
theorem spec_l23In.tab6 : rtab .any (opsOf Try.f70 6) = spec_l23In.T6 := by kernel_rfl
theorem spec_l23In.bits6 : waitsOk spec_l23In.T6.2 spec_l23In.B6 = true := by kernel_rfl
abbrev spec_l23In.mk0 : Array Bool := #[fF,fF,fF,fF,fF,fF,fF,fF,fF,fF,fF,fF,fF]
abbrev spec_l23In.mk1 : Array Bool := #[tT,fF,fF,fF,fF,fF,fF,fF,fF,fF,fF,fF,fF]
abbrev spec_l23In.mk2 : Array Bool := #[tT,tT,fF,fF,fF,fF,fF,fF,fF,fF,fF,fF,fF]
abbrev spec_l23In.mk3 : Array Bool := #[tT,tT,tT,fF,fF,fF,fF,fF,fF,fF,fF,fF,fF]
abbrev spec_l23In.mk4 : Array Bool := #[tT,tT,tT,tT,fF,fF,fF,fF,fF,fF,fF,fF,fF]
abbrev spec_l23In.mk5 : Array Bool := #[tT,tT,tT,tT,fF,tT,fF,fF,fF,fF,fF,fF,fF]
abbrev spec_l23In.mk6 : Array Bool := #[tT,tT,tT,tT,fF,tT,tT,fF,fF,fF,fF,fF,fF]
abbrev spec_l23In.mk7 : Array Bool := #[tT,tT,tT,tT,fF,tT,tT,tT,fF,fF,fF,fF,fF]
abbrev spec_l23In.mk8 : Array Bool := #[tT,tT,tT,tT,tT,tT,tT,tT,fF,fF,fF,fF,fF]
abbrev spec_l23In.mk9 : Array Bool := #[tT,tT,tT,tT,tT,tT,tT,tT,tT,fF,fF,fF,fF]
abbrev spec_l23In.mk10 : Array Bool := #[tT,tT,tT,tT,tT,tT,tT,tT,tT,tT,tT,fF,fF]
abbrev spec_l23In.mk11 : Array Bool := #[tT,tT,tT,tT,tT,tT,tT,tT,tT,tT,fF,fF,fF]
abbrev spec_l23In.mk12 : Array Bool := #[tT,tT,tT,tT,tT,tT,tT,tT,tT,fF,tT,fF,fF]
abbrev spec_l23In.mk13 : Array Bool := #[tT,tT,tT,tT,tT,tT,tT,tT,tT,tT,tT,tT,fF]
abbrev spec_l23In.mk14 : Array Bool := #[tT,tT,tT,tT,tT,tT,tT,tT,tT,tT,tT,tT,tT]
set_option maxHeartbeats 8000000 in
set_option maxRecDepth 100000 in
theorem spec_l23In.calls (k : Nat) (A0 : Option Addr) (c0 : Nat) (l0 : List (S54)) (a1 : Int) (r1 : Int) (r2 : Int) (w : World) (hr0 : Kd.C k54 w A0 l0.length l0) (hc0 : l0.length ≤ c0) (h : spec_l23In.f k l0 a1 = some (r1, r2)) :
  Calls Try.prog 70 #[.slice A0 l0.length c0, .int .i64 a1] w fun e w' => e = .returned (.tuple #[.int .i64 r1, .int .i64 r2]) ∧ Below w.heap.size w w' := by
 have hu54 := Try.underlying54
 have HR0 := Aside0.mk hr0
 have HC0 := Aside0.mk hc0
 clear hr0 hc0
 have HB := Aside0.mk (Below.refl w.heap.size w)
 have H : (spec_l23In.l0 k l0 a1 0) = some (r1, r2) := h
 clear h
 have H' := Aside0.mk H
 clear H
 go_enter Try.func70, Try.ntmps70
 go_wp2
 go_loopg [6] k (fun kq v6 w' => ∃ (x6_1 : Int), v6 = .int .i64 x6_1 ∧ Aside0 (spec_l23In.l0 kq l0 a1 x6_1 = some (r1, r2)) ∧ Aside0 (kq ≤ k) ∧ Aside0 (Below w.heap.size w w'))
 case atStart => exact ⟨(0), (by first | rfl | (simp; done) | (simp [*]; done)), H', ⟨Nat.le_refl _⟩, ⟨lb0_ HB.out⟩⟩
 case round =>
  clear H'
  try clear p2
  obtain ⟨x6_1, rfl, HA, HK1, HB⟩ := hrel
  cases gk with
  | zero => exact absurd HA.out (by simp [spec_l23In.l0])
  | succ k1 =>
   have H := HA.out
   clear HA
   simp only [spec_l23In.l0] at H
   by_cases c3 : 0 ≤ x6_1
   ·
    rw [if_pos c3] at H
    have c3b0 : decide (0 ≤ x6_1) = true := decide_eq_true c3
    clear c3
    by_cases c4 : x6_1 < (l0.length : Int)
    ·
     rw [if_pos c4] at H
     have c4b0 : decide (x6_1 < (l0.length : Int)) = true := decide_eq_true c4
     clear c4
     by_cases c5 : ((rd_T54 l0 x6_1).f0) < a1
     ·
      rw [if_pos c5] at H
      have c5b0 : decide (((rd_T54 l0 x6_1).f0) < a1) = true := decide_eq_true c5
      clear c5
      have H' := Aside0.mk H
      clear H
      have p119 : 0 ≤ (x6_1 : Int) := dt_
      have q119 : x6_1 < (l0.length : Int) := dt_
      obtain ⟨ad119, e119, hx119_0, hx119_1⟩ := at_T54 HR0.out x6_1 p119 q119
      cases e119
      replace hx119_0 := bc_ HB.out hx119_0
      replace hx119_1 := bc_ HB.out hx119_1
      replace p119 := eq_true p119
      replace q119 := eq_true q119
      go_wp2
      go_roundg k1
      case measure => have := HK1.out; omega
      case rel => exact ⟨(wrap64 (x6_1 + 1)), (by first | rfl | (simp; done) | (simp [*]; done)), H', ⟨by have := HK1.out; omega⟩, ⟨lb0_ HB.out⟩⟩
     ·
      rw [if_neg c5] at H
      have c5b0 : decide (((rd_T54 l0 x6_1).f0) < a1) = false := decide_eq_false c5
      clear c5
      by_cases c6 : ((rd_T54 l0 x6_1).f0) = a1
      ·
       rw [if_pos c6] at H
       have c6b0 : (((rd_T54 l0 x6_1).f0) == a1) = true := beq_iff_eq.mpr c6
       have c6b1 : (((rd_T54 l0 x6_1).f0) != a1) = false := bne_eq_false_iff_eq.mpr c6
       clear c6
       simp only [Option.some.injEq, Prod.mk.injEq] at H
       obtain ⟨rfl, rfl⟩ := H
       have p119 : 0 ≤ (x6_1 : Int) := dt_
       have q119 : x6_1 < (l0.length : Int) := dt_
       obtain ⟨ad119, e119, hx119_0, hx119_1⟩ := at_T54 HR0.out x6_1 p119 q119
       cases e119
       replace hx119_0 := bc_ HB.out hx119_0
       replace hx119_1 := bc_ HB.out hx119_1
       replace p119 := eq_true p119
       replace q119 := eq_true q119
       have p120 : 0 ≤ (x6_1 : Int) := dt_
       have q120 : x6_1 < (l0.length : Int) := dt_
       obtain ⟨ad120, e120, hx120_0, hx120_1⟩ := at_T54 HR0.out x6_1 p120 q120
       obtain rfl : ad119 = ad120 := (by injection e120)
       replace hx120_0 := bc_ HB.out hx120_0
       replace hx120_1 := bc_ HB.out hx120_1
       replace p120 := eq_true p120
       replace q120 := eq_true q120
       have p121 : 0 ≤ (x6_1 : Int) := dt_
       have q121 : x6_1 < (l0.length : Int) := dt_
       obtain ⟨ad121, e121, hx121_0, hx121_1⟩ := at_T54 HR0.out x6_1 p121 q121
       obtain rfl : ad119 = ad121 := (by injection e121)
       replace hx121_0 := bc_ HB.out hx121_0
       replace hx121_1 := bc_ HB.out hx121_1
       replace p121 := eq_true p121
       replace q121 := eq_true q121
       go_wp2
       go_ret2
       exact ⟨rr_, lb0_ HB.out⟩
      ·
       rw [if_neg c6] at H
       have c6b0 : (((rd_T54 l0 x6_1).f0) == a1) = false := beq_eq_false_iff_ne.mpr c6
       have c6b1 : (((rd_T54 l0 x6_1).f0) != a1) = true := bne_iff_ne.mpr c6
       obtain ⟨ji7, hji7⟩ : ∃ j_ : Int, (wrap64 (x6_1 - 1)) = j_ := ⟨_, rfl⟩
       replace H : (if 0 ≤ (ji7) then (if (ji7) < (l0.length : Int) then ((spec_l23Reduce.f k1 (wrap64 ((wrap64 (((rd_T54 l0 (ji7)).f1) * (wrap64 (((rd_T54 l0 x6_1).f0) - a1)))) + (wrap64 (((rd_T54 l0 x6_1).f1) * (wrap64 (a1 - ((rd_T54 l0 (ji7)).f0))))))) (wrap64 (((rd_T54 l0 x6_1).f0) - ((rd_T54 l0 (ji7)).f0)))).bind fun bt126 => (some (bt126.1, bt126.2))) else (none)) else (none)) = some (r1, r2) := by first | (rw [hji7] at H; exact H) | (simp only [hji7] at H ⊢; exact H)
       have hji7w : (IntKind.i64.wrap (x6_1 - 1)) = ji7 := (i64_w _).trans hji7
       by_cases c8 : 0 ≤ (ji7)
       ·
        rw [if_pos c8] at H
        have c8b0 : decide (0 ≤ (ji7)) = true := decide_eq_true c8; clear c8
        by_cases c9 : (ji7) < (l0.length : Int)
        ·
         rw [if_pos c9] at H
         have c9b0 : decide ((ji7) < (l0.length : Int)) = true := decide_eq_true c9; clear c9; replace H := Option.bind_eq_some_iff.mp H; obtain ⟨⟨t126, t127⟩, A100, H⟩ := H; replace H : (some (t126, t127)) = some (r1, r2) := H; have A10 := Aside0.mk A100; clear A100; simp only [Option.some.injEq, Prod.mk.injEq] at H; obtain ⟨rfl, rfl⟩ := H; have p119 : 0 ≤ (x6_1 : Int) := dt_; have q119 : x6_1 < (l0.length : Int) := dt_; obtain ⟨ad119, e119, hx119_0, hx119_1⟩ := at_T54 HR0.out x6_1 p119 q119
         cases e119
         replace hx119_0 := bc_ HB.out hx119_0; replace hx119_1 := bc_ HB.out hx119_1; replace p119 := eq_true p119; replace q119 := eq_true q119; have p120 : 0 ≤ (x6_1 : Int) := dt_; have q120 : x6_1 < (l0.length : Int) := dt_; obtain ⟨ad120, e120, hx120_0, hx120_1⟩ := at_T54 HR0.out x6_1 p120 q120
         obtain rfl : ad119 = ad120 := (by injection e120)
         replace hx120_0 := bc_ HB.out hx120_0; replace hx120_1 := bc_ HB.out hx120_1; replace p120 := eq_true p120; replace q120 := eq_true q120
         try go_wp2
         replace HB := Aside0.mk (below_drew1 HB.out); have p122 : 0 ≤ ((ji7) : Int) := dt_; have q122 : (ji7) < (l0.length : Int) := dt_; obtain ⟨ad122, e122, hx122_0, hx122_1⟩ := at_T54 HR0.out (ji7) p122 q122; have hw122_1 := hx122_1; have hw122_0 := hx122_0
         obtain rfl : ad119 = ad122 := (by injection e122)
         replace hx122_0 := bc_ HB.out hx122_0; replace hx122_1 := bc_ HB.out hx122_1; replace p122 := eq_true p122; replace q122 := eq_true q122; have p123 : 0 ≤ (x6_1 : Int) := dt_; have q123 : x6_1 < (l0.length : Int) := dt_; obtain ⟨ad123, e123, hx123_0, hx123_1⟩ := at_T54 HR0.out x6_1 p123 q123; have hw123_1 := hx123_1; have hw123_0 := hx123_0
         obtain rfl : ad119 = ad123 := (by injection e123)
         replace hx123_0 := bc_ HB.out hx123_0; replace hx123_1 := bc_ HB.out hx123_1; replace p123 := eq_true p123; replace q123 := eq_true q123; refine start_ (n := 13) (S := fun w' => w'.cell? (ad119.add (((ji7)).toNat * 2)) = some (.int .i64 ((rd_T54 l0 (ji7)).f0)) ∧ w'.cell? ⟨(ad119.add (((ji7)).toNat * 2)).block, (ad119.add (((ji7)).toNat * 2)).off + 1, none⟩ = some (.int .i64 ((rd_T54 l0 (ji7)).f1)) ∧ w'.cell? (ad119.add ((x6_1).toNat * 2)) = some (.int .i64 ((rd_T54 l0 x6_1).f0)) ∧ w'.cell? ⟨(ad119.add ((x6_1).toNat * 2)).block, (ad119.add ((x6_1).toNat * 2)).off + 1, none⟩ = some (.int .i64 ((rd_T54 l0 x6_1).f1))) (ds := []) spec_l23In.mk0 (by kernel_rfl) rfl rfl ⟨(bc_ HB.out hw122_0), (bc_ HB.out hw122_1), (bc_ HB.out hw123_0), (bc_ HB.out hw123_1)⟩ (fun hHeld => ?_); refine with_tabW spec_l23In.tab6 spec_l23In.bits6 (fun HT_ HW_ => ?_); generalize wr.drew = w11 at HB hx122_0 hx122_1 hx123_0 hx123_1 hHeld ⊢; refine pz_ HT_ 0 (some 32) spec_l23In.mk1 ?_; refine pz_ HT_ 1 (some 33) spec_l23In.mk2 ?_; refine pz_ HT_ 2 (some 34) spec_l23In.mk3 ?_; refine pz_ HT_ 3 (some 35) spec_l23In.mk4 ?_; refine pz_ HT_ 5 (some 37) spec_l23In.mk5 ?_; refine pz_ HT_ 6 (some 38) spec_l23In.mk6 ?_; refine pz_ HT_ 7 (some 39) spec_l23In.mk7 ?_; refine tk_ HT_ HW_ hHeld 4 (some 36) spec_l23In.mk8 ?_; refine tk_ HT_ HW_ hHeld 8 (some 40) spec_l23In.mk9 ?_; refine join_ (σ := Nat × Nat) 2 spec_l23In.mk10 (fun s_ => [(7, .pointer (some ⟨s_.1, 0, none⟩)), (8, .pointer (some ⟨s_.2, 0, none⟩))]) (fun s_ w' => (w'.cell? (ad119.add (((ji7)).toNat * 2)) = some (.int .i64 ((rd_T54 l0 (ji7)).f0)) ∧ w'.cell? ⟨(ad119.add (((ji7)).toNat * 2)).block, (ad119.add (((ji7)).toNat * 2)).off + 1, none⟩ = some (.int .i64 ((rd_T54 l0 (ji7)).f1)) ∧ w'.cell? (ad119.add ((x6_1).toNat * 2)) = some (.int .i64 ((rd_T54 l0 x6_1).f0)) ∧ w'.cell? ⟨(ad119.add ((x6_1).toNat * 2)).block, (ad119.add ((x6_1).toNat * 2)).off + 1, none⟩ = some (.int .i64 ((rd_T54 l0 x6_1).f1))) ∧ (w'.heap[s_.1]? = some (.cells #[.int .i64 0, .int .i64 0] 54 (0, 0))) ∧ (w'.heap[s_.2]? = some (.cells #[.int .i64 0, .int .i64 0] 54 (0, 0))) ∧ (w.heap.size ≤ s_.1) ∧ (w.heap.size ≤ s_.1) ∧ (s_.2 ≠ s_.1) ∧ (s_.1 ≠ s_.2) ∧ (w.heap.size ≤ s_.2) ∧ (w.heap.size ≤ s_.2) ∧ (Below w.heap.size w w')) ?_ ?_; rotate_left
         ·
          intro hCont; refine two_ (i := 9) (j := 10) (Ni := some 7) (Nj := some 8) spec_l23In.mk11 spec_l23In.mk12 rfl rfl rfl rfl (two_of HT_.out (by kernel_rfl)) (by decide) (by decide) (fun K hK => ?_) (fun K hK => ?_)
          ·
           skip; refine box_step ?hg (N := 7) ?hd (cs := #[.int .i64 0, .int .i64 0]) (t := 54) ?hr ?_; (case hd => rfl); (case hg => rfl); (case hr => first | (go_simp; done) | (go_simp; rfl)); intro gb124 hg w12 hbox hb; have BK124 := Aside0.mk (hbox); have GW124 := Aside0.mk ((bz_ hg (lb0_ HB.out))); have GE124 := Aside0.mk ((bz_ hg (lb0_ HB.out))); replace HB := Aside0.mk (below_step (lb0_ HB.out) hb); clear hb hbox hg; refine hK.out _ _ ⟨((HB.out.cell (World.block_lt_of_cell? w _ hw122_0)).trans hw122_0), ((HB.out.cell (World.block_lt_of_cell? w _ hw122_1)).trans hw122_1), ((HB.out.cell (World.block_lt_of_cell? w _ hw123_0)).trans hw123_0), ((HB.out.cell (World.block_lt_of_cell? w _ hw123_1)).trans hw123_1)⟩ (fun hHeld => ?_); clear hK K; refine na_ ?_; refine one_ (i := 10) (N := some 8) spec_l23In.mk10 rfl rfl (one_of HT_.out (by kernel_rfl)) (by decide) (fun K hK => ?_); refine box_step ?hg (N := 8) ?hd (cs := #[.int .i64 0, .int .i64 0]) (t := 54) ?hr ?_; (case hd => rfl); (case hg => rfl); (case hr => first | (go_simp; done) | (go_simp; rfl)); intro gb125 hg w13 hbox hb; have BK125 := Aside0.mk (hbox); have GW125 := Aside0.mk ((bz_ hg (lb1_ HB.out GE124.out))); have GE125 := Aside0.mk ((bz_ hg (lb1_ HB.out GE124.out))); replace HB := Aside0.mk (below_step (lb1_ HB.out GE124.out) hb); have NB124_125 := Aside0.mk (nl_ hg BK124.out); have NB125_124 := Aside0.mk (ng_ hg BK124.out); replace BK124 := Aside0.mk (bb_ (bk_ BK124.out) hb); clear hb hbox hg; refine hK.out _ _ ⟨((HB.out.cell (World.block_lt_of_cell? w _ hw122_0)).trans hw122_0), ((HB.out.cell (World.block_lt_of_cell? w _ hw122_1)).trans hw122_1), ((HB.out.cell (World.block_lt_of_cell? w _ hw123_0)).trans hw123_0), ((HB.out.cell (World.block_lt_of_cell? w _ hw123_1)).trans hw123_1)⟩ (fun hHeld => ?_); clear hK K; refine na_ ?_; exact norm_ (by simp only [putAll, Act.put, List.setIfInBounds_toArray, List.set_cons_zero, List.set_cons_succ]) (hCont (gb124, gb125) _ ⟨hHeld, (bk_ BK124.out), (bk_ BK125.out), GW124.out, GE124.out, NB125_124.out, NB124_125.out, GW125.out, GE125.out, (lb2_ HB.out GE124.out GE125.out)⟩)
          ·
           skip; refine box_step ?hg (N := 8) ?hd (cs := #[.int .i64 0, .int .i64 0]) (t := 54) ?hr ?_; (case hd => rfl); (case hg => rfl); (case hr => first | (go_simp; done) | (go_simp; rfl)); intro gb125 hg w12 hbox hb; have BK125 := Aside0.mk (hbox); have GW125 := Aside0.mk ((bz_ hg (lb0_ HB.out))); have GE125 := Aside0.mk ((bz_ hg (lb0_ HB.out))); replace HB := Aside0.mk (below_step (lb0_ HB.out) hb); clear hb hbox hg; refine hK.out _ _ ⟨((HB.out.cell (World.block_lt_of_cell? w _ hw122_0)).trans hw122_0), ((HB.out.cell (World.block_lt_of_cell? w _ hw122_1)).trans hw122_1), ((HB.out.cell (World.block_lt_of_cell? w _ hw123_0)).trans hw123_0), ((HB.out.cell (World.block_lt_of_cell? w _ hw123_1)).trans hw123_1)⟩ (fun hHeld => ?_); clear hK K; refine na_ ?_; refine one_ (i := 9) (N := some 7) spec_l23In.mk10 rfl rfl (one_of HT_.out (by kernel_rfl)) (by decide) (fun K hK => ?_); refine box_step ?hg (N := 7) ?hd (cs := #[.int .i64 0, .int .i64 0]) (t := 54) ?hr ?_; (case hd => rfl); (case hg => rfl); (case hr => first | (go_simp; done) | (go_simp; rfl)); intro gb124 hg w13 hbox hb; have BK124 := Aside0.mk (hbox); have GW124 := Aside0.mk ((bz_ hg (lb1_ HB.out GE125.out))); have GE124 := Aside0.mk ((bz_ hg (lb1_ HB.out GE125.out))); replace HB := Aside0.mk (below_step (lb1_ HB.out GE125.out) hb); have NB125_124 := Aside0.mk (nl_ hg BK125.out); have NB124_125 := Aside0.mk (ng_ hg BK125.out); replace BK125 := Aside0.mk (bb_ (bk_ BK125.out) hb); clear hb hbox hg; refine hK.out _ _ ⟨((HB.out.cell (World.block_lt_of_cell? w _ hw122_0)).trans hw122_0), ((HB.out.cell (World.block_lt_of_cell? w _ hw122_1)).trans hw122_1), ((HB.out.cell (World.block_lt_of_cell? w _ hw123_0)).trans hw123_0), ((HB.out.cell (World.block_lt_of_cell? w _ hw123_1)).trans hw123_1)⟩ (fun hHeld => ?_); clear hK K; refine na_ ?_; exact norm_ (by simp only [putAll, Act.put, List.setIfInBounds_toArray, List.set_cons_zero, List.set_cons_succ]) (hCont (gb124, gb125) _ ⟨hHeld, (bk_ BK124.out), (bk_ BK125.out), GW124.out, GE124.out, NB125_124.out, NB124_125.out, GW125.out, GE125.out, (lb2_ HB.out GE125.out GE124.out)⟩)
         rintro ⟨gb124, gb125⟩ w14 ⟨hS_, h0_, h1_, h2_, h3_, h4_, h5_, h6_, h7_, h8_⟩; (try dsimp only at h0_ h1_ h2_ h3_ h4_ h5_ h6_ h7_ h8_); have BK124 := Aside0.mk h0_; have BK125 := Aside0.mk h1_; have GW124 := Aside0.mk h2_; have GE124 := Aside0.mk h3_; have NB125_124 := Aside0.mk h4_; have NB124_125 := Aside0.mk h5_; have GW125 := Aside0.mk h6_; have GE125 := Aside0.mk h7_; replace HB := Aside0.mk h8_; clear h0_ h1_ h2_ h3_ h4_ h5_ h6_ h7_ h8_; have hHeld : w14.cell? (ad119.add (((ji7)).toNat * 2)) = some (.int .i64 ((rd_T54 l0 (ji7)).f0)) ∧ w14.cell? ⟨(ad119.add (((ji7)).toNat * 2)).block, (ad119.add (((ji7)).toNat * 2)).off + 1, none⟩ = some (.int .i64 ((rd_T54 l0 (ji7)).f1)) ∧ w14.cell? (ad119.add ((x6_1).toNat * 2)) = some (.int .i64 ((rd_T54 l0 x6_1).f0)) ∧ w14.cell? ⟨(ad119.add ((x6_1).toNat * 2)).block, (ad119.add ((x6_1).toNat * 2)).off + 1, none⟩ = some (.int .i64 ((rd_T54 l0 x6_1).f1)) := hS_; refine nb_ ?_; refine one_ (i := 11) (N := none) spec_l23In.mk13 rfl rfl (one_of HT_.out (by kernel_rfl)) (by decide) (fun K hK => ?_); have hs15 : w14.cell? ⟨gb124, 0, none⟩ = some (.int .i64 0) := (blk_cell BK124.out 0).trans rfl; have hfs15 := blk_frozen BK124.out 0; have hns15_1 := NB125_124.out; have hms15_1 := NB124_125.out; have hs16 : w14.cell? ⟨gb124, 1, none⟩ = some (.int .i64 0) := (blk_cell BK124.out 1).trans rfl; have hfs16 := blk_frozen BK124.out 1; have hns16_1 := NB125_124.out; have hms16_1 := NB124_125.out; refine skip_ (w1 := ?_) (by rfl) rfl ?_ ?_; rotate_left
         ·
          go_simp; rfl
         refine hK.out _ _ ⟨((cell_far (p := ⟨gb124, _, none⟩) (Nat.ne_of_lt (Nat.lt_of_lt_of_le (World.block_lt_of_cell? _ _ hw122_0) GW124.out)) _).trans (((cell_far (p := ⟨gb124, _, none⟩) (Nat.ne_of_lt (Nat.lt_of_lt_of_le (World.block_lt_of_cell? _ _ hw122_0) GW124.out)) _).trans (hHeld.1)))), ((cell_far (p := ⟨gb124, _, none⟩) (Nat.ne_of_lt (Nat.lt_of_lt_of_le (World.block_lt_of_cell? _ _ hw122_1) GW124.out)) _).trans (((cell_far (p := ⟨gb124, _, none⟩) (Nat.ne_of_lt (Nat.lt_of_lt_of_le (World.block_lt_of_cell? _ _ hw122_1) GW124.out)) _).trans (hHeld.2.1)))), ((cell_far (p := ⟨gb124, _, none⟩) (Nat.ne_of_lt (Nat.lt_of_lt_of_le (World.block_lt_of_cell? _ _ hw123_0) GW124.out)) _).trans (((cell_far (p := ⟨gb124, _, none⟩) (Nat.ne_of_lt (Nat.lt_of_lt_of_le (World.block_lt_of_cell? _ _ hw123_0) GW124.out)) _).trans (hHeld.2.2.1)))), ((cell_far (p := ⟨gb124, _, none⟩) (Nat.ne_of_lt (Nat.lt_of_lt_of_le (World.block_lt_of_cell? _ _ hw123_1) GW124.out)) _).trans (((cell_far (p := ⟨gb124, _, none⟩) (Nat.ne_of_lt (Nat.lt_of_lt_of_le (World.block_lt_of_cell? _ _ hw123_1) GW124.out)) _).trans (hHeld.2.2.2))))⟩ (fun hHeld => ?_); clear hK K; refine one_ (i := 12) (N := none) spec_l23In.mk14 rfl rfl (one_of HT_.out (by kernel_rfl)) (by decide) (fun K hK => ?_); have hs17 : w14.cell? ⟨gb125, 0, none⟩ = some (.int .i64 0) := (blk_cell BK125.out 0).trans rfl; have hfs17 := blk_frozen BK125.out 0; have hns17_0 := NB124_125.out; have hms17_0 := NB125_124.out; have hs18 : w14.cell? ⟨gb125, 1, none⟩ = some (.int .i64 0) := (blk_cell BK125.out 1).trans rfl; have hfs18 := blk_frozen BK125.out 1; have hns18_0 := NB124_125.out; have hms18_0 := NB125_124.out; refine skip_ (w1 := ?_) (by rfl) rfl ?_ ?_; rotate_left
         ·
          go_simp; rfl
         refine hK.out _ _ ⟨((cell_far (p := ⟨gb125, _, none⟩) (Nat.ne_of_lt (Nat.lt_of_lt_of_le (World.block_lt_of_cell? _ _ hw122_0) GW125.out)) _).trans (((cell_far (p := ⟨gb125, _, none⟩) (Nat.ne_of_lt (Nat.lt_of_lt_of_le (World.block_lt_of_cell? _ _ hw122_0) GW125.out)) _).trans (hHeld.1)))), ((cell_far (p := ⟨gb125, _, none⟩) (Nat.ne_of_lt (Nat.lt_of_lt_of_le (World.block_lt_of_cell? _ _ hw122_1) GW125.out)) _).trans (((cell_far (p := ⟨gb125, _, none⟩) (Nat.ne_of_lt (Nat.lt_of_lt_of_le (World.block_lt_of_cell? _ _ hw122_1) GW125.out)) _).trans (hHeld.2.1)))), ((cell_far (p := ⟨gb125, _, none⟩) (Nat.ne_of_lt (Nat.lt_of_lt_of_le (World.block_lt_of_cell? _ _ hw123_0) GW125.out)) _).trans (((cell_far (p := ⟨gb125, _, none⟩) (Nat.ne_of_lt (Nat.lt_of_lt_of_le (World.block_lt_of_cell? _ _ hw123_0) GW125.out)) _).trans (hHeld.2.2.1)))), ((cell_far (p := ⟨gb125, _, none⟩) (Nat.ne_of_lt (Nat.lt_of_lt_of_le (World.block_lt_of_cell? _ _ hw123_1) GW125.out)) _).trans (((cell_far (p := ⟨gb125, _, none⟩) (Nat.ne_of_lt (Nat.lt_of_lt_of_le (World.block_lt_of_cell? _ _ hw123_1) GW125.out)) _).trans (hHeld.2.2.2))))⟩ (fun hHeld => ?_); clear hK K; refine done_ (done_of HT_.out (by kernel_rfl)) ?_; have hnb19 := NB124_125.out; have hnc19 := NB125_124.out; obtain ⟨hcz20_0, hcz20_1⟩ := cz2_ BK124.out; obtain ⟨hfz20_0, hfz20_1⟩ := fz2_ BK124.out; obtain ⟨hcz21_0, hcz21_1⟩ := cz2_ BK125.out; obtain ⟨hfz21_0, hfz21_1⟩ := fz2_ BK125.out
         try go_wp2_with (first | ((with_reducible refine gate_callee (f := 73) rfl ?_); refine goesL_ (some 62) rfl rfl Try.func73 (by kernel_rfl) rfl #[.int .i64 (wrap64 ((wrap64 (((rd_T54 l0 (ji7)).f1) * (wrap64 (((rd_T54 l0 x6_1).f0) - a1)))) + (wrap64 (((rd_T54 l0 x6_1).f1) * (wrap64 (a1 - ((rd_T54 l0 (ji7)).f0))))))), .int .i64 (wrap64 (((rd_T54 l0 x6_1).f0) - ((rd_T54 l0 (ji7)).f0)))] rfl (by (try simp only [List.map_toArray, List.map_cons, List.map_nil]); first | done | (simp only [hji7]; rfl) | rfl | (simp only [List.length_drop, List.length_take]; rfl)) ?_; (with_reducible refine (spec_l23Reduce.calls k1 (wrap64 ((wrap64 (((rd_T54 l0 (ji7)).f1) * (wrap64 (((rd_T54 l0 x6_1).f0) - a1)))) + (wrap64 (((rd_T54 l0 x6_1).f1) * (wrap64 (a1 - ((rd_T54 l0 (ji7)).f0))))))) (wrap64 (((rd_T54 l0 x6_1).f0) - ((rd_T54 l0 (ji7)).f0))) t126 t127 _ A10.out).mono ?_); rintro e w' ⟨rfl, ⟨nd, rfl⟩⟩; refine ⟨_, rfl, ?_⟩))
         go_ret2
         exact ⟨by first | rfl | (simp [errW_none, errW_some] <;> rfl) | (simp only [← hji7]; first | rfl | (simp [errW_none, errW_some] <;> rfl)) | (simp [*, errW_none, errW_some] <;> rfl), lb2_ HB.out GE124.out GE125.out⟩
        ·
         rw [if_neg c9] at H
         exact absurd H (by simp)
       ·
        rw [if_neg c8] at H
        exact absurd H (by simp)
    ·
     rw [if_neg c4] at H
     exact absurd H (by simp)
   ·
    rw [if_neg c3] at H
    exact absurd H (by simp)
def spec_l23Open.f (k : Nat) (l0 : List (S54)) (a1_0 : Int) (a1_1 : Int) (a1_2 : Int) (a2 : Int) : Option (Bool) := (spec_l23In.f k l0 a2).bind fun bt129 => (some (decide (bt129.1 ≤ (wrap64 (a1_2 * bt129.2)))))
set_option maxHeartbeats 8000000 in
set_option maxRecDepth 100000 in
theorem spec_l23Open.calls (k : Nat) (A0 : Option Addr) (c0 : Nat) (l0 : List (S54)) (a1_0 : Int) (a1_1 : Int) (a1_2 : Int) (a2 : Int) (r : Bool) (w : World) (hr0 : Kd.C k54 w A0 l0.length l0) (hc0 : l0.length ≤ c0) (h : spec_l23Open.f k l0 a1_0 a1_1 a1_2 a2 = some r) :
  Calls Try.prog 56 #[.slice A0 l0.length c0, .agg #[.int .i64 a1_0, .int .i64 a1_1, .int .i64 a1_2], .int .i64 a2] w fun e w' => e = .returned (.bool r) ∧ Below w.heap.size w w' := by
 have hu30 := Try.underlying30
 have HR0 := Aside0.mk hr0
 have HC0 := Aside0.mk hc0
 clear hr0 hc0
 have HB := Aside0.mk (Below.refl w.heap.size w)
 have H : ((spec_l23In.f k l0 a2).bind fun bt129 => (some (decide (bt129.1 ≤ (wrap64 (a1_2 * bt129.2)))))) = some r := h
 clear h
 replace H := Option.bind_eq_some_iff.mp H
 obtain ⟨⟨t129, t130⟩, A40, H⟩ := H
 replace H : (some (decide (t129 ≤ (wrap64 (a1_2 * t130))))) = some r := H
 have A4 := Aside0.mk A40
 clear A40
 obtain rfl := Option.some.inj H
 go_enter Try.func56, Try.ntmps56
 go_wp2_with (first | ((with_reducible refine gate_dst (N := 4) rfl ?_); refine box_event ?hg (N := 4) ?hd (cs := #[.int .i64 a1_0, .int .i64 a1_1, .int .i64 a1_2]) (t := 30) ?hr ?_; (case hd => rfl); (case hg => rfl); (case hr => first | (go_simp; done) | (go_simp; rfl)); intro gb128 hg w5 hbox hb; have BK128 := Aside0.mk (hbox); have GW128 := Aside0.mk ((bz_ hg (lb0_ HB.out))); have GE128 := Aside0.mk ((bz_ hg (lb0_ HB.out))); replace HB := Aside0.mk (below_step (lb0_ HB.out) hb); clear hb hbox hg) | ((with_reducible refine gate_callee (f := 70) rfl ?_); refine ga_ (some 12) Try.func70 #[.slice A0 l0.length c0, .int .i64 a2] ?_; (with_reducible refine (spec_l23In.calls k _ _ l0 a2 t129 t130 _ ?side1 ?side2 A4.out).mono ?_); (case side1 => exact kc_ (Kd.C_below HR0.out HB.out)); (case side2 => exact HC0.out); rintro e w6 ⟨rfl, hb⟩; refine ⟨_, rfl, ?_⟩; replace BK128 := Aside0.mk (bb_ (bk_ BK128.out) hb); replace HB := Aside0.mk (below_step (lb1_ HB.out GE128.out) hb); (try clear hb); (try clear hb2); (try clear hk); (try clear hi); obtain ⟨hcz7_0, hcz7_1, hcz7_2⟩ := cz3_ BK128.out; obtain ⟨hfz7_0, hfz7_1, hfz7_2⟩ := fz3_ BK128.out))
 go_ret
 exact ⟨rr_, lb1_ HB.out GE128.out⟩
def spec_IsOpen.f (k : Nat) (l0 : List (S54)) (a1_0 : Int) (a1_1 : Int) (a1_2 : Int) (a2 : Int) : Option (Bool × Bool) := (spec_l23Within.f k l0 a2).bind fun t132 => (if t132 = true then ((spec_l23Sump.f a1_0 a1_1 a1_2).bind fun t133 => (if t133 = true then ((spec_l23Open.f k l0 a1_0 a1_1 a1_2 a2).bind fun t134 => (some (t134, true))) else (some (false, false)))) else (some (false, false)))
set_option maxHeartbeats 8000000 in
set_option maxRecDepth 100000 in
theorem spec_IsOpen.calls (k : Nat) (A0 : Option Addr) (c0 : Nat) (l0 : List (S54)) (a1_0 : Int) (a1_1 : Int) (a1_2 : Int) (a2 : Int) (r1 : Bool) (r2 : Bool) (w : World) (hr0 : Kd.C k54 w A0 l0.length l0) (hc0 : l0.length ≤ c0) (h : spec_IsOpen.f k l0 a1_0 a1_1 a1_2 a2 = some (r1, r2)) :
  Calls Try.prog 11 #[.slice A0 l0.length c0, .agg #[.int .i64 a1_0, .int .i64 a1_1, .int .i64 a1_2], .int .i64 a2] w fun e w' => e = .returned (.tuple #[.bool r1, .bool r2]) ∧ Below w.heap.size w w' := by
 have hu30 := Try.underlying30
 have HR0 := Aside0.mk hr0
 have HC0 := Aside0.mk hc0
 clear hr0 hc0
 have HB := Aside0.mk (Below.refl w.heap.size w)
 have H : ((spec_l23Within.f k l0 a2).bind fun t132 => (if t132 = true then ((spec_l23Sump.f a1_0 a1_1 a1_2).bind fun t133 => (if t133 = true then ((spec_l23Open.f k l0 a1_0 a1_1 a1_2 a2).bind fun t134 => (some (t134, true))) else (some (false, false)))) else (some (false, false)))) = some (r1, r2) := h
 clear h
 replace H := Option.bind_eq_some_iff.mp H
 obtain ⟨t132, A40, H⟩ := H
 replace H : (if t132 = true then ((spec_l23Sump.f a1_0 a1_1 a1_2).bind fun t133 => (if t133 = true then ((spec_l23Open.f k l0 a1_0 a1_1 a1_2 a2).bind fun t134 => (some (t134, true))) else (some (false, false)))) else (some (false, false))) = some (r1, r2) := H
 have A4 := Aside0.mk A40
 clear A40
 by_cases c5 : t132 = true
 ·
  subst c5
  have H1 : ((spec_l23Sump.f a1_0 a1_1 a1_2).bind fun t133 => (if t133 = true then ((spec_l23Open.f k l0 a1_0 a1_1 a1_2 a2).bind fun t134 => (some (t134, true))) else (some (false, false)))) = some (r1, r2) := by rw [if_pos rfl] at H; exact H
  clear H
  have H := H1
  clear H1
  replace H := Option.bind_eq_some_iff.mp H
  obtain ⟨t133, A60, H⟩ := H
  replace H : (if t133 = true then ((spec_l23Open.f k l0 a1_0 a1_1 a1_2 a2).bind fun t134 => (some (t134, true))) else (some (false, false))) = some (r1, r2) := H
  have A6 := Aside0.mk A60
  clear A60
  by_cases c7 : t133 = true
  ·
   subst c7
   have H1 : ((spec_l23Open.f k l0 a1_0 a1_1 a1_2 a2).bind fun t134 => (some (t134, true))) = some (r1, r2) := by rw [if_pos rfl] at H; exact H
   clear H
   have H := H1
   clear H1
   replace H := Option.bind_eq_some_iff.mp H
   obtain ⟨t134, A80, H⟩ := H
   replace H : (some (t134, true)) = some (r1, r2) := H
   have A8 := Aside0.mk A80
   clear A80
   simp only [Option.some.injEq, Prod.mk.injEq] at H
   obtain ⟨rfl, rfl⟩ := H
   go_enter Try.func11, Try.ntmps11
   go_wp2_with (first | ((with_reducible refine gate_dst (N := 4) rfl ?_); refine box_event ?hg (N := 4) ?hd (cs := #[.int .i64 a1_0, .int .i64 a1_1, .int .i64 a1_2]) (t := 30) ?hr ?_; (case hd => rfl); (case hg => rfl); (case hr => first | (go_simp; done) | (go_simp; rfl)); intro gb131 hg w9 hbox hb; have BK131 := Aside0.mk (hbox); have GW131 := Aside0.mk ((bz_ hg (lb0_ HB.out))); have GE131 := Aside0.mk ((bz_ hg (lb0_ HB.out))); replace HB := Aside0.mk (below_step (lb0_ HB.out) hb); clear hb hbox hg) | ((with_reducible refine gate_callee (f := 54) rfl ?_); refine ga_ (some 10) Try.func54 #[.slice A0 l0.length c0, .int .i64 a2] ?_; (with_reducible refine (spec_l23Within.calls k _ _ l0 a2 true _ ?side1 ?side2 A4.out).mono ?_); (case side1 => exact kc_ (Kd.C_below HR0.out HB.out)); (case side2 => exact HC0.out); rintro e w10 ⟨rfl, hb⟩; refine ⟨_, rfl, ?_⟩; replace BK131 := Aside0.mk (bb_ (bk_ BK131.out) hb); replace HB := Aside0.mk (below_step (lb1_ HB.out GE131.out) hb); (try clear hb); (try clear hb2); (try clear hk); (try clear hi); obtain ⟨hcz11_0, hcz11_1, hcz11_2⟩ := cz3_ BK131.out; obtain ⟨hfz11_0, hfz11_1, hfz11_2⟩ := fz3_ BK131.out) | (go_at_call 55; (with_reducible refine (spec_l23Sump.calls a1_0 a1_1 a1_2 true _ A6.out).mono ?_); rintro e w12 ⟨rfl, hb⟩; replace BK131 := Aside0.mk (bb_ (bk_ BK131.out) hb); replace HB := Aside0.mk (below_step (lb1_ HB.out GE131.out) hb); (try clear hb); (try clear hb2); (try clear hk); (try clear hi); obtain ⟨hcz13_0, hcz13_1, hcz13_2⟩ := cz3_ BK131.out; obtain ⟨hfz13_0, hfz13_1, hfz13_2⟩ := fz3_ BK131.out) | ((with_reducible refine gate_callee (f := 56) rfl ?_); refine ga_ (some 20) Try.func56 #[.slice A0 l0.length c0, .agg #[.int .i64 a1_0, .int .i64 a1_1, .int .i64 a1_2], .int .i64 a2] ?_; (with_reducible refine (spec_l23Open.calls k _ _ l0 a1_0 a1_1 a1_2 a2 t134 _ ?side1 ?side2 A8.out).mono ?_); (case side1 => exact kc_ (Kd.C_below HR0.out HB.out)); (case side2 => exact HC0.out); rintro e w14 ⟨rfl, hb⟩; refine ⟨_, rfl, ?_⟩; replace BK131 := Aside0.mk (bb_ (bk_ BK131.out) hb); replace HB := Aside0.mk (below_step (lb1_ HB.out GE131.out) hb); (try clear hb); (try clear hb2); (try clear hk); (try clear hi)))
   go_ret2
   exact ⟨rr_, lb1_ HB.out GE131.out⟩
  ·
   replace c7 := Bool.eq_false_iff.mpr c7
   subst c7
   have H1 : (some (false, false)) = some (r1, r2) := by rw [if_neg (show ¬ (false = true) by decide)] at H; exact H
   clear H
   have H := H1
   clear H1
   simp only [Option.some.injEq, Prod.mk.injEq] at H
   obtain ⟨rfl, rfl⟩ := H
   go_enter Try.func11, Try.ntmps11
   go_wp2_with (first | ((with_reducible refine gate_dst (N := 4) rfl ?_); refine box_event ?hg (N := 4) ?hd (cs := #[.int .i64 a1_0, .int .i64 a1_1, .int .i64 a1_2]) (t := 30) ?hr ?_; (case hd => rfl); (case hg => rfl); (case hr => first | (go_simp; done) | (go_simp; rfl)); intro gb131 hg w15 hbox hb; have BK131 := Aside0.mk (hbox); have GW131 := Aside0.mk ((bz_ hg (lb0_ HB.out))); have GE131 := Aside0.mk ((bz_ hg (lb0_ HB.out))); replace HB := Aside0.mk (below_step (lb0_ HB.out) hb); clear hb hbox hg) | ((with_reducible refine gate_callee (f := 54) rfl ?_); refine ga_ (some 10) Try.func54 #[.slice A0 l0.length c0, .int .i64 a2] ?_; (with_reducible refine (spec_l23Within.calls k _ _ l0 a2 true _ ?side1 ?side2 A4.out).mono ?_); (case side1 => exact kc_ (Kd.C_below HR0.out HB.out)); (case side2 => exact HC0.out); rintro e w16 ⟨rfl, hb⟩; refine ⟨_, rfl, ?_⟩; replace BK131 := Aside0.mk (bb_ (bk_ BK131.out) hb); replace HB := Aside0.mk (below_step (lb1_ HB.out GE131.out) hb); (try clear hb); (try clear hb2); (try clear hk); (try clear hi); obtain ⟨hcz17_0, hcz17_1, hcz17_2⟩ := cz3_ BK131.out; obtain ⟨hfz17_0, hfz17_1, hfz17_2⟩ := fz3_ BK131.out) | (go_at_call 55; (with_reducible refine (spec_l23Sump.calls a1_0 a1_1 a1_2 false _ A6.out).mono ?_); rintro e w18 ⟨rfl, hb⟩; replace BK131 := Aside0.mk (bb_ (bk_ BK131.out) hb); replace HB := Aside0.mk (below_step (lb1_ HB.out GE131.out) hb); (try clear hb); (try clear hb2); (try clear hk); (try clear hi)))
   go_ret2
   exact ⟨rr_, lb1_ HB.out GE131.out⟩
 ·
  replace c5 := Bool.eq_false_iff.mpr c5
  subst c5
  have H1 : (some (false, false)) = some (r1, r2) := by rw [if_neg (show ¬ (false = true) by decide)] at H; exact H
  clear H
  have H := H1
  clear H1
  simp only [Option.some.injEq, Prod.mk.injEq] at H
  obtain ⟨rfl, rfl⟩ := H
  go_enter Try.func11, Try.ntmps11
  go_wp2_with (first | ((with_reducible refine gate_dst (N := 4) rfl ?_); refine box_event ?hg (N := 4) ?hd (cs := #[.int .i64 a1_0, .int .i64 a1_1, .int .i64 a1_2]) (t := 30) ?hr ?_; (case hd => rfl); (case hg => rfl); (case hr => first | (go_simp; done) | (go_simp; rfl)); intro gb131 hg w19 hbox hb; have BK131 := Aside0.mk (hbox); have GW131 := Aside0.mk ((bz_ hg (lb0_ HB.out))); have GE131 := Aside0.mk ((bz_ hg (lb0_ HB.out))); replace HB := Aside0.mk (below_step (lb0_ HB.out) hb); clear hb hbox hg) | ((with_reducible refine gate_callee (f := 54) rfl ?_); refine ga_ (some 10) Try.func54 #[.slice A0 l0.length c0, .int .i64 a2] ?_; (with_reducible refine (spec_l23Within.calls k _ _ l0 a2 false _ ?side1 ?side2 A4.out).mono ?_); (case side1 => exact kc_ (Kd.C_below HR0.out HB.out)); (case side2 => exact HC0.out); rintro e w20 ⟨rfl, hb⟩; refine ⟨_, rfl, ?_⟩; replace BK131 := Aside0.mk (bb_ (bk_ BK131.out) hb); replace HB := Aside0.mk (below_step (lb1_ HB.out GE131.out) hb); (try clear hb); (try clear hb2); (try clear hk); (try clear hi)))
  go_ret2
  exact ⟨rr_, lb1_ HB.out GE131.out⟩
def impl_within.f (a0 : Int) (a1 : Int) (a2 : Int) : Option (Bool) := if a0 ≥ a1 then (some (decide (a0 ≤ a2))) else (some false)
set_option maxHeartbeats 8000000 in
set_option maxRecDepth 100000 in
theorem impl_within.calls (a0 : Int) (a1 : Int) (a2 : Int) (r : Bool) (w : World) (h : impl_within.f a0 a1 a2 = some r) :
  Calls Try.prog 74 #[.int .i64 a0, .int .i64 a1, .int .i64 a2] w fun e w' => e = .returned (.bool r) ∧ Drawn0 w w' := by
 have H : (if a0 ≥ a1 then (some (decide (a0 ≤ a2))) else (some false)) = some r := h
 clear h
 by_cases c4 : a0 ≥ a1
 ·
  rw [if_pos c4] at H
  have c4b0 : decide (a1 ≤ a0) = true := decide_eq_true c4
  clear c4
  obtain rfl := Option.some.inj H
  go_enter Try.func74, Try.ntmps74
  go_wp2
  go_ret
  exact ⟨by first | rfl | (simp; done) | (simp [*]; done), by repeat (first | exact Drawn0.refl _ | apply Drawn0.step)⟩
 ·
  rw [if_neg c4] at H
  have c4b0 : decide (a1 ≤ a0) = false := decide_eq_false c4
  clear c4
  obtain rfl := Option.some.inj H
  go_enter Try.func74, Try.ntmps74
  go_wp2
  go_ret
  exact ⟨by first | rfl | (simp; done) | (simp [*]; done), by repeat (first | exact Drawn0.refl _ | apply Drawn0.step)⟩
def impl_isLevel.f (a0 : Int) : Option (Bool) := (impl_within.f a0 (-500) 500).bind fun t148 => (some t148)
set_option maxHeartbeats 8000000 in
set_option maxRecDepth 100000 in
theorem impl_isLevel.calls (a0 : Int) (r : Bool) (w : World) (h : impl_isLevel.f a0 = some r) :
  Calls Try.prog 75 #[.int .i64 a0] w fun e w' => e = .returned (.bool r) ∧ Drawn0 w w' := by
 have H : ((impl_within.f a0 (-500) 500).bind fun t148 => (some t148)) = some r := h
 clear h
 replace H := Option.bind_eq_some_iff.mp H
 obtain ⟨t148, A20, H⟩ := H
 replace H : (some t148) = some r := H
 have A2 := Aside0.mk A20
 clear A20
 obtain rfl := Option.some.inj H
 go_enter Try.func75, Try.ntmps75
 go_wp2_with (first | ((with_reducible refine gate_callee (f := 74) rfl ?_); refine ga_ (some 4) Try.func74 #[.int .i64 a0, .int .i64 (-500), .int .i64 500] ?_; (with_reducible refine (impl_within.calls a0 (-500) 500 t148 _ A2.out).mono ?_); rintro e w' ⟨rfl, ⟨nd, rfl⟩⟩; refine ⟨_, rfl, ?_⟩))
 go_ret
 exact ⟨by first | rfl | (simp; done) | (simp [*]; done), by repeat (first | exact Drawn0.refl _ | apply Drawn0.step)⟩
def impl_AreReadings.l0 : Nat → List (S54) → List (S54) → Int → Int → Option (Bool)
 | 0, _, _, _, _ => none
 | k + 1, x0, x5, x6, x7 => if x7 < x6 then (if 0 ≤ x7 then (if x7 < (x5.length : Int) then ((impl_within.f ((rd_T54 x5 x7).f0) 0 999).bind fun t151 => (if t151 = true then ((impl_isLevel.f ((rd_T54 x5 x7).f1)).bind fun t152 => (if t152 = true then (if x7 > 0 then (if 0 ≤ (wrap64 (x7 - 1)) then (if (wrap64 (x7 - 1)) < (x0.length : Int) then (if ((rd_T54 x0 (wrap64 (x7 - 1))).f0) ≥ ((rd_T54 x5 x7).f0) then (some false) else (impl_AreReadings.l0 k x0 x5 x6 (wrap64 (x7 + 1)))) else (none)) else (none)) else (impl_AreReadings.l0 k x0 x5 x6 (wrap64 (x7 + 1)))) else (some false))) else (some false))) else (none)) else (none)) else (some (decide ((x0.length : Int) ≤ 15)))
def impl_AreReadings.f (k : Nat) (l0 : List (S54)) : Option (Bool) := impl_AreReadings.l0 k l0 l0 (l0.length : Int) 0
set_option maxHeartbeats 8000000 in
set_option maxRecDepth 100000 in
theorem impl_AreReadings.calls (k : Nat) (A0 : Option Addr) (c0 : Nat) (l0 : List (S54)) (r : Bool) (w : World) (hr0 : Kd.C k54 w A0 l0.length l0) (hc0 : l0.length ≤ c0) (h : impl_AreReadings.f k l0 = some r) :
  Calls Try.prog 34 #[.slice A0 l0.length c0] w fun e w' => e = .returned (.bool r) ∧ Below w.heap.size w w' := by
 have hu54 := Try.underlying54
 have HR0 := Aside0.mk hr0
 have HC0 := Aside0.mk hc0
 clear hr0 hc0
 have HB := Aside0.mk (Below.refl w.heap.size w)
 have H : (impl_AreReadings.l0 k l0 l0 (l0.length : Int) 0) = some r := h
 clear h
 have H' := Aside0.mk H
 clear H
 go_enter Try.func34, Try.ntmps34
 go_wp2
 repeat (go_quiet (fail); try go_wp2)
 go_loopg [7] k (fun kq v7 w' => ∃ (x7_1 : Int), v7 = .int .i64 x7_1 ∧ Aside0 (impl_AreReadings.l0 kq l0 l0 (l0.length : Int) x7_1 = some r) ∧ Aside0 (kq ≤ k) ∧ Aside0 (Below w.heap.size w w'))
 case atStart => exact ⟨(0), (by first | rfl | (simp; done) | (simp [*]; done)), H', ⟨Nat.le_refl _⟩, ⟨lb0_ HB.out⟩⟩
 case round =>
  clear H'
  obtain ⟨x7_1, rfl, HA, HK1, HB⟩ := hrel
  cases gk with
  | zero => exact absurd HA.out (by simp [impl_AreReadings.l0])
  | succ k1 =>
   have H := HA.out
   clear HA
   simp only [impl_AreReadings.l0] at H
   by_cases c2 : x7_1 < (l0.length : Int)
   ·
    rw [if_pos c2] at H
    have c2b0 : decide (x7_1 < (l0.length : Int)) = true := decide_eq_true c2
    clear c2
    by_cases c3 : 0 ≤ x7_1
    ·
     rw [if_pos c3] at H
     have c3b0 : decide (0 ≤ x7_1) = true := decide_eq_true c3
     clear c3
     by_cases c4 : x7_1 < (l0.length : Int)
     ·
      rw [if_pos c4] at H
      have c4b0 : decide (x7_1 < (l0.length : Int)) = true := decide_eq_true c4
      clear c4
      replace H := Option.bind_eq_some_iff.mp H
      obtain ⟨t151, A50, H⟩ := H
      replace H : (if t151 = true then ((impl_isLevel.f ((rd_T54 l0 x7_1).f1)).bind fun t152 => (if t152 = true then (if x7_1 > 0 then (if 0 ≤ (wrap64 (x7_1 - 1)) then (if (wrap64 (x7_1 - 1)) < (l0.length : Int) then (if ((rd_T54 l0 (wrap64 (x7_1 - 1))).f0) ≥ ((rd_T54 l0 x7_1).f0) then (some false) else (impl_AreReadings.l0 k1 l0 l0 (l0.length : Int) (wrap64 (x7_1 + 1)))) else (none)) else (none)) else (impl_AreReadings.l0 k1 l0 l0 (l0.length : Int) (wrap64 (x7_1 + 1)))) else (some false))) else (some false)) = some r := H
      have A5 := Aside0.mk A50
      clear A50
      by_cases c6 : t151 = true
      ·
       subst c6
       have H1 : ((impl_isLevel.f ((rd_T54 l0 x7_1).f1)).bind fun t152 => (if t152 = true then (if x7_1 > 0 then (if 0 ≤ (wrap64 (x7_1 - 1)) then (if (wrap64 (x7_1 - 1)) < (l0.length : Int) then (if ((rd_T54 l0 (wrap64 (x7_1 - 1))).f0) ≥ ((rd_T54 l0 x7_1).f0) then (some false) else (impl_AreReadings.l0 k1 l0 l0 (l0.length : Int) (wrap64 (x7_1 + 1)))) else (none)) else (none)) else (impl_AreReadings.l0 k1 l0 l0 (l0.length : Int) (wrap64 (x7_1 + 1)))) else (some false))) = some r := by rw [if_pos rfl] at H; exact H
       clear H
       have H := H1
       clear H1
       replace H := Option.bind_eq_some_iff.mp H
       obtain ⟨t152, A70, H⟩ := H
       replace H : (if t152 = true then (if x7_1 > 0 then (if 0 ≤ (wrap64 (x7_1 - 1)) then (if (wrap64 (x7_1 - 1)) < (l0.length : Int) then (if ((rd_T54 l0 (wrap64 (x7_1 - 1))).f0) ≥ ((rd_T54 l0 x7_1).f0) then (some false) else (impl_AreReadings.l0 k1 l0 l0 (l0.length : Int) (wrap64 (x7_1 + 1)))) else (none)) else (none)) else (impl_AreReadings.l0 k1 l0 l0 (l0.length : Int) (wrap64 (x7_1 + 1)))) else (some false)) = some r := H
       have A7 := Aside0.mk A70
       clear A70
       by_cases c8 : t152 = true
       ·
        subst c8
        have H1 : (if x7_1 > 0 then (if 0 ≤ (wrap64 (x7_1 - 1)) then (if (wrap64 (x7_1 - 1)) < (l0.length : Int) then (if ((rd_T54 l0 (wrap64 (x7_1 - 1))).f0) ≥ ((rd_T54 l0 x7_1).f0) then (some false) else (impl_AreReadings.l0 k1 l0 l0 (l0.length : Int) (wrap64 (x7_1 + 1)))) else (none)) else (none)) else (impl_AreReadings.l0 k1 l0 l0 (l0.length : Int) (wrap64 (x7_1 + 1)))) = some r := by rw [if_pos rfl] at H; exact H
        clear H; have H := H1; clear H1
        by_cases c9 : x7_1 > 0
        ·
         rw [if_pos c9] at H
         have c9b0 : decide (0 < x7_1) = true := decide_eq_true c9; clear c9
         obtain ⟨ji10, hji10⟩ : ∃ j_ : Int, (wrap64 (x7_1 - 1)) = j_ := ⟨_, rfl⟩
         replace H : (if 0 ≤ (ji10) then (if (ji10) < (l0.length : Int) then (if ((rd_T54 l0 (ji10)).f0) ≥ ((rd_T54 l0 x7_1).f0) then (some false) else (impl_AreReadings.l0 k1 l0 l0 (l0.length : Int) (wrap64 (x7_1 + 1)))) else (none)) else (none)) = some r := by first | (rw [hji10] at H; exact H) | (simp only [hji10] at H ⊢; exact H)
         (try rw [hji10] at A5); (try rw [hji10] at A7); have hji10w : (IntKind.i64.wrap (x7_1 - 1)) = ji10 := (i64_w _).trans hji10
         by_cases c11 : 0 ≤ (ji10)
         ·
          rw [if_pos c11] at H
          have c11b0 : decide (0 ≤ (ji10)) = true := decide_eq_true c11; clear c11
          by_cases c12 : (ji10) < (l0.length : Int)
          ·
           rw [if_pos c12] at H
           have c12b0 : decide ((ji10) < (l0.length : Int)) = true := decide_eq_true c12; clear c12
           by_cases c13 : ((rd_T54 l0 (ji10)).f0) ≥ ((rd_T54 l0 x7_1).f0)
           ·
            rw [if_pos c13] at H
            have c13b0 : decide (((rd_T54 l0 x7_1).f0) ≤ ((rd_T54 l0 (ji10)).f0)) = true := decide_eq_true c13; clear c13; obtain rfl := Option.some.inj H; have p149 : 0 ≤ (x7_1 : Int) := dt_; have q149 : x7_1 < (l0.length : Int) := dt_; obtain ⟨ad149, e149, hx149_0, hx149_1⟩ := at_T54 HR0.out x7_1 p149 q149
            cases e149
            replace hx149_0 := bc_ HB.out hx149_0; replace hx149_1 := bc_ HB.out hx149_1; replace p149 := eq_true p149; replace q149 := eq_true q149
            go_wp2_with (first | ((with_reducible refine gate_dst (N := 4) rfl ?_); refine box_event ?hg (N := 4) ?hd (cs := #[.int .i64 0, .int .i64 0]) (t := 54) ?hr ?_; (case hd => rfl); (case hg => rfl); (case hr => first | (go_simp; done) | (go_simp; rfl)); intro gb150 hg w14 hbox hb; have BK150 := Aside0.mk (hbox); have GW150 := Aside0.mk ((bz_ hg (lb0_ HB.out))); have GE150 := Aside0.mk ((bz_ hg (lb0_ HB.out))); replace HB := Aside0.mk (below_step (lb0_ HB.out) hb); clear hb hbox hg; obtain ⟨hcz15_0, hcz15_1⟩ := cz2_ BK150.out; obtain ⟨hfz15_0, hfz15_1⟩ := fz2_ BK150.out) | (go_at_call 74; (with_reducible refine (impl_within.calls ((rd_T54 l0 x7_1).f0) 0 999 true _ A5.out).mono ?_); rintro e w' ⟨rfl, ⟨nd, rfl⟩⟩; (try first | exact ⟨rfl, _, World.drewN_drewN _ _ _⟩ | exact ⟨rfl, _, Eq.trans (World.drewN_drewN _ _ _) (congrArg (World.drewN _) (Nat.add_assoc _ _ _))⟩)) | (go_at_call 75; (with_reducible refine (impl_isLevel.calls ((rd_T54 l0 x7_1).f1) true _ A7.out).mono ?_); rintro e w' ⟨rfl, ⟨nd, rfl⟩⟩; (try first | exact ⟨rfl, _, World.drewN_drewN _ _ _⟩ | exact ⟨rfl, _, Eq.trans (World.drewN_drewN _ _ _) (congrArg (World.drewN _) (Nat.add_assoc _ _ _))⟩); have p153 : 0 ≤ ((ji10) : Int) := dt_; have q153 : (ji10) < (l0.length : Int) := dt_; obtain ⟨ad153, e153, hx153_0, hx153_1⟩ := at_T54 HR0.out (ji10) p153 q153; obtain rfl : ad149 = ad153 := (by injection e153); have hn153_0 : ad149.block ≠ gb150 := Nat.ne_of_lt (Nat.lt_of_lt_of_le (by have := World.block_lt_of_cell? _ _ hx153_0; first | rwa [add_block] at this | exact this) GW150.out); have hn153_1 : ad149.block ≠ gb150 := Nat.ne_of_lt (Nat.lt_of_lt_of_le (by have := World.block_lt_of_cell? _ _ hx153_0; first | rwa [add_block] at this | exact this) GW150.out); replace hx153_0 := bc_ HB.out hx153_0; replace hx153_1 := bc_ HB.out hx153_1; replace hx153_0 := (cell_far (p := ⟨gb150, 0, none⟩) (by first | (rw [add_block]; exact hn153_0) | (show (Addr.add _ _).block ≠ _; rw [add_block]; exact hn153_0) | exact hn153_0) (.int .i64 ((rd_T54 l0 x7_1).f0))).trans hx153_0; replace hx153_1 := (cell_far (p := ⟨gb150, 0, none⟩) (by first | (rw [add_block]; exact hn153_0) | (show (Addr.add _ _).block ≠ _; rw [add_block]; exact hn153_0) | exact hn153_0) (.int .i64 ((rd_T54 l0 x7_1).f0))).trans hx153_1; replace hx153_0 := (cell_far (p := ⟨gb150, 1, none⟩) (by first | (rw [add_block]; exact hn153_1) | (show (Addr.add _ _).block ≠ _; rw [add_block]; exact hn153_1) | exact hn153_1) (.int .i64 ((rd_T54 l0 x7_1).f1))).trans hx153_0; replace hx153_1 := (cell_far (p := ⟨gb150, 1, none⟩) (by first | (rw [add_block]; exact hn153_1) | (show (Addr.add _ _).block ≠ _; rw [add_block]; exact hn153_1) | exact hn153_1) (.int .i64 ((rd_T54 l0 x7_1).f1))).trans hx153_1; (try have hy153_0 := fun (n_ : Nat) => (show ((((w14.drewN n_).setCell ⟨gb150, 0, none⟩ (.int .i64 ((rd_T54 l0 x7_1).f0))).setCell ⟨gb150, 1, none⟩ (.int .i64 ((rd_T54 l0 x7_1).f1)))).cell? _ = some _ from hx153_0)); (try have hy153_1 := fun (n_ : Nat) => (show ((((w14.drewN n_).setCell ⟨gb150, 0, none⟩ (.int .i64 ((rd_T54 l0 x7_1).f0))).setCell ⟨gb150, 1, none⟩ (.int .i64 ((rd_T54 l0 x7_1).f1)))).cell? _ = some _ from hx153_1)); clear hn153_0; clear hn153_1; replace p153 := eq_true p153; replace q153 := eq_true q153))
            repeat (go_quiet (first | ((with_reducible refine gate_dst (N := 4) rfl ?_); refine box_event ?hg (N := 4) ?hd (cs := #[.int .i64 0, .int .i64 0]) (t := 54) ?hr ?_; (case hd => rfl); (case hg => rfl); (case hr => first | (go_simp; done) | (go_simp; rfl)); intro gb150 hg w14 hbox hb; have BK150 := Aside0.mk (hbox); have GW150 := Aside0.mk ((bz_ hg (lb0_ HB.out))); have GE150 := Aside0.mk ((bz_ hg (lb0_ HB.out))); replace HB := Aside0.mk (below_step (lb0_ HB.out) hb); clear hb hbox hg; obtain ⟨hcz15_0, hcz15_1⟩ := cz2_ BK150.out; obtain ⟨hfz15_0, hfz15_1⟩ := fz2_ BK150.out) | (go_at_call 74; (with_reducible refine (impl_within.calls ((rd_T54 l0 x7_1).f0) 0 999 true _ A5.out).mono ?_); rintro e w' ⟨rfl, ⟨nd, rfl⟩⟩; (try first | exact ⟨rfl, _, World.drewN_drewN _ _ _⟩ | exact ⟨rfl, _, Eq.trans (World.drewN_drewN _ _ _) (congrArg (World.drewN _) (Nat.add_assoc _ _ _))⟩)) | (go_at_call 75; (with_reducible refine (impl_isLevel.calls ((rd_T54 l0 x7_1).f1) true _ A7.out).mono ?_); rintro e w' ⟨rfl, ⟨nd, rfl⟩⟩; (try first | exact ⟨rfl, _, World.drewN_drewN _ _ _⟩ | exact ⟨rfl, _, Eq.trans (World.drewN_drewN _ _ _) (congrArg (World.drewN _) (Nat.add_assoc _ _ _))⟩); have p153 : 0 ≤ ((ji10) : Int) := dt_; have q153 : (ji10) < (l0.length : Int) := dt_; obtain ⟨ad153, e153, hx153_0, hx153_1⟩ := at_T54 HR0.out (ji10) p153 q153; obtain rfl : ad149 = ad153 := (by injection e153); have hn153_0 : ad149.block ≠ gb150 := Nat.ne_of_lt (Nat.lt_of_lt_of_le (by have := World.block_lt_of_cell? _ _ hx153_0; first | rwa [add_block] at this | exact this) GW150.out); have hn153_1 : ad149.block ≠ gb150 := Nat.ne_of_lt (Nat.lt_of_lt_of_le (by have := World.block_lt_of_cell? _ _ hx153_0; first | rwa [add_block] at this | exact this) GW150.out); replace hx153_0 := bc_ HB.out hx153_0; replace hx153_1 := bc_ HB.out hx153_1; replace hx153_0 := (cell_far (p := ⟨gb150, 0, none⟩) (by first | (rw [add_block]; exact hn153_0) | (show (Addr.add _ _).block ≠ _; rw [add_block]; exact hn153_0) | exact hn153_0) (.int .i64 ((rd_T54 l0 x7_1).f0))).trans hx153_0; replace hx153_1 := (cell_far (p := ⟨gb150, 0, none⟩) (by first | (rw [add_block]; exact hn153_0) | (show (Addr.add _ _).block ≠ _; rw [add_block]; exact hn153_0) | exact hn153_0) (.int .i64 ((rd_T54 l0 x7_1).f0))).trans hx153_1; replace hx153_0 := (cell_far (p := ⟨gb150, 1, none⟩) (by first | (rw [add_block]; exact hn153_1) | (show (Addr.add _ _).block ≠ _; rw [add_block]; exact hn153_1) | exact hn153_1) (.int .i64 ((rd_T54 l0 x7_1).f1))).trans hx153_0; replace hx153_1 := (cell_far (p := ⟨gb150, 1, none⟩) (by first | (rw [add_block]; exact hn153_1) | (show (Addr.add _ _).block ≠ _; rw [add_block]; exact hn153_1) | exact hn153_1) (.int .i64 ((rd_T54 l0 x7_1).f1))).trans hx153_1; (try have hy153_0 := fun (n_ : Nat) => (show ((((w14.drewN n_).setCell ⟨gb150, 0, none⟩ (.int .i64 ((rd_T54 l0 x7_1).f0))).setCell ⟨gb150, 1, none⟩ (.int .i64 ((rd_T54 l0 x7_1).f1)))).cell? _ = some _ from hx153_0)); (try have hy153_1 := fun (n_ : Nat) => (show ((((w14.drewN n_).setCell ⟨gb150, 0, none⟩ (.int .i64 ((rd_T54 l0 x7_1).f0))).setCell ⟨gb150, 1, none⟩ (.int .i64 ((rd_T54 l0 x7_1).f1)))).cell? _ = some _ from hx153_1)); clear hn153_0; clear hn153_1; replace p153 := eq_true p153; replace q153 := eq_true q153)); try go_wp2_with (first | ((with_reducible refine gate_dst (N := 4) rfl ?_); refine box_event ?hg (N := 4) ?hd (cs := #[.int .i64 0, .int .i64 0]) (t := 54) ?hr ?_; (case hd => rfl); (case hg => rfl); (case hr => first | (go_simp; done) | (go_simp; rfl)); intro gb150 hg w14 hbox hb; have BK150 := Aside0.mk (hbox); have GW150 := Aside0.mk ((bz_ hg (lb0_ HB.out))); have GE150 := Aside0.mk ((bz_ hg (lb0_ HB.out))); replace HB := Aside0.mk (below_step (lb0_ HB.out) hb); clear hb hbox hg; obtain ⟨hcz15_0, hcz15_1⟩ := cz2_ BK150.out; obtain ⟨hfz15_0, hfz15_1⟩ := fz2_ BK150.out) | (go_at_call 74; (with_reducible refine (impl_within.calls ((rd_T54 l0 x7_1).f0) 0 999 true _ A5.out).mono ?_); rintro e w' ⟨rfl, ⟨nd, rfl⟩⟩; (try first | exact ⟨rfl, _, World.drewN_drewN _ _ _⟩ | exact ⟨rfl, _, Eq.trans (World.drewN_drewN _ _ _) (congrArg (World.drewN _) (Nat.add_assoc _ _ _))⟩)) | (go_at_call 75; (with_reducible refine (impl_isLevel.calls ((rd_T54 l0 x7_1).f1) true _ A7.out).mono ?_); rintro e w' ⟨rfl, ⟨nd, rfl⟩⟩; (try first | exact ⟨rfl, _, World.drewN_drewN _ _ _⟩ | exact ⟨rfl, _, Eq.trans (World.drewN_drewN _ _ _) (congrArg (World.drewN _) (Nat.add_assoc _ _ _))⟩); have p153 : 0 ≤ ((ji10) : Int) := dt_; have q153 : (ji10) < (l0.length : Int) := dt_; obtain ⟨ad153, e153, hx153_0, hx153_1⟩ := at_T54 HR0.out (ji10) p153 q153; obtain rfl : ad149 = ad153 := (by injection e153); have hn153_0 : ad149.block ≠ gb150 := Nat.ne_of_lt (Nat.lt_of_lt_of_le (by have := World.block_lt_of_cell? _ _ hx153_0; first | rwa [add_block] at this | exact this) GW150.out); have hn153_1 : ad149.block ≠ gb150 := Nat.ne_of_lt (Nat.lt_of_lt_of_le (by have := World.block_lt_of_cell? _ _ hx153_0; first | rwa [add_block] at this | exact this) GW150.out); replace hx153_0 := bc_ HB.out hx153_0; replace hx153_1 := bc_ HB.out hx153_1; replace hx153_0 := (cell_far (p := ⟨gb150, 0, none⟩) (by first | (rw [add_block]; exact hn153_0) | (show (Addr.add _ _).block ≠ _; rw [add_block]; exact hn153_0) | exact hn153_0) (.int .i64 ((rd_T54 l0 x7_1).f0))).trans hx153_0; replace hx153_1 := (cell_far (p := ⟨gb150, 0, none⟩) (by first | (rw [add_block]; exact hn153_0) | (show (Addr.add _ _).block ≠ _; rw [add_block]; exact hn153_0) | exact hn153_0) (.int .i64 ((rd_T54 l0 x7_1).f0))).trans hx153_1; replace hx153_0 := (cell_far (p := ⟨gb150, 1, none⟩) (by first | (rw [add_block]; exact hn153_1) | (show (Addr.add _ _).block ≠ _; rw [add_block]; exact hn153_1) | exact hn153_1) (.int .i64 ((rd_T54 l0 x7_1).f1))).trans hx153_0; replace hx153_1 := (cell_far (p := ⟨gb150, 1, none⟩) (by first | (rw [add_block]; exact hn153_1) | (show (Addr.add _ _).block ≠ _; rw [add_block]; exact hn153_1) | exact hn153_1) (.int .i64 ((rd_T54 l0 x7_1).f1))).trans hx153_1; (try have hy153_0 := fun (n_ : Nat) => (show ((((w14.drewN n_).setCell ⟨gb150, 0, none⟩ (.int .i64 ((rd_T54 l0 x7_1).f0))).setCell ⟨gb150, 1, none⟩ (.int .i64 ((rd_T54 l0 x7_1).f1)))).cell? _ = some _ from hx153_0)); (try have hy153_1 := fun (n_ : Nat) => (show ((((w14.drewN n_).setCell ⟨gb150, 0, none⟩ (.int .i64 ((rd_T54 l0 x7_1).f0))).setCell ⟨gb150, 1, none⟩ (.int .i64 ((rd_T54 l0 x7_1).f1)))).cell? _ = some _ from hx153_1)); clear hn153_0; clear hn153_1; replace p153 := eq_true p153; replace q153 := eq_true q153)))
            go_ret
            exact ⟨by first | rfl | (simp [errW_none, errW_some] <;> rfl) | (simp only [← hji10]; first | rfl | (simp [errW_none, errW_some] <;> rfl)) | (simp [*, errW_none, errW_some] <;> rfl), lb1_ HB.out GE150.out⟩
           ·
            rw [if_neg c13] at H
            have c13b0 : decide (((rd_T54 l0 x7_1).f0) ≤ ((rd_T54 l0 (ji10)).f0)) = false := decide_eq_false c13; clear c13; have H' := Aside0.mk H; clear H; have p149 : 0 ≤ (x7_1 : Int) := dt_; have q149 : x7_1 < (l0.length : Int) := dt_; obtain ⟨ad149, e149, hx149_0, hx149_1⟩ := at_T54 HR0.out x7_1 p149 q149
            cases e149
            replace hx149_0 := bc_ HB.out hx149_0; replace hx149_1 := bc_ HB.out hx149_1; replace p149 := eq_true p149; replace q149 := eq_true q149
            go_wp2_with (first | ((with_reducible refine gate_dst (N := 4) rfl ?_); refine box_event ?hg (N := 4) ?hd (cs := #[.int .i64 0, .int .i64 0]) (t := 54) ?hr ?_; (case hd => rfl); (case hg => rfl); (case hr => first | (go_simp; done) | (go_simp; rfl)); intro gb150 hg w16 hbox hb; have BK150 := Aside0.mk (hbox); have GW150 := Aside0.mk ((bz_ hg (lb0_ HB.out))); have GE150 := Aside0.mk ((bz_ hg (lb0_ HB.out))); replace HB := Aside0.mk (below_step (lb0_ HB.out) hb); clear hb hbox hg; obtain ⟨hcz17_0, hcz17_1⟩ := cz2_ BK150.out; obtain ⟨hfz17_0, hfz17_1⟩ := fz2_ BK150.out) | (go_at_call 74; (with_reducible refine (impl_within.calls ((rd_T54 l0 x7_1).f0) 0 999 true _ A5.out).mono ?_); rintro e w' ⟨rfl, ⟨nd, rfl⟩⟩; (try first | exact ⟨rfl, _, World.drewN_drewN _ _ _⟩ | exact ⟨rfl, _, Eq.trans (World.drewN_drewN _ _ _) (congrArg (World.drewN _) (Nat.add_assoc _ _ _))⟩)) | (go_at_call 75; (with_reducible refine (impl_isLevel.calls ((rd_T54 l0 x7_1).f1) true _ A7.out).mono ?_); rintro e w' ⟨rfl, ⟨nd, rfl⟩⟩; (try first | exact ⟨rfl, _, World.drewN_drewN _ _ _⟩ | exact ⟨rfl, _, Eq.trans (World.drewN_drewN _ _ _) (congrArg (World.drewN _) (Nat.add_assoc _ _ _))⟩); have p153 : 0 ≤ ((ji10) : Int) := dt_; have q153 : (ji10) < (l0.length : Int) := dt_; obtain ⟨ad153, e153, hx153_0, hx153_1⟩ := at_T54 HR0.out (ji10) p153 q153; obtain rfl : ad149 = ad153 := (by injection e153); have hn153_0 : ad149.block ≠ gb150 := Nat.ne_of_lt (Nat.lt_of_lt_of_le (by have := World.block_lt_of_cell? _ _ hx153_0; first | rwa [add_block] at this | exact this) GW150.out); have hn153_1 : ad149.block ≠ gb150 := Nat.ne_of_lt (Nat.lt_of_lt_of_le (by have := World.block_lt_of_cell? _ _ hx153_0; first | rwa [add_block] at this | exact this) GW150.out); replace hx153_0 := bc_ HB.out hx153_0; replace hx153_1 := bc_ HB.out hx153_1; replace hx153_0 := (cell_far (p := ⟨gb150, 0, none⟩) (by first | (rw [add_block]; exact hn153_0) | (show (Addr.add _ _).block ≠ _; rw [add_block]; exact hn153_0) | exact hn153_0) (.int .i64 ((rd_T54 l0 x7_1).f0))).trans hx153_0; replace hx153_1 := (cell_far (p := ⟨gb150, 0, none⟩) (by first | (rw [add_block]; exact hn153_0) | (show (Addr.add _ _).block ≠ _; rw [add_block]; exact hn153_0) | exact hn153_0) (.int .i64 ((rd_T54 l0 x7_1).f0))).trans hx153_1; replace hx153_0 := (cell_far (p := ⟨gb150, 1, none⟩) (by first | (rw [add_block]; exact hn153_1) | (show (Addr.add _ _).block ≠ _; rw [add_block]; exact hn153_1) | exact hn153_1) (.int .i64 ((rd_T54 l0 x7_1).f1))).trans hx153_0; replace hx153_1 := (cell_far (p := ⟨gb150, 1, none⟩) (by first | (rw [add_block]; exact hn153_1) | (show (Addr.add _ _).block ≠ _; rw [add_block]; exact hn153_1) | exact hn153_1) (.int .i64 ((rd_T54 l0 x7_1).f1))).trans hx153_1; (try have hy153_0 := fun (n_ : Nat) => (show ((((w16.drewN n_).setCell ⟨gb150, 0, none⟩ (.int .i64 ((rd_T54 l0 x7_1).f0))).setCell ⟨gb150, 1, none⟩ (.int .i64 ((rd_T54 l0 x7_1).f1)))).cell? _ = some _ from hx153_0)); (try have hy153_1 := fun (n_ : Nat) => (show ((((w16.drewN n_).setCell ⟨gb150, 0, none⟩ (.int .i64 ((rd_T54 l0 x7_1).f0))).setCell ⟨gb150, 1, none⟩ (.int .i64 ((rd_T54 l0 x7_1).f1)))).cell? _ = some _ from hx153_1)); clear hn153_0; clear hn153_1; replace p153 := eq_true p153; replace q153 := eq_true q153))
            repeat (go_quiet (first | ((with_reducible refine gate_dst (N := 4) rfl ?_); refine box_event ?hg (N := 4) ?hd (cs := #[.int .i64 0, .int .i64 0]) (t := 54) ?hr ?_; (case hd => rfl); (case hg => rfl); (case hr => first | (go_simp; done) | (go_simp; rfl)); intro gb150 hg w16 hbox hb; have BK150 := Aside0.mk (hbox); have GW150 := Aside0.mk ((bz_ hg (lb0_ HB.out))); have GE150 := Aside0.mk ((bz_ hg (lb0_ HB.out))); replace HB := Aside0.mk (below_step (lb0_ HB.out) hb); clear hb hbox hg; obtain ⟨hcz17_0, hcz17_1⟩ := cz2_ BK150.out; obtain ⟨hfz17_0, hfz17_1⟩ := fz2_ BK150.out) | (go_at_call 74; (with_reducible refine (impl_within.calls ((rd_T54 l0 x7_1).f0) 0 999 true _ A5.out).mono ?_); rintro e w' ⟨rfl, ⟨nd, rfl⟩⟩; (try first | exact ⟨rfl, _, World.drewN_drewN _ _ _⟩ | exact ⟨rfl, _, Eq.trans (World.drewN_drewN _ _ _) (congrArg (World.drewN _) (Nat.add_assoc _ _ _))⟩)) | (go_at_call 75; (with_reducible refine (impl_isLevel.calls ((rd_T54 l0 x7_1).f1) true _ A7.out).mono ?_); rintro e w' ⟨rfl, ⟨nd, rfl⟩⟩; (try first | exact ⟨rfl, _, World.drewN_drewN _ _ _⟩ | exact ⟨rfl, _, Eq.trans (World.drewN_drewN _ _ _) (congrArg (World.drewN _) (Nat.add_assoc _ _ _))⟩); have p153 : 0 ≤ ((ji10) : Int) := dt_; have q153 : (ji10) < (l0.length : Int) := dt_; obtain ⟨ad153, e153, hx153_0, hx153_1⟩ := at_T54 HR0.out (ji10) p153 q153; obtain rfl : ad149 = ad153 := (by injection e153); have hn153_0 : ad149.block ≠ gb150 := Nat.ne_of_lt (Nat.lt_of_lt_of_le (by have := World.block_lt_of_cell? _ _ hx153_0; first | rwa [add_block] at this | exact this) GW150.out); have hn153_1 : ad149.block ≠ gb150 := Nat.ne_of_lt (Nat.lt_of_lt_of_le (by have := World.block_lt_of_cell? _ _ hx153_0; first | rwa [add_block] at this | exact this) GW150.out); replace hx153_0 := bc_ HB.out hx153_0; replace hx153_1 := bc_ HB.out hx153_1; replace hx153_0 := (cell_far (p := ⟨gb150, 0, none⟩) (by first | (rw [add_block]; exact hn153_0) | (show (Addr.add _ _).block ≠ _; rw [add_block]; exact hn153_0) | exact hn153_0) (.int .i64 ((rd_T54 l0 x7_1).f0))).trans hx153_0; replace hx153_1 := (cell_far (p := ⟨gb150, 0, none⟩) (by first | (rw [add_block]; exact hn153_0) | (show (Addr.add _ _).block ≠ _; rw [add_block]; exact hn153_0) | exact hn153_0) (.int .i64 ((rd_T54 l0 x7_1).f0))).trans hx153_1; replace hx153_0 := (cell_far (p := ⟨gb150, 1, none⟩) (by first | (rw [add_block]; exact hn153_1) | (show (Addr.add _ _).block ≠ _; rw [add_block]; exact hn153_1) | exact hn153_1) (.int .i64 ((rd_T54 l0 x7_1).f1))).trans hx153_0; replace hx153_1 := (cell_far (p := ⟨gb150, 1, none⟩) (by first | (rw [add_block]; exact hn153_1) | (show (Addr.add _ _).block ≠ _; rw [add_block]; exact hn153_1) | exact hn153_1) (.int .i64 ((rd_T54 l0 x7_1).f1))).trans hx153_1; (try have hy153_0 := fun (n_ : Nat) => (show ((((w16.drewN n_).setCell ⟨gb150, 0, none⟩ (.int .i64 ((rd_T54 l0 x7_1).f0))).setCell ⟨gb150, 1, none⟩ (.int .i64 ((rd_T54 l0 x7_1).f1)))).cell? _ = some _ from hx153_0)); (try have hy153_1 := fun (n_ : Nat) => (show ((((w16.drewN n_).setCell ⟨gb150, 0, none⟩ (.int .i64 ((rd_T54 l0 x7_1).f0))).setCell ⟨gb150, 1, none⟩ (.int .i64 ((rd_T54 l0 x7_1).f1)))).cell? _ = some _ from hx153_1)); clear hn153_0; clear hn153_1; replace p153 := eq_true p153; replace q153 := eq_true q153)); try go_wp2_with (first | ((with_reducible refine gate_dst (N := 4) rfl ?_); refine box_event ?hg (N := 4) ?hd (cs := #[.int .i64 0, .int .i64 0]) (t := 54) ?hr ?_; (case hd => rfl); (case hg => rfl); (case hr => first | (go_simp; done) | (go_simp; rfl)); intro gb150 hg w16 hbox hb; have BK150 := Aside0.mk (hbox); have GW150 := Aside0.mk ((bz_ hg (lb0_ HB.out))); have GE150 := Aside0.mk ((bz_ hg (lb0_ HB.out))); replace HB := Aside0.mk (below_step (lb0_ HB.out) hb); clear hb hbox hg; obtain ⟨hcz17_0, hcz17_1⟩ := cz2_ BK150.out; obtain ⟨hfz17_0, hfz17_1⟩ := fz2_ BK150.out) | (go_at_call 74; (with_reducible refine (impl_within.calls ((rd_T54 l0 x7_1).f0) 0 999 true _ A5.out).mono ?_); rintro e w' ⟨rfl, ⟨nd, rfl⟩⟩; (try first | exact ⟨rfl, _, World.drewN_drewN _ _ _⟩ | exact ⟨rfl, _, Eq.trans (World.drewN_drewN _ _ _) (congrArg (World.drewN _) (Nat.add_assoc _ _ _))⟩)) | (go_at_call 75; (with_reducible refine (impl_isLevel.calls ((rd_T54 l0 x7_1).f1) true _ A7.out).mono ?_); rintro e w' ⟨rfl, ⟨nd, rfl⟩⟩; (try first | exact ⟨rfl, _, World.drewN_drewN _ _ _⟩ | exact ⟨rfl, _, Eq.trans (World.drewN_drewN _ _ _) (congrArg (World.drewN _) (Nat.add_assoc _ _ _))⟩); have p153 : 0 ≤ ((ji10) : Int) := dt_; have q153 : (ji10) < (l0.length : Int) := dt_; obtain ⟨ad153, e153, hx153_0, hx153_1⟩ := at_T54 HR0.out (ji10) p153 q153; obtain rfl : ad149 = ad153 := (by injection e153); have hn153_0 : ad149.block ≠ gb150 := Nat.ne_of_lt (Nat.lt_of_lt_of_le (by have := World.block_lt_of_cell? _ _ hx153_0; first | rwa [add_block] at this | exact this) GW150.out); have hn153_1 : ad149.block ≠ gb150 := Nat.ne_of_lt (Nat.lt_of_lt_of_le (by have := World.block_lt_of_cell? _ _ hx153_0; first | rwa [add_block] at this | exact this) GW150.out); replace hx153_0 := bc_ HB.out hx153_0; replace hx153_1 := bc_ HB.out hx153_1; replace hx153_0 := (cell_far (p := ⟨gb150, 0, none⟩) (by first | (rw [add_block]; exact hn153_0) | (show (Addr.add _ _).block ≠ _; rw [add_block]; exact hn153_0) | exact hn153_0) (.int .i64 ((rd_T54 l0 x7_1).f0))).trans hx153_0; replace hx153_1 := (cell_far (p := ⟨gb150, 0, none⟩) (by first | (rw [add_block]; exact hn153_0) | (show (Addr.add _ _).block ≠ _; rw [add_block]; exact hn153_0) | exact hn153_0) (.int .i64 ((rd_T54 l0 x7_1).f0))).trans hx153_1; replace hx153_0 := (cell_far (p := ⟨gb150, 1, none⟩) (by first | (rw [add_block]; exact hn153_1) | (show (Addr.add _ _).block ≠ _; rw [add_block]; exact hn153_1) | exact hn153_1) (.int .i64 ((rd_T54 l0 x7_1).f1))).trans hx153_0; replace hx153_1 := (cell_far (p := ⟨gb150, 1, none⟩) (by first | (rw [add_block]; exact hn153_1) | (show (Addr.add _ _).block ≠ _; rw [add_block]; exact hn153_1) | exact hn153_1) (.int .i64 ((rd_T54 l0 x7_1).f1))).trans hx153_1; (try have hy153_0 := fun (n_ : Nat) => (show ((((w16.drewN n_).setCell ⟨gb150, 0, none⟩ (.int .i64 ((rd_T54 l0 x7_1).f0))).setCell ⟨gb150, 1, none⟩ (.int .i64 ((rd_T54 l0 x7_1).f1)))).cell? _ = some _ from hx153_0)); (try have hy153_1 := fun (n_ : Nat) => (show ((((w16.drewN n_).setCell ⟨gb150, 0, none⟩ (.int .i64 ((rd_T54 l0 x7_1).f0))).setCell ⟨gb150, 1, none⟩ (.int .i64 ((rd_T54 l0 x7_1).f1)))).cell? _ = some _ from hx153_1)); clear hn153_0; clear hn153_1; replace p153 := eq_true p153; replace q153 := eq_true q153)))
            go_roundg k1
            case measure => have := HK1.out; omega
            case rel => exact ⟨(wrap64 (x7_1 + 1)), (by first | rfl | (simp; done) | (simp [*]; done)), H', ⟨by have := HK1.out; omega⟩, ⟨lb1_ HB.out GE150.out⟩⟩
          ·
           rw [if_neg c12] at H
           exact absurd H (by simp)
         ·
          rw [if_neg c11] at H
          exact absurd H (by simp)
        ·
         rw [if_neg c9] at H
         have c9b0 : decide (0 < x7_1) = false := decide_eq_false c9; clear c9; have H' := Aside0.mk H; clear H; have p149 : 0 ≤ (x7_1 : Int) := dt_; have q149 : x7_1 < (l0.length : Int) := dt_; obtain ⟨ad149, e149, hx149_0, hx149_1⟩ := at_T54 HR0.out x7_1 p149 q149
         cases e149
         replace hx149_0 := bc_ HB.out hx149_0; replace hx149_1 := bc_ HB.out hx149_1; replace p149 := eq_true p149; replace q149 := eq_true q149
         go_wp2_with (first | ((with_reducible refine gate_dst (N := 4) rfl ?_); refine box_event ?hg (N := 4) ?hd (cs := #[.int .i64 0, .int .i64 0]) (t := 54) ?hr ?_; (case hd => rfl); (case hg => rfl); (case hr => first | (go_simp; done) | (go_simp; rfl)); intro gb150 hg w18 hbox hb; have BK150 := Aside0.mk (hbox); have GW150 := Aside0.mk ((bz_ hg (lb0_ HB.out))); have GE150 := Aside0.mk ((bz_ hg (lb0_ HB.out))); replace HB := Aside0.mk (below_step (lb0_ HB.out) hb); clear hb hbox hg; obtain ⟨hcz19_0, hcz19_1⟩ := cz2_ BK150.out; obtain ⟨hfz19_0, hfz19_1⟩ := fz2_ BK150.out) | (go_at_call 74; (with_reducible refine (impl_within.calls ((rd_T54 l0 x7_1).f0) 0 999 true _ A5.out).mono ?_); rintro e w' ⟨rfl, ⟨nd, rfl⟩⟩; (try first | exact ⟨rfl, _, World.drewN_drewN _ _ _⟩ | exact ⟨rfl, _, Eq.trans (World.drewN_drewN _ _ _) (congrArg (World.drewN _) (Nat.add_assoc _ _ _))⟩)) | (go_at_call 75; (with_reducible refine (impl_isLevel.calls ((rd_T54 l0 x7_1).f1) true _ A7.out).mono ?_); rintro e w' ⟨rfl, ⟨nd, rfl⟩⟩; (try first | exact ⟨rfl, _, World.drewN_drewN _ _ _⟩ | exact ⟨rfl, _, Eq.trans (World.drewN_drewN _ _ _) (congrArg (World.drewN _) (Nat.add_assoc _ _ _))⟩)))
         repeat (go_quiet (first | ((with_reducible refine gate_dst (N := 4) rfl ?_); refine box_event ?hg (N := 4) ?hd (cs := #[.int .i64 0, .int .i64 0]) (t := 54) ?hr ?_; (case hd => rfl); (case hg => rfl); (case hr => first | (go_simp; done) | (go_simp; rfl)); intro gb150 hg w18 hbox hb; have BK150 := Aside0.mk (hbox); have GW150 := Aside0.mk ((bz_ hg (lb0_ HB.out))); have GE150 := Aside0.mk ((bz_ hg (lb0_ HB.out))); replace HB := Aside0.mk (below_step (lb0_ HB.out) hb); clear hb hbox hg; obtain ⟨hcz19_0, hcz19_1⟩ := cz2_ BK150.out; obtain ⟨hfz19_0, hfz19_1⟩ := fz2_ BK150.out) | (go_at_call 74; (with_reducible refine (impl_within.calls ((rd_T54 l0 x7_1).f0) 0 999 true _ A5.out).mono ?_); rintro e w' ⟨rfl, ⟨nd, rfl⟩⟩; (try first | exact ⟨rfl, _, World.drewN_drewN _ _ _⟩ | exact ⟨rfl, _, Eq.trans (World.drewN_drewN _ _ _) (congrArg (World.drewN _) (Nat.add_assoc _ _ _))⟩)) | (go_at_call 75; (with_reducible refine (impl_isLevel.calls ((rd_T54 l0 x7_1).f1) true _ A7.out).mono ?_); rintro e w' ⟨rfl, ⟨nd, rfl⟩⟩; (try first | exact ⟨rfl, _, World.drewN_drewN _ _ _⟩ | exact ⟨rfl, _, Eq.trans (World.drewN_drewN _ _ _) (congrArg (World.drewN _) (Nat.add_assoc _ _ _))⟩))); try go_wp2_with (first | ((with_reducible refine gate_dst (N := 4) rfl ?_); refine box_event ?hg (N := 4) ?hd (cs := #[.int .i64 0, .int .i64 0]) (t := 54) ?hr ?_; (case hd => rfl); (case hg => rfl); (case hr => first | (go_simp; done) | (go_simp; rfl)); intro gb150 hg w18 hbox hb; have BK150 := Aside0.mk (hbox); have GW150 := Aside0.mk ((bz_ hg (lb0_ HB.out))); have GE150 := Aside0.mk ((bz_ hg (lb0_ HB.out))); replace HB := Aside0.mk (below_step (lb0_ HB.out) hb); clear hb hbox hg; obtain ⟨hcz19_0, hcz19_1⟩ := cz2_ BK150.out; obtain ⟨hfz19_0, hfz19_1⟩ := fz2_ BK150.out) | (go_at_call 74; (with_reducible refine (impl_within.calls ((rd_T54 l0 x7_1).f0) 0 999 true _ A5.out).mono ?_); rintro e w' ⟨rfl, ⟨nd, rfl⟩⟩; (try first | exact ⟨rfl, _, World.drewN_drewN _ _ _⟩ | exact ⟨rfl, _, Eq.trans (World.drewN_drewN _ _ _) (congrArg (World.drewN _) (Nat.add_assoc _ _ _))⟩)) | (go_at_call 75; (with_reducible refine (impl_isLevel.calls ((rd_T54 l0 x7_1).f1) true _ A7.out).mono ?_); rintro e w' ⟨rfl, ⟨nd, rfl⟩⟩; (try first | exact ⟨rfl, _, World.drewN_drewN _ _ _⟩ | exact ⟨rfl, _, Eq.trans (World.drewN_drewN _ _ _) (congrArg (World.drewN _) (Nat.add_assoc _ _ _))⟩))))
         go_roundg k1
         case measure => have := HK1.out; omega
         case rel => exact ⟨(wrap64 (x7_1 + 1)), (by first | rfl | (simp; done) | (simp [*]; done)), H', ⟨by have := HK1.out; omega⟩, ⟨lb1_ HB.out GE150.out⟩⟩
       ·
        replace c8 := Bool.eq_false_iff.mpr c8; subst c8
        have H1 : (some false) = some r := by rw [if_neg (show ¬ (false = true) by decide)] at H; exact H
        clear H; have H := H1; clear H1; obtain rfl := Option.some.inj H; have p149 : 0 ≤ (x7_1 : Int) := dt_; have q149 : x7_1 < (l0.length : Int) := dt_; obtain ⟨ad149, e149, hx149_0, hx149_1⟩ := at_T54 HR0.out x7_1 p149 q149
        cases e149
        replace hx149_0 := bc_ HB.out hx149_0; replace hx149_1 := bc_ HB.out hx149_1; replace p149 := eq_true p149; replace q149 := eq_true q149
        go_wp2_with (first | ((with_reducible refine gate_dst (N := 4) rfl ?_); refine box_event ?hg (N := 4) ?hd (cs := #[.int .i64 0, .int .i64 0]) (t := 54) ?hr ?_; (case hd => rfl); (case hg => rfl); (case hr => first | (go_simp; done) | (go_simp; rfl)); intro gb150 hg w20 hbox hb; have BK150 := Aside0.mk (hbox); have GW150 := Aside0.mk ((bz_ hg (lb0_ HB.out))); have GE150 := Aside0.mk ((bz_ hg (lb0_ HB.out))); replace HB := Aside0.mk (below_step (lb0_ HB.out) hb); clear hb hbox hg; obtain ⟨hcz21_0, hcz21_1⟩ := cz2_ BK150.out; obtain ⟨hfz21_0, hfz21_1⟩ := fz2_ BK150.out) | (go_at_call 74; (with_reducible refine (impl_within.calls ((rd_T54 l0 x7_1).f0) 0 999 true _ A5.out).mono ?_); rintro e w' ⟨rfl, ⟨nd, rfl⟩⟩; (try first | exact ⟨rfl, _, World.drewN_drewN _ _ _⟩ | exact ⟨rfl, _, Eq.trans (World.drewN_drewN _ _ _) (congrArg (World.drewN _) (Nat.add_assoc _ _ _))⟩)) | (go_at_call 75; (with_reducible refine (impl_isLevel.calls ((rd_T54 l0 x7_1).f1) false _ A7.out).mono ?_); rintro e w' ⟨rfl, ⟨nd, rfl⟩⟩; (try first | exact ⟨rfl, _, World.drewN_drewN _ _ _⟩ | exact ⟨rfl, _, Eq.trans (World.drewN_drewN _ _ _) (congrArg (World.drewN _) (Nat.add_assoc _ _ _))⟩)))
        repeat (go_quiet (first | ((with_reducible refine gate_dst (N := 4) rfl ?_); refine box_event ?hg (N := 4) ?hd (cs := #[.int .i64 0, .int .i64 0]) (t := 54) ?hr ?_; (case hd => rfl); (case hg => rfl); (case hr => first | (go_simp; done) | (go_simp; rfl)); intro gb150 hg w20 hbox hb; have BK150 := Aside0.mk (hbox); have GW150 := Aside0.mk ((bz_ hg (lb0_ HB.out))); have GE150 := Aside0.mk ((bz_ hg (lb0_ HB.out))); replace HB := Aside0.mk (below_step (lb0_ HB.out) hb); clear hb hbox hg; obtain ⟨hcz21_0, hcz21_1⟩ := cz2_ BK150.out; obtain ⟨hfz21_0, hfz21_1⟩ := fz2_ BK150.out) | (go_at_call 74; (with_reducible refine (impl_within.calls ((rd_T54 l0 x7_1).f0) 0 999 true _ A5.out).mono ?_); rintro e w' ⟨rfl, ⟨nd, rfl⟩⟩; (try first | exact ⟨rfl, _, World.drewN_drewN _ _ _⟩ | exact ⟨rfl, _, Eq.trans (World.drewN_drewN _ _ _) (congrArg (World.drewN _) (Nat.add_assoc _ _ _))⟩)) | (go_at_call 75; (with_reducible refine (impl_isLevel.calls ((rd_T54 l0 x7_1).f1) false _ A7.out).mono ?_); rintro e w' ⟨rfl, ⟨nd, rfl⟩⟩; (try first | exact ⟨rfl, _, World.drewN_drewN _ _ _⟩ | exact ⟨rfl, _, Eq.trans (World.drewN_drewN _ _ _) (congrArg (World.drewN _) (Nat.add_assoc _ _ _))⟩))); try go_wp2_with (first | ((with_reducible refine gate_dst (N := 4) rfl ?_); refine box_event ?hg (N := 4) ?hd (cs := #[.int .i64 0, .int .i64 0]) (t := 54) ?hr ?_; (case hd => rfl); (case hg => rfl); (case hr => first | (go_simp; done) | (go_simp; rfl)); intro gb150 hg w20 hbox hb; have BK150 := Aside0.mk (hbox); have GW150 := Aside0.mk ((bz_ hg (lb0_ HB.out))); have GE150 := Aside0.mk ((bz_ hg (lb0_ HB.out))); replace HB := Aside0.mk (below_step (lb0_ HB.out) hb); clear hb hbox hg; obtain ⟨hcz21_0, hcz21_1⟩ := cz2_ BK150.out; obtain ⟨hfz21_0, hfz21_1⟩ := fz2_ BK150.out) | (go_at_call 74; (with_reducible refine (impl_within.calls ((rd_T54 l0 x7_1).f0) 0 999 true _ A5.out).mono ?_); rintro e w' ⟨rfl, ⟨nd, rfl⟩⟩; (try first | exact ⟨rfl, _, World.drewN_drewN _ _ _⟩ | exact ⟨rfl, _, Eq.trans (World.drewN_drewN _ _ _) (congrArg (World.drewN _) (Nat.add_assoc _ _ _))⟩)) | (go_at_call 75; (with_reducible refine (impl_isLevel.calls ((rd_T54 l0 x7_1).f1) false _ A7.out).mono ?_); rintro e w' ⟨rfl, ⟨nd, rfl⟩⟩; (try first | exact ⟨rfl, _, World.drewN_drewN _ _ _⟩ | exact ⟨rfl, _, Eq.trans (World.drewN_drewN _ _ _) (congrArg (World.drewN _) (Nat.add_assoc _ _ _))⟩))))
        go_ret
        exact ⟨rr_, lb1_ HB.out GE150.out⟩
      ·
       replace c6 := Bool.eq_false_iff.mpr c6
       subst c6
       have H1 : (some false) = some r := by rw [if_neg (show ¬ (false = true) by decide)] at H; exact H
       clear H
       have H := H1
       clear H1
       obtain rfl := Option.some.inj H
       have p149 : 0 ≤ (x7_1 : Int) := dt_
       have q149 : x7_1 < (l0.length : Int) := dt_
       obtain ⟨ad149, e149, hx149_0, hx149_1⟩ := at_T54 HR0.out x7_1 p149 q149
       cases e149
       replace hx149_0 := bc_ HB.out hx149_0
       replace hx149_1 := bc_ HB.out hx149_1
       replace p149 := eq_true p149
       replace q149 := eq_true q149
       go_wp2_with (first | ((with_reducible refine gate_dst (N := 4) rfl ?_); refine box_event ?hg (N := 4) ?hd (cs := #[.int .i64 0, .int .i64 0]) (t := 54) ?hr ?_; (case hd => rfl); (case hg => rfl); (case hr => first | (go_simp; done) | (go_simp; rfl)); intro gb150 hg w22 hbox hb; have BK150 := Aside0.mk (hbox); have GW150 := Aside0.mk ((bz_ hg (lb0_ HB.out))); have GE150 := Aside0.mk ((bz_ hg (lb0_ HB.out))); replace HB := Aside0.mk (below_step (lb0_ HB.out) hb); clear hb hbox hg; obtain ⟨hcz23_0, hcz23_1⟩ := cz2_ BK150.out; obtain ⟨hfz23_0, hfz23_1⟩ := fz2_ BK150.out) | (go_at_call 74; (with_reducible refine (impl_within.calls ((rd_T54 l0 x7_1).f0) 0 999 false _ A5.out).mono ?_); rintro e w' ⟨rfl, ⟨nd, rfl⟩⟩; (try first | exact ⟨rfl, _, World.drewN_drewN _ _ _⟩ | exact ⟨rfl, _, Eq.trans (World.drewN_drewN _ _ _) (congrArg (World.drewN _) (Nat.add_assoc _ _ _))⟩)))
       repeat (go_quiet (first | ((with_reducible refine gate_dst (N := 4) rfl ?_); refine box_event ?hg (N := 4) ?hd (cs := #[.int .i64 0, .int .i64 0]) (t := 54) ?hr ?_; (case hd => rfl); (case hg => rfl); (case hr => first | (go_simp; done) | (go_simp; rfl)); intro gb150 hg w22 hbox hb; have BK150 := Aside0.mk (hbox); have GW150 := Aside0.mk ((bz_ hg (lb0_ HB.out))); have GE150 := Aside0.mk ((bz_ hg (lb0_ HB.out))); replace HB := Aside0.mk (below_step (lb0_ HB.out) hb); clear hb hbox hg; obtain ⟨hcz23_0, hcz23_1⟩ := cz2_ BK150.out; obtain ⟨hfz23_0, hfz23_1⟩ := fz2_ BK150.out) | (go_at_call 74; (with_reducible refine (impl_within.calls ((rd_T54 l0 x7_1).f0) 0 999 false _ A5.out).mono ?_); rintro e w' ⟨rfl, ⟨nd, rfl⟩⟩; (try first | exact ⟨rfl, _, World.drewN_drewN _ _ _⟩ | exact ⟨rfl, _, Eq.trans (World.drewN_drewN _ _ _) (congrArg (World.drewN _) (Nat.add_assoc _ _ _))⟩))); try go_wp2_with (first | ((with_reducible refine gate_dst (N := 4) rfl ?_); refine box_event ?hg (N := 4) ?hd (cs := #[.int .i64 0, .int .i64 0]) (t := 54) ?hr ?_; (case hd => rfl); (case hg => rfl); (case hr => first | (go_simp; done) | (go_simp; rfl)); intro gb150 hg w22 hbox hb; have BK150 := Aside0.mk (hbox); have GW150 := Aside0.mk ((bz_ hg (lb0_ HB.out))); have GE150 := Aside0.mk ((bz_ hg (lb0_ HB.out))); replace HB := Aside0.mk (below_step (lb0_ HB.out) hb); clear hb hbox hg; obtain ⟨hcz23_0, hcz23_1⟩ := cz2_ BK150.out; obtain ⟨hfz23_0, hfz23_1⟩ := fz2_ BK150.out) | (go_at_call 74; (with_reducible refine (impl_within.calls ((rd_T54 l0 x7_1).f0) 0 999 false _ A5.out).mono ?_); rintro e w' ⟨rfl, ⟨nd, rfl⟩⟩; (try first | exact ⟨rfl, _, World.drewN_drewN _ _ _⟩ | exact ⟨rfl, _, Eq.trans (World.drewN_drewN _ _ _) (congrArg (World.drewN _) (Nat.add_assoc _ _ _))⟩))))
       go_ret
       exact ⟨rr_, lb1_ HB.out GE150.out⟩
     ·
      rw [if_neg c4] at H
      exact absurd H (by simp)
    ·
     rw [if_neg c3] at H
     exact absurd H (by simp)
   ·
    rw [if_neg c2] at H
    have c2b0 : decide (x7_1 < (l0.length : Int)) = false := decide_eq_false c2
    clear c2
    obtain rfl := Option.some.inj H
    go_wp2
    repeat (go_quiet (fail); try go_wp2)
    go_ret
    exact ⟨rr_, lb0_ HB.out⟩
def impl_hours.f (l0 : List (S54)) : Option (Int × Int) := if (l0.length : Int) = 0 then (some (0, (-1))) else (if 0 < (l0.length : Int) then (if 0 ≤ (wrap64 ((l0.length : Int) - 1)) then (if (wrap64 ((l0.length : Int) - 1)) < (l0.length : Int) then (some ((rd_T54 l0 0).f0, (rd_T54 l0 (wrap64 ((l0.length : Int) - 1))).f0)) else (none)) else (none)) else (none))
set_option maxHeartbeats 8000000 in
set_option maxRecDepth 100000 in
theorem impl_hours.calls (A0 : Option Addr) (c0 : Nat) (l0 : List (S54)) (r1 : Int) (r2 : Int) (w : World) (hr0 : Kd.C k54 w A0 l0.length l0) (hc0 : l0.length ≤ c0) (h : impl_hours.f l0 = some (r1, r2)) :
  Calls Try.prog 76 #[.slice A0 l0.length c0] w fun e w' => e = .returned (.tuple #[.int .i64 r1, .int .i64 r2]) ∧ Drawn0 w w' := by
 have HR0 := Aside0.mk hr0
 have HC0 := Aside0.mk hc0
 clear hr0 hc0
 have H : (if (l0.length : Int) = 0 then (some (0, (-1))) else (if 0 < (l0.length : Int) then (if 0 ≤ (wrap64 ((l0.length : Int) - 1)) then (if (wrap64 ((l0.length : Int) - 1)) < (l0.length : Int) then (some ((rd_T54 l0 0).f0, (rd_T54 l0 (wrap64 ((l0.length : Int) - 1))).f0)) else (none)) else (none)) else (none))) = some (r1, r2) := h
 clear h
 by_cases c2 : (l0.length : Int) = 0
 ·
  rw [if_pos c2] at H
  have c2b0 : ((l0.length : Int) == 0) = true := beq_iff_eq.mpr c2
  have c2b1 : ((l0.length : Int) != 0) = false := bne_eq_false_iff_eq.mpr c2
  clear c2
  simp only [Option.some.injEq, Prod.mk.injEq] at H
  obtain ⟨rfl, rfl⟩ := H
  go_enter Try.func76, Try.ntmps76
  go_wp2
  repeat (go_quiet (fail); try go_wp2)
  go_ret2
  exact ⟨by first | rfl | (simp; done) | (simp [*]; done), by repeat (first | exact Drawn0.refl _ | apply Drawn0.step)⟩
 ·
  rw [if_neg c2] at H
  have c2b0 : ((l0.length : Int) == 0) = false := beq_eq_false_iff_ne.mpr c2
  have c2b1 : ((l0.length : Int) != 0) = true := bne_iff_ne.mpr c2
  have c2b2 : ¬ (l0 = []) := fun h_ => c2 (by rw [h_]; rfl)
  by_cases c3 : 0 < (l0.length : Int)
  ·
   rw [if_pos c3] at H
   have c3b0 : decide (0 < (l0.length : Int)) = true := decide_eq_true c3
   have c3b1 : decide (0 < l0.length) = true := decide_eq_true (by omega)
   clear c3
   obtain ⟨ji4, hji4⟩ : ∃ j_ : Int, (wrap64 ((l0.length : Int) - 1)) = j_ := ⟨_, rfl⟩
   replace H : (if 0 ≤ (ji4) then (if (ji4) < (l0.length : Int) then (some ((rd_T54 l0 0).f0, (rd_T54 l0 (ji4)).f0)) else (none)) else (none)) = some (r1, r2) := by first | (rw [hji4] at H; exact H) | (simp only [hji4] at H ⊢; exact H)
   have hji4w : (IntKind.i64.wrap ((l0.length : Int) - 1)) = ji4 := (i64_w _).trans hji4
   by_cases c5 : 0 ≤ (ji4)
   ·
    rw [if_pos c5] at H
    have c5b0 : decide (0 ≤ (ji4)) = true := decide_eq_true c5
    clear c5
    by_cases c6 : (ji4) < (l0.length : Int)
    ·
     rw [if_pos c6] at H
     have c6b0 : decide ((ji4) < (l0.length : Int)) = true := decide_eq_true c6
     clear c6
     simp only [Option.some.injEq, Prod.mk.injEq] at H
     obtain ⟨rfl, rfl⟩ := H
     have p154 : 0 ≤ (0 : Int) := (by omega)
     have q154 : 0 < (l0.length : Int) := dt_
     obtain ⟨ad154, e154, hx154_0, hx154_1⟩ := at_T54 HR0.out 0 p154 q154
     cases e154
     have qi154 : (0 < l0.length) = True := eq_true (by omega)
     (try rw [show ((0 : Int)).toNat = 0 from rfl] at hx154_0)
     (try rw [show 0 * 2 = 0 from rfl] at hx154_0)
     (try rw [Addr.add_zero'] at hx154_0)
     (try rw [show ((0 : Int)).toNat = 0 from rfl] at hx154_1)
     (try rw [show 0 * 2 = 0 from rfl] at hx154_1)
     (try rw [Addr.add_zero'] at hx154_1)
     replace p154 := eq_true p154
     replace q154 := eq_true q154
     have p155 : 0 ≤ ((ji4) : Int) := dt_
     have q155 : (ji4) < (l0.length : Int) := dt_
     obtain ⟨ad155, e155, hx155_0, hx155_1⟩ := at_T54 HR0.out (ji4) p155 q155
     obtain rfl : ad154 = ad155 := (by injection e155)
     replace p155 := eq_true p155
     replace q155 := eq_true q155
     go_enter Try.func76, Try.ntmps76
     go_wp2
     repeat (go_quiet (fail); try go_wp2)
     go_ret2
     exact ⟨by first | rfl | (simp; done) | (simp only [← hji4] <;> (first | rfl | simp)) | (simp [*]; done), by repeat (first | exact Drawn0.refl _ | apply Drawn0.step)⟩
    ·
     rw [if_neg c6] at H
     exact absurd H (by simp)
   ·
    rw [if_neg c5] at H
    exact absurd H (by simp)
  ·
   rw [if_neg c3] at H
   exact absurd H (by simp)
def impl_hasHour.f (k : Nat) (l0 : List (S54)) (a1 : Int) : Option (Bool) := (impl_hours.f l0).bind fun bt156 => ((impl_AreReadings.f k l0).bind fun t158 => (if t158 = true then ((impl_within.f a1 bt156.1 bt156.2).bind fun t159 => (some t159)) else (some false)))
set_option maxHeartbeats 8000000 in
set_option maxRecDepth 100000 in
theorem impl_hasHour.calls (k : Nat) (A0 : Option Addr) (c0 : Nat) (l0 : List (S54)) (a1 : Int) (r : Bool) (w : World) (hr0 : Kd.C k54 w A0 l0.length l0) (hc0 : l0.length ≤ c0) (h : impl_hasHour.f k l0 a1 = some r) :
  Calls Try.prog 58 #[.slice A0 l0.length c0, .int .i64 a1] w fun e w' => e = .returned (.bool r) ∧ Below w.heap.size w w' := by
 have HR0 := Aside0.mk hr0
 have HC0 := Aside0.mk hc0
 clear hr0 hc0
 have HB := Aside0.mk (Below.refl w.heap.size w)
 have H : ((impl_hours.f l0).bind fun bt156 => ((impl_AreReadings.f k l0).bind fun t158 => (if t158 = true then ((impl_within.f a1 bt156.1 bt156.2).bind fun t159 => (some t159)) else (some false)))) = some r := h
 clear h
 replace H := Option.bind_eq_some_iff.mp H
 obtain ⟨⟨t156, t157⟩, A30, H⟩ := H
 replace H : ((impl_AreReadings.f k l0).bind fun t158 => (if t158 = true then ((impl_within.f a1 t156 t157).bind fun t159 => (some t159)) else (some false))) = some r := H
 have A3 := Aside0.mk A30
 clear A30
 replace H := Option.bind_eq_some_iff.mp H
 obtain ⟨t158, A40, H⟩ := H
 replace H : (if t158 = true then ((impl_within.f a1 t156 t157).bind fun t159 => (some t159)) else (some false)) = some r := H
 have A4 := Aside0.mk A40
 clear A40
 by_cases c5 : t158 = true
 ·
  subst c5
  have H1 : ((impl_within.f a1 t156 t157).bind fun t159 => (some t159)) = some r := by rw [if_pos rfl] at H; exact H
  clear H
  have H := H1
  clear H1
  replace H := Option.bind_eq_some_iff.mp H
  obtain ⟨t159, A60, H⟩ := H
  replace H : (some t159) = some r := H
  have A6 := Aside0.mk A60
  clear A60
  obtain rfl := Option.some.inj H
  go_enter Try.func58, Try.ntmps58
  go_wp2_with (first | ((with_reducible refine gate_callee (f := 76) rfl ?_); refine ga_ (some 9) Try.func76 #[.slice A0 l0.length c0] ?_; (with_reducible refine (impl_hours.calls _ _ l0 t156 t157 _ ?side1 ?side2 A3.out).mono ?_); (case side1 => exact kc_ HR0.out); (case side2 => exact HC0.out); rintro e w' ⟨rfl, ⟨nd, rfl⟩⟩; refine ⟨_, rfl, ?_⟩) | ((with_reducible refine gate_callee (f := 34) rfl ?_); refine ga_ (some 13) Try.func34 #[.slice A0 l0.length c0] ?_; (with_reducible refine (impl_AreReadings.calls k _ _ l0 true _ ?side1 ?side2 A4.out).mono ?_); (case side1 => exact kc_ HR0.out); (case side2 => exact HC0.out); rintro e w7 ⟨rfl, hb⟩; refine ⟨_, rfl, ?_⟩; replace HB := Aside0.mk (below_step (lb0_ HB.out) hb); (try clear hb); (try clear hb2); (try clear hk); (try clear hi)) | (go_at_call 74; (with_reducible refine (impl_within.calls a1 t156 t157 t159 _ A6.out).mono ?_); rintro e w' ⟨rfl, ⟨nd, rfl⟩⟩))
  go_ret
  exact ⟨rr_, lb0_ HB.out⟩
 ·
  replace c5 := Bool.eq_false_iff.mpr c5
  subst c5
  have H1 : (some false) = some r := by rw [if_neg (show ¬ (false = true) by decide)] at H; exact H
  clear H
  have H := H1
  clear H1
  obtain rfl := Option.some.inj H
  go_enter Try.func58, Try.ntmps58
  go_wp2_with (first | ((with_reducible refine gate_callee (f := 76) rfl ?_); refine ga_ (some 9) Try.func76 #[.slice A0 l0.length c0] ?_; (with_reducible refine (impl_hours.calls _ _ l0 t156 t157 _ ?side1 ?side2 A3.out).mono ?_); (case side1 => exact kc_ HR0.out); (case side2 => exact HC0.out); rintro e w' ⟨rfl, ⟨nd, rfl⟩⟩; refine ⟨_, rfl, ?_⟩) | ((with_reducible refine gate_callee (f := 34) rfl ?_); refine ga_ (some 13) Try.func34 #[.slice A0 l0.length c0] ?_; (with_reducible refine (impl_AreReadings.calls k _ _ l0 false _ ?side1 ?side2 A4.out).mono ?_); (case side1 => exact kc_ HR0.out); (case side2 => exact HC0.out); rintro e w8 ⟨rfl, hb⟩; refine ⟨_, rfl, ?_⟩; replace HB := Aside0.mk (below_step (lb0_ HB.out) hb); (try clear hb); (try clear hb2); (try clear hk); (try clear hi)))
  go_ret
  exact ⟨rr_, lb0_ HB.out⟩
def impl_isStation.f (a0 : Int) : Option (Bool) := (impl_within.f a0 0 7).bind fun t160 => (some t160)
set_option maxHeartbeats 8000000 in
set_option maxRecDepth 100000 in
theorem impl_isStation.calls (a0 : Int) (r : Bool) (w : World) (h : impl_isStation.f a0 = some r) :
  Calls Try.prog 90 #[.int .i64 a0] w fun e w' => e = .returned (.bool r) ∧ Drawn0 w w' := by
 have H : ((impl_within.f a0 0 7).bind fun t160 => (some t160)) = some r := h
 clear h
 replace H := Option.bind_eq_some_iff.mp H
 obtain ⟨t160, A20, H⟩ := H
 replace H : (some t160) = some r := H
 have A2 := Aside0.mk A20
 clear A20
 obtain rfl := Option.some.inj H
 go_enter Try.func90, Try.ntmps90
 go_wp2_with (first | ((with_reducible refine gate_callee (f := 74) rfl ?_); refine ga_ (some 4) Try.func74 #[.int .i64 a0, .int .i64 0, .int .i64 7] ?_; (with_reducible refine (impl_within.calls a0 0 7 t160 _ A2.out).mono ?_); rintro e w' ⟨rfl, ⟨nd, rfl⟩⟩; refine ⟨_, rfl, ?_⟩))
 go_ret
 exact ⟨by first | rfl | (simp; done) | (simp [*]; done), by repeat (first | exact Drawn0.refl _ | apply Drawn0.step)⟩
def impl_isSump.f (a0_0 : Int) (a0_1 : Int) (a0_2 : Int) : Option (Bool) := (impl_isStation.f a0_0).bind fun t162 => (if t162 = true then ((impl_isLevel.f a0_1).bind fun t163 => (if t163 = true then ((impl_isLevel.f a0_2).bind fun t164 => (if t164 = true then (some (decide (a0_2 ≤ a0_1))) else (some false))) else (some false))) else (some false))
set_option maxHeartbeats 8000000 in
set_option maxRecDepth 100000 in
theorem impl_isSump.calls (a0_0 : Int) (a0_1 : Int) (a0_2 : Int) (r : Bool) (w : World) (h : impl_isSump.f a0_0 a0_1 a0_2 = some r) :
  Calls Try.prog 59 #[.agg #[.int .i64 a0_0, .int .i64 a0_1, .int .i64 a0_2]] w fun e w' => e = .returned (.bool r) ∧ Below w.heap.size w w' := by
 have hu30 := Try.underlying30
 have HB := Aside0.mk (Below.refl w.heap.size w)
 have H : ((impl_isStation.f a0_0).bind fun t162 => (if t162 = true then ((impl_isLevel.f a0_1).bind fun t163 => (if t163 = true then ((impl_isLevel.f a0_2).bind fun t164 => (if t164 = true then (some (decide (a0_2 ≤ a0_1))) else (some false))) else (some false))) else (some false))) = some r := h
 clear h
 replace H := Option.bind_eq_some_iff.mp H
 obtain ⟨t162, A20, H⟩ := H
 replace H : (if t162 = true then ((impl_isLevel.f a0_1).bind fun t163 => (if t163 = true then ((impl_isLevel.f a0_2).bind fun t164 => (if t164 = true then (some (decide (a0_2 ≤ a0_1))) else (some false))) else (some false))) else (some false)) = some r := H
 have A2 := Aside0.mk A20
 clear A20
 by_cases c3 : t162 = true
 ·
  subst c3
  have H1 : ((impl_isLevel.f a0_1).bind fun t163 => (if t163 = true then ((impl_isLevel.f a0_2).bind fun t164 => (if t164 = true then (some (decide (a0_2 ≤ a0_1))) else (some false))) else (some false))) = some r := by rw [if_pos rfl] at H; exact H
  clear H
  have H := H1
  clear H1
  replace H := Option.bind_eq_some_iff.mp H
  obtain ⟨t163, A40, H⟩ := H
  replace H : (if t163 = true then ((impl_isLevel.f a0_2).bind fun t164 => (if t164 = true then (some (decide (a0_2 ≤ a0_1))) else (some false))) else (some false)) = some r := H
  have A4 := Aside0.mk A40
  clear A40
  by_cases c5 : t163 = true
  ·
   subst c5
   have H1 : ((impl_isLevel.f a0_2).bind fun t164 => (if t164 = true then (some (decide (a0_2 ≤ a0_1))) else (some false))) = some r := by rw [if_pos rfl] at H; exact H
   clear H
   have H := H1
   clear H1
   replace H := Option.bind_eq_some_iff.mp H
   obtain ⟨t164, A60, H⟩ := H
   replace H : (if t164 = true then (some (decide (a0_2 ≤ a0_1))) else (some false)) = some r := H
   have A6 := Aside0.mk A60
   clear A60
   by_cases c7 : t164 = true
   ·
    subst c7
    have H1 : (some (decide (a0_2 ≤ a0_1))) = some r := by rw [if_pos rfl] at H; exact H
    clear H
    have H := H1
    clear H1
    obtain rfl := Option.some.inj H
    go_enter Try.func59, Try.ntmps59
    go_wp2_with (first | ((with_reducible refine gate_dst (N := 1) rfl ?_); refine box_event ?hg (N := 1) ?hd (cs := #[.int .i64 a0_0, .int .i64 a0_1, .int .i64 a0_2]) (t := 30) ?hr ?_; (case hd => rfl); (case hg => rfl); (case hr => first | (go_simp; done) | (go_simp; rfl)); intro gb161 hg w8 hbox hb; have BK161 := Aside0.mk (hbox); have GW161 := Aside0.mk ((bz_ hg (lb0_ HB.out))); have GE161 := Aside0.mk ((bz_ hg (lb0_ HB.out))); replace HB := Aside0.mk (below_step (lb0_ HB.out) hb); clear hb hbox hg; obtain ⟨hcz9_0, hcz9_1, hcz9_2⟩ := cz3_ BK161.out; obtain ⟨hfz9_0, hfz9_1, hfz9_2⟩ := fz3_ BK161.out) | ((with_reducible refine gate_callee (f := 90) rfl ?_); refine ga_ (some 5) Try.func90 #[.int .i64 a0_0] ?_; (with_reducible refine (impl_isStation.calls a0_0 true _ A2.out).mono ?_); rintro e w' ⟨rfl, ⟨nd, rfl⟩⟩; refine ⟨_, rfl, ?_⟩) | (go_at_call 75; (with_reducible refine (impl_isLevel.calls a0_1 true _ A4.out).mono ?_); rintro e w' ⟨rfl, ⟨nd, rfl⟩⟩) | (go_at_call 75; (with_reducible refine (impl_isLevel.calls a0_2 true _ A6.out).mono ?_); rintro e w' ⟨rfl, ⟨nd, rfl⟩⟩))
    go_ret
    exact ⟨rr_, lb1_ HB.out GE161.out⟩
   ·
    replace c7 := Bool.eq_false_iff.mpr c7
    subst c7
    have H1 : (some false) = some r := by rw [if_neg (show ¬ (false = true) by decide)] at H; exact H
    clear H
    have H := H1
    clear H1
    obtain rfl := Option.some.inj H
    go_enter Try.func59, Try.ntmps59
    go_wp2_with (first | ((with_reducible refine gate_dst (N := 1) rfl ?_); refine box_event ?hg (N := 1) ?hd (cs := #[.int .i64 a0_0, .int .i64 a0_1, .int .i64 a0_2]) (t := 30) ?hr ?_; (case hd => rfl); (case hg => rfl); (case hr => first | (go_simp; done) | (go_simp; rfl)); intro gb161 hg w10 hbox hb; have BK161 := Aside0.mk (hbox); have GW161 := Aside0.mk ((bz_ hg (lb0_ HB.out))); have GE161 := Aside0.mk ((bz_ hg (lb0_ HB.out))); replace HB := Aside0.mk (below_step (lb0_ HB.out) hb); clear hb hbox hg; obtain ⟨hcz11_0, hcz11_1, hcz11_2⟩ := cz3_ BK161.out; obtain ⟨hfz11_0, hfz11_1, hfz11_2⟩ := fz3_ BK161.out) | ((with_reducible refine gate_callee (f := 90) rfl ?_); refine ga_ (some 5) Try.func90 #[.int .i64 a0_0] ?_; (with_reducible refine (impl_isStation.calls a0_0 true _ A2.out).mono ?_); rintro e w' ⟨rfl, ⟨nd, rfl⟩⟩; refine ⟨_, rfl, ?_⟩) | (go_at_call 75; (with_reducible refine (impl_isLevel.calls a0_1 true _ A4.out).mono ?_); rintro e w' ⟨rfl, ⟨nd, rfl⟩⟩) | (go_at_call 75; (with_reducible refine (impl_isLevel.calls a0_2 false _ A6.out).mono ?_); rintro e w' ⟨rfl, ⟨nd, rfl⟩⟩))
    go_ret
    exact ⟨rr_, lb1_ HB.out GE161.out⟩
  ·
   replace c5 := Bool.eq_false_iff.mpr c5
   subst c5
   have H1 : (some false) = some r := by rw [if_neg (show ¬ (false = true) by decide)] at H; exact H
   clear H
   have H := H1
   clear H1
   obtain rfl := Option.some.inj H
   go_enter Try.func59, Try.ntmps59
   go_wp2_with (first | ((with_reducible refine gate_dst (N := 1) rfl ?_); refine box_event ?hg (N := 1) ?hd (cs := #[.int .i64 a0_0, .int .i64 a0_1, .int .i64 a0_2]) (t := 30) ?hr ?_; (case hd => rfl); (case hg => rfl); (case hr => first | (go_simp; done) | (go_simp; rfl)); intro gb161 hg w12 hbox hb; have BK161 := Aside0.mk (hbox); have GW161 := Aside0.mk ((bz_ hg (lb0_ HB.out))); have GE161 := Aside0.mk ((bz_ hg (lb0_ HB.out))); replace HB := Aside0.mk (below_step (lb0_ HB.out) hb); clear hb hbox hg; obtain ⟨hcz13_0, hcz13_1, hcz13_2⟩ := cz3_ BK161.out; obtain ⟨hfz13_0, hfz13_1, hfz13_2⟩ := fz3_ BK161.out) | ((with_reducible refine gate_callee (f := 90) rfl ?_); refine ga_ (some 5) Try.func90 #[.int .i64 a0_0] ?_; (with_reducible refine (impl_isStation.calls a0_0 true _ A2.out).mono ?_); rintro e w' ⟨rfl, ⟨nd, rfl⟩⟩; refine ⟨_, rfl, ?_⟩) | (go_at_call 75; (with_reducible refine (impl_isLevel.calls a0_1 false _ A4.out).mono ?_); rintro e w' ⟨rfl, ⟨nd, rfl⟩⟩))
   go_ret
   exact ⟨rr_, lb1_ HB.out GE161.out⟩
 ·
  replace c3 := Bool.eq_false_iff.mpr c3
  subst c3
  have H1 : (some false) = some r := by rw [if_neg (show ¬ (false = true) by decide)] at H; exact H
  clear H
  have H := H1
  clear H1
  obtain rfl := Option.some.inj H
  go_enter Try.func59, Try.ntmps59
  go_wp2_with (first | ((with_reducible refine gate_dst (N := 1) rfl ?_); refine box_event ?hg (N := 1) ?hd (cs := #[.int .i64 a0_0, .int .i64 a0_1, .int .i64 a0_2]) (t := 30) ?hr ?_; (case hd => rfl); (case hg => rfl); (case hr => first | (go_simp; done) | (go_simp; rfl)); intro gb161 hg w14 hbox hb; have BK161 := Aside0.mk (hbox); have GW161 := Aside0.mk ((bz_ hg (lb0_ HB.out))); have GE161 := Aside0.mk ((bz_ hg (lb0_ HB.out))); replace HB := Aside0.mk (below_step (lb0_ HB.out) hb); clear hb hbox hg; obtain ⟨hcz15_0, hcz15_1, hcz15_2⟩ := cz3_ BK161.out; obtain ⟨hfz15_0, hfz15_1, hfz15_2⟩ := fz3_ BK161.out) | ((with_reducible refine gate_callee (f := 90) rfl ?_); refine ga_ (some 5) Try.func90 #[.int .i64 a0_0] ?_; (with_reducible refine (impl_isStation.calls a0_0 false _ A2.out).mono ?_); rintro e w' ⟨rfl, ⟨nd, rfl⟩⟩; refine ⟨_, rfl, ?_⟩))
  go_ret
  exact ⟨rr_, lb1_ HB.out GE161.out⟩
def impl_absolute.f (a0 : Int) : Option (Int) := some (mx a0 (wrap64 (-a0)))
set_option maxHeartbeats 8000000 in
set_option maxRecDepth 100000 in
theorem impl_absolute.calls (a0 : Int) (r : Int) (w : World) (h : impl_absolute.f a0 = some r) :
  Calls Try.prog 98 #[.int .i64 a0] w fun e w' => e = .returned (.int .i64 r) ∧ Below w.heap.size w w' := by
 have HB := Aside0.mk (Below.refl w.heap.size w)
 have H : (some (mx a0 (wrap64 (-a0)))) = some r := h
 clear h
 obtain ⟨ji2, hji2⟩ : ∃ j_ : Int, (mx a0 (wrap64 (-a0))) = j_ := ⟨_, rfl⟩
 replace H : (some ji2) = some r := by first | (rw [hji2] at H; exact H) | (simp only [hji2] at H ⊢; exact H)
 have hji2_ : (if a0 < (wrap64 (-a0)) then (wrap64 (-a0)) else a0) = ji2 := hji2
 obtain rfl := Option.some.inj H
 go_enter Try.func98, Try.ntmps98
 go_wp2
 go_ret
 exact ⟨by first | rfl | (simp [errW_none, errW_some] <;> rfl) | (simp only [← hji2]; first | rfl | (simp [errW_none, errW_some] <;> rfl)) | (simp [*, errW_none, errW_some] <;> rfl), lb0_ HB.out⟩
def impl_gcd.l0 : Nat → Int → Int → Option (Int)
 | 0, _, _ => none
 | k + 1, x0, x1 => if x1 = 0 then ((impl_absolute.f x0).bind fun t165 => (some t165)) else (impl_gcd.l0 k x1 (Int.tmod x0 x1))
def impl_gcd.f (k : Nat) (a0 : Int) (a1 : Int) : Option (Int) := impl_gcd.l0 k a0 a1
set_option maxHeartbeats 8000000 in
set_option maxRecDepth 100000 in
theorem impl_gcd.calls (k : Nat) (a0 : Int) (a1 : Int) (r : Int) (w : World) (h : impl_gcd.f k a0 a1 = some r) :
  Calls Try.prog 93 #[.int .i64 a0, .int .i64 a1] w fun e w' => e = .returned (.int .i64 r) ∧ Below w.heap.size w w' := by
 have HB := Aside0.mk (Below.refl w.heap.size w)
 have H : (impl_gcd.l0 k a0 a1) = some r := h
 clear h
 have H' := Aside0.mk H
 clear H
 go_enter Try.func93, Try.ntmps93
 go_wp2
 repeat (go_quiet (fail); try go_wp2)
 go_loopg [0, 1] k (fun kq v0 v1 w' => ∃ (x0_1 : Int) (x1_1 : Int), v0 = .int .i64 x0_1 ∧ v1 = .int .i64 x1_1 ∧ Aside0 (impl_gcd.l0 kq x0_1 x1_1 = some r) ∧ Aside0 (kq ≤ k) ∧ Aside0 (Below w.heap.size w w'))
 case atStart => exact ⟨(a0), (a1), (by first | rfl | (simp; done) | (simp [*]; done)), (by first | rfl | (simp; done) | (simp [*]; done)), H', ⟨Nat.le_refl _⟩, ⟨lb0_ HB.out⟩⟩
 case round =>
  clear H'
  try clear p2
  obtain ⟨x0_1, x1_1, rfl, rfl, HA, HK1, HB⟩ := hrel
  cases gk with
  | zero => exact absurd HA.out (by simp [impl_gcd.l0])
  | succ k1 =>
   have H := HA.out
   clear HA
   simp only [impl_gcd.l0] at H
   by_cases c3 : x1_1 = 0
   ·
    rw [if_pos c3] at H
    have c3b0 : (x1_1 == 0) = true := beq_iff_eq.mpr c3
    have c3b1 : (x1_1 != 0) = false := bne_eq_false_iff_eq.mpr c3
    clear c3
    replace H := Option.bind_eq_some_iff.mp H
    obtain ⟨t165, A40, H⟩ := H
    replace H : (some t165) = some r := H
    have A4 := Aside0.mk A40
    clear A40
    obtain rfl := Option.some.inj H
    go_wp2_with (first | (go_at_call 98; (with_reducible refine (impl_absolute.calls x0_1 t165 _ A4.out).mono ?_); rintro e w5 ⟨rfl, hb⟩; replace HB := Aside0.mk (below_step (lb0_ HB.out) hb); (try clear hb); (try clear hb2); (try clear hk); (try clear hi)))
    repeat (go_quiet (first | (go_at_call 98; (with_reducible refine (impl_absolute.calls x0_1 t165 _ A4.out).mono ?_); rintro e w5 ⟨rfl, hb⟩; replace HB := Aside0.mk (below_step (lb0_ HB.out) hb); (try clear hb); (try clear hb2); (try clear hk); (try clear hi))); try go_wp2_with (first | (go_at_call 98; (with_reducible refine (impl_absolute.calls x0_1 t165 _ A4.out).mono ?_); rintro e w5 ⟨rfl, hb⟩; replace HB := Aside0.mk (below_step (lb0_ HB.out) hb); (try clear hb); (try clear hb2); (try clear hk); (try clear hi))))
    go_ret
    exact ⟨rr_, lb0_ HB.out⟩
   ·
    rw [if_neg c3] at H
    have c3b0 : (x1_1 == 0) = false := beq_eq_false_iff_ne.mpr c3
    have c3b1 : (x1_1 != 0) = true := bne_iff_ne.mpr c3
    have H' := Aside0.mk H
    clear H
    go_wp2
    repeat (go_quiet (fail); try go_wp2)
    go_roundg k1
    case measure => have := HK1.out; omega
    case rel => exact ⟨(x1_1), (Int.tmod x0_1 x1_1), (by first | rfl | (simp; done) | (simp [*]; done)), (by first | rfl | (simp; done) | (simp [*]; done)), H', ⟨by have := HK1.out; omega⟩, ⟨lb0_ HB.out⟩⟩
def impl_reduced.f (k : Nat) (a0 : Int) (a1 : Int) : Option (Int × Int) := (impl_gcd.f k a0 a1).bind fun t166 => (if t166 = 0 then (none) else (some (wrap64 (Int.tdiv a0 t166), wrap64 (Int.tdiv a1 t166))))
set_option maxHeartbeats 8000000 in
set_option maxRecDepth 100000 in
theorem impl_reduced.calls (k : Nat) (a0 : Int) (a1 : Int) (r1 : Int) (r2 : Int) (w : World) (h : impl_reduced.f k a0 a1 = some (r1, r2)) :
  Calls Try.prog 71 #[.int .i64 a0, .int .i64 a1] w fun e w' => e = .returned (.tuple #[.int .i64 r1, .int .i64 r2]) ∧ Below w.heap.size w w' := by
 have HB := Aside0.mk (Below.refl w.heap.size w)
 have H : ((impl_gcd.f k a0 a1).bind fun t166 => (if t166 = 0 then (none) else (some (wrap64 (Int.tdiv a0 t166), wrap64 (Int.tdiv a1 t166))))) = some (r1, r2) := h
 clear h
 replace H := Option.bind_eq_some_iff.mp H
 obtain ⟨t166, A30, H⟩ := H
 replace H : (if t166 = 0 then (none) else (some (wrap64 (Int.tdiv a0 t166), wrap64 (Int.tdiv a1 t166)))) = some (r1, r2) := H
 have A3 := Aside0.mk A30
 clear A30
 by_cases c4 : t166 = 0
 ·
  rw [if_pos c4] at H
  exact absurd H (by simp)
 ·
  rw [if_neg c4] at H
  have c4b0 : (t166 == 0) = false := beq_eq_false_iff_ne.mpr c4
  have c4b1 : (t166 != 0) = true := bne_iff_ne.mpr c4
  simp only [Option.some.injEq, Prod.mk.injEq] at H
  obtain ⟨rfl, rfl⟩ := H
  go_enter Try.func71, Try.ntmps71
  go_wp2_with (first | (go_at_call 93; (with_reducible refine (impl_gcd.calls k a0 a1 t166 _ A3.out).mono ?_); rintro e w5 ⟨rfl, hb⟩; replace HB := Aside0.mk (below_step (lb0_ HB.out) hb); (try clear hb); (try clear hb2); (try clear hk); (try clear hi)))
  repeat (go_quiet (first | (go_at_call 93; (with_reducible refine (impl_gcd.calls k a0 a1 t166 _ A3.out).mono ?_); rintro e w5 ⟨rfl, hb⟩; replace HB := Aside0.mk (below_step (lb0_ HB.out) hb); (try clear hb); (try clear hb2); (try clear hk); (try clear hi))); try go_wp2_with (first | (go_at_call 93; (with_reducible refine (impl_gcd.calls k a0 a1 t166 _ A3.out).mono ?_); rintro e w5 ⟨rfl, hb⟩; replace HB := Aside0.mk (below_step (lb0_ HB.out) hb); (try clear hb); (try clear hb2); (try clear hk); (try clear hi))))
  go_ret2
  exact ⟨rr_, lb0_ HB.out⟩
def impl_levelIn.l0 : Nat → List (S54) → Int → Int → Option (Int × Int)
 | 0, _, _, _ => none
 | k + 1, x0, x1, x5 => if (wrap64 (x5 + 1)) < (x0.length : Int) then (if 0 ≤ (wrap64 (x5 + 1)) then (if ((rd_T54 x0 (wrap64 (x5 + 1))).f0) ≤ x1 then (impl_levelIn.l0 k x0 x1 (wrap64 (x5 + 1))) else (if 0 ≤ x5 then (if x5 < (x0.length : Int) then (if ((rd_T54 x0 x5).f0) = x1 then (some ((rd_T54 x0 x5).f1, 1)) else ((impl_reduced.f k (wrap64 ((wrap64 (((rd_T54 x0 x5).f1) * (wrap64 (((rd_T54 x0 (wrap64 (x5 + 1))).f0) - x1)))) + (wrap64 (((rd_T54 x0 (wrap64 (x5 + 1))).f1) * (wrap64 (x1 - ((rd_T54 x0 x5).f0))))))) (wrap64 (((rd_T54 x0 (wrap64 (x5 + 1))).f0) - ((rd_T54 x0 x5).f0)))).bind fun bt173 => (some (bt173.1, bt173.2)))) else (none)) else (none))) else (none)) else (if 0 ≤ x5 then (if x5 < (x0.length : Int) then (if ((rd_T54 x0 x5).f0) = x1 then (some ((rd_T54 x0 x5).f1, 1)) else (if 0 ≤ (wrap64 (x5 + 1)) then (none) else (none))) else (none)) else (none))
def impl_levelIn.f (k : Nat) (l0 : List (S54)) (a1 : Int) : Option (Int × Int) := impl_levelIn.l0 k l0 a1 0
set_option maxHeartbeats 8000000 in
set_option maxRecDepth 100000 in
theorem impl_levelIn.calls (k : Nat) (A0 : Option Addr) (c0 : Nat) (l0 : List (S54)) (a1 : Int) (r1 : Int) (r2 : Int) (w : World) (hr0 : Kd.C k54 w A0 l0.length l0) (hc0 : l0.length ≤ c0) (h : impl_levelIn.f k l0 a1 = some (r1, r2)) :
  Calls Try.prog 69 #[.slice A0 l0.length c0, .int .i64 a1] w fun e w' => e = .returned (.agg #[.int .i64 r1, .int .i64 r2]) ∧ Below w.heap.size w w' := by
 have hu94 := Try.underlying94
 have hu54 := Try.underlying54
 have HR0 := Aside0.mk hr0
 have HC0 := Aside0.mk hc0
 clear hr0 hc0
 have HB := Aside0.mk (Below.refl w.heap.size w)
 have H : (impl_levelIn.l0 k l0 a1 0) = some (r1, r2) := h
 clear h
 have H' := Aside0.mk H
 clear H
 go_enter Try.func69, Try.ntmps69
 go_wp2_with (first | ((with_reducible refine gate_dst (N := 4) rfl ?_); refine box_event ?hg (N := 4) ?hd (cs := #[.int .i64 0, .int .i64 0]) (t := 94) ?hr ?_; (case hd => rfl); (case hg => rfl); (case hr => first | (go_simp; done) | (go_simp; rfl)); intro gb167 hg w3 hbox hb; have BK167 := Aside0.mk (hbox); have GW167 := Aside0.mk ((bz_ hg (lb0_ HB.out))); have GE167 := Aside0.mk ((bz_ hg (lb0_ HB.out))); replace HB := Aside0.mk (below_step (lb0_ HB.out) hb); clear hb hbox hg))
 go_loopg [5] k (fun kq v5 w' => ∃ (x5_1 : Int), v5 = .int .i64 x5_1 ∧ Aside0 (impl_levelIn.l0 kq l0 a1 x5_1 = some (r1, r2)) ∧ Aside0 (kq ≤ k) ∧ Aside0 (w'.heap[gb167]? = some (.cells #[.int .i64 0, .int .i64 0] 94 (0, 0))) ∧ Aside0 (Below w.heap.size w w'))
 case atStart => exact ⟨(0), (by first | rfl | (simp; done) | (simp [*]; done)), H', ⟨Nat.le_refl _⟩, ⟨bk_ BK167.out⟩, ⟨lb1_ HB.out GE167.out⟩⟩
 case round =>
  clear H'
  try clear p2
  obtain ⟨x5_1, rfl, HA, HK1, BK167, HB⟩ := hrel
  cases gk with
  | zero => exact absurd HA.out (by simp [impl_levelIn.l0])
  | succ k1 =>
   have H := HA.out
   clear HA
   simp only [impl_levelIn.l0] at H
   by_cases c4 : (wrap64 (x5_1 + 1)) < (l0.length : Int)
   ·
    rw [if_pos c4] at H
    have c4b0 : decide ((wrap64 (x5_1 + 1)) < (l0.length : Int)) = true := decide_eq_true c4
    clear c4
    obtain ⟨ji5, hji5⟩ : ∃ j_ : Int, (wrap64 (x5_1 + 1)) = j_ := ⟨_, rfl⟩
    replace H : (if 0 ≤ (ji5) then (if ((rd_T54 l0 (ji5)).f0) ≤ a1 then (impl_levelIn.l0 k1 l0 a1 ji5) else (if 0 ≤ x5_1 then (if x5_1 < (l0.length : Int) then (if ((rd_T54 l0 x5_1).f0) = a1 then (some ((rd_T54 l0 x5_1).f1, 1)) else ((impl_reduced.f k1 (wrap64 ((wrap64 (((rd_T54 l0 x5_1).f1) * (wrap64 (((rd_T54 l0 (ji5)).f0) - a1)))) + (wrap64 (((rd_T54 l0 (ji5)).f1) * (wrap64 (a1 - ((rd_T54 l0 x5_1).f0))))))) (wrap64 (((rd_T54 l0 (ji5)).f0) - ((rd_T54 l0 x5_1).f0)))).bind fun bt173 => (some (bt173.1, bt173.2)))) else (none)) else (none))) else (none)) = some (r1, r2) := by first | (rw [hji5] at H; exact H) | (simp only [hji5] at H ⊢; exact H)
    (try rw [hji5] at c4b0)
    have hji5w : (IntKind.i64.wrap (x5_1 + 1)) = ji5 := (i64_w _).trans hji5
    by_cases c6 : 0 ≤ (ji5)
    ·
     rw [if_pos c6] at H
     have c6b0 : decide (0 ≤ (ji5)) = true := decide_eq_true c6
     clear c6
     by_cases c7 : ((rd_T54 l0 (ji5)).f0) ≤ a1
     ·
      rw [if_pos c7] at H
      have c7b0 : decide (((rd_T54 l0 (ji5)).f0) ≤ a1) = true := decide_eq_true c7
      clear c7
      have H' := Aside0.mk H
      clear H
      have p168 : 0 ≤ ((ji5) : Int) := dt_
      have q168 : (ji5) < (l0.length : Int) := dt_
      obtain ⟨ad168, e168, hx168_0, hx168_1⟩ := at_T54 HR0.out (ji5) p168 q168
      cases e168
      replace hx168_0 := bc_ HB.out hx168_0
      replace hx168_1 := bc_ HB.out hx168_1
      replace p168 := eq_true p168
      replace q168 := eq_true q168
      go_wp2
      go_roundg k1
      case measure => have := HK1.out; omega
      case rel => exact ⟨(ji5), (by first | rfl | (simp; done) | (simp only [← hji5] <;> (first | rfl | simp)) | (simp [*]; done)), H', ⟨by have := HK1.out; omega⟩, ⟨bk_ BK167.out⟩, ⟨lb1_ HB.out GE167.out⟩⟩
     ·
      rw [if_neg c7] at H
      have c7b0 : decide (((rd_T54 l0 (ji5)).f0) ≤ a1) = false := decide_eq_false c7
      clear c7
      by_cases c8 : 0 ≤ x5_1
      ·
       rw [if_pos c8] at H
       have c8b0 : decide (0 ≤ x5_1) = true := decide_eq_true c8
       clear c8
       by_cases c9 : x5_1 < (l0.length : Int)
       ·
        rw [if_pos c9] at H
        have c9b0 : decide (x5_1 < (l0.length : Int)) = true := decide_eq_true c9; clear c9
        by_cases c10 : ((rd_T54 l0 x5_1).f0) = a1
        ·
         rw [if_pos c10] at H
         have c10b0 : (((rd_T54 l0 x5_1).f0) == a1) = true := beq_iff_eq.mpr c10; have c10b1 : (((rd_T54 l0 x5_1).f0) != a1) = false := bne_eq_false_iff_eq.mpr c10; clear c10; simp only [Option.some.injEq, Prod.mk.injEq] at H; obtain ⟨rfl, rfl⟩ := H; have p168 : 0 ≤ ((ji5) : Int) := dt_; have q168 : (ji5) < (l0.length : Int) := dt_; obtain ⟨ad168, e168, hx168_0, hx168_1⟩ := at_T54 HR0.out (ji5) p168 q168
         cases e168
         replace hx168_0 := bc_ HB.out hx168_0; replace hx168_1 := bc_ HB.out hx168_1; replace p168 := eq_true p168; replace q168 := eq_true q168; have p169 : 0 ≤ (x5_1 : Int) := dt_; have q169 : x5_1 < (l0.length : Int) := dt_; obtain ⟨ad169, e169, hx169_0, hx169_1⟩ := at_T54 HR0.out x5_1 p169 q169
         obtain rfl : ad168 = ad169 := (by injection e169)
         replace hx169_0 := bc_ HB.out hx169_0; replace hx169_1 := bc_ HB.out hx169_1; replace p169 := eq_true p169; replace q169 := eq_true q169
         go_wp2_with (first | ((with_reducible refine gate_dst (N := 6) rfl ?_); refine box_event ?hg (N := 6) ?hd (cs := #[.int .i64 0, .int .i64 0]) (t := 54) ?hr ?_; (case hd => rfl); (case hg => rfl); (case hr => first | (go_simp; done) | (go_simp; rfl)); intro gb170 hg w11 hbox hb; have BK170 := Aside0.mk (hbox); have GW170 := Aside0.mk ((bz_ hg (lb1_ HB.out GE167.out))); have GE170 := Aside0.mk ((bz_ hg (lb1_ HB.out GE167.out))); replace HB := Aside0.mk (below_step (lb1_ HB.out GE167.out) hb); have NB167_170 := Aside0.mk (nl_ hg BK167.out); have NB170_167 := Aside0.mk (ng_ hg BK167.out); replace BK167 := Aside0.mk (bb_ (bk_ BK167.out) hb); clear hb hbox hg; have hnb12 := NB170_167.out; have hnc12 := NB167_170.out; obtain ⟨hcz13_0, hcz13_1⟩ := cz2_ BK170.out; obtain ⟨hfz13_0, hfz13_1⟩ := fz2_ BK170.out; obtain ⟨hcz14_0, hcz14_1⟩ := cz2_ BK167.out; obtain ⟨hfz14_0, hfz14_1⟩ := fz2_ BK167.out))
         refine bodyPost_ret (results_cell_row rfl _ _ gb167 94 #[.int .i64 ((rd_T54 l0 x5_1).f1), .int .i64 1] (0, 0) _ rfl (by (with_reducible repeat (first | refine blk_drewN ?_ _ | refine blk_drew ?_ | refine blk_alloc ?_ _)); refine blk_put (cs := #[.int .i64 ((rd_T54 l0 x5_1).f1), .int .i64 0]) ?_ 1 _ rfl; (with_reducible repeat (first | refine blk_drewN ?_ _ | refine blk_drew ?_ | refine blk_alloc ?_ _)); refine blk_put (cs := #[.int .i64 0, .int .i64 0]) ?_ 0 _ rfl; (with_reducible repeat (first | refine blk_drewN ?_ _ | refine blk_drew ?_ | refine blk_alloc ?_ _)); refine blk_far ?_ NB167_170.out _; (with_reducible repeat (first | refine blk_drewN ?_ _ | refine blk_drew ?_ | refine blk_alloc ?_ _)); refine blk_far ?_ NB167_170.out _; (with_reducible repeat (first | refine blk_drewN ?_ _ | refine blk_drew ?_ | refine blk_alloc ?_ _)); exact BK167.out) Try.underlying94 rfl (by kernel_rfl)) rfl ?_; exact ⟨by first | rfl | (simp [errW_none, errW_some] <;> rfl) | (simp only [← hji5]; first | rfl | (simp [errW_none, errW_some] <;> rfl)) | (simp [*, errW_none, errW_some] <;> rfl), lb2_ HB.out GE167.out GE170.out⟩
        ·
         rw [if_neg c10] at H
         have c10b0 : (((rd_T54 l0 x5_1).f0) == a1) = false := beq_eq_false_iff_ne.mpr c10; have c10b1 : (((rd_T54 l0 x5_1).f0) != a1) = true := bne_iff_ne.mpr c10; replace H := Option.bind_eq_some_iff.mp H; obtain ⟨⟨t173, t174⟩, A150, H⟩ := H; replace H : (some (t173, t174)) = some (r1, r2) := H; have A15 := Aside0.mk A150; clear A150; simp only [Option.some.injEq, Prod.mk.injEq] at H; obtain ⟨rfl, rfl⟩ := H; have p168 : 0 ≤ ((ji5) : Int) := dt_; have q168 : (ji5) < (l0.length : Int) := dt_; obtain ⟨ad168, e168, hx168_0, hx168_1⟩ := at_T54 HR0.out (ji5) p168 q168
         cases e168
         replace hx168_0 := bc_ HB.out hx168_0; replace hx168_1 := bc_ HB.out hx168_1; replace p168 := eq_true p168; replace q168 := eq_true q168; have p169 : 0 ≤ (x5_1 : Int) := dt_; have q169 : x5_1 < (l0.length : Int) := dt_; obtain ⟨ad169, e169, hx169_0, hx169_1⟩ := at_T54 HR0.out x5_1 p169 q169
         obtain rfl : ad168 = ad169 := (by injection e169)
         replace hx169_0 := bc_ HB.out hx169_0; replace hx169_1 := bc_ HB.out hx169_1; replace p169 := eq_true p169; replace q169 := eq_true q169
         go_wp2_with (first | ((with_reducible refine gate_dst (N := 6) rfl ?_); refine box_event ?hg (N := 6) ?hd (cs := #[.int .i64 0, .int .i64 0]) (t := 54) ?hr ?_; (case hd => rfl); (case hg => rfl); (case hr => first | (go_simp; done) | (go_simp; rfl)); intro gb170 hg w16 hbox hb; have BK170 := Aside0.mk (hbox); have GW170 := Aside0.mk ((bz_ hg (lb1_ HB.out GE167.out))); have GE170 := Aside0.mk ((bz_ hg (lb1_ HB.out GE167.out))); replace HB := Aside0.mk (below_step (lb1_ HB.out GE167.out) hb); have NB167_170 := Aside0.mk (nl_ hg BK167.out); have NB170_167 := Aside0.mk (ng_ hg BK167.out); replace BK167 := Aside0.mk (bb_ (bk_ BK167.out) hb); clear hb hbox hg; have hnb17 := NB170_167.out; have hnc17 := NB167_170.out; obtain ⟨hcz18_0, hcz18_1⟩ := cz2_ BK170.out; obtain ⟨hfz18_0, hfz18_1⟩ := fz2_ BK170.out; have p171 : 0 ≤ ((ji5) : Int) := dt_; have q171 : (ji5) < (l0.length : Int) := dt_; obtain ⟨ad171, e171, hx171_0, hx171_1⟩ := at_T54 HR0.out (ji5) p171 q171; obtain rfl : ad168 = ad171 := (by injection e171); have hn171_0 : ad168.block ≠ gb170 := Nat.ne_of_lt (Nat.lt_of_lt_of_le (by have := World.block_lt_of_cell? _ _ hx171_0; first | rwa [add_block] at this | exact this) GW170.out); have hn171_1 : ad168.block ≠ gb170 := Nat.ne_of_lt (Nat.lt_of_lt_of_le (by have := World.block_lt_of_cell? _ _ hx171_0; first | rwa [add_block] at this | exact this) GW170.out); replace hx171_0 := bc_ HB.out hx171_0; replace hx171_1 := bc_ HB.out hx171_1; replace hx171_0 := (cell_far (p := ⟨gb170, 0, none⟩) (by first | (rw [add_block]; exact hn171_0) | (show (Addr.add _ _).block ≠ _; rw [add_block]; exact hn171_0) | exact hn171_0) (.int .i64 ((rd_T54 l0 x5_1).f0))).trans hx171_0; replace hx171_1 := (cell_far (p := ⟨gb170, 0, none⟩) (by first | (rw [add_block]; exact hn171_0) | (show (Addr.add _ _).block ≠ _; rw [add_block]; exact hn171_0) | exact hn171_0) (.int .i64 ((rd_T54 l0 x5_1).f0))).trans hx171_1; replace hx171_0 := (cell_far (p := ⟨gb170, 1, none⟩) (by first | (rw [add_block]; exact hn171_1) | (show (Addr.add _ _).block ≠ _; rw [add_block]; exact hn171_1) | exact hn171_1) (.int .i64 ((rd_T54 l0 x5_1).f1))).trans hx171_0; replace hx171_1 := (cell_far (p := ⟨gb170, 1, none⟩) (by first | (rw [add_block]; exact hn171_1) | (show (Addr.add _ _).block ≠ _; rw [add_block]; exact hn171_1) | exact hn171_1) (.int .i64 ((rd_T54 l0 x5_1).f1))).trans hx171_1; clear hn171_0; clear hn171_1; replace p171 := eq_true p171; replace q171 := eq_true q171) | ((with_reducible refine gate_dst (N := 7) rfl ?_); refine box_event ?hg (N := 7) ?hd (cs := #[.int .i64 0, .int .i64 0]) (t := 54) ?hr ?_; (case hd => rfl); (case hg => rfl); (case hr => first | (go_simp; done) | (go_simp; rfl)); intro gb172 hg w19 hbox hb; have BK172 := Aside0.mk (hbox); have GW172 := Aside0.mk ((bz_ hg (lb2_ HB.out GE167.out GE170.out))); have GE172 := Aside0.mk ((bz_ hg (lb2_ HB.out GE167.out GE170.out))); replace HB := Aside0.mk (below_step (lb2_ HB.out GE167.out GE170.out) hb); have NB167_172 := Aside0.mk ((by rw [hg]; exact Nat.ne_of_lt (blk_lt (g := gb167) (o := .cells #[.int .i64 0, .int .i64 0] 94 (0, 0)) (by (with_reducible repeat (first | refine blk_drewN ?_ _ | refine blk_drew ?_ | refine blk_alloc ?_ _)); exact (f2_ BK167.out NB167_170.out _ _))) : gb167 ≠ gb172)); have NB172_167 := Aside0.mk ((by rw [hg]; exact Nat.ne_of_gt (blk_lt (g := gb167) (o := .cells #[.int .i64 0, .int .i64 0] 94 (0, 0)) (by (with_reducible repeat (first | refine blk_drewN ?_ _ | refine blk_drew ?_ | refine blk_alloc ?_ _)); exact (f2_ BK167.out NB167_170.out _ _))) : gb172 ≠ gb167)); replace BK167 := Aside0.mk (blk_below (g := gb167) (o := .cells #[.int .i64 0, .int .i64 0] 94 (0, 0)) (by (with_reducible repeat (first | refine blk_drewN ?_ _ | refine blk_drew ?_ | refine blk_alloc ?_ _)); exact (f2_ BK167.out NB167_170.out _ _)) hb); have NB170_172 := Aside0.mk ((by rw [hg]; exact Nat.ne_of_lt (blk_lt (g := gb170) (o := .cells #[.int .i64 ((rd_T54 l0 x5_1).f0), .int .i64 ((rd_T54 l0 x5_1).f1)] 54 (0, 0)) (by (with_reducible repeat (first | refine blk_drewN ?_ _ | refine blk_drew ?_ | refine blk_alloc ?_ _)); exact (p2_ BK170.out _ _))) : gb170 ≠ gb172)); have NB172_170 := Aside0.mk ((by rw [hg]; exact Nat.ne_of_gt (blk_lt (g := gb170) (o := .cells #[.int .i64 ((rd_T54 l0 x5_1).f0), .int .i64 ((rd_T54 l0 x5_1).f1)] 54 (0, 0)) (by (with_reducible repeat (first | refine blk_drewN ?_ _ | refine blk_drew ?_ | refine blk_alloc ?_ _)); exact (p2_ BK170.out _ _))) : gb172 ≠ gb170)); replace BK170 := Aside0.mk (blk_below (g := gb170) (o := .cells #[.int .i64 ((rd_T54 l0 x5_1).f0), .int .i64 ((rd_T54 l0 x5_1).f1)] 54 (0, 0)) (by (with_reducible repeat (first | refine blk_drewN ?_ _ | refine blk_drew ?_ | refine blk_alloc ?_ _)); exact (p2_ BK170.out _ _)) hb); clear hb hbox hg; have hnb20 := NB172_167.out; have hnc20 := NB167_172.out; have hnb21 := NB172_170.out; have hnc21 := NB170_172.out; obtain ⟨hcz22_0, hcz22_1⟩ := cz2_ BK172.out; obtain ⟨hfz22_0, hfz22_1⟩ := fz2_ BK172.out; obtain ⟨hcz23_0, hcz23_1⟩ := cz2_ BK170.out; obtain ⟨hfz23_0, hfz23_1⟩ := fz2_ BK170.out) | ((with_reducible refine gate_callee (f := 71) rfl ?_); refine goesL_ (some 64) rfl rfl Try.func71 (by kernel_rfl) rfl #[.int .i64 (wrap64 ((wrap64 (((rd_T54 l0 x5_1).f1) * (wrap64 (((rd_T54 l0 (ji5)).f0) - a1)))) + (wrap64 (((rd_T54 l0 (ji5)).f1) * (wrap64 (a1 - ((rd_T54 l0 x5_1).f0))))))), .int .i64 (wrap64 (((rd_T54 l0 (ji5)).f0) - ((rd_T54 l0 x5_1).f0)))] rfl (by (try simp only [List.map_toArray, List.map_cons, List.map_nil]); first | done | (simp only [hji5]; rfl) | rfl | (simp only [List.length_drop, List.length_take]; rfl)) ?_; (with_reducible refine (impl_reduced.calls k1 (wrap64 ((wrap64 (((rd_T54 l0 x5_1).f1) * (wrap64 (((rd_T54 l0 (ji5)).f0) - a1)))) + (wrap64 (((rd_T54 l0 (ji5)).f1) * (wrap64 (a1 - ((rd_T54 l0 x5_1).f0))))))) (wrap64 (((rd_T54 l0 (ji5)).f0) - ((rd_T54 l0 x5_1).f0))) t173 t174 _ A15.out).mono ?_); rintro e w24 ⟨rfl, hb⟩; refine ⟨_, rfl, ?_⟩; replace BK167 := Aside0.mk (blk_below (g := gb167) (o := .cells #[.int .i64 0, .int .i64 0] 94 (0, 0)) (by (with_reducible repeat (first | refine blk_drewN ?_ _ | refine blk_drew ?_ | refine blk_alloc ?_ _)); exact (f2_ BK167.out NB167_172.out _ _)) hb); replace BK170 := Aside0.mk (blk_below (g := gb170) (o := .cells #[.int .i64 ((rd_T54 l0 x5_1).f0), .int .i64 ((rd_T54 l0 x5_1).f1)] 54 (0, 0)) (by (with_reducible repeat (first | refine blk_drewN ?_ _ | refine blk_drew ?_ | refine blk_alloc ?_ _)); exact (f2_ BK170.out NB170_172.out _ _)) hb); replace BK172 := Aside0.mk (blk_below (g := gb172) (o := .cells #[.int .i64 ((rd_T54 l0 (ji5)).f0), .int .i64 ((rd_T54 l0 (ji5)).f1)] 54 (0, 0)) (by (with_reducible repeat (first | refine blk_drewN ?_ _ | refine blk_drew ?_ | refine blk_alloc ?_ _)); exact (p2_ BK172.out _ _)) hb); replace HB := Aside0.mk (below_step (lb3_ HB.out GE167.out GE170.out GE172.out) hb); (try clear hb); (try clear hb2); (try clear hk); (try clear hi); obtain ⟨hcz25_0, hcz25_1⟩ := cz2_ BK167.out; obtain ⟨hfz25_0, hfz25_1⟩ := fz2_ BK167.out))
         refine bodyPost_ret (results_cell_row rfl _ _ gb167 94 #[.int .i64 t173, .int .i64 t174] (0, 0) _ rfl (by (with_reducible repeat (first | refine blk_drewN ?_ _ | refine blk_drew ?_ | refine blk_alloc ?_ _)); refine blk_put (cs := #[.int .i64 t173, .int .i64 0]) ?_ 1 _ rfl; (with_reducible repeat (first | refine blk_drewN ?_ _ | refine blk_drew ?_ | refine blk_alloc ?_ _)); refine blk_put (cs := #[.int .i64 0, .int .i64 0]) ?_ 0 _ rfl; (with_reducible repeat (first | refine blk_drewN ?_ _ | refine blk_drew ?_ | refine blk_alloc ?_ _)); exact BK167.out) Try.underlying94 rfl (by kernel_rfl)) rfl ?_; exact ⟨by first | rfl | (simp [errW_none, errW_some] <;> rfl) | (simp only [← hji5]; first | rfl | (simp [errW_none, errW_some] <;> rfl)) | (simp [*, errW_none, errW_some] <;> rfl), lb3_ HB.out GE167.out GE170.out GE172.out⟩
       ·
        rw [if_neg c9] at H
        exact absurd H (by simp)
      ·
       rw [if_neg c8] at H
       exact absurd H (by simp)
    ·
     rw [if_neg c6] at H
     exact absurd H (by simp)
   ·
    rw [if_neg c4] at H
    have c4b0 : decide ((wrap64 (x5_1 + 1)) < (l0.length : Int)) = false := decide_eq_false c4
    clear c4
    by_cases c26 : 0 ≤ x5_1
    ·
     rw [if_pos c26] at H
     have c26b0 : decide (0 ≤ x5_1) = true := decide_eq_true c26
     clear c26
     by_cases c27 : x5_1 < (l0.length : Int)
     ·
      rw [if_pos c27] at H
      have c27b0 : decide (x5_1 < (l0.length : Int)) = true := decide_eq_true c27
      clear c27
      by_cases c28 : ((rd_T54 l0 x5_1).f0) = a1
      ·
       rw [if_pos c28] at H
       have c28b0 : (((rd_T54 l0 x5_1).f0) == a1) = true := beq_iff_eq.mpr c28
       have c28b1 : (((rd_T54 l0 x5_1).f0) != a1) = false := bne_eq_false_iff_eq.mpr c28
       clear c28
       simp only [Option.some.injEq, Prod.mk.injEq] at H
       obtain ⟨rfl, rfl⟩ := H
       have p175 : 0 ≤ (x5_1 : Int) := dt_
       have q175 : x5_1 < (l0.length : Int) := dt_
       obtain ⟨ad175, e175, hx175_0, hx175_1⟩ := at_T54 HR0.out x5_1 p175 q175
       cases e175
       replace hx175_0 := bc_ HB.out hx175_0
       replace hx175_1 := bc_ HB.out hx175_1
       replace p175 := eq_true p175
       replace q175 := eq_true q175
       go_wp2_with (first | ((with_reducible refine gate_dst (N := 6) rfl ?_); refine box_event ?hg (N := 6) ?hd (cs := #[.int .i64 0, .int .i64 0]) (t := 54) ?hr ?_; (case hd => rfl); (case hg => rfl); (case hr => first | (go_simp; done) | (go_simp; rfl)); intro gb176 hg w29 hbox hb; have BK176 := Aside0.mk (hbox); have GW176 := Aside0.mk ((bz_ hg (lb1_ HB.out GE167.out))); have GE176 := Aside0.mk ((bz_ hg (lb1_ HB.out GE167.out))); replace HB := Aside0.mk (below_step (lb1_ HB.out GE167.out) hb); have NB167_176 := Aside0.mk (nl_ hg BK167.out); have NB176_167 := Aside0.mk (ng_ hg BK167.out); replace BK167 := Aside0.mk (bb_ (bk_ BK167.out) hb); clear hb hbox hg; have hnb30 := NB176_167.out; have hnc30 := NB167_176.out; obtain ⟨hcz31_0, hcz31_1⟩ := cz2_ BK176.out; obtain ⟨hfz31_0, hfz31_1⟩ := fz2_ BK176.out; obtain ⟨hcz32_0, hcz32_1⟩ := cz2_ BK167.out; obtain ⟨hfz32_0, hfz32_1⟩ := fz2_ BK167.out))
       refine bodyPost_ret (results_cell_row rfl _ _ gb167 94 #[.int .i64 ((rd_T54 l0 x5_1).f1), .int .i64 1] (0, 0) _ rfl (by (with_reducible repeat (first | refine blk_drewN ?_ _ | refine blk_drew ?_ | refine blk_alloc ?_ _)); refine blk_put (cs := #[.int .i64 ((rd_T54 l0 x5_1).f1), .int .i64 0]) ?_ 1 _ rfl; (with_reducible repeat (first | refine blk_drewN ?_ _ | refine blk_drew ?_ | refine blk_alloc ?_ _)); refine blk_put (cs := #[.int .i64 0, .int .i64 0]) ?_ 0 _ rfl; (with_reducible repeat (first | refine blk_drewN ?_ _ | refine blk_drew ?_ | refine blk_alloc ?_ _)); refine blk_far ?_ NB167_176.out _; (with_reducible repeat (first | refine blk_drewN ?_ _ | refine blk_drew ?_ | refine blk_alloc ?_ _)); refine blk_far ?_ NB167_176.out _; (with_reducible repeat (first | refine blk_drewN ?_ _ | refine blk_drew ?_ | refine blk_alloc ?_ _)); exact BK167.out) Try.underlying94 rfl (by kernel_rfl)) rfl ?_
       exact ⟨rr_, lb2_ HB.out GE167.out GE176.out⟩
      ·
       rw [if_neg c28] at H
       have c28b0 : (((rd_T54 l0 x5_1).f0) == a1) = false := beq_eq_false_iff_ne.mpr c28
       have c28b1 : (((rd_T54 l0 x5_1).f0) != a1) = true := bne_iff_ne.mpr c28
       obtain ⟨ji33, hji33⟩ : ∃ j_ : Int, (wrap64 (x5_1 + 1)) = j_ := ⟨_, rfl⟩
       replace H : (if 0 ≤ (ji33) then (none) else (none)) = some (r1, r2) := by first | (rw [hji33] at H; exact H) | (simp only [hji33] at H ⊢; exact H)
       (try rw [hji33] at c4b0)
       have hji33w : (IntKind.i64.wrap (x5_1 + 1)) = ji33 := (i64_w _).trans hji33
       by_cases c34 : 0 ≤ (ji33)
       ·
        rw [if_pos c34] at H
        exact absurd H (by simp)
       ·
        rw [if_neg c34] at H
        exact absurd H (by simp)
     ·
      rw [if_neg c27] at H
      exact absurd H (by simp)
    ·
     rw [if_neg c26] at H
     exact absurd H (by simp)
def impl_Sump_open.f (k : Nat) (a0_0 : Int) (a0_1 : Int) (a0_2 : Int) (l1 : List (S54)) (a2 : Int) : Option (Bool) := (impl_levelIn.f k l1 a2).bind fun bt178 => (some (decide (bt178.1 ≤ (wrap64 (a0_2 * bt178.2)))))
set_option maxHeartbeats 8000000 in
set_option maxRecDepth 100000 in
theorem impl_Sump_open.calls (k : Nat) (a0_0 : Int) (a0_1 : Int) (a0_2 : Int) (A1 : Option Addr) (c1 : Nat) (l1 : List (S54)) (a2 : Int) (r : Bool) (w : World) (hr1 : Kd.C k54 w A1 l1.length l1) (hc1 : l1.length ≤ c1) (h : impl_Sump_open.f k a0_0 a0_1 a0_2 l1 a2 = some r) :
  Calls Try.prog 60 #[.agg #[.int .i64 a0_0, .int .i64 a0_1, .int .i64 a0_2], .slice A1 l1.length c1, .int .i64 a2] w fun e w' => e = .returned (.bool r) ∧ Below w.heap.size w w' := by
 have hu30 := Try.underlying30
 have hu94 := Try.underlying94
 have HR1 := Aside0.mk hr1
 have HC1 := Aside0.mk hc1
 clear hr1 hc1
 have HB := Aside0.mk (Below.refl w.heap.size w)
 have H : ((impl_levelIn.f k l1 a2).bind fun bt178 => (some (decide (bt178.1 ≤ (wrap64 (a0_2 * bt178.2)))))) = some r := h
 clear h
 replace H := Option.bind_eq_some_iff.mp H
 obtain ⟨⟨t178, t179⟩, A40, H⟩ := H
 replace H : (some (decide (t178 ≤ (wrap64 (a0_2 * t179))))) = some r := H
 have A4 := Aside0.mk A40
 clear A40
 obtain rfl := Option.some.inj H
 go_enter Try.func60, Try.ntmps60
 go_wp2_with (first | ((with_reducible refine gate_dst (N := 3) rfl ?_); refine box_event ?hg (N := 3) ?hd (cs := #[.int .i64 a0_0, .int .i64 a0_1, .int .i64 a0_2]) (t := 30) ?hr ?_; (case hd => rfl); (case hg => rfl); (case hr => first | (go_simp; done) | (go_simp; rfl)); intro gb177 hg w5 hbox hb; have BK177 := Aside0.mk (hbox); have GW177 := Aside0.mk ((bz_ hg (lb0_ HB.out))); have GE177 := Aside0.mk ((bz_ hg (lb0_ HB.out))); replace HB := Aside0.mk (below_step (lb0_ HB.out) hb); clear hb hbox hg) | ((with_reducible refine gate_callee (f := 69) rfl ?_); refine ga_ (some 10) Try.func69 #[.slice A1 l1.length c1, .int .i64 a2] ?_; (with_reducible refine (impl_levelIn.calls k _ _ l1 a2 t178 t179 _ ?side1 ?side2 A4.out).mono ?_); (case side1 => exact kc_ (Kd.C_below HR1.out HB.out)); (case side2 => exact HC1.out); rintro e w6 ⟨rfl, hb⟩; refine ⟨_, rfl, ?_⟩; replace BK177 := Aside0.mk (bb_ (bk_ BK177.out) hb); replace HB := Aside0.mk (below_step (lb1_ HB.out GE177.out) hb); (try clear hb); (try clear hb2); (try clear hk); (try clear hi)) | ((with_reducible refine gate_dst (N := 7) rfl ?_); refine box_event ?hg (N := 7) ?hd (cs := #[.int .i64 0, .int .i64 0]) (t := 94) ?hr ?_; (case hd => rfl); (case hg => rfl); (case hr => first | (go_simp; done) | (go_simp; rfl)); intro gb180 hg w7 hbox hb; have BK180 := Aside0.mk (hbox); have GW180 := Aside0.mk ((bz_ hg (lb1_ HB.out GE177.out))); have GE180 := Aside0.mk ((bz_ hg (lb1_ HB.out GE177.out))); replace HB := Aside0.mk (below_step (lb1_ HB.out GE177.out) hb); have NB177_180 := Aside0.mk (nl_ hg BK177.out); have NB180_177 := Aside0.mk (ng_ hg BK177.out); replace BK177 := Aside0.mk (bb_ (bk_ BK177.out) hb); clear hb hbox hg; have hnb8 := NB180_177.out; have hnc8 := NB177_180.out; obtain ⟨hcz9_0, hcz9_1⟩ := cz2_ BK180.out; obtain ⟨hfz9_0, hfz9_1⟩ := fz2_ BK180.out; obtain ⟨hcz10_0, hcz10_1, hcz10_2⟩ := cz3_ BK177.out; obtain ⟨hfz10_0, hfz10_1, hfz10_2⟩ := fz3_ BK177.out))
 go_ret
 exact ⟨rr_, lb2_ HB.out GE177.out GE180.out⟩
def impl_IsOpen.f (k : Nat) (l0 : List (S54)) (a1_0 : Int) (a1_1 : Int) (a1_2 : Int) (a2 : Int) : Option (Bool × Bool) := (impl_hasHour.f k l0 a2).bind fun t182 => (if t182 = true then ((impl_isSump.f a1_0 a1_1 a1_2).bind fun t183 => (if t183 = true then ((impl_Sump_open.f k a1_0 a1_1 a1_2 l0 a2).bind fun t184 => (some (t184, true))) else (some (false, false)))) else (some (false, false)))
set_option maxHeartbeats 8000000 in
set_option maxRecDepth 100000 in
theorem impl_IsOpen.calls (k : Nat) (A0 : Option Addr) (c0 : Nat) (l0 : List (S54)) (a1_0 : Int) (a1_1 : Int) (a1_2 : Int) (a2 : Int) (r1 : Bool) (r2 : Bool) (w : World) (hr0 : Kd.C k54 w A0 l0.length l0) (hc0 : l0.length ≤ c0) (h : impl_IsOpen.f k l0 a1_0 a1_1 a1_2 a2 = some (r1, r2)) :
  Calls Try.prog 14 #[.slice A0 l0.length c0, .agg #[.int .i64 a1_0, .int .i64 a1_1, .int .i64 a1_2], .int .i64 a2] w fun e w' => e = .returned (.tuple #[.bool r1, .bool r2]) ∧ Below w.heap.size w w' := by
 have hu30 := Try.underlying30
 have HR0 := Aside0.mk hr0
 have HC0 := Aside0.mk hc0
 clear hr0 hc0
 have HB := Aside0.mk (Below.refl w.heap.size w)
 have H : ((impl_hasHour.f k l0 a2).bind fun t182 => (if t182 = true then ((impl_isSump.f a1_0 a1_1 a1_2).bind fun t183 => (if t183 = true then ((impl_Sump_open.f k a1_0 a1_1 a1_2 l0 a2).bind fun t184 => (some (t184, true))) else (some (false, false)))) else (some (false, false)))) = some (r1, r2) := h
 clear h
 replace H := Option.bind_eq_some_iff.mp H
 obtain ⟨t182, A40, H⟩ := H
 replace H : (if t182 = true then ((impl_isSump.f a1_0 a1_1 a1_2).bind fun t183 => (if t183 = true then ((impl_Sump_open.f k a1_0 a1_1 a1_2 l0 a2).bind fun t184 => (some (t184, true))) else (some (false, false)))) else (some (false, false))) = some (r1, r2) := H
 have A4 := Aside0.mk A40
 clear A40
 by_cases c5 : t182 = true
 ·
  subst c5
  have H1 : ((impl_isSump.f a1_0 a1_1 a1_2).bind fun t183 => (if t183 = true then ((impl_Sump_open.f k a1_0 a1_1 a1_2 l0 a2).bind fun t184 => (some (t184, true))) else (some (false, false)))) = some (r1, r2) := by rw [if_pos rfl] at H; exact H
  clear H
  have H := H1
  clear H1
  replace H := Option.bind_eq_some_iff.mp H
  obtain ⟨t183, A60, H⟩ := H
  replace H : (if t183 = true then ((impl_Sump_open.f k a1_0 a1_1 a1_2 l0 a2).bind fun t184 => (some (t184, true))) else (some (false, false))) = some (r1, r2) := H
  have A6 := Aside0.mk A60
  clear A60
  by_cases c7 : t183 = true
  ·
   subst c7
   have H1 : ((impl_Sump_open.f k a1_0 a1_1 a1_2 l0 a2).bind fun t184 => (some (t184, true))) = some (r1, r2) := by rw [if_pos rfl] at H; exact H
   clear H
   have H := H1
   clear H1
   replace H := Option.bind_eq_some_iff.mp H
   obtain ⟨t184, A80, H⟩ := H
   replace H : (some (t184, true)) = some (r1, r2) := H
   have A8 := Aside0.mk A80
   clear A80
   simp only [Option.some.injEq, Prod.mk.injEq] at H
   obtain ⟨rfl, rfl⟩ := H
   go_enter Try.func14, Try.ntmps14
   go_wp2_with (first | ((with_reducible refine gate_dst (N := 4) rfl ?_); refine box_event ?hg (N := 4) ?hd (cs := #[.int .i64 a1_0, .int .i64 a1_1, .int .i64 a1_2]) (t := 30) ?hr ?_; (case hd => rfl); (case hg => rfl); (case hr => first | (go_simp; done) | (go_simp; rfl)); intro gb181 hg w9 hbox hb; have BK181 := Aside0.mk (hbox); have GW181 := Aside0.mk ((bz_ hg (lb0_ HB.out))); have GE181 := Aside0.mk ((bz_ hg (lb0_ HB.out))); replace HB := Aside0.mk (below_step (lb0_ HB.out) hb); clear hb hbox hg) | ((with_reducible refine gate_callee (f := 58) rfl ?_); refine ga_ (some 10) Try.func58 #[.slice A0 l0.length c0, .int .i64 a2] ?_; (with_reducible refine (impl_hasHour.calls k _ _ l0 a2 true _ ?side1 ?side2 A4.out).mono ?_); (case side1 => exact kc_ (Kd.C_below HR0.out HB.out)); (case side2 => exact HC0.out); rintro e w10 ⟨rfl, hb⟩; refine ⟨_, rfl, ?_⟩; replace BK181 := Aside0.mk (bb_ (bk_ BK181.out) hb); replace HB := Aside0.mk (below_step (lb1_ HB.out GE181.out) hb); (try clear hb); (try clear hb2); (try clear hk); (try clear hi); obtain ⟨hcz11_0, hcz11_1, hcz11_2⟩ := cz3_ BK181.out; obtain ⟨hfz11_0, hfz11_1, hfz11_2⟩ := fz3_ BK181.out) | (go_at_call 59; (with_reducible refine (impl_isSump.calls a1_0 a1_1 a1_2 true _ A6.out).mono ?_); rintro e w12 ⟨rfl, hb⟩; replace BK181 := Aside0.mk (bb_ (bk_ BK181.out) hb); replace HB := Aside0.mk (below_step (lb1_ HB.out GE181.out) hb); (try clear hb); (try clear hb2); (try clear hk); (try clear hi); obtain ⟨hcz13_0, hcz13_1, hcz13_2⟩ := cz3_ BK181.out; obtain ⟨hfz13_0, hfz13_1, hfz13_2⟩ := fz3_ BK181.out) | ((with_reducible refine gate_callee (f := 60) rfl ?_); refine ga_ (some 20) Try.func60 #[.agg #[.int .i64 a1_0, .int .i64 a1_1, .int .i64 a1_2], .slice A0 l0.length c0, .int .i64 a2] ?_; (with_reducible refine (impl_Sump_open.calls k a1_0 a1_1 a1_2 _ _ l0 a2 t184 _ ?side1 ?side2 A8.out).mono ?_); (case side1 => exact kc_ (Kd.C_below HR0.out HB.out)); (case side2 => exact HC0.out); rintro e w14 ⟨rfl, hb⟩; refine ⟨_, rfl, ?_⟩; replace BK181 := Aside0.mk (bb_ (bk_ BK181.out) hb); replace HB := Aside0.mk (below_step (lb1_ HB.out GE181.out) hb); (try clear hb); (try clear hb2); (try clear hk); (try clear hi)))
   go_ret2
   exact ⟨rr_, lb1_ HB.out GE181.out⟩
  ·
   replace c7 := Bool.eq_false_iff.mpr c7
   subst c7
   have H1 : (some (false, false)) = some (r1, r2) := by rw [if_neg (show ¬ (false = true) by decide)] at H; exact H
   clear H
   have H := H1
   clear H1
   simp only [Option.some.injEq, Prod.mk.injEq] at H
   obtain ⟨rfl, rfl⟩ := H
   go_enter Try.func14, Try.ntmps14
   go_wp2_with (first | ((with_reducible refine gate_dst (N := 4) rfl ?_); refine box_event ?hg (N := 4) ?hd (cs := #[.int .i64 a1_0, .int .i64 a1_1, .int .i64 a1_2]) (t := 30) ?hr ?_; (case hd => rfl); (case hg => rfl); (case hr => first | (go_simp; done) | (go_simp; rfl)); intro gb181 hg w15 hbox hb; have BK181 := Aside0.mk (hbox); have GW181 := Aside0.mk ((bz_ hg (lb0_ HB.out))); have GE181 := Aside0.mk ((bz_ hg (lb0_ HB.out))); replace HB := Aside0.mk (below_step (lb0_ HB.out) hb); clear hb hbox hg) | ((with_reducible refine gate_callee (f := 58) rfl ?_); refine ga_ (some 10) Try.func58 #[.slice A0 l0.length c0, .int .i64 a2] ?_; (with_reducible refine (impl_hasHour.calls k _ _ l0 a2 true _ ?side1 ?side2 A4.out).mono ?_); (case side1 => exact kc_ (Kd.C_below HR0.out HB.out)); (case side2 => exact HC0.out); rintro e w16 ⟨rfl, hb⟩; refine ⟨_, rfl, ?_⟩; replace BK181 := Aside0.mk (bb_ (bk_ BK181.out) hb); replace HB := Aside0.mk (below_step (lb1_ HB.out GE181.out) hb); (try clear hb); (try clear hb2); (try clear hk); (try clear hi); obtain ⟨hcz17_0, hcz17_1, hcz17_2⟩ := cz3_ BK181.out; obtain ⟨hfz17_0, hfz17_1, hfz17_2⟩ := fz3_ BK181.out) | (go_at_call 59; (with_reducible refine (impl_isSump.calls a1_0 a1_1 a1_2 false _ A6.out).mono ?_); rintro e w18 ⟨rfl, hb⟩; replace BK181 := Aside0.mk (bb_ (bk_ BK181.out) hb); replace HB := Aside0.mk (below_step (lb1_ HB.out GE181.out) hb); (try clear hb); (try clear hb2); (try clear hk); (try clear hi)))
   go_ret2
   exact ⟨rr_, lb1_ HB.out GE181.out⟩
 ·
  replace c5 := Bool.eq_false_iff.mpr c5
  subst c5
  have H1 : (some (false, false)) = some (r1, r2) := by rw [if_neg (show ¬ (false = true) by decide)] at H; exact H
  clear H
  have H := H1
  clear H1
  simp only [Option.some.injEq, Prod.mk.injEq] at H
  obtain ⟨rfl, rfl⟩ := H
  go_enter Try.func14, Try.ntmps14
  go_wp2_with (first | ((with_reducible refine gate_dst (N := 4) rfl ?_); refine box_event ?hg (N := 4) ?hd (cs := #[.int .i64 a1_0, .int .i64 a1_1, .int .i64 a1_2]) (t := 30) ?hr ?_; (case hd => rfl); (case hg => rfl); (case hr => first | (go_simp; done) | (go_simp; rfl)); intro gb181 hg w19 hbox hb; have BK181 := Aside0.mk (hbox); have GW181 := Aside0.mk ((bz_ hg (lb0_ HB.out))); have GE181 := Aside0.mk ((bz_ hg (lb0_ HB.out))); replace HB := Aside0.mk (below_step (lb0_ HB.out) hb); clear hb hbox hg) | ((with_reducible refine gate_callee (f := 58) rfl ?_); refine ga_ (some 10) Try.func58 #[.slice A0 l0.length c0, .int .i64 a2] ?_; (with_reducible refine (impl_hasHour.calls k _ _ l0 a2 false _ ?side1 ?side2 A4.out).mono ?_); (case side1 => exact kc_ (Kd.C_below HR0.out HB.out)); (case side2 => exact HC0.out); rintro e w20 ⟨rfl, hb⟩; refine ⟨_, rfl, ?_⟩; replace BK181 := Aside0.mk (bb_ (bk_ BK181.out) hb); replace HB := Aside0.mk (below_step (lb1_ HB.out GE181.out) hb); (try clear hb); (try clear hb2); (try clear hk); (try clear hi)))
  go_ret2
  exact ⟨rr_, lb1_ HB.out GE181.out⟩
def spec_l23Sumps.l0 : Nat → List (S30) → Int → Option (Bool)
 | 0, _, _ => none
 | k + 1, x0, x3 => if x3 < (x0.length : Int) then (if 0 ≤ x3 then ((spec_l23Sump.f ((rd_T30 x0 x3).f0) ((rd_T30 x0 x3).f1) ((rd_T30 x0 x3).f2)).bind fun t213 => (if t213 = true then (if x3 > 0 then (if 0 ≤ (wrap64 (x3 - 1)) then (if (wrap64 (x3 - 1)) < (x0.length : Int) then (if ((rd_T30 x0 (wrap64 (x3 - 1))).f0) ≥ ((rd_T30 x0 x3).f0) then (some false) else (spec_l23Sumps.l0 k x0 (wrap64 (x3 + 1)))) else (none)) else (none)) else (spec_l23Sumps.l0 k x0 (wrap64 (x3 + 1)))) else (some false))) else (none)) else (some true)
def spec_l23Sumps.f (k : Nat) (l0 : List (S30)) : Option (Bool) := spec_l23Sumps.l0 k l0 0
def spec_l23Sumps.T4 : Bool × List (List Nat × List Nat) := (true, [([], []), ([], []), ([0, 1], [0, 1]), ([2], [2]), ([3], [3]), ([4], [4]), ([5, 4], [5]), ([6], [6]), ([7, 6], [6, 7]), ([8, 6, 6], [6, 8]), ([9], [9]), ([9], [9]), ([11, 9], [9, 11]), ([10, 12, 9], [9, 10, 12]), ([13, 9], [9, 13]), ([14, 9], [9, 14]), ([9], [9]), ([9], [9]), ([16, 17, 9], [9, 16, 17]), ([18, 9], [9, 18]), ([19, 9], [9, 19]), ([15, 20, 9], [9, 15, 20]), ([9, 21, 6], [6, 9, 21]), ([6, 22], [6, 22])])
def spec_l23Sumps.B4 : List Nat := [0, 0, 3, 7, 15, 31, 63, 127, 255, 511, 1023, 1023, 3071, 8191, 16383, 32767, 1023, 1023, 197631, 459775, 984063, 2097151, 4194303, 8388607]
theorem spec_l23Sumps.tab4 : rtab .any (opsOf Try.f63 4) = spec_l23Sumps.T4 := by kernel_rfl
theorem spec_l23Sumps.bits4 : waitsOk spec_l23Sumps.T4.2 spec_l23Sumps.B4 = true := by kernel_rfl
abbrev spec_l23Sumps.mk0 : Array Bool := #[fF,fF,fF,fF,fF,fF,fF,fF,fF,fF,fF,fF,fF,fF,fF,fF,fF,fF,fF,fF,fF,fF,fF,fF]
abbrev spec_l23Sumps.mk1 : Array Bool := #[tT,fF,fF,fF,fF,fF,fF,fF,fF,fF,fF,fF,fF,fF,fF,fF,fF,fF,fF,fF,fF,fF,fF,fF]
abbrev spec_l23Sumps.mk2 : Array Bool := #[tT,tT,fF,fF,fF,fF,fF,fF,fF,fF,fF,fF,fF,fF,fF,fF,fF,fF,fF,fF,fF,fF,fF,fF]
abbrev spec_l23Sumps.mk3 : Array Bool := #[tT,tT,tT,fF,fF,fF,fF,fF,fF,fF,fF,fF,fF,fF,fF,fF,fF,fF,fF,fF,fF,fF,fF,fF]
abbrev spec_l23Sumps.mk4 : Array Bool := #[tT,tT,tT,tT,fF,fF,fF,fF,fF,fF,fF,fF,fF,fF,fF,fF,fF,fF,fF,fF,fF,fF,fF,fF]
abbrev spec_l23Sumps.mk5 : Array Bool := #[tT,tT,tT,tT,tT,fF,fF,fF,fF,fF,fF,fF,fF,fF,fF,fF,fF,fF,fF,fF,fF,fF,fF,fF]
abbrev spec_l23Sumps.mk6 : Array Bool := #[tT,tT,tT,tT,tT,tT,fF,fF,fF,fF,fF,fF,fF,fF,fF,fF,fF,fF,fF,fF,fF,fF,fF,fF]
abbrev spec_l23Sumps.mk7 : Array Bool := #[tT,tT,tT,tT,tT,tT,tT,fF,fF,fF,fF,fF,fF,fF,fF,fF,fF,fF,fF,fF,fF,fF,fF,fF]
abbrev spec_l23Sumps.mk8 : Array Bool := #[tT,tT,tT,tT,tT,tT,tT,tT,fF,fF,fF,fF,fF,fF,fF,fF,fF,fF,fF,fF,fF,fF,fF,fF]
abbrev spec_l23Sumps.mk9 : Array Bool := #[tT,tT,tT,tT,tT,tT,tT,tT,tT,fF,fF,fF,fF,fF,fF,fF,fF,fF,fF,fF,fF,fF,fF,fF]
abbrev spec_l23Sumps.mk10 : Array Bool := #[tT,tT,tT,tT,tT,tT,tT,tT,tT,tT,fF,fF,fF,fF,fF,fF,fF,fF,fF,fF,fF,fF,fF,fF]
abbrev spec_l23Sumps.mk11 : Array Bool := #[tT,tT,tT,tT,tT,tT,tT,tT,tT,tT,tT,fF,fF,fF,fF,fF,fF,fF,fF,fF,fF,fF,fF,fF]
abbrev spec_l23Sumps.mk12 : Array Bool := #[tT,tT,tT,tT,tT,tT,tT,tT,tT,tT,tT,tT,fF,fF,fF,fF,fF,fF,fF,fF,fF,fF,fF,fF]
abbrev spec_l23Sumps.mk13 : Array Bool := #[tT,tT,tT,tT,tT,tT,tT,tT,tT,tT,tT,tT,tT,fF,fF,fF,fF,fF,fF,fF,fF,fF,fF,fF]
abbrev spec_l23Sumps.mk14 : Array Bool := #[tT,tT,tT,tT,tT,tT,tT,tT,tT,tT,tT,tT,tT,tT,fF,fF,fF,fF,fF,fF,fF,fF,fF,fF]
abbrev spec_l23Sumps.mk15 : Array Bool := #[tT,tT,tT,tT,tT,tT,tT,tT,tT,tT,tT,tT,tT,tT,tT,fF,fF,fF,fF,fF,fF,fF,fF,fF]
abbrev spec_l23Sumps.mk16 : Array Bool := #[tT,tT,tT,tT,tT,tT,tT,tT,tT,tT,tT,tT,tT,tT,tT,fF,tT,fF,fF,fF,fF,fF,fF,fF]
abbrev spec_l23Sumps.mk17 : Array Bool := #[tT,tT,tT,tT,tT,tT,tT,tT,tT,tT,tT,tT,tT,tT,tT,fF,tT,tT,fF,fF,fF,fF,fF,fF]
abbrev spec_l23Sumps.mk18 : Array Bool := #[tT,tT,tT,tT,tT,tT,tT,tT,tT,tT,tT,tT,tT,tT,tT,fF,tT,tT,tT,fF,fF,fF,fF,fF]
abbrev spec_l23Sumps.mk19 : Array Bool := #[tT,tT,tT,tT,tT,tT,tT,tT,tT,tT,tT,tT,tT,tT,tT,fF,tT,tT,tT,tT,fF,fF,fF,fF]
abbrev spec_l23Sumps.mk20 : Array Bool := #[tT,tT,tT,tT,tT,tT,tT,tT,tT,tT,tT,tT,tT,tT,tT,tT,tT,tT,tT,tT,fF,fF,fF,fF]
abbrev spec_l23Sumps.mk21 : Array Bool := #[tT,tT,tT,tT,tT,tT,tT,tT,tT,tT,tT,tT,tT,tT,tT,tT,tT,tT,tT,tT,tT,fF,fF,fF]
abbrev spec_l23Sumps.mk22 : Array Bool := #[tT,tT,tT,tT,tT,tT,tT,tT,tT,tT,tT,tT,tT,tT,tT,tT,tT,tT,tT,tT,tT,tT,fF,fF]
abbrev spec_l23Sumps.mk23 : Array Bool := #[tT,tT,tT,tT,tT,tT,tT,tT,tT,tT,tT,tT,tT,tT,tT,tT,tT,tT,tT,tT,tT,tT,tT,fF]
abbrev spec_l23Sumps.mk24 : Array Bool := #[tT,tT,tT,tT,tT,tT,tT,tT,tT,tT,tT,tT,tT,tT,tT,tT,tT,tT,tT,tT,tT,tT,tT,tT]
abbrev spec_l23Sumps.mk25 : Array Bool := #[tT,tT,tT,tT,tT,tT,tT,tT,tT,tT,tT,tT,tT,tT,tT,tT,fF,fF,fF,fF,fF,fF,fF,fF]
abbrev spec_l23Sumps.mk26 : Array Bool := #[tT,tT,tT,tT,tT,tT,tT,tT,tT,tT,tT,tT,tT,tT,tT,tT,tT,fF,fF,fF,fF,fF,fF,fF]
abbrev spec_l23Sumps.mk27 : Array Bool := #[tT,tT,tT,tT,tT,tT,tT,tT,tT,tT,tT,tT,tT,tT,tT,tT,tT,tT,fF,fF,fF,fF,fF,fF]
abbrev spec_l23Sumps.mk28 : Array Bool := #[tT,tT,tT,tT,tT,tT,tT,tT,tT,tT,tT,tT,tT,tT,tT,tT,tT,tT,tT,fF,fF,fF,fF,fF]
set_option maxHeartbeats 8000000 in
set_option maxRecDepth 100000 in
theorem spec_l23Sumps.calls (k : Nat) (A0 : Option Addr) (c0 : Nat) (l0 : List (S30)) (r : Bool) (w : World) (hr0 : Kd.C k30 w A0 l0.length l0) (hc0 : l0.length ≤ c0) (h : spec_l23Sumps.f k l0 = some r) :
  Calls Try.prog 63 #[.slice A0 l0.length c0] w fun e w' => e = .returned (.bool r) ∧ Below w.heap.size w w' := by
 have hu30 := Try.underlying30
 have HR0 := Aside0.mk hr0
 have HC0 := Aside0.mk hc0
 clear hr0 hc0
 have HB := Aside0.mk (Below.refl w.heap.size w)
 have H : (spec_l23Sumps.l0 k l0 0) = some r := h
 clear h
 have H' := Aside0.mk H
 clear H
 go_enter Try.func63, Try.ntmps63
 go_wp2
 go_loopg [3] k (fun kq v3 w' => ∃ (x3_1 : Int), v3 = .int .i64 x3_1 ∧ Aside0 (spec_l23Sumps.l0 kq l0 x3_1 = some r) ∧ Aside0 (kq ≤ k) ∧ Aside0 (Below w.heap.size w w'))
 case atStart => exact ⟨(0), (by first | rfl | (simp; done) | (simp [*]; done)), H', ⟨Nat.le_refl _⟩, ⟨lb0_ HB.out⟩⟩
 case round =>
  clear H'
  obtain ⟨x3_1, rfl, HA, HK1, HB⟩ := hrel
  cases gk with
  | zero => exact absurd HA.out (by simp [spec_l23Sumps.l0])
  | succ k1 =>
   have H := HA.out
   clear HA
   simp only [spec_l23Sumps.l0] at H
   by_cases c2 : x3_1 < (l0.length : Int)
   ·
    rw [if_pos c2] at H
    have c2b0 : decide (x3_1 < (l0.length : Int)) = true := decide_eq_true c2
    clear c2
    by_cases c3 : 0 ≤ x3_1
    ·
     rw [if_pos c3] at H
     have c3b0 : decide (0 ≤ x3_1) = true := decide_eq_true c3
     clear c3
     replace H := Option.bind_eq_some_iff.mp H
     obtain ⟨t213, A40, H⟩ := H
     replace H : (if t213 = true then (if x3_1 > 0 then (if 0 ≤ (wrap64 (x3_1 - 1)) then (if (wrap64 (x3_1 - 1)) < (l0.length : Int) then (if ((rd_T30 l0 (wrap64 (x3_1 - 1))).f0) ≥ ((rd_T30 l0 x3_1).f0) then (some false) else (spec_l23Sumps.l0 k1 l0 (wrap64 (x3_1 + 1)))) else (none)) else (none)) else (spec_l23Sumps.l0 k1 l0 (wrap64 (x3_1 + 1)))) else (some false)) = some r := H
     have A4 := Aside0.mk A40
     clear A40
     by_cases c5 : t213 = true
     ·
      subst c5
      have H1 : (if x3_1 > 0 then (if 0 ≤ (wrap64 (x3_1 - 1)) then (if (wrap64 (x3_1 - 1)) < (l0.length : Int) then (if ((rd_T30 l0 (wrap64 (x3_1 - 1))).f0) ≥ ((rd_T30 l0 x3_1).f0) then (some false) else (spec_l23Sumps.l0 k1 l0 (wrap64 (x3_1 + 1)))) else (none)) else (none)) else (spec_l23Sumps.l0 k1 l0 (wrap64 (x3_1 + 1)))) = some r := by rw [if_pos rfl] at H; exact H
      clear H
      have H := H1
      clear H1
      by_cases c6 : x3_1 > 0
      ·
       rw [if_pos c6] at H
       have c6b0 : decide (0 < x3_1) = true := decide_eq_true c6
       clear c6
       obtain ⟨ji7, hji7⟩ : ∃ j_ : Int, (wrap64 (x3_1 - 1)) = j_ := ⟨_, rfl⟩
       replace H : (if 0 ≤ (ji7) then (if (ji7) < (l0.length : Int) then (if ((rd_T30 l0 (ji7)).f0) ≥ ((rd_T30 l0 x3_1).f0) then (some false) else (spec_l23Sumps.l0 k1 l0 (wrap64 (x3_1 + 1)))) else (none)) else (none)) = some r := by first | (rw [hji7] at H; exact H) | (simp only [hji7] at H ⊢; exact H)
       (try rw [hji7] at A4)
       have hji7w : (IntKind.i64.wrap (x3_1 - 1)) = ji7 := (i64_w _).trans hji7
       by_cases c8 : 0 ≤ (ji7)
       ·
        rw [if_pos c8] at H
        have c8b0 : decide (0 ≤ (ji7)) = true := decide_eq_true c8; clear c8
        by_cases c9 : (ji7) < (l0.length : Int)
        ·
         rw [if_pos c9] at H
         have c9b0 : decide ((ji7) < (l0.length : Int)) = true := decide_eq_true c9; clear c9
         by_cases c10 : ((rd_T30 l0 (ji7)).f0) ≥ ((rd_T30 l0 x3_1).f0)
         ·
          rw [if_pos c10] at H
          have c10b0 : decide (((rd_T30 l0 x3_1).f0) ≤ ((rd_T30 l0 (ji7)).f0)) = true := decide_eq_true c10; clear c10; obtain rfl := Option.some.inj H
          try go_wp2
          replace HB := Aside0.mk (below_drew1 HB.out); have p212 : 0 ≤ (x3_1 : Int) := dt_; have q212 : x3_1 < (l0.length : Int) := dt_; obtain ⟨ad212, e212, hx212_0, hx212_1, hx212_2⟩ := at_T30 HR0.out x3_1 p212 q212; have hw212_2 := hx212_2; have hw212_1 := hx212_1; have hw212_0 := hx212_0
          cases e212
          replace hx212_0 := bc_ HB.out hx212_0; replace hx212_1 := bc_ HB.out hx212_1; replace hx212_2 := bc_ HB.out hx212_2; replace p212 := eq_true p212; replace q212 := eq_true q212; have p214 : 0 ≤ ((ji7) : Int) := dt_; have q214 : (ji7) < (l0.length : Int) := dt_; obtain ⟨ad214, e214, hx214_0, hx214_1, hx214_2⟩ := at_T30 HR0.out (ji7) p214 q214; have hw214_2 := hx214_2; have hw214_1 := hx214_1; have hw214_0 := hx214_0
          obtain rfl : ad212 = ad214 := (by injection e214)
          replace hx214_0 := bc_ HB.out hx214_0; replace hx214_1 := bc_ HB.out hx214_1; replace hx214_2 := bc_ HB.out hx214_2; replace p214 := eq_true p214; replace q214 := eq_true q214; have p215 : 0 ≤ (x3_1 : Int) := dt_; have q215 : x3_1 < (l0.length : Int) := dt_; obtain ⟨ad215, e215, hx215_0, hx215_1, hx215_2⟩ := at_T30 HR0.out x3_1 p215 q215; have hw215_2 := hx215_2; have hw215_1 := hx215_1; have hw215_0 := hx215_0
          obtain rfl : ad212 = ad215 := (by injection e215)
          replace hx215_0 := bc_ HB.out hx215_0; replace hx215_1 := bc_ HB.out hx215_1; replace hx215_2 := bc_ HB.out hx215_2; replace p215 := eq_true p215; replace q215 := eq_true q215; refine start_ (n := 24) (S := fun w' => w'.cell? (ad212.add ((x3_1).toNat * 3)) = some (.int .i64 ((rd_T30 l0 x3_1).f0)) ∧ w'.cell? ⟨(ad212.add ((x3_1).toNat * 3)).block, (ad212.add ((x3_1).toNat * 3)).off + 1, none⟩ = some (.int .i64 ((rd_T30 l0 x3_1).f1)) ∧ w'.cell? ⟨(ad212.add ((x3_1).toNat * 3)).block, (ad212.add ((x3_1).toNat * 3)).off + 2, none⟩ = some (.int .i64 ((rd_T30 l0 x3_1).f2)) ∧ w'.cell? (ad212.add (((ji7)).toNat * 3)) = some (.int .i64 ((rd_T30 l0 (ji7)).f0)) ∧ w'.cell? ⟨(ad212.add (((ji7)).toNat * 3)).block, (ad212.add (((ji7)).toNat * 3)).off + 1, none⟩ = some (.int .i64 ((rd_T30 l0 (ji7)).f1)) ∧ w'.cell? ⟨(ad212.add (((ji7)).toNat * 3)).block, (ad212.add (((ji7)).toNat * 3)).off + 2, none⟩ = some (.int .i64 ((rd_T30 l0 (ji7)).f2)) ∧ w'.cell? (ad212.add ((x3_1).toNat * 3)) = some (.int .i64 ((rd_T30 l0 x3_1).f0)) ∧ w'.cell? ⟨(ad212.add ((x3_1).toNat * 3)).block, (ad212.add ((x3_1).toNat * 3)).off + 1, none⟩ = some (.int .i64 ((rd_T30 l0 x3_1).f1)) ∧ w'.cell? ⟨(ad212.add ((x3_1).toNat * 3)).block, (ad212.add ((x3_1).toNat * 3)).off + 2, none⟩ = some (.int .i64 ((rd_T30 l0 x3_1).f2))) (ds := []) spec_l23Sumps.mk0 (by kernel_rfl) rfl rfl ⟨(bc_ HB.out hw212_0), (bc_ HB.out hw212_1), (bc_ HB.out hw212_2), (bc_ HB.out hw214_0), (bc_ HB.out hw214_1), (bc_ HB.out hw214_2), (bc_ HB.out hw215_0), (bc_ HB.out hw215_1), (bc_ HB.out hw215_2)⟩ (fun hHeld => ?_); refine with_tabW spec_l23Sumps.tab4 spec_l23Sumps.bits4 (fun HT_ HW_ => ?_); generalize wr.drew = w11 at HB hx212_0 hx212_1 hx212_2 hx214_0 hx214_1 hx214_2 hx215_0 hx215_1 hx215_2 hHeld ⊢; refine pz_ HT_ 0 (some 10) spec_l23Sumps.mk1 ?_; refine pz_ HT_ 1 (some 11) spec_l23Sumps.mk2 ?_; refine pz_ HT_ 2 (some 12) spec_l23Sumps.mk3 ?_; refine tk_ HT_ HW_ hHeld 3 (some 13) spec_l23Sumps.mk4 ?_; refine one_ (i := 4) (N := some 14) spec_l23Sumps.mk5 rfl rfl (one_of HT_.out (by kernel_rfl)) (by decide) (fun K hK => ?_); refine gs_ Try.func55 #[.agg #[.int .i64 ((rd_T30 l0 x3_1).f0), .int .i64 ((rd_T30 l0 x3_1).f1), .int .i64 ((rd_T30 l0 x3_1).f2)]] ?_; (with_reducible refine (spec_l23Sump.calls ((rd_T30 l0 x3_1).f0) ((rd_T30 l0 x3_1).f1) ((rd_T30 l0 x3_1).f2) true _ A4.out).mono ?_); rintro e w12 ⟨rfl, hb⟩; refine ⟨_, rfl, ?_⟩; replace HB := Aside0.mk (below_step (lb0_ HB.out) hb); (try clear hb); (try clear hb2); (try clear hk); (try clear hi); refine hK.out _ _ ⟨((HB.out.cell (World.block_lt_of_cell? w _ hw212_0)).trans hw212_0), ((HB.out.cell (World.block_lt_of_cell? w _ hw212_1)).trans hw212_1), ((HB.out.cell (World.block_lt_of_cell? w _ hw212_2)).trans hw212_2), ((HB.out.cell (World.block_lt_of_cell? w _ hw214_0)).trans hw214_0), ((HB.out.cell (World.block_lt_of_cell? w _ hw214_1)).trans hw214_1), ((HB.out.cell (World.block_lt_of_cell? w _ hw214_2)).trans hw214_2), ((HB.out.cell (World.block_lt_of_cell? w _ hw215_0)).trans hw215_0), ((HB.out.cell (World.block_lt_of_cell? w _ hw215_1)).trans hw215_1), ((HB.out.cell (World.block_lt_of_cell? w _ hw215_2)).trans hw215_2)⟩ (fun hHeld => ?_); clear hK K; refine na_ ?_; refine pz_ HT_ 5 (some 15) spec_l23Sumps.mk6 ?_; refine pz_ HT_ 6 (some 16) spec_l23Sumps.mk7 ?_; refine pz_ HT_ 7 (some 17) spec_l23Sumps.mk8 ?_; refine pz_ HT_ 8 (some 18) spec_l23Sumps.mk9 ?_; refine pz_ HT_ 9 (some 19) spec_l23Sumps.mk10 ?_; refine pz_ HT_ 10 (some 20) spec_l23Sumps.mk11 ?_; refine pz_ HT_ 11 (some 21) spec_l23Sumps.mk12 ?_; refine pz_ HT_ 12 (some 22) spec_l23Sumps.mk13 ?_; refine pz_ HT_ 13 (some 23) spec_l23Sumps.mk14 ?_; refine pz_ HT_ 14 (some 24) spec_l23Sumps.mk15 ?_; refine pz_ HT_ 16 (some 26) spec_l23Sumps.mk16 ?_; refine pz_ HT_ 17 (some 27) spec_l23Sumps.mk17 ?_; refine pz_ HT_ 18 (some 28) spec_l23Sumps.mk18 ?_; refine pz_ HT_ 19 (some 29) spec_l23Sumps.mk19 ?_; refine tk_ HT_ HW_ hHeld 15 (some 25) spec_l23Sumps.mk20 ?_; refine tk_ HT_ HW_ hHeld 20 (some 30) spec_l23Sumps.mk21 ?_; refine pz_ HT_ 21 (some 31) spec_l23Sumps.mk22 ?_; refine pz_ HT_ 22 (some 32) spec_l23Sumps.mk23 ?_; refine pz_ HT_ 23 (some 33) spec_l23Sumps.mk24 ?_; refine done_ (done_of HT_.out (by kernel_rfl)) ?_
          try go_wp2
          go_ret
          exact ⟨by first | rfl | (simp [errW_none, errW_some] <;> rfl) | (simp only [← hji7]; first | rfl | (simp [errW_none, errW_some] <;> rfl)) | (simp [*, errW_none, errW_some] <;> rfl), lb0_ HB.out⟩
         ·
          rw [if_neg c10] at H
          have c10b0 : decide (((rd_T30 l0 x3_1).f0) ≤ ((rd_T30 l0 (ji7)).f0)) = false := decide_eq_false c10; clear c10; have H' := Aside0.mk H; clear H
          try go_wp2
          replace HB := Aside0.mk (below_drew1 HB.out); have p212 : 0 ≤ (x3_1 : Int) := dt_; have q212 : x3_1 < (l0.length : Int) := dt_; obtain ⟨ad212, e212, hx212_0, hx212_1, hx212_2⟩ := at_T30 HR0.out x3_1 p212 q212; have hw212_2 := hx212_2; have hw212_1 := hx212_1; have hw212_0 := hx212_0
          cases e212
          replace hx212_0 := bc_ HB.out hx212_0; replace hx212_1 := bc_ HB.out hx212_1; replace hx212_2 := bc_ HB.out hx212_2; replace p212 := eq_true p212; replace q212 := eq_true q212; have p214 : 0 ≤ ((ji7) : Int) := dt_; have q214 : (ji7) < (l0.length : Int) := dt_; obtain ⟨ad214, e214, hx214_0, hx214_1, hx214_2⟩ := at_T30 HR0.out (ji7) p214 q214; have hw214_2 := hx214_2; have hw214_1 := hx214_1; have hw214_0 := hx214_0
          obtain rfl : ad212 = ad214 := (by injection e214)
          replace hx214_0 := bc_ HB.out hx214_0; replace hx214_1 := bc_ HB.out hx214_1; replace hx214_2 := bc_ HB.out hx214_2; replace p214 := eq_true p214; replace q214 := eq_true q214; have p215 : 0 ≤ (x3_1 : Int) := dt_; have q215 : x3_1 < (l0.length : Int) := dt_; obtain ⟨ad215, e215, hx215_0, hx215_1, hx215_2⟩ := at_T30 HR0.out x3_1 p215 q215; have hw215_2 := hx215_2; have hw215_1 := hx215_1; have hw215_0 := hx215_0
          obtain rfl : ad212 = ad215 := (by injection e215)
          replace hx215_0 := bc_ HB.out hx215_0; replace hx215_1 := bc_ HB.out hx215_1; replace hx215_2 := bc_ HB.out hx215_2; replace p215 := eq_true p215; replace q215 := eq_true q215; refine start_ (n := 24) (S := fun w' => w'.cell? (ad212.add ((x3_1).toNat * 3)) = some (.int .i64 ((rd_T30 l0 x3_1).f0)) ∧ w'.cell? ⟨(ad212.add ((x3_1).toNat * 3)).block, (ad212.add ((x3_1).toNat * 3)).off + 1, none⟩ = some (.int .i64 ((rd_T30 l0 x3_1).f1)) ∧ w'.cell? ⟨(ad212.add ((x3_1).toNat * 3)).block, (ad212.add ((x3_1).toNat * 3)).off + 2, none⟩ = some (.int .i64 ((rd_T30 l0 x3_1).f2)) ∧ w'.cell? (ad212.add (((ji7)).toNat * 3)) = some (.int .i64 ((rd_T30 l0 (ji7)).f0)) ∧ w'.cell? ⟨(ad212.add (((ji7)).toNat * 3)).block, (ad212.add (((ji7)).toNat * 3)).off + 1, none⟩ = some (.int .i64 ((rd_T30 l0 (ji7)).f1)) ∧ w'.cell? ⟨(ad212.add (((ji7)).toNat * 3)).block, (ad212.add (((ji7)).toNat * 3)).off + 2, none⟩ = some (.int .i64 ((rd_T30 l0 (ji7)).f2)) ∧ w'.cell? (ad212.add ((x3_1).toNat * 3)) = some (.int .i64 ((rd_T30 l0 x3_1).f0)) ∧ w'.cell? ⟨(ad212.add ((x3_1).toNat * 3)).block, (ad212.add ((x3_1).toNat * 3)).off + 1, none⟩ = some (.int .i64 ((rd_T30 l0 x3_1).f1)) ∧ w'.cell? ⟨(ad212.add ((x3_1).toNat * 3)).block, (ad212.add ((x3_1).toNat * 3)).off + 2, none⟩ = some (.int .i64 ((rd_T30 l0 x3_1).f2))) (ds := []) spec_l23Sumps.mk0 (by kernel_rfl) rfl rfl ⟨(bc_ HB.out hw212_0), (bc_ HB.out hw212_1), (bc_ HB.out hw212_2), (bc_ HB.out hw214_0), (bc_ HB.out hw214_1), (bc_ HB.out hw214_2), (bc_ HB.out hw215_0), (bc_ HB.out hw215_1), (bc_ HB.out hw215_2)⟩ (fun hHeld => ?_); refine with_tabW spec_l23Sumps.tab4 spec_l23Sumps.bits4 (fun HT_ HW_ => ?_); generalize wr.drew = w13 at HB hx212_0 hx212_1 hx212_2 hx214_0 hx214_1 hx214_2 hx215_0 hx215_1 hx215_2 hHeld ⊢; refine pz_ HT_ 0 (some 10) spec_l23Sumps.mk1 ?_; refine pz_ HT_ 1 (some 11) spec_l23Sumps.mk2 ?_; refine pz_ HT_ 2 (some 12) spec_l23Sumps.mk3 ?_; refine tk_ HT_ HW_ hHeld 3 (some 13) spec_l23Sumps.mk4 ?_; refine one_ (i := 4) (N := some 14) spec_l23Sumps.mk5 rfl rfl (one_of HT_.out (by kernel_rfl)) (by decide) (fun K hK => ?_); refine gs_ Try.func55 #[.agg #[.int .i64 ((rd_T30 l0 x3_1).f0), .int .i64 ((rd_T30 l0 x3_1).f1), .int .i64 ((rd_T30 l0 x3_1).f2)]] ?_; (with_reducible refine (spec_l23Sump.calls ((rd_T30 l0 x3_1).f0) ((rd_T30 l0 x3_1).f1) ((rd_T30 l0 x3_1).f2) true _ A4.out).mono ?_); rintro e w14 ⟨rfl, hb⟩; refine ⟨_, rfl, ?_⟩; replace HB := Aside0.mk (below_step (lb0_ HB.out) hb); (try clear hb); (try clear hb2); (try clear hk); (try clear hi); refine hK.out _ _ ⟨((HB.out.cell (World.block_lt_of_cell? w _ hw212_0)).trans hw212_0), ((HB.out.cell (World.block_lt_of_cell? w _ hw212_1)).trans hw212_1), ((HB.out.cell (World.block_lt_of_cell? w _ hw212_2)).trans hw212_2), ((HB.out.cell (World.block_lt_of_cell? w _ hw214_0)).trans hw214_0), ((HB.out.cell (World.block_lt_of_cell? w _ hw214_1)).trans hw214_1), ((HB.out.cell (World.block_lt_of_cell? w _ hw214_2)).trans hw214_2), ((HB.out.cell (World.block_lt_of_cell? w _ hw215_0)).trans hw215_0), ((HB.out.cell (World.block_lt_of_cell? w _ hw215_1)).trans hw215_1), ((HB.out.cell (World.block_lt_of_cell? w _ hw215_2)).trans hw215_2)⟩ (fun hHeld => ?_); clear hK K; refine na_ ?_; refine pz_ HT_ 5 (some 15) spec_l23Sumps.mk6 ?_; refine pz_ HT_ 6 (some 16) spec_l23Sumps.mk7 ?_; refine pz_ HT_ 7 (some 17) spec_l23Sumps.mk8 ?_; refine pz_ HT_ 8 (some 18) spec_l23Sumps.mk9 ?_; refine pz_ HT_ 9 (some 19) spec_l23Sumps.mk10 ?_; refine pz_ HT_ 10 (some 20) spec_l23Sumps.mk11 ?_; refine pz_ HT_ 11 (some 21) spec_l23Sumps.mk12 ?_; refine pz_ HT_ 12 (some 22) spec_l23Sumps.mk13 ?_; refine pz_ HT_ 13 (some 23) spec_l23Sumps.mk14 ?_; refine pz_ HT_ 14 (some 24) spec_l23Sumps.mk15 ?_; refine pz_ HT_ 16 (some 26) spec_l23Sumps.mk16 ?_; refine pz_ HT_ 17 (some 27) spec_l23Sumps.mk17 ?_; refine pz_ HT_ 18 (some 28) spec_l23Sumps.mk18 ?_; refine pz_ HT_ 19 (some 29) spec_l23Sumps.mk19 ?_; refine tk_ HT_ HW_ hHeld 15 (some 25) spec_l23Sumps.mk20 ?_; refine tk_ HT_ HW_ hHeld 20 (some 30) spec_l23Sumps.mk21 ?_; refine pz_ HT_ 21 (some 31) spec_l23Sumps.mk22 ?_; refine pz_ HT_ 22 (some 32) spec_l23Sumps.mk23 ?_; refine pz_ HT_ 23 (some 33) spec_l23Sumps.mk24 ?_; refine done_ (done_of HT_.out (by kernel_rfl)) ?_
          try go_wp2
          go_roundg k1
          case measure => have := HK1.out; omega
          case rel => exact ⟨(wrap64 (x3_1 + 1)), (by first | rfl | (simp; done) | (simp [*]; done)), H', ⟨by have := HK1.out; omega⟩, ⟨lb0_ HB.out⟩⟩
        ·
         rw [if_neg c9] at H
         exact absurd H (by simp)
       ·
        rw [if_neg c8] at H
        exact absurd H (by simp)
      ·
       rw [if_neg c6] at H
       have c6b0 : decide (0 < x3_1) = false := decide_eq_false c6
       clear c6
       have H' := Aside0.mk H
       clear H
       try go_wp2
       replace HB := Aside0.mk (below_drew1 HB.out)
       have p212 : 0 ≤ (x3_1 : Int) := dt_
       have q212 : x3_1 < (l0.length : Int) := dt_
       obtain ⟨ad212, e212, hx212_0, hx212_1, hx212_2⟩ := at_T30 HR0.out x3_1 p212 q212
       have hw212_2 := hx212_2
       have hw212_1 := hx212_1
       have hw212_0 := hx212_0
       cases e212
       replace hx212_0 := bc_ HB.out hx212_0
       replace hx212_1 := bc_ HB.out hx212_1
       replace hx212_2 := bc_ HB.out hx212_2
       replace p212 := eq_true p212
       replace q212 := eq_true q212
       refine start_ (n := 24) (S := fun w' => w'.cell? (ad212.add ((x3_1).toNat * 3)) = some (.int .i64 ((rd_T30 l0 x3_1).f0)) ∧ w'.cell? ⟨(ad212.add ((x3_1).toNat * 3)).block, (ad212.add ((x3_1).toNat * 3)).off + 1, none⟩ = some (.int .i64 ((rd_T30 l0 x3_1).f1)) ∧ w'.cell? ⟨(ad212.add ((x3_1).toNat * 3)).block, (ad212.add ((x3_1).toNat * 3)).off + 2, none⟩ = some (.int .i64 ((rd_T30 l0 x3_1).f2))) (ds := []) spec_l23Sumps.mk0 (by kernel_rfl) rfl rfl ⟨(bc_ HB.out hw212_0), (bc_ HB.out hw212_1), (bc_ HB.out hw212_2)⟩ (fun hHeld => ?_); refine with_tabW spec_l23Sumps.tab4 spec_l23Sumps.bits4 (fun HT_ HW_ => ?_)
       generalize wr.drew = w15 at HB hx212_0 hx212_1 hx212_2 hHeld ⊢
       refine pz_ HT_ 0 (some 10) spec_l23Sumps.mk1 ?_
       refine pz_ HT_ 1 (some 11) spec_l23Sumps.mk2 ?_
       refine pz_ HT_ 2 (some 12) spec_l23Sumps.mk3 ?_
       refine tk_ HT_ HW_ hHeld 3 (some 13) spec_l23Sumps.mk4 ?_
       refine one_ (i := 4) (N := some 14) spec_l23Sumps.mk5 rfl rfl (one_of HT_.out (by kernel_rfl)) (by decide) (fun K hK => ?_)
       refine gs_ Try.func55 #[.agg #[.int .i64 ((rd_T30 l0 x3_1).f0), .int .i64 ((rd_T30 l0 x3_1).f1), .int .i64 ((rd_T30 l0 x3_1).f2)]] ?_
       with_reducible refine (spec_l23Sump.calls ((rd_T30 l0 x3_1).f0) ((rd_T30 l0 x3_1).f1) ((rd_T30 l0 x3_1).f2) true _ A4.out).mono ?_
       rintro e w16 ⟨rfl, hb⟩
       refine ⟨_, rfl, ?_⟩
       replace HB := Aside0.mk (below_step (lb0_ HB.out) hb)
       (try clear hb)
       (try clear hb2)
       (try clear hk)
       (try clear hi)
       refine hK.out _ _ ⟨((HB.out.cell (World.block_lt_of_cell? w _ hw212_0)).trans hw212_0), ((HB.out.cell (World.block_lt_of_cell? w _ hw212_1)).trans hw212_1), ((HB.out.cell (World.block_lt_of_cell? w _ hw212_2)).trans hw212_2)⟩ (fun hHeld => ?_)
       clear hK K
       refine na_ ?_
       refine pz_ HT_ 5 (some 15) spec_l23Sumps.mk6 ?_
       refine pz_ HT_ 6 (some 16) spec_l23Sumps.mk7 ?_
       refine pz_ HT_ 7 (some 17) spec_l23Sumps.mk8 ?_
       refine pz_ HT_ 8 (some 18) spec_l23Sumps.mk9 ?_
       refine pz_ HT_ 9 (some 19) spec_l23Sumps.mk10 ?_
       refine pu_ HT_ 10 (some 20) spec_l23Sumps.mk11 ?_
       refine pu_ HT_ 11 (some 21) spec_l23Sumps.mk12 ?_
       refine pu_ HT_ 12 (some 22) spec_l23Sumps.mk13 ?_
       refine pu_ HT_ 13 (some 23) spec_l23Sumps.mk14 ?_
       refine pu_ HT_ 14 (some 24) spec_l23Sumps.mk15 ?_
       refine pu_ HT_ 15 (some 25) spec_l23Sumps.mk25 ?_
       refine pu_ HT_ 16 (some 26) spec_l23Sumps.mk26 ?_
       refine pu_ HT_ 17 (some 27) spec_l23Sumps.mk27 ?_
       refine pu_ HT_ 18 (some 28) spec_l23Sumps.mk28 ?_
       refine pu_ HT_ 19 (some 29) spec_l23Sumps.mk20 ?_
       refine pu_ HT_ 20 (some 30) spec_l23Sumps.mk21 ?_
       refine pu_ HT_ 21 (some 31) spec_l23Sumps.mk22 ?_
       refine pz_ HT_ 22 (some 32) spec_l23Sumps.mk23 ?_
       refine pz_ HT_ 23 (some 33) spec_l23Sumps.mk24 ?_
       refine done_ (done_of HT_.out (by kernel_rfl)) ?_
       try go_wp2
       go_roundg k1
       case measure => have := HK1.out; omega
       case rel => exact ⟨(wrap64 (x3_1 + 1)), (by first | rfl | (simp; done) | (simp [*]; done)), H', ⟨by have := HK1.out; omega⟩, ⟨lb0_ HB.out⟩⟩
     ·
      replace c5 := Bool.eq_false_iff.mpr c5
      subst c5
      have H1 : (some false) = some r := by rw [if_neg (show ¬ (false = true) by decide)] at H; exact H
      clear H
      have H := H1
      clear H1
      obtain rfl := Option.some.inj H
      try go_wp2
      replace HB := Aside0.mk (below_drew1 HB.out)
      have p212 : 0 ≤ (x3_1 : Int) := dt_
      have q212 : x3_1 < (l0.length : Int) := dt_
      obtain ⟨ad212, e212, hx212_0, hx212_1, hx212_2⟩ := at_T30 HR0.out x3_1 p212 q212
      have hw212_2 := hx212_2
      have hw212_1 := hx212_1
      have hw212_0 := hx212_0
      cases e212
      replace hx212_0 := bc_ HB.out hx212_0
      replace hx212_1 := bc_ HB.out hx212_1
      replace hx212_2 := bc_ HB.out hx212_2
      replace p212 := eq_true p212
      replace q212 := eq_true q212
      refine start_ (n := 24) (S := fun w' => w'.cell? (ad212.add ((x3_1).toNat * 3)) = some (.int .i64 ((rd_T30 l0 x3_1).f0)) ∧ w'.cell? ⟨(ad212.add ((x3_1).toNat * 3)).block, (ad212.add ((x3_1).toNat * 3)).off + 1, none⟩ = some (.int .i64 ((rd_T30 l0 x3_1).f1)) ∧ w'.cell? ⟨(ad212.add ((x3_1).toNat * 3)).block, (ad212.add ((x3_1).toNat * 3)).off + 2, none⟩ = some (.int .i64 ((rd_T30 l0 x3_1).f2))) (ds := []) spec_l23Sumps.mk0 (by kernel_rfl) rfl rfl ⟨(bc_ HB.out hw212_0), (bc_ HB.out hw212_1), (bc_ HB.out hw212_2)⟩ (fun hHeld => ?_); refine with_tabW spec_l23Sumps.tab4 spec_l23Sumps.bits4 (fun HT_ HW_ => ?_)
      generalize wr.drew = w17 at HB hx212_0 hx212_1 hx212_2 hHeld ⊢
      refine pz_ HT_ 0 (some 10) spec_l23Sumps.mk1 ?_
      refine pz_ HT_ 1 (some 11) spec_l23Sumps.mk2 ?_
      refine pz_ HT_ 2 (some 12) spec_l23Sumps.mk3 ?_
      refine tk_ HT_ HW_ hHeld 3 (some 13) spec_l23Sumps.mk4 ?_
      refine one_ (i := 4) (N := some 14) spec_l23Sumps.mk5 rfl rfl (one_of HT_.out (by kernel_rfl)) (by decide) (fun K hK => ?_)
      refine gs_ Try.func55 #[.agg #[.int .i64 ((rd_T30 l0 x3_1).f0), .int .i64 ((rd_T30 l0 x3_1).f1), .int .i64 ((rd_T30 l0 x3_1).f2)]] ?_
      with_reducible refine (spec_l23Sump.calls ((rd_T30 l0 x3_1).f0) ((rd_T30 l0 x3_1).f1) ((rd_T30 l0 x3_1).f2) false _ A4.out).mono ?_
      rintro e w18 ⟨rfl, hb⟩
      refine ⟨_, rfl, ?_⟩
      replace HB := Aside0.mk (below_step (lb0_ HB.out) hb)
      (try clear hb)
      (try clear hb2)
      (try clear hk)
      (try clear hi)
      refine hK.out _ _ ⟨((HB.out.cell (World.block_lt_of_cell? w _ hw212_0)).trans hw212_0), ((HB.out.cell (World.block_lt_of_cell? w _ hw212_1)).trans hw212_1), ((HB.out.cell (World.block_lt_of_cell? w _ hw212_2)).trans hw212_2)⟩ (fun hHeld => ?_)
      clear hK K
      refine na_ ?_
      refine pz_ HT_ 5 (some 15) spec_l23Sumps.mk6 ?_
      refine pz_ HT_ 6 (some 16) spec_l23Sumps.mk7 ?_
      refine pu_ HT_ 7 (some 17) spec_l23Sumps.mk8 ?_
      refine pu_ HT_ 8 (some 18) spec_l23Sumps.mk9 ?_
      refine pu_ HT_ 9 (some 19) spec_l23Sumps.mk10 ?_
      refine pu_ HT_ 10 (some 20) spec_l23Sumps.mk11 ?_
      refine pu_ HT_ 11 (some 21) spec_l23Sumps.mk12 ?_
      refine pu_ HT_ 12 (some 22) spec_l23Sumps.mk13 ?_
      refine pu_ HT_ 13 (some 23) spec_l23Sumps.mk14 ?_
      refine pu_ HT_ 14 (some 24) spec_l23Sumps.mk15 ?_
      refine pu_ HT_ 15 (some 25) spec_l23Sumps.mk25 ?_
      refine pu_ HT_ 16 (some 26) spec_l23Sumps.mk26 ?_
      refine pu_ HT_ 17 (some 27) spec_l23Sumps.mk27 ?_
      refine pu_ HT_ 18 (some 28) spec_l23Sumps.mk28 ?_
      refine pu_ HT_ 19 (some 29) spec_l23Sumps.mk20 ?_
      refine pu_ HT_ 20 (some 30) spec_l23Sumps.mk21 ?_
      refine pu_ HT_ 21 (some 31) spec_l23Sumps.mk22 ?_
      refine pu_ HT_ 22 (some 32) spec_l23Sumps.mk23 ?_
      refine pz_ HT_ 23 (some 33) spec_l23Sumps.mk24 ?_
      refine done_ (done_of HT_.out (by kernel_rfl)) ?_
      try go_wp2
      go_ret
      exact ⟨rr_, lb0_ HB.out⟩
    ·
     rw [if_neg c3] at H
     exact absurd H (by simp)
   ·
    rw [if_neg c2] at H
    have c2b0 : decide (x3_1 < (l0.length : Int)) = false := decide_eq_false c2
    clear c2
    obtain rfl := Option.some.inj H
    go_wp2
    go_ret
    exact ⟨rr_, lb0_ HB.out⟩
end Go.Proofs.Ytojaeidabmfajaa.Pr

