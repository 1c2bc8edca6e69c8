/-
What is proved: parts of the law FnExactWalkOn: what the functions that it reaches compute, and the plain law.
Conditions: those of each theorem.
-/
import Derived.ChangeArms
import Derived.ChangeSlices
import Derived.Deep.Slices
import Derived.RowKit
import Derived.SizedLaws
import Derived.WideShapes
import Derived.Test.YthmjimboajmhmaaCFnExactWalkOn4
namespace Go.Proofs.Ythmjimboajmhmaa.Pr
open Go.RowKit Go.Proofs.YthmjimboajmhmaaW.PrintWords Go.Proofs.YthmjimboajmhmaaW.PrintLast Go.Proofs.YthmjimboajmhmaaW.PrintMore
attribute [local go_sem] max2_int min2_int max_two min_two max_three min_three max_four min_four   -- for this text's walks alone
set_option linter.unusedVariables false
set_option linter.unusedSimpArgs false
structure XR (w : World) (lo : Nat) (P : Nat → Prop) (v0 v1 v2 : Value) (L : List S37) (V D : List Bool) : Prop where
 rL : Kd.R k37 37 w lo P v0 L
 rV : Kd.R Kd.bool 4 w lo (fun k => P k ∧ some k ≠ v2.ownBlock) v1 V
 rD : Kd.R Kd.bool 4 w lo (fun k => P k ∧ some k ≠ v1.ownBlock) v2 D
structure X3 (w : World) (lo : Nat) (v0 v1 v2 : Value) (L : List S37) (V D : List Bool) : Prop where
 rL : Kd.R k37 37 w lo (fun _ => True) v0 L
 rV : Kd.R Kd.bool 4 w lo (fun _ => True) v1 V
 rD : Kd.R Kd.bool 4 w lo (fun _ => True) v2 D
section
variable {w w' w1 : World} {lo : Nat} {P : Nat → Prop} {v0 v1 v2 : Value} {L : List S37} {V D : List Bool}
theorem XR.of (hlo : lo ≤ w.heap.size) (h0 : Kd.R k37 37 w' w.heap.size (fun _ => True) v0 L) (h1 : Kd.R Kd.bool 4 w' w.heap.size (fun k => some k ≠ v2.ownBlock) v1 V) (h2 : Kd.R Kd.bool 4 w' w.heap.size (fun k => some k ≠ v1.ownBlock) v2 D) : XR w' lo (fun _ => True) v0 v1 v2 L V D :=
 ⟨Kd.R_lower h0 hlo, Kd.R_mono (Kd.R_lower h1 hlo) (fun _ h => ⟨trivial, h⟩), Kd.R_mono (Kd.R_lower h2 hlo) (fun _ h => ⟨trivial, h⟩)⟩
theorem XR.below (h : XR w lo P v0 v1 v2 L V D) (hb : Below w.heap.size w w') : XR w' lo P v0 v1 v2 L V D := ⟨Kd.R_below h.rL hb, Kd.R_below h.rV hb, Kd.R_below h.rD hb⟩
theorem X3.below (h : X3 w lo v0 v1 v2 L V D) (hb : Below w.heap.size w w') : X3 w' lo v0 v1 v2 L V D := ⟨Kd.R_below h.rL hb, Kd.R_below h.rV hb, Kd.R_below h.rD hb⟩
theorem XR.bound (h : XR w lo P v0 v1 v2 L V D) : XR w lo (fun k => lo ≤ k ∧ k < w.heap.size) v0 v1 v2 L V D :=
 ⟨Kd.R_mono (Kd.R_bound h.rL) (fun _ hk => ⟨hk.2.1, hk.2.2.1⟩), Kd.R_mono (Kd.R_bound h.rV) (fun _ hk => ⟨⟨hk.2.1, hk.2.2.1⟩, hk.1.2⟩), Kd.R_mono (Kd.R_bound h.rD) (fun _ hk => ⟨⟨hk.2.1, hk.2.2.1⟩, hk.1.2⟩)⟩
theorem XR.kept {S : Nat → Prop} (h : XR w lo P v0 v1 v2 L V D) (hk : Kept w w' S) (hne : ∀ k, P k → ¬ S k) : XR w' lo P v0 v1 v2 L V D :=
 ⟨Kd.R_kept h.rL hk hne, Kd.R_kept h.rV hk (fun k hk => hne k hk.1), Kd.R_kept h.rD hk (fun k hk => hne k hk.1)⟩
theorem XR.x3 (h : XR w lo P v0 v1 v2 L V D) : X3 w lo v0 v1 v2 L V D := ⟨Kd.R_mono h.rL (fun _ _ => trivial), Kd.R_mono h.rV (fun _ _ => trivial), Kd.R_mono h.rD (fun _ _ => trivial)⟩
theorem XR.set5 (h : XR w lo P v0 v1 v2 L V D) {g : Nat} {cs : Array Value} (hb : w.heap[g]? = some (.cells cs 30 (0, 0))) (a0 a1 a2 a3 a4 : Value) : XR (((((w.setCell ⟨g, 0, none⟩ a0).setCell ⟨g, 1, none⟩ a1).setCell ⟨g, 2, none⟩ a2).setCell ⟨g, 3, none⟩ a3).setCell ⟨g, 4, none⟩ a4) lo P v0 v1 v2 L V D :=
 ⟨set5_R h.rL hb (by decide) a0 a1 a2 a3 a4, set5_R h.rV hb (by decide) a0 a1 a2 a3 a4, set5_R h.rD hb (by decide) a0 a1 a2 a3 a4⟩
def XOwn (v0 v1 v2 : Value) (k : Nat) : Prop := some k = v0.ownBlock ∨ some k = v1.ownBlock ∨ some k = v2.ownBlock
theorem XR.own (h : XR w lo P v0 v1 v2 L V D) {k : Nat} (hk : XOwn v0 v1 v2 k) : P k := hk.elim (fun e => h.rL.1 k e.symm) (fun e => e.elim (fun e => (h.rV.1 k e.symm).1) (fun e => (h.rD.1 k e.symm).1))
theorem XR.blk (h : XR w lo P v0 v1 v2 L V D) (hk : Kept w w' (XOwn v0 v1 v2)) {g t : Nat} {cs : Array Value} (hb : w.heap[g]? = some (.cells cs t (0, 0))) (h1 : 37 ≠ t) (h2 : 4 ≠ t) : w'.heap[g]? = some (.cells cs t (0, 0)) := by
 refine (hk.2 g (blk_lt hb) ?_).trans hb
 intro hs
 rcases hs with e | e | e
 ·
  obtain ⟨q, hx⟩ := Kd.R_typed h.rL g e.symm
  rw [hb] at hx
  injection hx with hx
  injection hx with _ hx
  exact h1 hx.symm
 ·
  obtain ⟨q, hx⟩ := Kd.R_typed h.rV g e.symm
  rw [hb] at hx
  injection hx with hx
  injection hx with _ hx
  exact h2 hx.symm
 ·
  obtain ⟨q, hx⟩ := Kd.R_typed h.rD g e.symm
  rw [hb] at hx
  injection hx with hx
  injection hx with _ hx
  exact h2 hx.symm
end
theorem walkS_ (k : Nat) {w : World} {lo : Nat} {v0 v1 v2 : Value} {L : List S37} {V D : List Bool} (h : X3 w lo v0 v1 v2 L V D) (x4 x5 y0 y1 y2 y3 y4 y5 y6 : Int) (u1 : List S37) (u2 u3 : List Bool) (u4 u5 : Int) (u6 : Bool) (hf : spec_WalkOn.f k L V D x4 x5 y0 y1 y2 y3 y4 y5 y6 = some (u1, u2, u3, u4, u5, u6)) :
  Calls Try.prog 23 #[.agg #[v0, v1, v2, .int .i64 x4, .int .i64 x5], .agg #[.int .i64 y0, .int .i64 y1, .int .i64 y2, .int .i64 y3, .int .i64 y4, .int .i64 y5, .int .i64 y6]] w fun e w' => ∃ r0 r1 r2 : Value, e = .returned (.tuple #[.agg #[r0, r1, r2, .int .i64 u4, .int .i64 u5], .bool u6]) ∧ XR w' w.heap.size (fun _ => True) r0 r1 r2 u1 u2 u3 ∧ Below w.heap.size w w' := by
 obtain ⟨A0, c0, rfl⟩ := Kd.R_slice h.rL
 obtain ⟨A1, c1, rfl⟩ := Kd.R_slice h.rV
 obtain ⟨A2, c2, rfl⟩ := Kd.R_slice h.rD
 refine (spec_WalkOn.calls k _ _ L _ _ V _ _ D x4 x5 y0 y1 y2 y3 y4 y5 y6 u1 u2 u3 u4 u5 u6 w (Kd.R_reads' h.rL).2.2 (Kd.R_reads' h.rL).2.1 (Kd.R_reads' h.rV).2.2 (Kd.R_reads' h.rV).2.1 (Kd.R_reads' h.rD).2.2 (Kd.R_reads' h.rD).2.1 hf).mono ?_
 rintro e w' ⟨r0, r1, r2, rfl, h0, h1, h2, hb⟩
 exact ⟨r0, r1, r2, rfl, XR.of (Nat.le_refl _) h0 h1 h2, hb⟩
theorem walkI_ (k : Nat) {w : World} {lo : Nat} {v0 v1 v2 : Value} {L : List S37} {V D : List Bool} (h : X3 w lo v0 v1 v2 L V D) (x4 x5 y0 y1 y2 y3 y4 y5 y6 : Int) (u1 : List S37) (u2 u3 : List Bool) (u4 u5 : Int) (u6 : Bool) (hf : impl_WalkOn.f k L V D x4 x5 y0 y1 y2 y3 y4 y5 y6 = some (u1, u2, u3, u4, u5, u6)) :
  Calls Try.prog 22 #[.agg #[v0, v1, v2, .int .i64 x4, .int .i64 x5], .agg #[.int .i64 y0, .int .i64 y1, .int .i64 y2, .int .i64 y3, .int .i64 y4, .int .i64 y5, .int .i64 y6]] w fun e w' => ∃ r0 r1 r2 : Value, e = .returned (.tuple #[.agg #[r0, r1, r2, .int .i64 u4, .int .i64 u5], .bool u6]) ∧ XR w' w.heap.size (fun _ => True) r0 r1 r2 u1 u2 u3 ∧ Below w.heap.size w w' := by
 obtain ⟨A0, c0, rfl⟩ := Kd.R_slice h.rL
 obtain ⟨A1, c1, rfl⟩ := Kd.R_slice h.rV
 obtain ⟨A2, c2, rfl⟩ := Kd.R_slice h.rD
 refine (impl_WalkOn.calls k _ _ L _ _ V _ _ D x4 x5 y0 y1 y2 y3 y4 y5 y6 u1 u2 u3 u4 u5 u6 w (Kd.R_reads' h.rL).2.2 (Kd.R_reads' h.rL).2.1 (Kd.R_reads' h.rV).2.2 (Kd.R_reads' h.rV).2.1 (Kd.R_reads' h.rD).2.2 (Kd.R_reads' h.rD).2.1 hf).mono ?_
 rintro e w' ⟨r0, r1, r2, rfl, h0, h1, h2, hb⟩
 exact ⟨r0, r1, r2, rfl, XR.of (Nat.le_refl _) h0 h1 h2, hb⟩
theorem eqX_ (k : Nat) {w : World} {lo lo' : Nat} {v0 v1 v2 u0 u1 u2 : Value} {L L' : List S37} {V D V' D' : List Bool} (h : X3 w lo v0 v1 v2 L V D) (h' : X3 w lo' u0 u1 u2 L' V' D') (x4 x5 y4 y5 : Int) (r : Bool) (hf : laws_eqExploration.f k L V D x4 x5 L' V' D' y4 y5 = some r) :
  Calls Try.prog 19 #[.agg #[v0, v1, v2, .int .i64 x4, .int .i64 x5], .agg #[u0, u1, u2, .int .i64 y4, .int .i64 y5]] w fun e w' => e = .returned (.bool r) ∧ Below w.heap.size w w' := by
 obtain ⟨A0, c0, rfl⟩ := Kd.R_slice h.rL
 obtain ⟨A1, c1, rfl⟩ := Kd.R_slice h.rV
 obtain ⟨A2, c2, rfl⟩ := Kd.R_slice h.rD
 obtain ⟨B0, d0, rfl⟩ := Kd.R_slice h'.rL
 obtain ⟨B1, d1, rfl⟩ := Kd.R_slice h'.rV
 obtain ⟨B2, d2, rfl⟩ := Kd.R_slice h'.rD
 exact laws_eqExploration.calls k _ _ L _ _ V _ _ D x4 x5 _ _ L' _ _ V' _ _ D' y4 y5 r w (Kd.R_reads' h.rL).2.2 (Kd.R_reads' h.rL).2.1 (Kd.R_reads' h.rV).2.2 (Kd.R_reads' h.rV).2.1 (Kd.R_reads' h.rD).2.2 (Kd.R_reads' h.rD).2.1 (Kd.R_reads' h'.rL).2.2 (Kd.R_reads' h'.rL).2.1 (Kd.R_reads' h'.rV).2.2 (Kd.R_reads' h'.rV).2.1 (Kd.R_reads' h'.rD).2.2 (Kd.R_reads' h'.rD).2.1 hf
theorem heldX_ (k : Nat) {w : World} {lo : Nat} {v0 v1 v2 : Value} {L : List S37} {V D : List Bool} (h : X3 w lo v0 v1 v2 L V D) (x4 x5 a r : Int) (hf : laws_heldExploration.f k L V D x4 x5 a = some r) :
  Calls Try.prog 42 #[.agg #[v0, v1, v2, .int .i64 x4, .int .i64 x5], .int .i64 a] w fun e w' => e = .returned (.int .i64 r) ∧ Below w.heap.size w w' := by
 obtain ⟨A0, c0, rfl⟩ := Kd.R_slice h.rL
 obtain ⟨A1, c1, rfl⟩ := Kd.R_slice h.rV
 obtain ⟨A2, c2, rfl⟩ := Kd.R_slice h.rD
 exact laws_heldExploration.calls k _ _ L _ _ V _ _ D x4 x5 a r w (Kd.R_reads' h.rL).2.2 (Kd.R_reads' h.rL).2.1 (Kd.R_reads' h.rV).2.2 (Kd.R_reads' h.rV).2.1 (Kd.R_reads' h.rD).2.2 (Kd.R_reads' h.rD).2.1 hf
theorem markX_ (k : Nat) {w0 w : World} {lo : Nat} {P : Nat → Prop} {v0 v1 v2 : Value} {L : List S37} {V D : List Bool} (hB : Below w0.heap.size w0 w) (h : XR w lo P v0 v1 v2 L V D) (hlo : w0.heap.size ≤ lo) (x4 x5 a r : Int) (m1 : List S37) (m2 m3 : List Bool) (hf : laws_markExploration.f k L V D x4 x5 a = some (r, m1, m2, m3)) :
  Calls Try.prog 41 #[.agg #[v0, v1, v2, .int .i64 x4, .int .i64 x5], .int .i64 a] w fun e w' => e = .returned (.int .i64 r) ∧ X3 w' w0.heap.size v0 v1 v2 m1 m2 m3 ∧ Below w0.heap.size w0 w' ∧ Kept w w' (XOwn v0 v1 v2) := by
 refine (laws_markExploration.calls k (fun q => some q = v0.ownBlock) v0 L (fun q => some q = v1.ownBlock) v1 V (fun q => some q = v2.ownBlock) v2 D x4 x5 a r m1 m2 m3 w0 w hB (Kd.R_tight rfl (Kd.R_lower h.rL hlo)) (Kd.R_tight rfl (Kd.R_lower h.rV hlo)) (fun q hq => (h.rV.1 q hq.symm).2) (Kd.R_tight rfl (Kd.R_lower h.rD hlo)) (fun q hq => (h.rD.1 q hq.symm).2) hf).mono ?_
 rintro e w' ⟨rfl, h0, h1, h2, hb, hk⟩
 exact ⟨rfl, ⟨Kd.R_mono h0 (fun _ _ => trivial), Kd.R_mono h1 (fun _ _ => trivial), Kd.R_mono h2 (fun _ _ => trivial)⟩, hb, hk⟩
structure WoJ (wd : World) (x : List S37 × List Bool × List Bool) (y : List S37 × List Bool × List Bool × Int × Int) (W : World) (c1 c4 c8 c9 : Bool) (v0 v1 v2 u0 u1 u2 : Value) (s : Nat) : Prop where
 hB : Below wd.heap.size wd W
 hX : c1 = true → XR W wd.heap.size (fun _ => True) v0 v1 v2 x.1 x.2.1 x.2.2
 hU : c4 = true → XR W wd.heap.size (fun _ => True) u0 u1 u2 y.1 y.2.1 y.2.2.1
 hK : c8 = true → W.heap[s]? = some (.cells (bif c9 then #[u0, u1, u2, .int .i64 y.2.2.2.1, .int .i64 y.2.2.2.2] else #[.slice none 0 0, .slice none 0 0, .slice none 0 0, .int .i64 0, .int .i64 0]) 30 (0, 0)) ∧ wd.heap.size ≤ s
section
variable {wd W W' : World} {x : List S37 × List Bool × List Bool} {y : List S37 × List Bool × List Bool × Int × Int} {c1 c4 c8 c9 c : Bool} {v0 v1 v2 u0 u1 u2 : Value} {s : Nat}
theorem WoJ.below (h : WoJ wd x y W c1 c4 c8 c9 v0 v1 v2 u0 u1 u2 s) (hb : Below W.heap.size W W') : WoJ wd x y W' c1 c4 c8 c9 v0 v1 v2 u0 u1 u2 s :=
 ⟨below_step h.hB hb, fun e => (h.hX e).below hb, fun e => (h.hU e).below hb, fun e => ⟨bb_ (h.hK e).1 hb, (h.hK e).2⟩⟩
theorem WoJ.callX (h : WoJ wd x y W c1 c4 c8 c9 v0 v1 v2 u0 u1 u2 s) (hb : Below W.heap.size W W') {z0 z1 z2 : Value} (hr : XR W' wd.heap.size (fun _ => True) z0 z1 z2 x.1 x.2.1 x.2.2) : WoJ wd x y W' c c4 c8 c9 z0 z1 z2 u0 u1 u2 s :=
 ⟨below_step h.hB hb, fun _ => hr, fun e => (h.hU e).below hb, fun e => ⟨bb_ (h.hK e).1 hb, (h.hK e).2⟩⟩
theorem WoJ.callU (h : WoJ wd x y W c1 c4 c8 c9 v0 v1 v2 u0 u1 u2 s) (h9 : c9 = false) (hb : Below W.heap.size W W') {z0 z1 z2 : Value} (hr : XR W' wd.heap.size (fun _ => True) z0 z1 z2 y.1 y.2.1 y.2.2.1) : WoJ wd x y W' c1 c c8 c9 v0 v1 v2 z0 z1 z2 s := by
 subst h9
 exact ⟨below_step h.hB hb, fun e => (h.hX e).below hb, fun _ => hr, fun e => ⟨bb_ (h.hK e).1 hb, (h.hK e).2⟩⟩
theorem WoJ.alloc (h : WoJ wd x y W c1 c4 c8 c9 v0 v1 v2 u0 u1 u2 s) (h9 : c9 = false) (hb : Below W.heap.size W W') {g : Nat} (hbox : W'.heap[g]? = some (.cells #[.slice none 0 0, .slice none 0 0, .slice none 0 0, .int .i64 0, .int .i64 0] 30 (0, 0))) (hg : g = W.heap.size) : WoJ wd x y W' c1 c4 c c9 v0 v1 v2 u0 u1 u2 g := by
 subst h9
 exact ⟨below_step h.hB hb, fun e => (h.hX e).below hb, fun e => (h.hU e).below hb, fun _ => ⟨hbox, by rw [hg]; exact below_size h.hB⟩⟩
theorem WoJ.store (h : WoJ wd x y W c1 c4 c8 c9 v0 v1 v2 u0 u1 u2 s) (h8 : c8 = true) : WoJ wd x y (((((W.setCell ⟨s, 0, none⟩ u0).setCell ⟨s, 1, none⟩ u1).setCell ⟨s, 2, none⟩ u2).setCell ⟨s, 3, none⟩ (.int .i64 y.2.2.2.1)).setCell ⟨s, 4, none⟩ (.int .i64 y.2.2.2.2)) c1 c4 c8 true v0 v1 v2 u0 u1 u2 s := by
 obtain ⟨h1, h2⟩ := h.hK h8
 refine ⟨set5_below h.hB h2 _ _ _ _ _, fun e => (h.hX e).set5 h1 _ _ _ _ _, fun e => (h.hU e).set5 h1 _ _ _ _ _, fun _ => ⟨?_, h2⟩⟩
 cases c9
 ·
  exact set5_blk h1 _ _ _ _ _
 ·
  exact set5_blk h1 _ _ _ _ _
end
def laws_FnExactWalkOn.f (k : Nat) (l0_0 : List S65) (l0_1 : List Bool) (l0_2 : List Bool) (a0_3 : Int) (a0_4 : Int) (a1_0 : Int) (a1_1 : Int) (a1_2 : Int) (a1_3 : Int) (a1_4 : Int) (a1_5 : Int) (a1_6 : Int) : Option (Bool) :=
 (laws_szExploration.f l0_0 l0_1 l0_2 a0_3 a0_4 1048576).bind fun t1 => (if t1 < 0 then (some true) else ((laws_toExploration.f k l0_0 l0_1 l0_2 a0_3 a0_4).bind fun x => ((laws_toWalk.f a1_0 a1_1 a1_2 a1_3 a1_4 a1_5 a1_6).bind fun y => ((spec_WalkOn.f k x.1 x.2.1 x.2.2.1 x.2.2.2.1 x.2.2.2.2 y.1 y.2.1 y.2.2.1 y.2.2.2.1 y.2.2.2.2.1 y.2.2.2.2.2.1 y.2.2.2.2.2.2).bind fun u => ((impl_WalkOn.f k x.1 x.2.1 x.2.2.1 x.2.2.2.1 x.2.2.2.2 y.1 y.2.1 y.2.2.1 y.2.2.2.1 y.2.2.2.2.1 y.2.2.2.2.2.1 y.2.2.2.2.2.2).bind fun g => ((laws_eqExploration.f k g.1 g.2.1 g.2.2.1 g.2.2.2.1 g.2.2.2.2.1 u.1 u.2.1 u.2.2.1 u.2.2.2.1 u.2.2.2.2.1).bind fun q1 => ((laws_eqExploration.f k x.1 x.2.1 x.2.2.1 x.2.2.2.1 x.2.2.2.2 x.1 x.2.1 x.2.2.1 x.2.2.2.1 x.2.2.2.2).bind fun q2 => ((laws_markExploration.f k x.1 x.2.1 x.2.2.1 x.2.2.2.1 x.2.2.2.2 1).bind fun m => ((laws_markExploration.f k g.1 g.2.1 g.2.2.1 g.2.2.2.1 g.2.2.2.2.1 1).bind fun n => ((laws_heldExploration.f k n.2.1 n.2.2.1 n.2.2.2 g.2.2.2.1 g.2.2.2.2.1 1).bind fun hh => (if q1 = true ∧ q2 = true ∧ g.2.2.2.2.2 = u.2.2.2.2.2 ∧ 0 ≤ m.1 ∧ 0 ≤ n.1 ∧ hh = n.1 then (some true) else (none))))))))))))
def woL5.T : Bool × List (List Nat × List Nat) := (true, [([], []), ([0], [0]), ([], []), ([2, 1], [2]), ([1, 3, 3], [1, 3]), ([4], [4]), ([5], [5]), ([5], [5]), ([], []), ([8, 6, 4, 0, 1, 2, 3, 4, 5, 6, 8], [6, 8]), ([7, 9, 0, 1, 2, 3, 4, 5, 6, 7, 8, 9], [7])])
def woL5.B : List Nat := [0, 1, 0, 7, 15, 31, 63, 63, 0, 383, 1023]
theorem woL5.tab : rtab .any (opsOf Try.f11 5) = woL5.T := by kernel_rfl
theorem woL5.bits : waitsOk woL5.T.2 woL5.B = true := by kernel_rfl
abbrev woL5.mkE : Array Bool := #[fF,fF,fF,fF,fF,fF,fF,fF,fF,fF,fF]
def woL7.T : Bool × List (List Nat × List Nat) := (true, [([], []), ([], []), ([1], [1]), ([0, 2, 2], [0, 2]), ([3], [3]), ([4], [4]), ([4], [4]), ([], []), ([7, 5, 3, 0, 1, 2, 3, 4, 5, 7], [5, 7]), ([6, 8, 0, 1, 2, 3, 4, 5, 6, 7, 8], [6])])
def woL7.B : List Nat := [0, 0, 2, 7, 15, 31, 31, 0, 191, 511]
theorem woL7.tab : rtab .any (opsOf Try.f11 7) = woL7.T := by kernel_rfl
theorem woL7.bits : waitsOk woL7.T.2 woL7.B = true := by kernel_rfl
abbrev woL7.mkE : Array Bool := #[fF,fF,fF,fF,fF,fF,fF,fF,fF,fF]
def woL10.T : Bool × List (List Nat × List Nat) := (true, [([], []), ([], []), ([1], [1]), ([0, 2, 2], [0, 2]), ([3], [3])])
def woL10.B : List Nat := [0, 0, 2, 7, 15]
theorem woL10.tab : rtab .any (opsOf Try.f11 10) = woL10.T := by kernel_rfl
theorem woL10.bits : waitsOk woL10.T.2 woL10.B = true := by kernel_rfl
abbrev woL10.mkE : Array Bool := #[false, false, false, false, false]
abbrev woL10.mk0 : Array Bool := #[true, false, false, false, false]
abbrev woL10.mk0_1 : Array Bool := #[true, true, false, false, false]
abbrev woL10.mk0_1_2 : Array Bool := #[true, true, true, false, false]
abbrev woL10.mk0_1_2_3 : Array Bool := #[true, true, true, true, false]
abbrev woL10.mk0_1_2_3_4 : Array Bool := #[true, true, true, true, true]
def woL24.T : Bool × List (List Nat × List Nat) := (true, [([], []), ([0], [0]), ([], []), ([2, 1], [2]), ([1, 3, 3], [1, 3]), ([4], [4]), ([5], [5]), ([5], [5]), ([], []), ([8, 6, 4, 0, 1, 2, 3, 4, 5, 6, 8], [6, 8]), ([7, 9, 0, 1, 2, 3, 4, 5, 6, 7, 8, 9], [7])])
def woL24.B : List Nat := [0, 1, 0, 7, 15, 31, 63, 63, 0, 383, 1023]
theorem woL24.tab : rtab .any (opsOf Try.f11 24) = woL24.T := by kernel_rfl
theorem woL24.bits : waitsOk woL24.T.2 woL24.B = true := by kernel_rfl
abbrev woL24.mkE : Array Bool := #[fF,fF,fF,fF,fF,fF,fF,fF,fF,fF,fF]
set_option maxHeartbeats 64000000 in
set_option maxRecDepth 100000 in
theorem laws_FnExactWalkOn.calls (k : Nat) (A0_0 : Option Addr) (c0_0 : Nat) (l0_0 : List (S65)) (A0_1 : Option Addr) (c0_1 : Nat) (l0_1 : List Bool) (A0_2 : Option Addr) (c0_2 : Nat) (l0_2 : List Bool) (a0_3 : Int) (a0_4 : Int) (a1_0 : Int) (a1_1 : Int) (a1_2 : Int) (a1_3 : Int) (a1_4 : Int) (a1_5 : Int) (a1_6 : Int) (r : Bool) (w : World) (hr0_0 : Kd.C k65 w A0_0 l0_0.length l0_0) (hc0_0 : l0_0.length ≤ c0_0) (hr0_1 : Kd.C Kd.bool w A0_1 l0_1.length l0_1) (hc0_1 : l0_1.length ≤ c0_1) (hr0_2 : Kd.C Kd.bool w A0_2 l0_2.length l0_2) (hc0_2 : l0_2.length ≤ c0_2) (h : laws_FnExactWalkOn.f k l0_0 l0_1 l0_2 a0_3 a0_4 a1_0 a1_1 a1_2 a1_3 a1_4 a1_5 a1_6 = some r) :
  Calls Try.prog 11 #[.agg #[.slice A0_0 l0_0.length c0_0, .slice A0_1 l0_1.length c0_1, .slice A0_2 l0_2.length c0_2, .int .i64 a0_3, .int .i64 a0_4], .agg #[.int .i64 a1_0, .int .i64 a1_1, .int .i64 a1_2, .int .i64 a1_3, .int .i64 a1_4, .int .i64 a1_5, .int .i64 a1_6]] w fun e w' => e = .returned (.bool r) ∧ Below w.heap.size w w' := by
 have hu25 := Try.underlying25
 have hu67 := Try.underlying67
 have hu30 := Try.underlying30
 have HR0 := Aside0.mk hr0_0
 have HC0 := Aside0.mk hc0_0
 have HR1 := Aside0.mk hr0_1
 have HC1 := Aside0.mk hc0_1
 have HR2 := Aside0.mk hr0_2
 have HC2 := Aside0.mk hc0_2
 clear hr0_0 hc0_0 hr0_1 hc0_1 hr0_2 hc0_2
 have HB := Aside0.mk (Below.refl w.heap.size w)
 unfold laws_FnExactWalkOn.f at h
 replace h := Option.bind_eq_some_iff.mp h
 obtain ⟨t1, a1, h⟩ := h
 have A1 := Aside0.mk a1
 clear a1
 by_cases c1 : t1 < 0
 ·
  rw [if_pos c1] at h
  have n1 : decide (t1 < 0) = true := decide_eq_true c1
  clear c1
  obtain rfl := Option.some.inj h
  clear h
  go_enter Try.func11, Try.ntmps11
  go_wp2_with (first | ((with_reducible refine gate_dst (N := 2) rfl ?_); refine box_event ?hg (N := 2) ?hd (cs := #[.slice A0_0 l0_0.length c0_0, .slice A0_1 l0_1.length c0_1, .slice A0_2 l0_2.length c0_2, .int .i64 a0_3, .int .i64 a0_4]) (t := 25) ?hr ?_; (case hd => rfl); (case hg => rfl); (case hr => first | (go_simp; done) | (go_simp; rfl)); intro gb2 hg w5 hbox hb; have BK2 := Aside0.mk hbox; replace HB := Aside0.mk (below_step HB.out hb); clear hb hbox hg) | ((with_reducible refine gate_dst (N := 3) rfl ?_); refine box_event ?hg (N := 3) ?hd (cs := #[.int .i64 a1_0, .int .i64 a1_1, .int .i64 a1_2, .int .i64 a1_3, .int .i64 a1_4, .int .i64 a1_5, .int .i64 a1_6]) (t := 67) ?hr ?_; (case hd => rfl); (case hg => rfl); (case hr => first | (go_simp; done) | (go_simp; rfl)); intro gb3 hg w6 hbox hb; have BK3 := Aside0.mk hbox; replace BK2 := Aside0.mk (bb_ BK2.out hb); replace HB := Aside0.mk (below_step HB.out hb); clear hb hbox hg; obtain ⟨hcz0, hcz1, hcz2, hcz3, hcz4⟩ := cz5_ BK2.out; obtain ⟨hfz0, hfz1, hfz2, hfz3, hfz4⟩ := fz5_ BK2.out) | ((with_reducible refine gate_callee (f := 15) rfl ?_); refine ga_ (some 18) Try.func15 #[.agg #[.slice A0_0 l0_0.length c0_0, .slice A0_1 l0_1.length c0_1, .slice A0_2 l0_2.length c0_2, .int .i64 a0_3, .int .i64 a0_4], .int .i64 1048576] ?_; refine (laws_szExploration.calls _ _ l0_0 _ _ l0_1 _ _ l0_2 a0_3 a0_4 1048576 t1 _ (Kd.C_below HR0.out HB.out) HC0.out (Kd.C_below HR1.out HB.out) HC1.out (Kd.C_below HR2.out HB.out) HC2.out A1.out).mono ?_; rintro e w7 ⟨rfl, hb⟩; refine ⟨_, rfl, ?_⟩; replace BK2 := Aside0.mk (bb_ BK2.out hb); replace BK3 := Aside0.mk (bb_ BK3.out hb); replace HB := Aside0.mk (below_step HB.out hb); clear hb))
  go_ret
  exact ⟨rr_, HB.out⟩
 rw [if_neg c1] at h
 have n1 : decide (t1 < 0) = false := decide_eq_false c1
 clear c1
 replace h := Option.bind_eq_some_iff.mp h
 obtain ⟨⟨x1, x2, x3, x4, x5⟩, a2, h⟩ := h
 replace h := Option.bind_eq_some_iff.mp h
 obtain ⟨⟨y0, y1, y2, y3, y4, y5, y6⟩, a3, h⟩ := h
 replace h := Option.bind_eq_some_iff.mp h
 obtain ⟨⟨d1, d2, d3, d4, d5, d6⟩, a4, h⟩ := h
 replace h := Option.bind_eq_some_iff.mp h
 obtain ⟨⟨g1, g2, g3, g4, g5, g6⟩, a5, h⟩ := h
 replace h := Option.bind_eq_some_iff.mp h
 obtain ⟨q1, a6, h⟩ := h
 replace h := Option.bind_eq_some_iff.mp h
 obtain ⟨q2, a7, h⟩ := h
 replace h := Option.bind_eq_some_iff.mp h
 obtain ⟨⟨m, m1, m2, m3⟩, a8, h⟩ := h
 replace h := Option.bind_eq_some_iff.mp h
 obtain ⟨⟨n, p1, p2, p3⟩, a9, h⟩ := h
 replace h := Option.bind_eq_some_iff.mp h
 obtain ⟨hh, a10, h⟩ := h
 simp only at a4 a5 a6 a7 a8 a9 a10 h
 by_cases hq : q1 = true ∧ q2 = true ∧ g6 = d6 ∧ 0 ≤ m ∧ 0 ≤ n ∧ hh = n
 rotate_left
 ·
  rw [if_neg hq] at h
  cases h
 rw [if_pos hq] at h
 obtain rfl := Option.some.inj h
 obtain ⟨rfl, rfl, rfl, h1, h2, rfl⟩ := hq
 have n2 : decide (m < 0) = false := decide_eq_false (by omega)
 have n3 : decide (hh < 0) = false := decide_eq_false (by omega)
 have n4 : (g6 != g6) = false := bne_self_eq_false g6
 have n5 : (hh != hh) = false := bne_self_eq_false hh
 have A2 := Aside0.mk a2
 have A3 := Aside0.mk a3
 have A4 := Aside0.mk a4
 have A5 := Aside0.mk a5
 have A6 := Aside0.mk a6
 have A7 := Aside0.mk a7
 have A8 := Aside0.mk a8
 have A9 := Aside0.mk a9
 have A10 := Aside0.mk a10
 clear h h1 h2 a2 a3 a4 a5 a6 a7 a8 a9 a10
 go_enter Try.func11, Try.ntmps11
 try go_wp2_with (first | ((with_reducible refine gate_dst (N := 2) rfl ?_); refine box_event ?hg (N := 2) ?hd (cs := #[.slice A0_0 l0_0.length c0_0, .slice A0_1 l0_1.length c0_1, .slice A0_2 l0_2.length c0_2, .int .i64 a0_3, .int .i64 a0_4]) (t := 25) ?hr ?_; (case hd => rfl); (case hg => rfl); (case hr => first | (go_simp; done) | (go_simp; rfl)); intro gb2 hg w5 hbox hb; have BK2 := Aside0.mk hbox; replace HB := Aside0.mk (below_step HB.out hb); clear hb hbox hg) | ((with_reducible refine gate_dst (N := 3) rfl ?_); refine box_event ?hg (N := 3) ?hd (cs := #[.int .i64 a1_0, .int .i64 a1_1, .int .i64 a1_2, .int .i64 a1_3, .int .i64 a1_4, .int .i64 a1_5, .int .i64 a1_6]) (t := 67) ?hr ?_; (case hd => rfl); (case hg => rfl); (case hr => first | (go_simp; done) | (go_simp; rfl)); intro gb3 hg w6 hbox hb; have BK3 := Aside0.mk hbox; replace BK2 := Aside0.mk (bb_ BK2.out hb); replace HB := Aside0.mk (below_step HB.out hb); clear hb hbox hg; obtain ⟨hcz0, hcz1, hcz2, hcz3, hcz4⟩ := cz5_ BK2.out; obtain ⟨hfz0, hfz1, hfz2, hfz3, hfz4⟩ := fz5_ BK2.out) | ((with_reducible refine gate_callee (f := 15) rfl ?_); refine ga_ (some 18) Try.func15 #[.agg #[.slice A0_0 l0_0.length c0_0, .slice A0_1 l0_1.length c0_1, .slice A0_2 l0_2.length c0_2, .int .i64 a0_3, .int .i64 a0_4], .int .i64 1048576] ?_; refine (laws_szExploration.calls _ _ l0_0 _ _ l0_1 _ _ l0_2 a0_3 a0_4 1048576 t1 _ (Kd.C_below HR0.out HB.out) HC0.out (Kd.C_below HR1.out HB.out) HC1.out (Kd.C_below HR2.out HB.out) HC2.out A1.out).mono ?_; rintro e w7 ⟨rfl, hb⟩; refine ⟨_, rfl, ?_⟩; replace BK2 := Aside0.mk (bb_ BK2.out hb); replace BK3 := Aside0.mk (bb_ BK3.out hb); replace HB := Aside0.mk (below_step HB.out hb); clear hb))
 (try clear hcz0 hcz1 hcz2 hcz3 hcz4 hfz0 hfz1 hfz2 hfz3 hfz4)
 replace BK2 := Aside0.mk (blk_drew BK2.out)
 replace BK3 := Aside0.mk (blk_drew BK3.out)
 replace HB := Aside0.mk (below_drew HB.out)
 refine start_ (n := 11) (S := fun w' => True) (ds := []) woL5.mkE (by kernel_rfl) rfl rfl trivial (fun hHeld => ?_); refine with_tabW woL5.tab woL5.bits (fun HT_ HW_ => ?_)
 clear hHeld
 generalize w7.drew = wd at BK2 BK3 HB ⊢
 refine inv_at [0, 1, 2, 3, 4, 5, 6, 7, 8, 9, 10] (fun a0_ b a w' => ∃ (v0 v1 v2 u0 u1 u2 m5 m6 : Value) (s : Nat), a = putSel a0_ b [(0, 22, .agg #[.slice A0_0 l0_0.length c0_0, .slice A0_1 l0_1.length c0_1, .slice A0_2 l0_2.length c0_2, .int .i64 a0_3, .int .i64 a0_4]), (2, 24, .agg #[.int .i64 a1_0, .int .i64 a1_1, .int .i64 a1_2, .int .i64 a1_3, .int .i64 a1_4, .int .i64 a1_5, .int .i64 a1_6]), (1, 23, .agg #[v0, v1, v2, .int .i64 x4, .int .i64 x5]), (3, 25, .agg #[.int .i64 y0, .int .i64 y1, .int .i64 y2, .int .i64 y3, .int .i64 y4, .int .i64 y5, .int .i64 y6]), (4, 26, .tuple #[.agg #[u0, u1, u2, .int .i64 d4, .int .i64 d5], .bool g6]), (5, 21, m5), (6, 27, m6), (7, 28, .bool g6), (8, 6, .pointer (some ⟨s, 0, none⟩)), (10, 7, .bool g6)] ∧ (b 5 = true → m5 = .tuple #[.agg #[u0, u1, u2, .int .i64 d4, .int .i64 d5], .bool g6]) ∧ (b 6 = true → m6 = .agg #[u0, u1, u2, .int .i64 d4, .int .i64 d5]) ∧ WoJ wd (x1, x2, x3) (d1, d2, d3, d4, d5) w' (b 1) (b 4) (b 8) (b 9) v0 v1 v2 u0 u1 u2 s) HT_.out HW_.out (by kernel_rfl) (by kernel_rfl) ?_ ?_ ?_
 ·
  exact ⟨.bool false, .bool false, .bool false, .bool false, .bool false, .bool false, .bool false, .bool false, 0, by simp only [putSel, Bool.false_eq_true, if_false], fun h_ => absurd h_ (by decide), fun h_ => absurd h_ (by decide), ⟨Below.refl _ _, fun h_ => absurd h_ (by decide), fun h_ => absurd h_ (by decide), fun h_ => absurd h_ (by decide)⟩⟩
 ·
  skip
  refine steps_cons ?_ ?_
  ·
   rintro b a w' ⟨v0, v1, v2, u0, u1, u2, m5, m6, s, ha, E5_, E6_, J⟩ hb_ hon hoff
   refine ⟨_, rfl, fun K hK => ?_⟩
   have e2 : a.tmps[2]? = some (.pointer (some ⟨gb2, 0, none⟩)) := by rw [ha]; exact (putSel_off rfl).trans rfl
   replace ha := Aside0.mk ha
   obtain ⟨hcz0, hcz1, hcz2, hcz3, hcz4⟩ := cz5_ (bb_ BK2.out J.hB)
   obtain ⟨hfz0, hfz1, hfz2, hfz3, hfz4⟩ := fz5_ (bb_ BK2.out J.hB)
   refine value_ (w1 := w') (v := .agg #[.slice A0_0 l0_0.length c0_0, .slice A0_1 l0_1.length c0_1, .slice A0_2 l0_2.length c0_2, .int .i64 a0_3, .int .i64 a0_4]) (by rfl) rfl ?_ ?_
   ·
    go_simp
    all_goals first | rfl | assumption
   refine hK.out _ _ ⟨v0, v1, v2, u0, u1, u2, m5, m6, s, (by rw [ha.out]; exact putSel_upk 0 hb_ rfl rfl rfl), E5_, E6_, J⟩
  refine steps_cons ?_ ?_
  ·
   rintro b a w' ⟨v0, v1, v2, u0, u1, u2, m5, m6, s, ha, E5_, E6_, J⟩ hb_ hon hoff
   refine ⟨_, rfl, fun K hK => ?_⟩
   have e22 : a.tmps[22]? = some (.agg #[.slice A0_0 l0_0.length c0_0, .slice A0_1 l0_1.length c0_1, .slice A0_2 l0_2.length c0_2, .int .i64 a0_3, .int .i64 a0_4]) := by rw [ha]; exact putSel_on (e := (0, 22, .agg #[.slice A0_0 l0_0.length c0_0, .slice A0_1 l0_1.length c0_1, .slice A0_2 l0_2.length c0_2, .int .i64 a0_3, .int .i64 a0_4])) 0 rfl rfl (hon 0 (by kernel_rfl)) rfl
   replace ha := Aside0.mk ha
   refine goes_ Try.func17 (by kernel_rfl) rfl #[.agg #[.slice A0_0 l0_0.length c0_0, .slice A0_1 l0_1.length c0_1, .slice A0_2 l0_2.length c0_2, .int .i64 a0_3, .int .i64 a0_4]] (by rfl) rfl rfl (by first | (simp only [List.map_toArray, List.map_cons, List.map_nil, Act.eval, Array.getD_eq_getD_getElem?, Option.getD_some, e22]; done) | (simp only [List.map_toArray, List.map_cons, List.map_nil, Act.eval, Array.getD_eq_getD_getElem?, Option.getD_some, e22]; rfl)) ?_
   refine (laws_toExploration.calls k _ _ l0_0 _ _ l0_1 _ _ l0_2 a0_3 a0_4 x1 x2 x3 x4 x5 _ (Kd.C_below HR0.out (below_step HB.out J.hB)) HC0.out (Kd.C_below HR1.out (below_step HB.out J.hB)) HC1.out (Kd.C_below HR2.out (below_step HB.out J.hB)) HC2.out A2.out).mono ?_
   rintro e w7 ⟨z0, z1, z2, rfl, h0, h1, h2, hb⟩
   refine ⟨_, rfl, ?_⟩
   refine hK.out _ _ ⟨z0, z1, z2, u0, u1, u2, m5, m6, s, (by rw [ha.out]; exact putSel_upk 2 hb_ rfl rfl rfl), E5_, E6_, J.callX hb (XR.of (below_size J.hB) h0 h1 h2)⟩
  refine steps_cons ?_ ?_
  ·
   rintro b a w' ⟨v0, v1, v2, u0, u1, u2, m5, m6, s, ha, E5_, E6_, J⟩ hb_ hon hoff
   refine ⟨_, rfl, fun K hK => ?_⟩
   have e3 : a.tmps[3]? = some (.pointer (some ⟨gb3, 0, none⟩)) := by rw [ha]; exact (putSel_off rfl).trans rfl
   replace ha := Aside0.mk ha
   obtain ⟨hcz0, hcz1, hcz2, hcz3, hcz4, hcz5, hcz6⟩ := cz7_ (bb_ BK3.out J.hB)
   obtain ⟨hfz0, hfz1, hfz2, hfz3, hfz4, hfz5, hfz6⟩ := fz7_ (bb_ BK3.out J.hB)
   refine value_ (w1 := w') (v := .agg #[.int .i64 a1_0, .int .i64 a1_1, .int .i64 a1_2, .int .i64 a1_3, .int .i64 a1_4, .int .i64 a1_5, .int .i64 a1_6]) (by rfl) rfl ?_ ?_
   ·
    go_simp
    all_goals first | rfl | assumption
   refine hK.out _ _ ⟨v0, v1, v2, u0, u1, u2, m5, m6, s, (by rw [ha.out]; exact putSel_upk 1 hb_ rfl rfl rfl), E5_, E6_, J⟩
  refine steps_cons ?_ ?_
  ·
   rintro b a w' ⟨v0, v1, v2, u0, u1, u2, m5, m6, s, ha, E5_, E6_, J⟩ hb_ hon hoff
   refine ⟨_, rfl, fun K hK => ?_⟩
   have e24 : a.tmps[24]? = some (.agg #[.int .i64 a1_0, .int .i64 a1_1, .int .i64 a1_2, .int .i64 a1_3, .int .i64 a1_4, .int .i64 a1_5, .int .i64 a1_6]) := by rw [ha]; exact putSel_on (e := (2, 24, .agg #[.int .i64 a1_0, .int .i64 a1_1, .int .i64 a1_2, .int .i64 a1_3, .int .i64 a1_4, .int .i64 a1_5, .int .i64 a1_6])) 1 rfl rfl (hon 2 (by kernel_rfl)) rfl
   replace ha := Aside0.mk ha
   refine goes_ Try.func50 (by kernel_rfl) rfl #[.agg #[.int .i64 a1_0, .int .i64 a1_1, .int .i64 a1_2, .int .i64 a1_3, .int .i64 a1_4, .int .i64 a1_5, .int .i64 a1_6]] (by rfl) rfl rfl (by first | (simp only [List.map_toArray, List.map_cons, List.map_nil, Act.eval, Array.getD_eq_getD_getElem?, Option.getD_some, e24]; done) | (simp only [List.map_toArray, List.map_cons, List.map_nil, Act.eval, Array.getD_eq_getD_getElem?, Option.getD_some, e24]; rfl)) ?_
   refine (laws_toWalk.calls a1_0 a1_1 a1_2 a1_3 a1_4 a1_5 a1_6 y0 y1 y2 y3 y4 y5 y6 _ A3.out).mono ?_
   rintro e w7 ⟨rfl, hb⟩
   refine ⟨_, rfl, ?_⟩
   refine hK.out _ _ ⟨v0, v1, v2, u0, u1, u2, m5, m6, s, (by rw [ha.out]; exact putSel_upk 3 hb_ rfl rfl rfl), E5_, E6_, J.below hb⟩
  refine steps_cons ?_ ?_
  ·
   rintro b a w' ⟨v0, v1, v2, u0, u1, u2, m5, m6, s, ha, E5_, E6_, J⟩ hb_ hon hoff
   refine ⟨_, rfl, fun K hK => ?_⟩
   have e23 : a.tmps[23]? = some (.agg #[v0, v1, v2, .int .i64 x4, .int .i64 x5]) := by rw [ha]; exact putSel_on (e := (1, 23, .agg #[v0, v1, v2, .int .i64 x4, .int .i64 x5])) 2 rfl rfl (hon 1 (by kernel_rfl)) rfl
   have e25 : a.tmps[25]? = some (.agg #[.int .i64 y0, .int .i64 y1, .int .i64 y2, .int .i64 y3, .int .i64 y4, .int .i64 y5, .int .i64 y6]) := by rw [ha]; exact putSel_on (e := (3, 25, .agg #[.int .i64 y0, .int .i64 y1, .int .i64 y2, .int .i64 y3, .int .i64 y4, .int .i64 y5, .int .i64 y6])) 3 rfl rfl (hon 3 (by kernel_rfl)) rfl
   replace ha := Aside0.mk ha
   refine goes_ Try.func23 (by kernel_rfl) rfl #[.agg #[v0, v1, v2, .int .i64 x4, .int .i64 x5], .agg #[.int .i64 y0, .int .i64 y1, .int .i64 y2, .int .i64 y3, .int .i64 y4, .int .i64 y5, .int .i64 y6]] (by rfl) rfl rfl (by first | (simp only [List.map_toArray, List.map_cons, List.map_nil, Act.eval, Array.getD_eq_getD_getElem?, Option.getD_some, e23, e25]; done) | (simp only [List.map_toArray, List.map_cons, List.map_nil, Act.eval, Array.getD_eq_getD_getElem?, Option.getD_some, e23, e25]; rfl)) ?_
   refine (walkS_ k (J.hX (hon 1 (by kernel_rfl))).x3 x4 x5 y0 y1 y2 y3 y4 y5 y6 d1 d2 d3 d4 d5 g6 A4.out).mono ?_
   rintro e w7 ⟨z0, z1, z2, rfl, hr, hb⟩
   refine ⟨_, rfl, ?_⟩
   refine hK.out _ _ ⟨v0, v1, v2, z0, z1, z2, m5, m6, s, (by rw [ha.out]; exact putSel_upk 4 hb_ rfl rfl rfl), (fun h_ => absurd ((hoff 5 (by kernel_rfl)).symm.trans h_) (by decide)), (fun h_ => absurd ((hoff 6 (by kernel_rfl)).symm.trans h_) (by decide)), J.callU (hoff 9 (by kernel_rfl)) hb ⟨Kd.R_lower hr.rL (below_size J.hB), Kd.R_lower hr.rV (below_size J.hB), Kd.R_lower hr.rD (below_size J.hB)⟩⟩
  refine steps_cons ?_ ?_
  ·
   rintro b a w' ⟨v0, v1, v2, u0, u1, u2, m5, m6, s, ha, E5_, E6_, J⟩ hb_ hon hoff
   refine ⟨_, rfl, fun K hK => ?_⟩
   have e26 : a.tmps[26]? = some (.tuple #[.agg #[u0, u1, u2, .int .i64 d4, .int .i64 d5], .bool g6]) := by rw [ha]; exact putSel_on (e := (4, 26, .tuple #[.agg #[u0, u1, u2, .int .i64 d4, .int .i64 d5], .bool g6])) 4 rfl rfl (hon 4 (by kernel_rfl)) rfl
   replace ha := Aside0.mk ha
   refine value_ (w1 := w') (v := .tuple #[.agg #[u0, u1, u2, .int .i64 d4, .int .i64 d5], .bool g6]) (by rfl) rfl ?_ ?_
   ·
    go_simp
    all_goals first | rfl | assumption
   refine hK.out _ _ ⟨v0, v1, v2, u0, u1, u2, .tuple #[.agg #[u0, u1, u2, .int .i64 d4, .int .i64 d5], .bool g6], m6, s, (by rw [ha.out]; exact putSel_upk 5 hb_ rfl rfl rfl), (fun _ => rfl), E6_, J⟩
  refine steps_cons ?_ ?_
  ·
   rintro b a w' ⟨v0, v1, v2, u0, u1, u2, m5, m6, s, ha, E5_, E6_, J⟩ hb_ hon hoff
   refine ⟨_, rfl, fun K hK => ?_⟩
   have h5_ := E5_ (hon 5 (by kernel_rfl))
   subst h5_
   have e21 : a.tmps[21]? = some (.tuple #[.agg #[u0, u1, u2, .int .i64 d4, .int .i64 d5], .bool g6]) := by rw [ha]; exact putSel_on (e := (5, 21, .tuple #[.agg #[u0, u1, u2, .int .i64 d4, .int .i64 d5], .bool g6])) 5 rfl rfl (hon 5 (by kernel_rfl)) rfl
   replace ha := Aside0.mk ha
   refine value_ (w1 := w') (v := .agg #[u0, u1, u2, .int .i64 d4, .int .i64 d5]) (by rfl) rfl ?_ ?_
   ·
    go_simp
    all_goals first | rfl | assumption
   refine hK.out _ _ ⟨v0, v1, v2, u0, u1, u2, .tuple #[.agg #[u0, u1, u2, .int .i64 d4, .int .i64 d5], .bool g6], .agg #[u0, u1, u2, .int .i64 d4, .int .i64 d5], s, (by rw [ha.out]; exact putSel_upk 6 hb_ rfl rfl rfl), (fun _ => rfl), (fun _ => rfl), J⟩
  refine steps_cons ?_ ?_
  ·
   rintro b a w' ⟨v0, v1, v2, u0, u1, u2, m5, m6, s, ha, E5_, E6_, J⟩ hb_ hon hoff
   refine ⟨_, rfl, fun K hK => ?_⟩
   have h5_ := E5_ (hon 5 (by kernel_rfl))
   subst h5_
   have e21 : a.tmps[21]? = some (.tuple #[.agg #[u0, u1, u2, .int .i64 d4, .int .i64 d5], .bool g6]) := by rw [ha]; exact putSel_on (e := (5, 21, .tuple #[.agg #[u0, u1, u2, .int .i64 d4, .int .i64 d5], .bool g6])) 5 rfl rfl (hon 5 (by kernel_rfl)) rfl
   replace ha := Aside0.mk ha
   refine value_ (w1 := w') (v := .bool g6) (by rfl) rfl ?_ ?_
   ·
    go_simp
    all_goals first | rfl | assumption
   refine hK.out _ _ ⟨v0, v1, v2, u0, u1, u2, .tuple #[.agg #[u0, u1, u2, .int .i64 d4, .int .i64 d5], .bool g6], m6, s, (by rw [ha.out]; exact putSel_upk 7 hb_ rfl rfl rfl), (fun _ => rfl), E6_, J⟩
  refine steps_cons ?_ ?_
  ·
   rintro b a w' ⟨v0, v1, v2, u0, u1, u2, m5, m6, s, ha, E5_, E6_, J⟩ hb_ hon hoff
   refine ⟨_, rfl, fun K hK => ?_⟩
   replace ha := Aside0.mk ha
   refine box_step ?hg (N := 6) ?hd (cs := #[.slice none 0 0, .slice none 0 0, .slice none 0 0, .int .i64 0, .int .i64 0]) (t := 30) ?hr ?_; (case hd => rfl); (case hg => rfl); (case hr => first | (go_simp; done) | (go_simp; rfl))
   intro s_ hg w7 hbox hb
   refine hK.out _ _ ⟨v0, v1, v2, u0, u1, u2, m5, m6, s_, (by rw [ha.out]; exact putSel_upk 8 hb_ rfl rfl rfl), E5_, E6_, J.alloc (hoff 9 (by kernel_rfl)) hb hbox hg⟩
  refine steps_cons ?_ ?_
  ·
   rintro b a w' ⟨v0, v1, v2, u0, u1, u2, m5, m6, s, ha, E5_, E6_, J⟩ hb_ hon hoff
   refine ⟨_, rfl, fun K hK => ?_⟩
   have h6 := (J.hK (hon 8 (by kernel_rfl))).1
   rw [show b 9 = false from hb_] at h6
   replace h6 : w'.heap[s]? = some (.cells #[.slice none 0 0, .slice none 0 0, .slice none 0 0, .int .i64 0, .int .i64 0] 30 (0, 0)) := h6
   have e6 : a.tmps[6]? = some (.pointer (some ⟨s, 0, none⟩)) := by rw [ha]; exact putSel_on (e := (8, 6, .pointer (some ⟨s, 0, none⟩))) 8 rfl rfl (hon 8 (by kernel_rfl)) rfl
   have h6_ := E6_ (hon 6 (by kernel_rfl))
   subst h6_
   have hu_ : XR w' wd.heap.size (fun _ => True) u0 u1 u2 d1 d2 d3 := J.hU (hon 4 (by kernel_rfl))
   obtain ⟨q0, z0, ee⟩ := Kd.R_slice hu_.rL
   subst ee
   obtain ⟨q1, z1, ee⟩ := Kd.R_slice hu_.rV
   subst ee
   obtain ⟨q2, z2, ee⟩ := Kd.R_slice hu_.rD
   subst ee
   have e27 : a.tmps[27]? = some (.agg #[.slice q0 d1.length z0, .slice q1 d2.length z1, .slice q2 d3.length z2, .int .i64 d4, .int .i64 d5]) := by rw [ha]; exact putSel_on (e := (6, 27, .agg #[.slice q0 d1.length z0, .slice q1 d2.length z1, .slice q2 d3.length z2, .int .i64 d4, .int .i64 d5])) 6 rfl rfl (hon 6 (by kernel_rfl)) rfl
   replace ha := Aside0.mk ha
   obtain ⟨hcz0, hcz1, hcz2, hcz3, hcz4⟩ := cz5_ h6
   obtain ⟨hfz0, hfz1, hfz2, hfz3, hfz4⟩ := fz5_ h6
   refine skip_ (w1 := ?_) (by rfl) rfl ?_ ?_
   rotate_left
   ·
    go_simp
    rfl
   refine hK.out _ _ ⟨v0, v1, v2, .slice q0 d1.length z0, .slice q1 d2.length z1, .slice q2 d3.length z2, m5, .agg #[.slice q0 d1.length z0, .slice q1 d2.length z1, .slice q2 d3.length z2, .int .i64 d4, .int .i64 d5], s, (by rw [ha.out]; exact (putSel_same rfl).symm), E5_, (fun _ => rfl), J.store (hon 8 (by kernel_rfl))⟩
  refine steps_cons ?_ ?_
  ·
   rintro b a w' ⟨v0, v1, v2, u0, u1, u2, m5, m6, s, ha, E5_, E6_, J⟩ hb_ hon hoff
   refine ⟨_, rfl, fun K hK => ?_⟩
   have e28 : a.tmps[28]? = some (.bool g6) := by rw [ha]; exact putSel_on (e := (7, 28, .bool g6)) 7 rfl rfl (hon 7 (by kernel_rfl)) rfl
   replace ha := Aside0.mk ha
   refine value_ (w1 := w') (v := .bool g6) (by rfl) rfl ?_ ?_
   ·
    go_simp
    all_goals first | rfl | assumption
   refine hK.out _ _ ⟨v0, v1, v2, u0, u1, u2, m5, m6, s, (by rw [ha.out]; exact putSel_upk 9 hb_ rfl rfl rfl), E5_, E6_, J⟩
  exact steps_nil
 rintro b a wz hall ⟨t0, t1_, t2, o0, o1, o2, m5, m6, s6, ha, E5_, E6_, J⟩
 have hb0_ := hall 0 (by kernel_rfl)
 have hb1_ := hall 1 (by kernel_rfl)
 have hb2_ := hall 2 (by kernel_rfl)
 have hb3_ := hall 3 (by kernel_rfl)
 have hb4_ := hall 4 (by kernel_rfl)
 have hb5_ := hall 5 (by kernel_rfl)
 have hb6_ := hall 6 (by kernel_rfl)
 have hb7_ := hall 7 (by kernel_rfl)
 have hb8_ := hall 8 (by kernel_rfl)
 have hb9_ := hall 9 (by kernel_rfl)
 have hb10_ := hall 10 (by kernel_rfl)
 rw [hb1_, hb4_, hb8_, hb9_] at J
 obtain rfl := E5_ hb5_
 obtain rfl := E6_ hb6_
 clear E5_ E6_
 subst ha
 simp only [putSel, hb0_, hb1_, hb2_, hb3_, hb4_, hb5_, hb6_, hb7_, hb8_, hb9_, hb10_, if_true, Act.put, List.setIfInBounds_toArray, List.set_cons_zero, List.set_cons_succ]
 clear hb0_ hb1_ hb2_ hb3_ hb4_ hb5_ hb6_ hb7_ hb8_ hb9_ hb10_ hall
 have HU := Aside0.mk (J.hU rfl).bound
 have BU := Aside0.mk (J.hK rfl).1
 replace BK2 := Aside0.mk (bb_ BK2.out J.hB)
 replace BK3 := Aside0.mk (bb_ BK3.out J.hB)
 replace HB := Aside0.mk (below_step HB.out J.hB)
 have LX := Aside0.mk (below_size HB.out)
 clear J
 replace BU : Aside0 (wz.heap[s6]? = some (.cells #[o0, o1, o2, .int .i64 d4, .int .i64 d5] 30 (0, 0))) := ⟨BU.out⟩
 have HJ := Aside0.mk (Below.refl wz.heap.size wz)
 obtain ⟨hcz0, hcz1, hcz2, hcz3, hcz4⟩ := cz5_ BK2.out
 obtain ⟨hfz0, hfz1, hfz2, hfz3, hfz4⟩ := fz5_ BK2.out
 try go_wp2_with (first | ((with_reducible refine gate_callee (f := 17) rfl ?_); refine ga_ (some 30) Try.func17 #[.agg #[.slice A0_0 l0_0.length c0_0, .slice A0_1 l0_1.length c0_1, .slice A0_2 l0_2.length c0_2, .int .i64 a0_3, .int .i64 a0_4]] ?_; refine (laws_toExploration.calls k _ _ l0_0 _ _ l0_1 _ _ l0_2 a0_3 a0_4 x1 x2 x3 x4 x5 _ (Kd.C_below HR0.out HB.out) HC0.out (Kd.C_below HR1.out HB.out) HC1.out (Kd.C_below HR2.out HB.out) HC2.out A2.out).mono ?_; rintro e w8 ⟨e0, e1, e2, rfl, h0, h1, h2, hb⟩; refine ⟨_, rfl, ?_⟩; obtain ⟨P0, b0, ee⟩ := Kd.R_slice h0; subst ee; obtain ⟨P1, b1, ee⟩ := Kd.R_slice h1; subst ee; obtain ⟨P2, b2, ee⟩ := Kd.R_slice h2; subst ee; have HX := Aside0.mk (XR.of (lo := wz.heap.size) (Nat.le_refl _) h0 h1 h2); replace HJ := Aside0.mk hb; clear hb h0 h1 h2 hcz0 hcz1 hcz2 hcz3 hcz4 hfz0 hfz1 hfz2 hfz3 hfz4) | ((with_reducible refine gate_dst (N := 8) rfl ?_); refine box_event ?hg (N := 8) ?hd (cs := #[.slice none 0 0, .slice none 0 0, .slice none 0 0, .int .i64 0, .int .i64 0]) (t := 30) ?hr ?_; (case hd => rfl); (case hg => rfl); (case hr => first | (go_simp; done) | (go_simp; rfl)); intro g8 hg w9 hbox hb; have BX := Aside0.mk hbox; have GX := Aside0.mk (show wz.heap.size ≤ g8 from by rw [hg]; exact below_size HJ.out); replace HX := Aside0.mk (HX.out.below hb); replace HJ := Aside0.mk (below_step HJ.out hb); clear hb hbox hg; obtain ⟨hcz0, hcz1, hcz2, hcz3, hcz4⟩ := cz5_ BX.out; obtain ⟨hfz0, hfz1, hfz2, hfz3, hfz4⟩ := fz5_ BX.out))
 clear hcz0 hcz1 hcz2 hcz3 hcz4 hfz0 hfz1 hfz2 hfz3 hfz4
 have HX2 := Aside0.mk (HX.out.set5 BX.out (.slice P0 x1.length b0) (.slice P1 x2.length b1) (.slice P2 x3.length b2) (.int .i64 x4) (.int .i64 x5))
 have BX2 := Aside0.mk (set5_blk BX.out (.slice P0 x1.length b0) (.slice P1 x2.length b1) (.slice P2 x3.length b2) (.int .i64 x4) (.int .i64 x5))
 have HJ2 := Aside0.mk (set5_below HJ.out GX.out (.slice P0 x1.length b0) (.slice P1 x2.length b1) (.slice P2 x3.length b2) (.int .i64 x4) (.int .i64 x5))
 clear HX BX HJ
 generalize (((((w9.setCell ⟨g8, 0, none⟩ (.slice P0 x1.length b0)).setCell ⟨g8, 1, none⟩ (.slice P1 x2.length b1)).setCell ⟨g8, 2, none⟩ (.slice P2 x3.length b2)).setCell ⟨g8, 3, none⟩ (.int .i64 x4)).setCell ⟨g8, 4, none⟩ (.int .i64 x5)) = wa at HX2 BX2 HJ2 ⊢
 have HX := Aside0.mk (show XR wa.drew wz.heap.size _ (.slice P0 x1.length b0) (.slice P1 x2.length b1) (.slice P2 x3.length b2) x1 x2 x3 from HX2.out.below (below_drew (Below.refl _ _)))
 have BX := Aside0.mk (blk_drew BX2.out)
 have HJ := Aside0.mk (below_drew HJ2.out)
 clear HX2 BX2 HJ2
 replace HU := Aside0.mk (HU.out.below HJ.out)
 replace BU := Aside0.mk (bb_ BU.out HJ.out)
 replace BK2 := Aside0.mk (bb_ BK2.out HJ.out)
 replace BK3 := Aside0.mk (bb_ BK3.out HJ.out)
 replace HB := Aside0.mk (below_step HB.out HJ.out)
 have NUG := Aside0.mk (below_size HJ.out)
 clear HJ
 refine start_ (n := 10) (S := fun w' => True) (ds := []) woL7.mkE (by kernel_rfl) rfl rfl trivial (fun hHeld => ?_); refine with_tabW woL7.tab woL7.bits (fun HT_ HW_ => ?_)
 clear hHeld
 generalize wa.drew = wb at NUG HX BX HU BU BK2 BK3 HB ⊢
 refine inv_at [0, 1, 2, 3, 4, 5, 6, 7, 8, 9] (fun a0_ b a w' => ∃ (u0 u1 u2 m5 m6 : Value) (s : Nat), a = putSel a0_ b [(0, 32, .agg #[.slice P0 x1.length b0, .slice P1 x2.length b1, .slice P2 x3.length b2, .int .i64 x4, .int .i64 x5]), (1, 33, .agg #[.int .i64 a1_0, .int .i64 a1_1, .int .i64 a1_2, .int .i64 a1_3, .int .i64 a1_4, .int .i64 a1_5, .int .i64 a1_6]), (2, 34, .agg #[.int .i64 y0, .int .i64 y1, .int .i64 y2, .int .i64 y3, .int .i64 y4, .int .i64 y5, .int .i64 y6]), (3, 35, .tuple #[.agg #[u0, u1, u2, .int .i64 g4, .int .i64 g5], .bool g6]), (4, 31, m5), (5, 36, m6), (6, 37, .bool g6), (7, 9, .pointer (some ⟨s, 0, none⟩)), (9, 10, .bool g6)] ∧ (b 4 = true → m5 = .tuple #[.agg #[u0, u1, u2, .int .i64 g4, .int .i64 g5], .bool g6]) ∧ (b 5 = true → m6 = .agg #[u0, u1, u2, .int .i64 g4, .int .i64 g5]) ∧ WoJ wb (x1, x2, x3) (g1, g2, g3, g4, g5) w' false (b 3) (b 7) (b 8) (.bool false) (.bool false) (.bool false) u0 u1 u2 s) HT_.out HW_.out (by kernel_rfl) (by kernel_rfl) ?_ ?_ ?_
 ·
  exact ⟨.bool false, .bool false, .bool false, .bool false, .bool false, 0, by simp only [putSel, Bool.false_eq_true, if_false], fun h_ => absurd h_ (by decide), fun h_ => absurd h_ (by decide), ⟨Below.refl _ _, fun h_ => absurd h_ (by decide), fun h_ => absurd h_ (by decide), fun h_ => absurd h_ (by decide)⟩⟩
 ·
  skip
  refine steps_cons ?_ ?_
  ·
   rintro b a w' ⟨u0, u1, u2, m5, m6, s, ha, E5_, E6_, J⟩ hb_ hon hoff
   refine ⟨_, rfl, fun K hK => ?_⟩
   have e8 : a.tmps[8]? = some (.pointer (some ⟨g8, 0, none⟩)) := by rw [ha]; exact (putSel_off rfl).trans rfl
   replace ha := Aside0.mk ha
   obtain ⟨hcz0, hcz1, hcz2, hcz3, hcz4⟩ := cz5_ (bb_ BX.out J.hB)
   obtain ⟨hfz0, hfz1, hfz2, hfz3, hfz4⟩ := fz5_ (bb_ BX.out J.hB)
   refine value_ (w1 := w') (v := .agg #[.slice P0 x1.length b0, .slice P1 x2.length b1, .slice P2 x3.length b2, .int .i64 x4, .int .i64 x5]) (by rfl) rfl ?_ ?_
   ·
    go_simp
    all_goals first | rfl | assumption
   refine hK.out _ _ ⟨u0, u1, u2, m5, m6, s, (by rw [ha.out]; exact putSel_upk 0 hb_ rfl rfl rfl), E5_, E6_, J⟩
  refine steps_cons ?_ ?_
  ·
   rintro b a w' ⟨u0, u1, u2, m5, m6, s, ha, E5_, E6_, J⟩ hb_ hon hoff
   refine ⟨_, rfl, fun K hK => ?_⟩
   have e3 : a.tmps[3]? = some (.pointer (some ⟨gb3, 0, none⟩)) := by rw [ha]; exact (putSel_off rfl).trans rfl
   replace ha := Aside0.mk ha
   obtain ⟨hcz0, hcz1, hcz2, hcz3, hcz4, hcz5, hcz6⟩ := cz7_ (bb_ BK3.out J.hB)
   obtain ⟨hfz0, hfz1, hfz2, hfz3, hfz4, hfz5, hfz6⟩ := fz7_ (bb_ BK3.out J.hB)
   refine value_ (w1 := w') (v := .agg #[.int .i64 a1_0, .int .i64 a1_1, .int .i64 a1_2, .int .i64 a1_3, .int .i64 a1_4, .int .i64 a1_5, .int .i64 a1_6]) (by rfl) rfl ?_ ?_
   ·
    go_simp
    all_goals first | rfl | assumption
   refine hK.out _ _ ⟨u0, u1, u2, m5, m6, s, (by rw [ha.out]; exact putSel_upk 1 hb_ rfl rfl rfl), E5_, E6_, J⟩
  refine steps_cons ?_ ?_
  ·
   rintro b a w' ⟨u0, u1, u2, m5, m6, s, ha, E5_, E6_, J⟩ hb_ hon hoff
   refine ⟨_, rfl, fun K hK => ?_⟩
   have e33 : a.tmps[33]? = some (.agg #[.int .i64 a1_0, .int .i64 a1_1, .int .i64 a1_2, .int .i64 a1_3, .int .i64 a1_4, .int .i64 a1_5, .int .i64 a1_6]) := by rw [ha]; exact putSel_on (e := (1, 33, .agg #[.int .i64 a1_0, .int .i64 a1_1, .int .i64 a1_2, .int .i64 a1_3, .int .i64 a1_4, .int .i64 a1_5, .int .i64 a1_6])) 1 rfl rfl (hon 1 (by kernel_rfl)) rfl
   replace ha := Aside0.mk ha
   refine goes_ Try.func50 (by kernel_rfl) rfl #[.agg #[.int .i64 a1_0, .int .i64 a1_1, .int .i64 a1_2, .int .i64 a1_3, .int .i64 a1_4, .int .i64 a1_5, .int .i64 a1_6]] (by rfl) rfl rfl (by first | (simp only [List.map_toArray, List.map_cons, List.map_nil, Act.eval, Array.getD_eq_getD_getElem?, Option.getD_some, e33]; done) | (simp only [List.map_toArray, List.map_cons, List.map_nil, Act.eval, Array.getD_eq_getD_getElem?, Option.getD_some, e33]; rfl)) ?_
   refine (laws_toWalk.calls a1_0 a1_1 a1_2 a1_3 a1_4 a1_5 a1_6 y0 y1 y2 y3 y4 y5 y6 _ A3.out).mono ?_
   rintro e w7 ⟨rfl, hb⟩
   refine ⟨_, rfl, ?_⟩
   refine hK.out _ _ ⟨u0, u1, u2, m5, m6, s, (by rw [ha.out]; exact putSel_upk 2 hb_ rfl rfl rfl), E5_, E6_, J.below hb⟩
  refine steps_cons ?_ ?_
  ·
   rintro b a w' ⟨u0, u1, u2, m5, m6, s, ha, E5_, E6_, J⟩ hb_ hon hoff
   refine ⟨_, rfl, fun K hK => ?_⟩
   have e32 : a.tmps[32]? = some (.agg #[.slice P0 x1.length b0, .slice P1 x2.length b1, .slice P2 x3.length b2, .int .i64 x4, .int .i64 x5]) := by rw [ha]; exact putSel_on (e := (0, 32, .agg #[.slice P0 x1.length b0, .slice P1 x2.length b1, .slice P2 x3.length b2, .int .i64 x4, .int .i64 x5])) 0 rfl rfl (hon 0 (by kernel_rfl)) rfl
   have e34 : a.tmps[34]? = some (.agg #[.int .i64 y0, .int .i64 y1, .int .i64 y2, .int .i64 y3, .int .i64 y4, .int .i64 y5, .int .i64 y6]) := by rw [ha]; exact putSel_on (e := (2, 34, .agg #[.int .i64 y0, .int .i64 y1, .int .i64 y2, .int .i64 y3, .int .i64 y4, .int .i64 y5, .int .i64 y6])) 2 rfl rfl (hon 2 (by kernel_rfl)) rfl
   replace ha := Aside0.mk ha
   refine goes_ Try.func22 (by kernel_rfl) rfl #[.agg #[.slice P0 x1.length b0, .slice P1 x2.length b1, .slice P2 x3.length b2, .int .i64 x4, .int .i64 x5], .agg #[.int .i64 y0, .int .i64 y1, .int .i64 y2, .int .i64 y3, .int .i64 y4, .int .i64 y5, .int .i64 y6]] (by rfl) rfl rfl (by first | (simp only [List.map_toArray, List.map_cons, List.map_nil, Act.eval, Array.getD_eq_getD_getElem?, Option.getD_some, e32, e34]; done) | (simp only [List.map_toArray, List.map_cons, List.map_nil, Act.eval, Array.getD_eq_getD_getElem?, Option.getD_some, e32, e34]; rfl)) ?_
   refine (walkI_ k (HX.out.x3.below J.hB) x4 x5 y0 y1 y2 y3 y4 y5 y6 g1 g2 g3 g4 g5 g6 A5.out).mono ?_
   rintro e w7 ⟨z0, z1, z2, rfl, hr, hb⟩
   refine ⟨_, rfl, ?_⟩
   refine hK.out _ _ ⟨z0, z1, z2, m5, m6, s, (by rw [ha.out]; exact putSel_upk 3 hb_ rfl rfl rfl), (fun h_ => absurd ((hoff 4 (by kernel_rfl)).symm.trans h_) (by decide)), (fun h_ => absurd ((hoff 5 (by kernel_rfl)).symm.trans h_) (by decide)), J.callU (hoff 8 (by kernel_rfl)) hb ⟨Kd.R_lower hr.rL (below_size J.hB), Kd.R_lower hr.rV (below_size J.hB), Kd.R_lower hr.rD (below_size J.hB)⟩⟩
  refine steps_cons ?_ ?_
  ·
   rintro b a w' ⟨u0, u1, u2, m5, m6, s, ha, E5_, E6_, J⟩ hb_ hon hoff
   refine ⟨_, rfl, fun K hK => ?_⟩
   have e35 : a.tmps[35]? = some (.tuple #[.agg #[u0, u1, u2, .int .i64 g4, .int .i64 g5], .bool g6]) := by rw [ha]; exact putSel_on (e := (3, 35, .tuple #[.agg #[u0, u1, u2, .int .i64 g4, .int .i64 g5], .bool g6])) 3 rfl rfl (hon 3 (by kernel_rfl)) rfl
   replace ha := Aside0.mk ha
   refine value_ (w1 := w') (v := .tuple #[.agg #[u0, u1, u2, .int .i64 g4, .int .i64 g5], .bool g6]) (by rfl) rfl ?_ ?_
   ·
    go_simp
    all_goals first | rfl | assumption
   refine hK.out _ _ ⟨u0, u1, u2, .tuple #[.agg #[u0, u1, u2, .int .i64 g4, .int .i64 g5], .bool g6], m6, s, (by rw [ha.out]; exact putSel_upk 4 hb_ rfl rfl rfl), (fun _ => rfl), E6_, J⟩
  refine steps_cons ?_ ?_
  ·
   rintro b a w' ⟨u0, u1, u2, m5, m6, s, ha, E5_, E6_, J⟩ hb_ hon hoff
   refine ⟨_, rfl, fun K hK => ?_⟩
   have h5_ := E5_ (hon 4 (by kernel_rfl))
   subst h5_
   have e31 : a.tmps[31]? = some (.tuple #[.agg #[u0, u1, u2, .int .i64 g4, .int .i64 g5], .bool g6]) := by rw [ha]; exact putSel_on (e := (4, 31, .tuple #[.agg #[u0, u1, u2, .int .i64 g4, .int .i64 g5], .bool g6])) 4 rfl rfl (hon 4 (by kernel_rfl)) rfl
   replace ha := Aside0.mk ha
   refine value_ (w1 := w') (v := .agg #[u0, u1, u2, .int .i64 g4, .int .i64 g5]) (by rfl) rfl ?_ ?_
   ·
    go_simp
    all_goals first | rfl | assumption
   refine hK.out _ _ ⟨u0, u1, u2, .tuple #[.agg #[u0, u1, u2, .int .i64 g4, .int .i64 g5], .bool g6], .agg #[u0, u1, u2, .int .i64 g4, .int .i64 g5], s, (by rw [ha.out]; exact putSel_upk 5 hb_ rfl rfl rfl), (fun _ => rfl), (fun _ => rfl), J⟩
  refine steps_cons ?_ ?_
  ·
   rintro b a w' ⟨u0, u1, u2, m5, m6, s, ha, E5_, E6_, J⟩ hb_ hon hoff
   refine ⟨_, rfl, fun K hK => ?_⟩
   have h5_ := E5_ (hon 4 (by kernel_rfl))
   subst h5_
   have e31 : a.tmps[31]? = some (.tuple #[.agg #[u0, u1, u2, .int .i64 g4, .int .i64 g5], .bool g6]) := by rw [ha]; exact putSel_on (e := (4, 31, .tuple #[.agg #[u0, u1, u2, .int .i64 g4, .int .i64 g5], .bool g6])) 4 rfl rfl (hon 4 (by kernel_rfl)) rfl
   replace ha := Aside0.mk ha
   refine value_ (w1 := w') (v := .bool g6) (by rfl) rfl ?_ ?_
   ·
    go_simp
    all_goals first | rfl | assumption
   refine hK.out _ _ ⟨u0, u1, u2, .tuple #[.agg #[u0, u1, u2, .int .i64 g4, .int .i64 g5], .bool g6], m6, s, (by rw [ha.out]; exact putSel_upk 6 hb_ rfl rfl rfl), (fun _ => rfl), E6_, J⟩
  refine steps_cons ?_ ?_
  ·
   rintro b a w' ⟨u0, u1, u2, m5, m6, s, ha, E5_, E6_, J⟩ hb_ hon hoff
   refine ⟨_, rfl, fun K hK => ?_⟩
   replace ha := Aside0.mk ha
   refine box_step ?hg (N := 9) ?hd (cs := #[.slice none 0 0, .slice none 0 0, .slice none 0 0, .int .i64 0, .int .i64 0]) (t := 30) ?hr ?_; (case hd => rfl); (case hg => rfl); (case hr => first | (go_simp; done) | (go_simp; rfl))
   intro s_ hg w7 hbox hb
   refine hK.out _ _ ⟨u0, u1, u2, m5, m6, s_, (by rw [ha.out]; exact putSel_upk 7 hb_ rfl rfl rfl), E5_, E6_, J.alloc (hoff 8 (by kernel_rfl)) hb hbox hg⟩
  refine steps_cons ?_ ?_
  ·
   rintro b a w' ⟨u0, u1, u2, m5, m6, s, ha, E5_, E6_, J⟩ hb_ hon hoff
   refine ⟨_, rfl, fun K hK => ?_⟩
   have h6 := (J.hK (hon 7 (by kernel_rfl))).1
   rw [show b 8 = false from hb_] at h6
   replace h6 : w'.heap[s]? = some (.cells #[.slice none 0 0, .slice none 0 0, .slice none 0 0, .int .i64 0, .int .i64 0] 30 (0, 0)) := h6
   have e9 : a.tmps[9]? = some (.pointer (some ⟨s, 0, none⟩)) := by rw [ha]; exact putSel_on (e := (7, 9, .pointer (some ⟨s, 0, none⟩))) 7 rfl rfl (hon 7 (by kernel_rfl)) rfl
   have h6_ := E6_ (hon 5 (by kernel_rfl))
   subst h6_
   have hu_ : XR w' wb.heap.size (fun _ => True) u0 u1 u2 g1 g2 g3 := J.hU (hon 3 (by kernel_rfl))
   obtain ⟨q0, z0, ee⟩ := Kd.R_slice hu_.rL
   subst ee
   obtain ⟨q1, z1, ee⟩ := Kd.R_slice hu_.rV
   subst ee
   obtain ⟨q2, z2, ee⟩ := Kd.R_slice hu_.rD
   subst ee
   have e36 : a.tmps[36]? = some (.agg #[.slice q0 g1.length z0, .slice q1 g2.length z1, .slice q2 g3.length z2, .int .i64 g4, .int .i64 g5]) := by rw [ha]; exact putSel_on (e := (5, 36, .agg #[.slice q0 g1.length z0, .slice q1 g2.length z1, .slice q2 g3.length z2, .int .i64 g4, .int .i64 g5])) 5 rfl rfl (hon 5 (by kernel_rfl)) rfl
   replace ha := Aside0.mk ha
   obtain ⟨hcz0, hcz1, hcz2, hcz3, hcz4⟩ := cz5_ h6
   obtain ⟨hfz0, hfz1, hfz2, hfz3, hfz4⟩ := fz5_ h6
   refine skip_ (w1 := ?_) (by rfl) rfl ?_ ?_
   rotate_left
   ·
    go_simp
    rfl
   refine hK.out _ _ ⟨.slice q0 g1.length z0, .slice q1 g2.length z1, .slice q2 g3.length z2, m5, .agg #[.slice q0 g1.length z0, .slice q1 g2.length z1, .slice q2 g3.length z2, .int .i64 g4, .int .i64 g5], s, (by rw [ha.out]; exact (putSel_same rfl).symm), E5_, (fun _ => rfl), J.store (hon 7 (by kernel_rfl))⟩
  refine steps_cons ?_ ?_
  ·
   rintro b a w' ⟨u0, u1, u2, m5, m6, s, ha, E5_, E6_, J⟩ hb_ hon hoff
   refine ⟨_, rfl, fun K hK => ?_⟩
   have e37 : a.tmps[37]? = some (.bool g6) := by rw [ha]; exact putSel_on (e := (6, 37, .bool g6)) 6 rfl rfl (hon 6 (by kernel_rfl)) rfl
   replace ha := Aside0.mk ha
   refine value_ (w1 := w') (v := .bool g6) (by rfl) rfl ?_ ?_
   ·
    go_simp
    all_goals first | rfl | assumption
   refine hK.out _ _ ⟨u0, u1, u2, m5, m6, s, (by rw [ha.out]; exact putSel_upk 8 hb_ rfl rfl rfl), E5_, E6_, J⟩
  exact steps_nil
 rintro b a wc hall ⟨i0, i1, i2, m5, m6, s9, ha, E5_, E6_, J⟩
 have hb0_ := hall 0 (by kernel_rfl)
 have hb1_ := hall 1 (by kernel_rfl)
 have hb2_ := hall 2 (by kernel_rfl)
 have hb3_ := hall 3 (by kernel_rfl)
 have hb4_ := hall 4 (by kernel_rfl)
 have hb5_ := hall 5 (by kernel_rfl)
 have hb6_ := hall 6 (by kernel_rfl)
 have hb7_ := hall 7 (by kernel_rfl)
 have hb8_ := hall 8 (by kernel_rfl)
 have hb9_ := hall 9 (by kernel_rfl)
 rw [hb3_, hb7_, hb8_] at J
 obtain rfl := E5_ hb4_
 obtain rfl := E6_ hb5_
 clear E5_ E6_
 subst ha
 simp only [putSel, hb0_, hb1_, hb2_, hb3_, hb4_, hb5_, hb6_, hb7_, hb8_, hb9_, if_true, Act.put, List.setIfInBounds_toArray, List.set_cons_zero, List.set_cons_succ]
 clear hb0_ hb1_ hb2_ hb3_ hb4_ hb5_ hb6_ hb7_ hb8_ hb9_ hall
 have HG := Aside0.mk (J.hU rfl).bound
 have BG := Aside0.mk (J.hK rfl).1
 have TX := Aside0.mk (HX.out.bound)
 have LG := Aside0.mk (below_size HB.out)
 replace HX := Aside0.mk (TX.out.below J.hB)
 replace BX := Aside0.mk (bb_ BX.out J.hB)
 replace HU := Aside0.mk (HU.out.below J.hB)
 replace BU := Aside0.mk (bb_ BU.out J.hB)
 replace BK2 := Aside0.mk (bb_ BK2.out J.hB)
 replace BK3 := Aside0.mk (bb_ BK3.out J.hB)
 replace HB := Aside0.mk (below_step HB.out J.hB)
 clear J TX
 replace BG : Aside0 (wc.heap[s9]? = some (.cells #[i0, i1, i2, .int .i64 g4, .int .i64 g5] 30 (0, 0))) := ⟨BG.out⟩
 obtain ⟨hczg0, hczg1, hczg2, hczg3, hczg4⟩ := cz5_ BG.out; obtain ⟨hfzg0, hfzg1, hfzg2, hfzg3, hfzg4⟩ := fz5_ BG.out
 obtain ⟨hczu0, hczu1, hczu2, hczu3, hczu4⟩ := cz5_ BU.out; obtain ⟨hfzu0, hfzu1, hfzu2, hfzu3, hfzu4⟩ := fz5_ BU.out
 try go_wp2_with (first | ((with_reducible refine gate_callee (f := 19) rfl ?_); refine ga_ (some 40) Try.func19 #[.agg #[i0, i1, i2, .int .i64 g4, .int .i64 g5], .agg #[o0, o1, o2, .int .i64 d4, .int .i64 d5]] ?_; refine (eqX_ k HG.out.x3 HU.out.x3 g4 g5 d4 d5 true A6.out).mono ?_; rintro e we ⟨rfl, hb⟩; refine ⟨_, rfl, ?_⟩; replace HX := Aside0.mk (HX.out.below hb); replace BX := Aside0.mk (bb_ BX.out hb); replace HU := Aside0.mk (HU.out.below hb); replace BU := Aside0.mk (bb_ BU.out hb); replace HG := Aside0.mk (HG.out.below hb); replace BG := Aside0.mk (bb_ BG.out hb); replace BK2 := Aside0.mk (bb_ BK2.out hb); replace BK3 := Aside0.mk (bb_ BK3.out hb); replace HB := Aside0.mk (below_step HB.out hb); clear hb; clear hczg0 hfzg0 hczg1 hfzg1 hczg2 hfzg2 hczg3 hfzg3 hczg4 hfzg4 hczu0 hfzu0 hczu1 hfzu1 hczu2 hfzu2 hczu3 hfzu3 hczu4 hfzu4))
 replace HX := Aside0.mk (HX.out.below (below_drew (Below.refl _ _)))
 replace BX := Aside0.mk (blk_drew BX.out)
 replace HU := Aside0.mk (HU.out.below (below_drew (Below.refl _ _)))
 replace BU := Aside0.mk (blk_drew BU.out)
 replace HG := Aside0.mk (HG.out.below (below_drew (Below.refl _ _)))
 replace BG := Aside0.mk (blk_drew BG.out)
 replace BK2 := Aside0.mk (blk_drew BK2.out)
 replace BK3 := Aside0.mk (blk_drew BK3.out)
 replace HB := Aside0.mk (below_drew HB.out)
 refine start_ (n := 5) (S := fun w' => w'.cell? ⟨g8, 0, none⟩ = some (.slice P0 x1.length b0) ∧ w'.cell? ⟨g8, 1, none⟩ = some (.slice P1 x2.length b1) ∧ w'.cell? ⟨g8, 2, none⟩ = some (.slice P2 x3.length b2) ∧ w'.cell? ⟨g8, 3, none⟩ = some (.int .i64 x4) ∧ w'.cell? ⟨g8, 4, none⟩ = some (.int .i64 x5) ∧ w'.cell? ⟨gb2, 0, none⟩ = some (.slice A0_0 l0_0.length c0_0) ∧ w'.cell? ⟨gb2, 1, none⟩ = some (.slice A0_1 l0_1.length c0_1) ∧ w'.cell? ⟨gb2, 2, none⟩ = some (.slice A0_2 l0_2.length c0_2) ∧ w'.cell? ⟨gb2, 3, none⟩ = some (.int .i64 a0_3) ∧ w'.cell? ⟨gb2, 4, none⟩ = some (.int .i64 a0_4)) (ds := []) woL10.mkE (by kernel_rfl) rfl rfl ⟨(blk_cell BX.out 0).trans rfl, (blk_cell BX.out 1).trans rfl, (blk_cell BX.out 2).trans rfl, (blk_cell BX.out 3).trans rfl, (blk_cell BX.out 4).trans rfl, (blk_cell BK2.out 0).trans rfl, (blk_cell BK2.out 1).trans rfl, (blk_cell BK2.out 2).trans rfl, (blk_cell BK2.out 3).trans rfl, (blk_cell BK2.out 4).trans rfl⟩ (fun hHeld => ?_); refine with_tabW woL10.tab woL10.bits (fun HT_ HW_ => ?_)
 generalize we.drew = wg at HX BX HU BU HG BG BK2 BK3 HB hHeld ⊢
 refine tk_ HT_ HW_ hHeld 0 (some 47) woL10.mk0 ?_
 refine tk_ HT_ HW_ hHeld 1 (some 48) woL10.mk0_1 ?_
 refine one_ (i := 2) (N := some 49) woL10.mk0_1_2 rfl rfl (one_of HT_.out (by kernel_rfl)) (by decide) (fun K hK => ?_)
 refine gs_ Try.func17 #[.agg #[.slice A0_0 l0_0.length c0_0, .slice A0_1 l0_1.length c0_1, .slice A0_2 l0_2.length c0_2, .int .i64 a0_3, .int .i64 a0_4]] ?_
 refine (laws_toExploration.calls k _ _ l0_0 _ _ l0_1 _ _ l0_2 a0_3 a0_4 x1 x2 x3 x4 x5 _ (Kd.C_below HR0.out HB.out) HC0.out (Kd.C_below HR1.out HB.out) HC1.out (Kd.C_below HR2.out HB.out) HC2.out A2.out).mono ?_
 rintro e wh ⟨f0, f1, f2, rfl, h0, h1, h2, hb⟩
 refine ⟨_, rfl, ?_⟩
 have HY := Aside0.mk (XR.of (Nat.le_refl _) h0 h1 h2)
 replace HX := Aside0.mk (HX.out.below hb)
 replace BX := Aside0.mk (bb_ BX.out hb)
 replace HU := Aside0.mk (HU.out.below hb)
 replace BU := Aside0.mk (bb_ BU.out hb)
 replace HG := Aside0.mk (HG.out.below hb)
 replace BG := Aside0.mk (bb_ BG.out hb)
 replace BK2 := Aside0.mk (bb_ BK2.out hb)
 replace BK3 := Aside0.mk (bb_ BK3.out hb)
 replace HB := Aside0.mk (below_step HB.out hb)
 clear hb h0 h1 h2
 refine hK.out _ _ ⟨(blk_cell BX.out 0).trans rfl, (blk_cell BX.out 1).trans rfl, (blk_cell BX.out 2).trans rfl, (blk_cell BX.out 3).trans rfl, (blk_cell BX.out 4).trans rfl, (blk_cell BK2.out 0).trans rfl, (blk_cell BK2.out 1).trans rfl, (blk_cell BK2.out 2).trans rfl, (blk_cell BK2.out 3).trans rfl, (blk_cell BK2.out 4).trans rfl⟩ (fun hHeld => ?_)
 clear hK K
 refine na_ ?_
 refine one_ (i := 3) (N := some 50) woL10.mk0_1_2_3 rfl rfl (one_of HT_.out (by kernel_rfl)) (by decide) (fun K hK => ?_)
 refine gs_ Try.func19 #[.agg #[.slice P0 x1.length b0, .slice P1 x2.length b1, .slice P2 x3.length b2, .int .i64 x4, .int .i64 x5], .agg #[f0, f1, f2, .int .i64 x4, .int .i64 x5]] ?_
 refine (eqX_ k HX.out.x3 HY.out.x3 x4 x5 x4 x5 true A7.out).mono ?_
 rintro e wi ⟨rfl, hb⟩
 refine ⟨_, rfl, ?_⟩
 clear HY
 replace HX := Aside0.mk (HX.out.below hb)
 replace BX := Aside0.mk (bb_ BX.out hb)
 replace HU := Aside0.mk (HU.out.below hb)
 replace BU := Aside0.mk (bb_ BU.out hb)
 replace HG := Aside0.mk (HG.out.below hb)
 replace BG := Aside0.mk (bb_ BG.out hb)
 replace BK2 := Aside0.mk (bb_ BK2.out hb)
 replace BK3 := Aside0.mk (bb_ BK3.out hb)
 replace HB := Aside0.mk (below_step HB.out hb)
 clear hb
 refine hK.out _ _ ⟨(blk_cell BX.out 0).trans rfl, (blk_cell BX.out 1).trans rfl, (blk_cell BX.out 2).trans rfl, (blk_cell BX.out 3).trans rfl, (blk_cell BX.out 4).trans rfl, (blk_cell BK2.out 0).trans rfl, (blk_cell BK2.out 1).trans rfl, (blk_cell BK2.out 2).trans rfl, (blk_cell BK2.out 3).trans rfl, (blk_cell BK2.out 4).trans rfl⟩ (fun hHeld => ?_)
 clear hK K
 refine na_ ?_
 refine pz_ HT_ 4 (some 51) woL10.mk0_1_2_3_4 ?_
 refine done_ (done_of HT_.out (by kernel_rfl)) ?_
 clear hHeld
 obtain ⟨hczx0, hczx1, hczx2, hczx3, hczx4⟩ := cz5_ BX.out; obtain ⟨hfzx0, hfzx1, hfzx2, hfzx3, hfzx4⟩ := fz5_ BX.out
 try go_wp2_with (first | ((with_reducible refine gate_callee (f := 41) rfl ?_); refine ga_ (some 54) Try.func41 #[.agg #[.slice P0 x1.length b0, .slice P1 x2.length b1, .slice P2 x3.length b2, .int .i64 x4, .int .i64 x5], .int .i64 1] ?_; refine (markX_ k HB.out HX.out LX.out x4 x5 1 m m1 m2 m3 A8.out).mono ?_; rintro e wk ⟨rfl, hy, hb, hk⟩; refine ⟨_, rfl, ?_⟩; replace BU := Aside0.mk (HX.out.blk hk BU.out (by decide) (by decide)); replace BG := Aside0.mk (HX.out.blk hk BG.out (by decide) (by decide)); replace BK2 := Aside0.mk (HX.out.blk hk BK2.out (by decide) (by decide)); replace BK3 := Aside0.mk (HX.out.blk hk BK3.out (by decide) (by decide)); replace HU := Aside0.mk (HU.out.kept hk (fun q hq hs => absurd (HX.out.own hs) (by have h1 := hq.1; have h2 := hq.2; rintro ⟨h4, h5⟩; omega))); replace HG := Aside0.mk (HG.out.kept hk (fun q hq hs => absurd (HX.out.own hs) (by have h1 := hq.1; have h2 := hq.2; rintro ⟨h4, h5⟩; omega))); replace HB := Aside0.mk hb; clear hy hb hk HX BX; clear hczx0 hfzx0 hczx1 hfzx1 hczx2 hfzx2 hczx3 hfzx3 hczx4 hfzx4; obtain ⟨hczg0, hczg1, hczg2, hczg3, hczg4⟩ := cz5_ BG.out; obtain ⟨hfzg0, hfzg1, hfzg2, hfzg3, hfzg4⟩ := fz5_ BG.out; obtain ⟨hczu0, hczu1, hczu2, hczu3, hczu4⟩ := cz5_ BU.out; obtain ⟨hfzu0, hfzu1, hfzu2, hfzu3, hfzu4⟩ := fz5_ BU.out) | (go_at_call 19; refine (eqX_ k HG.out.x3 HU.out.x3 g4 g5 d4 d5 true A6.out).mono ?_; rintro e wl ⟨rfl, hb⟩; replace HU := Aside0.mk (HU.out.below hb); replace BU := Aside0.mk (bb_ BU.out hb); replace HG := Aside0.mk (HG.out.below hb); replace BG := Aside0.mk (bb_ BG.out hb); replace BK2 := Aside0.mk (bb_ BK2.out hb); replace BK3 := Aside0.mk (bb_ BK3.out hb); replace HB := Aside0.mk (below_step HB.out hb); clear hb; clear hczg0 hfzg0 hczg1 hfzg1 hczg2 hfzg2 hczg3 hfzg3 hczg4 hfzg4 hczu0 hfzu0 hczu1 hfzu1 hczu2 hfzu2 hczu3 hfzu3 hczu4 hfzu4; obtain ⟨hczg0, hczg1, hczg2, hczg3, hczg4⟩ := cz5_ BG.out; obtain ⟨hfzg0, hfzg1, hfzg2, hfzg3, hfzg4⟩ := fz5_ BG.out) | ((with_reducible refine gate_callee (f := 41) rfl ?_); refine ga_ (some 70) Try.func41 #[.agg #[i0, i1, i2, .int .i64 g4, .int .i64 g5], .int .i64 1] ?_; refine (markX_ k HB.out HG.out LG.out g4 g5 1 hh p1 p2 p3 A9.out).mono ?_; rintro e wm ⟨rfl, hy, hb, hk⟩; refine ⟨_, rfl, ?_⟩; replace BU := Aside0.mk (HG.out.blk hk BU.out (by decide) (by decide)); replace BG := Aside0.mk (HG.out.blk hk BG.out (by decide) (by decide)); replace BK2 := Aside0.mk (HG.out.blk hk BK2.out (by decide) (by decide)); replace BK3 := Aside0.mk (HG.out.blk hk BK3.out (by decide) (by decide)); replace HU := Aside0.mk (HU.out.kept hk (fun q hq hs => absurd (HG.out.own hs) (by have h1 := hq.1; have h2 := hq.2; have h3 := NUG.out; rintro ⟨h4, h5⟩; omega))); replace HB := Aside0.mk hb; have HM := Aside0.mk hy; clear hy hb hk HG; clear hczg0 hfzg0 hczg1 hfzg1 hczg2 hfzg2 hczg3 hfzg3 hczg4 hfzg4; obtain ⟨hczg0, hczg1, hczg2, hczg3, hczg4⟩ := cz5_ BG.out; obtain ⟨hfzg0, hfzg1, hfzg2, hfzg3, hfzg4⟩ := fz5_ BG.out) | ((with_reducible refine gate_callee (f := 42) rfl ?_); refine ga_ (some 73) Try.func42 #[.agg #[i0, i1, i2, .int .i64 g4, .int .i64 g5], .int .i64 1] ?_; refine (heldX_ k HM.out g4 g5 1 hh A10.out).mono ?_; rintro e wn ⟨rfl, hb⟩; refine ⟨_, rfl, ?_⟩; replace HM := Aside0.mk (HM.out.below hb); replace HU := Aside0.mk (HU.out.below hb); replace BU := Aside0.mk (bb_ BU.out hb); replace BG := Aside0.mk (bb_ BG.out hb); replace BK2 := Aside0.mk (bb_ BK2.out hb); replace BK3 := Aside0.mk (bb_ BK3.out hb); replace HB := Aside0.mk (below_step HB.out hb); clear hb; clear hczg0 hfzg0 hczg1 hfzg1 hczg2 hfzg2 hczg3 hfzg3 hczg4 hfzg4))
 replace HM := Aside0.mk (HM.out.below (below_drew (Below.refl _ _)))
 replace HU := Aside0.mk (HU.out.below (below_drew (Below.refl _ _)))
 replace BU := Aside0.mk (blk_drew BU.out)
 replace BG := Aside0.mk (blk_drew BG.out)
 replace BK2 := Aside0.mk (blk_drew BK2.out)
 replace BK3 := Aside0.mk (blk_drew BK3.out)
 replace HB := Aside0.mk (below_drew HB.out)
 refine start_ (n := 11) (S := fun w' => True) (ds := []) woL24.mkE (by kernel_rfl) rfl rfl trivial (fun hHeld => ?_); refine with_tabW woL24.tab woL24.bits (fun HT_ HW_ => ?_)
 clear hHeld
 generalize wn.drew = wp at HM HU BU BG BK2 BK3 HB ⊢
 refine inv_at [0, 1, 2, 3, 4, 5, 6, 7, 8, 9, 10] (fun a0_ b a w' => ∃ (v0 v1 v2 u0 u1 u2 m5 m6 : Value) (s : Nat), a = putSel a0_ b [(0, 80, .agg #[.slice A0_0 l0_0.length c0_0, .slice A0_1 l0_1.length c0_1, .slice A0_2 l0_2.length c0_2, .int .i64 a0_3, .int .i64 a0_4]), (2, 82, .agg #[.int .i64 a1_0, .int .i64 a1_1, .int .i64 a1_2, .int .i64 a1_3, .int .i64 a1_4, .int .i64 a1_5, .int .i64 a1_6]), (1, 81, .agg #[v0, v1, v2, .int .i64 x4, .int .i64 x5]), (3, 83, .agg #[.int .i64 y0, .int .i64 y1, .int .i64 y2, .int .i64 y3, .int .i64 y4, .int .i64 y5, .int .i64 y6]), (4, 84, .tuple #[.agg #[u0, u1, u2, .int .i64 g4, .int .i64 g5], .bool g6]), (5, 79, m5), (6, 85, m6), (7, 86, .bool g6), (8, 14, .pointer (some ⟨s, 0, none⟩)), (10, 15, .bool g6)] ∧ (b 5 = true → m5 = .tuple #[.agg #[u0, u1, u2, .int .i64 g4, .int .i64 g5], .bool g6]) ∧ (b 6 = true → m6 = .agg #[u0, u1, u2, .int .i64 g4, .int .i64 g5]) ∧ WoJ wp (x1, x2, x3) (g1, g2, g3, g4, g5) w' (b 1) (b 4) (b 8) (b 9) v0 v1 v2 u0 u1 u2 s) HT_.out HW_.out (by kernel_rfl) (by kernel_rfl) ?_ ?_ ?_
 ·
  exact ⟨.bool false, .bool false, .bool false, .bool false, .bool false, .bool false, .bool false, .bool false, 0, by simp only [putSel, Bool.false_eq_true, if_false], fun h_ => absurd h_ (by decide), fun h_ => absurd h_ (by decide), ⟨Below.refl _ _, fun h_ => absurd h_ (by decide), fun h_ => absurd h_ (by decide), fun h_ => absurd h_ (by decide)⟩⟩
 ·
  skip
  refine steps_cons ?_ ?_
  ·
   rintro b a w' ⟨v0, v1, v2, u0, u1, u2, m5, m6, s, ha, E5_, E6_, J⟩ hb_ hon hoff
   refine ⟨_, rfl, fun K hK => ?_⟩
   have e2 : a.tmps[2]? = some (.pointer (some ⟨gb2, 0, none⟩)) := by rw [ha]; exact (putSel_off rfl).trans rfl
   replace ha := Aside0.mk ha
   obtain ⟨hcz0, hcz1, hcz2, hcz3, hcz4⟩ := cz5_ (bb_ BK2.out J.hB)
   obtain ⟨hfz0, hfz1, hfz2, hfz3, hfz4⟩ := fz5_ (bb_ BK2.out J.hB)
   refine value_ (w1 := w') (v := .agg #[.slice A0_0 l0_0.length c0_0, .slice A0_1 l0_1.length c0_1, .slice A0_2 l0_2.length c0_2, .int .i64 a0_3, .int .i64 a0_4]) (by rfl) rfl ?_ ?_
   ·
    go_simp
    all_goals first | rfl | assumption
   refine hK.out _ _ ⟨v0, v1, v2, u0, u1, u2, m5, m6, s, (by rw [ha.out]; exact putSel_upk 0 hb_ rfl rfl rfl), E5_, E6_, J⟩
  refine steps_cons ?_ ?_
  ·
   rintro b a w' ⟨v0, v1, v2, u0, u1, u2, m5, m6, s, ha, E5_, E6_, J⟩ hb_ hon hoff
   refine ⟨_, rfl, fun K hK => ?_⟩
   have e80 : a.tmps[80]? = some (.agg #[.slice A0_0 l0_0.length c0_0, .slice A0_1 l0_1.length c0_1, .slice A0_2 l0_2.length c0_2, .int .i64 a0_3, .int .i64 a0_4]) := by rw [ha]; exact putSel_on (e := (0, 80, .agg #[.slice A0_0 l0_0.length c0_0, .slice A0_1 l0_1.length c0_1, .slice A0_2 l0_2.length c0_2, .int .i64 a0_3, .int .i64 a0_4])) 0 rfl rfl (hon 0 (by kernel_rfl)) rfl
   replace ha := Aside0.mk ha
   refine goes_ Try.func17 (by kernel_rfl) rfl #[.agg #[.slice A0_0 l0_0.length c0_0, .slice A0_1 l0_1.length c0_1, .slice A0_2 l0_2.length c0_2, .int .i64 a0_3, .int .i64 a0_4]] (by rfl) rfl rfl (by first | (simp only [List.map_toArray, List.map_cons, List.map_nil, Act.eval, Array.getD_eq_getD_getElem?, Option.getD_some, e80]; done) | (simp only [List.map_toArray, List.map_cons, List.map_nil, Act.eval, Array.getD_eq_getD_getElem?, Option.getD_some, e80]; rfl)) ?_
   refine (laws_toExploration.calls k _ _ l0_0 _ _ l0_1 _ _ l0_2 a0_3 a0_4 x1 x2 x3 x4 x5 _ (Kd.C_below HR0.out (below_step HB.out J.hB)) HC0.out (Kd.C_below HR1.out (below_step HB.out J.hB)) HC1.out (Kd.C_below HR2.out (below_step HB.out J.hB)) HC2.out A2.out).mono ?_
   rintro e w7 ⟨z0, z1, z2, rfl, h0, h1, h2, hb⟩
   refine ⟨_, rfl, ?_⟩
   refine hK.out _ _ ⟨z0, z1, z2, u0, u1, u2, m5, m6, s, (by rw [ha.out]; exact putSel_upk 2 hb_ rfl rfl rfl), E5_, E6_, J.callX hb (XR.of (below_size J.hB) h0 h1 h2)⟩
  refine steps_cons ?_ ?_
  ·
   rintro b a w' ⟨v0, v1, v2, u0, u1, u2, m5, m6, s, ha, E5_, E6_, J⟩ hb_ hon hoff
   refine ⟨_, rfl, fun K hK => ?_⟩
   have e3 : a.tmps[3]? = some (.pointer (some ⟨gb3, 0, none⟩)) := by rw [ha]; exact (putSel_off rfl).trans rfl
   replace ha := Aside0.mk ha
   obtain ⟨hcz0, hcz1, hcz2, hcz3, hcz4, hcz5, hcz6⟩ := cz7_ (bb_ BK3.out J.hB)
   obtain ⟨hfz0, hfz1, hfz2, hfz3, hfz4, hfz5, hfz6⟩ := fz7_ (bb_ BK3.out J.hB)
   refine value_ (w1 := w') (v := .agg #[.int .i64 a1_0, .int .i64 a1_1, .int .i64 a1_2, .int .i64 a1_3, .int .i64 a1_4, .int .i64 a1_5, .int .i64 a1_6]) (by rfl) rfl ?_ ?_
   ·
    go_simp
    all_goals first | rfl | assumption
   refine hK.out _ _ ⟨v0, v1, v2, u0, u1, u2, m5, m6, s, (by rw [ha.out]; exact putSel_upk 1 hb_ rfl rfl rfl), E5_, E6_, J⟩
  refine steps_cons ?_ ?_
  ·
   rintro b a w' ⟨v0, v1, v2, u0, u1, u2, m5, m6, s, ha, E5_, E6_, J⟩ hb_ hon hoff
   refine ⟨_, rfl, fun K hK => ?_⟩
   have e82 : a.tmps[82]? = some (.agg #[.int .i64 a1_0, .int .i64 a1_1, .int .i64 a1_2, .int .i64 a1_3, .int .i64 a1_4, .int .i64 a1_5, .int .i64 a1_6]) := by rw [ha]; exact putSel_on (e := (2, 82, .agg #[.int .i64 a1_0, .int .i64 a1_1, .int .i64 a1_2, .int .i64 a1_3, .int .i64 a1_4, .int .i64 a1_5, .int .i64 a1_6])) 1 rfl rfl (hon 2 (by kernel_rfl)) rfl
   replace ha := Aside0.mk ha
   refine goes_ Try.func50 (by kernel_rfl) rfl #[.agg #[.int .i64 a1_0, .int .i64 a1_1, .int .i64 a1_2, .int .i64 a1_3, .int .i64 a1_4, .int .i64 a1_5, .int .i64 a1_6]] (by rfl) rfl rfl (by first | (simp only [List.map_toArray, List.map_cons, List.map_nil, Act.eval, Array.getD_eq_getD_getElem?, Option.getD_some, e82]; done) | (simp only [List.map_toArray, List.map_cons, List.map_nil, Act.eval, Array.getD_eq_getD_getElem?, Option.getD_some, e82]; rfl)) ?_
   refine (laws_toWalk.calls a1_0 a1_1 a1_2 a1_3 a1_4 a1_5 a1_6 y0 y1 y2 y3 y4 y5 y6 _ A3.out).mono ?_
   rintro e w7 ⟨rfl, hb⟩
   refine ⟨_, rfl, ?_⟩
   refine hK.out _ _ ⟨v0, v1, v2, u0, u1, u2, m5, m6, s, (by rw [ha.out]; exact putSel_upk 3 hb_ rfl rfl rfl), E5_, E6_, J.below hb⟩
  refine steps_cons ?_ ?_
  ·
   rintro b a w' ⟨v0, v1, v2, u0, u1, u2, m5, m6, s, ha, E5_, E6_, J⟩ hb_ hon hoff
   refine ⟨_, rfl, fun K hK => ?_⟩
   have e81 : a.tmps[81]? = some (.agg #[v0, v1, v2, .int .i64 x4, .int .i64 x5]) := by rw [ha]; exact putSel_on (e := (1, 81, .agg #[v0, v1, v2, .int .i64 x4, .int .i64 x5])) 2 rfl rfl (hon 1 (by kernel_rfl)) rfl
   have e83 : a.tmps[83]? = some (.agg #[.int .i64 y0, .int .i64 y1, .int .i64 y2, .int .i64 y3, .int .i64 y4, .int .i64 y5, .int .i64 y6]) := by rw [ha]; exact putSel_on (e := (3, 83, .agg #[.int .i64 y0, .int .i64 y1, .int .i64 y2, .int .i64 y3, .int .i64 y4, .int .i64 y5, .int .i64 y6])) 3 rfl rfl (hon 3 (by kernel_rfl)) rfl
   replace ha := Aside0.mk ha
   refine goes_ Try.func22 (by kernel_rfl) rfl #[.agg #[v0, v1, v2, .int .i64 x4, .int .i64 x5], .agg #[.int .i64 y0, .int .i64 y1, .int .i64 y2, .int .i64 y3, .int .i64 y4, .int .i64 y5, .int .i64 y6]] (by rfl) rfl rfl (by first | (simp only [List.map_toArray, List.map_cons, List.map_nil, Act.eval, Array.getD_eq_getD_getElem?, Option.getD_some, e81, e83]; done) | (simp only [List.map_toArray, List.map_cons, List.map_nil, Act.eval, Array.getD_eq_getD_getElem?, Option.getD_some, e81, e83]; rfl)) ?_
   refine (walkI_ k (J.hX (hon 1 (by kernel_rfl))).x3 x4 x5 y0 y1 y2 y3 y4 y5 y6 g1 g2 g3 g4 g5 g6 A5.out).mono ?_
   rintro e w7 ⟨z0, z1, z2, rfl, hr, hb⟩
   refine ⟨_, rfl, ?_⟩
   refine hK.out _ _ ⟨v0, v1, v2, z0, z1, z2, m5, m6, s, (by rw [ha.out]; exact putSel_upk 4 hb_ rfl rfl rfl), (fun h_ => absurd ((hoff 5 (by kernel_rfl)).symm.trans h_) (by decide)), (fun h_ => absurd ((hoff 6 (by kernel_rfl)).symm.trans h_) (by decide)), J.callU (hoff 9 (by kernel_rfl)) hb ⟨Kd.R_lower hr.rL (below_size J.hB), Kd.R_lower hr.rV (below_size J.hB), Kd.R_lower hr.rD (below_size J.hB)⟩⟩
  refine steps_cons ?_ ?_
  ·
   rintro b a w' ⟨v0, v1, v2, u0, u1, u2, m5, m6, s, ha, E5_, E6_, J⟩ hb_ hon hoff
   refine ⟨_, rfl, fun K hK => ?_⟩
   have e84 : a.tmps[84]? = some (.tuple #[.agg #[u0, u1, u2, .int .i64 g4, .int .i64 g5], .bool g6]) := by rw [ha]; exact putSel_on (e := (4, 84, .tuple #[.agg #[u0, u1, u2, .int .i64 g4, .int .i64 g5], .bool g6])) 4 rfl rfl (hon 4 (by kernel_rfl)) rfl
   replace ha := Aside0.mk ha
   refine value_ (w1 := w') (v := .tuple #[.agg #[u0, u1, u2, .int .i64 g4, .int .i64 g5], .bool g6]) (by rfl) rfl ?_ ?_
   ·
    go_simp
    all_goals first | rfl | assumption
   refine hK.out _ _ ⟨v0, v1, v2, u0, u1, u2, .tuple #[.agg #[u0, u1, u2, .int .i64 g4, .int .i64 g5], .bool g6], m6, s, (by rw [ha.out]; exact putSel_upk 5 hb_ rfl rfl rfl), (fun _ => rfl), E6_, J⟩
  refine steps_cons ?_ ?_
  ·
   rintro b a w' ⟨v0, v1, v2, u0, u1, u2, m5, m6, s, ha, E5_, E6_, J⟩ hb_ hon hoff
   refine ⟨_, rfl, fun K hK => ?_⟩
   have h5_ := E5_ (hon 5 (by kernel_rfl))
   subst h5_
   have e79 : a.tmps[79]? = some (.tuple #[.agg #[u0, u1, u2, .int .i64 g4, .int .i64 g5], .bool g6]) := by rw [ha]; exact putSel_on (e := (5, 79, .tuple #[.agg #[u0, u1, u2, .int .i64 g4, .int .i64 g5], .bool g6])) 5 rfl rfl (hon 5 (by kernel_rfl)) rfl
   replace ha := Aside0.mk ha
   refine value_ (w1 := w') (v := .agg #[u0, u1, u2, .int .i64 g4, .int .i64 g5]) (by rfl) rfl ?_ ?_
   ·
    go_simp
    all_goals first | rfl | assumption
   refine hK.out _ _ ⟨v0, v1, v2, u0, u1, u2, .tuple #[.agg #[u0, u1, u2, .int .i64 g4, .int .i64 g5], .bool g6], .agg #[u0, u1, u2, .int .i64 g4, .int .i64 g5], s, (by rw [ha.out]; exact putSel_upk 6 hb_ rfl rfl rfl), (fun _ => rfl), (fun _ => rfl), J⟩
  refine steps_cons ?_ ?_
  ·
   rintro b a w' ⟨v0, v1, v2, u0, u1, u2, m5, m6, s, ha, E5_, E6_, J⟩ hb_ hon hoff
   refine ⟨_, rfl, fun K hK => ?_⟩
   have h5_ := E5_ (hon 5 (by kernel_rfl))
   subst h5_
   have e79 : a.tmps[79]? = some (.tuple #[.agg #[u0, u1, u2, .int .i64 g4, .int .i64 g5], .bool g6]) := by rw [ha]; exact putSel_on (e := (5, 79, .tuple #[.agg #[u0, u1, u2, .int .i64 g4, .int .i64 g5], .bool g6])) 5 rfl rfl (hon 5 (by kernel_rfl)) rfl
   replace ha := Aside0.mk ha
   refine value_ (w1 := w') (v := .bool g6) (by rfl) rfl ?_ ?_
   ·
    go_simp
    all_goals first | rfl | assumption
   refine hK.out _ _ ⟨v0, v1, v2, u0, u1, u2, .tuple #[.agg #[u0, u1, u2, .int .i64 g4, .int .i64 g5], .bool g6], m6, s, (by rw [ha.out]; exact putSel_upk 7 hb_ rfl rfl rfl), (fun _ => rfl), E6_, J⟩
  refine steps_cons ?_ ?_
  ·
   rintro b a w' ⟨v0, v1, v2, u0, u1, u2, m5, m6, s, ha, E5_, E6_, J⟩ hb_ hon hoff
   refine ⟨_, rfl, fun K hK => ?_⟩
   replace ha := Aside0.mk ha
   refine box_step ?hg (N := 14) ?hd (cs := #[.slice none 0 0, .slice none 0 0, .slice none 0 0, .int .i64 0, .int .i64 0]) (t := 30) ?hr ?_; (case hd => rfl); (case hg => rfl); (case hr => first | (go_simp; done) | (go_simp; rfl))
   intro s_ hg w7 hbox hb
   refine hK.out _ _ ⟨v0, v1, v2, u0, u1, u2, m5, m6, s_, (by rw [ha.out]; exact putSel_upk 8 hb_ rfl rfl rfl), E5_, E6_, J.alloc (hoff 9 (by kernel_rfl)) hb hbox hg⟩
  refine steps_cons ?_ ?_
  ·
   rintro b a w' ⟨v0, v1, v2, u0, u1, u2, m5, m6, s, ha, E5_, E6_, J⟩ hb_ hon hoff
   refine ⟨_, rfl, fun K hK => ?_⟩
   have h6 := (J.hK (hon 8 (by kernel_rfl))).1
   rw [show b 9 = false from hb_] at h6
   replace h6 : w'.heap[s]? = some (.cells #[.slice none 0 0, .slice none 0 0, .slice none 0 0, .int .i64 0, .int .i64 0] 30 (0, 0)) := h6
   have e14 : a.tmps[14]? = some (.pointer (some ⟨s, 0, none⟩)) := by rw [ha]; exact putSel_on (e := (8, 14, .pointer (some ⟨s, 0, none⟩))) 8 rfl rfl (hon 8 (by kernel_rfl)) rfl
   have h6_ := E6_ (hon 6 (by kernel_rfl))
   subst h6_
   have hu_ : XR w' wp.heap.size (fun _ => True) u0 u1 u2 g1 g2 g3 := J.hU (hon 4 (by kernel_rfl))
   obtain ⟨q0, z0, ee⟩ := Kd.R_slice hu_.rL
   subst ee
   obtain ⟨q1, z1, ee⟩ := Kd.R_slice hu_.rV
   subst ee
   obtain ⟨q2, z2, ee⟩ := Kd.R_slice hu_.rD
   subst ee
   have e85 : a.tmps[85]? = some (.agg #[.slice q0 g1.length z0, .slice q1 g2.length z1, .slice q2 g3.length z2, .int .i64 g4, .int .i64 g5]) := by rw [ha]; exact putSel_on (e := (6, 85, .agg #[.slice q0 g1.length z0, .slice q1 g2.length z1, .slice q2 g3.length z2, .int .i64 g4, .int .i64 g5])) 6 rfl rfl (hon 6 (by kernel_rfl)) rfl
   replace ha := Aside0.mk ha
   obtain ⟨hcz0, hcz1, hcz2, hcz3, hcz4⟩ := cz5_ h6
   obtain ⟨hfz0, hfz1, hfz2, hfz3, hfz4⟩ := fz5_ h6
   refine skip_ (w1 := ?_) (by rfl) rfl ?_ ?_
   rotate_left
   ·
    go_simp
    rfl
   refine hK.out _ _ ⟨v0, v1, v2, .slice q0 g1.length z0, .slice q1 g2.length z1, .slice q2 g3.length z2, m5, .agg #[.slice q0 g1.length z0, .slice q1 g2.length z1, .slice q2 g3.length z2, .int .i64 g4, .int .i64 g5], s, (by rw [ha.out]; exact (putSel_same rfl).symm), E5_, (fun _ => rfl), J.store (hon 8 (by kernel_rfl))⟩
  refine steps_cons ?_ ?_
  ·
   rintro b a w' ⟨v0, v1, v2, u0, u1, u2, m5, m6, s, ha, E5_, E6_, J⟩ hb_ hon hoff
   refine ⟨_, rfl, fun K hK => ?_⟩
   have e86 : a.tmps[86]? = some (.bool g6) := by rw [ha]; exact putSel_on (e := (7, 86, .bool g6)) 7 rfl rfl (hon 7 (by kernel_rfl)) rfl
   replace ha := Aside0.mk ha
   refine value_ (w1 := w') (v := .bool g6) (by rfl) rfl ?_ ?_
   ·
    go_simp
    all_goals first | rfl | assumption
   refine hK.out _ _ ⟨v0, v1, v2, u0, u1, u2, m5, m6, s, (by rw [ha.out]; exact putSel_upk 9 hb_ rfl rfl rfl), E5_, E6_, J⟩
  exact steps_nil
 rintro b a wq hall ⟨t0, t1_, t2, j0, j1, j2, m5, m6, s14, ha, E5_, E6_, J⟩
 have hb0_ := hall 0 (by kernel_rfl)
 have hb1_ := hall 1 (by kernel_rfl)
 have hb2_ := hall 2 (by kernel_rfl)
 have hb3_ := hall 3 (by kernel_rfl)
 have hb4_ := hall 4 (by kernel_rfl)
 have hb5_ := hall 5 (by kernel_rfl)
 have hb6_ := hall 6 (by kernel_rfl)
 have hb7_ := hall 7 (by kernel_rfl)
 have hb8_ := hall 8 (by kernel_rfl)
 have hb9_ := hall 9 (by kernel_rfl)
 have hb10_ := hall 10 (by kernel_rfl)
 rw [hb1_, hb4_, hb8_, hb9_] at J
 obtain rfl := E5_ hb5_
 obtain rfl := E6_ hb6_
 clear E5_ E6_
 subst ha
 simp only [putSel, hb0_, hb1_, hb2_, hb3_, hb4_, hb5_, hb6_, hb7_, hb8_, hb9_, hb10_, if_true, Act.put, List.setIfInBounds_toArray, List.set_cons_zero, List.set_cons_succ]
 clear hb0_ hb1_ hb2_ hb3_ hb4_ hb5_ hb6_ hb7_ hb8_ hb9_ hb10_ hall
 have HH := Aside0.mk (J.hU rfl)
 have BH := Aside0.mk (J.hK rfl).1
 replace HM := Aside0.mk (HM.out.below J.hB)
 replace HU := Aside0.mk (HU.out.below J.hB)
 replace BU := Aside0.mk (bb_ BU.out J.hB)
 replace BG := Aside0.mk (bb_ BG.out J.hB)
 replace BK2 := Aside0.mk (bb_ BK2.out J.hB)
 replace BK3 := Aside0.mk (bb_ BK3.out J.hB)
 replace HB := Aside0.mk (below_step HB.out J.hB)
 clear J
 replace BH : Aside0 (wq.heap[s14]? = some (.cells #[j0, j1, j2, .int .i64 g4, .int .i64 g5] 30 (0, 0))) := ⟨BH.out⟩
 obtain ⟨hczh0, hczh1, hczh2, hczh3, hczh4⟩ := cz5_ BH.out; obtain ⟨hfzh0, hfzh1, hfzh2, hfzh3, hfzh4⟩ := fz5_ BH.out
 obtain ⟨hczu0, hczu1, hczu2, hczu3, hczu4⟩ := cz5_ BU.out; obtain ⟨hfzu0, hfzu1, hfzu2, hfzu3, hfzu4⟩ := fz5_ BU.out
 go_wp2_with (first | ((with_reducible refine gate_callee (f := 19) rfl ?_); refine ga_ (some 89) Try.func19 #[.agg #[j0, j1, j2, .int .i64 g4, .int .i64 g5], .agg #[o0, o1, o2, .int .i64 d4, .int .i64 d5]] ?_; refine (eqX_ k HH.out.x3 HU.out.x3 g4 g5 d4 d5 true A6.out).mono ?_; rintro e wr ⟨rfl, hb⟩; refine ⟨_, rfl, ?_⟩; replace HM := Aside0.mk (HM.out.below hb); replace BG := Aside0.mk (bb_ BG.out hb); replace HB := Aside0.mk (below_step HB.out hb); clear hb; clear HH HU BU BH; clear hczh0 hfzh0 hczh1 hfzh1 hczh2 hfzh2 hczh3 hfzh3 hczh4 hfzh4 hczu0 hfzu0 hczu1 hfzu1 hczu2 hfzu2 hczu3 hfzu3 hczu4 hfzu4; obtain ⟨hczg0, hczg1, hczg2, hczg3, hczg4⟩ := cz5_ BG.out; obtain ⟨hfzg0, hfzg1, hfzg2, hfzg3, hfzg4⟩ := fz5_ BG.out) | ((with_reducible refine gate_callee (f := 42) rfl ?_); refine ga_ (some 98) Try.func42 #[.agg #[i0, i1, i2, .int .i64 g4, .int .i64 g5], .int .i64 1] ?_; refine (heldX_ k HM.out g4 g5 1 hh A10.out).mono ?_; rintro e ws ⟨rfl, hb⟩; refine ⟨_, rfl, ?_⟩; replace HM := Aside0.mk (HM.out.below hb); replace BG := Aside0.mk (bb_ BG.out hb); replace HB := Aside0.mk (below_step HB.out hb); clear hb; clear hczg0 hfzg0 hczg1 hfzg1 hczg2 hfzg2 hczg3 hfzg3 hczg4 hfzg4))
 go_ret
 exact ⟨rr_, HB.out⟩
end Go.Proofs.Ythmjimboajmhmaa.Pr

namespace Go.Proofs.YthmjimboajmhmaaW.Opens
open Go.ChangeShapes Go.WideShapes Go.RowKit
open Go.Deep (open_slice choose_lt)
open Go.Proofs.YthmjimboajmhmaaW.PrintWords
set_option linter.unusedVariables false
set_option linter.unusedSimpArgs false
def Opn {α : Type} (P : Program) (t : TypeId) (d : Kd α) (wf : α → Prop) : Prop :=
 P.cellsOf t = d.sz ∧ ∀ (H : Type) (enc : TypeId × Value → H) (W : World) (fuel : Nat) (cs : List Value) (x : DataW H × List MemPlace),
  DataW.trod enc P W 0 (fun _ => true) true fuel t cs = some x → (∀ n ∈ x.1.weights P t, n ≤ reachBytes) → ∃ y, d.K W y cs ∧ wf y
theorem Opn.int {P : Program} {t : TypeId} {k : IntKind} (hc : P.cellsOf t = 1) (ht : P.underlying t = some (.int k)) : Opn P t (Kd.int k) (fun n => (Lit.int k n).wf = true) :=
 ⟨hc, fun H enc W fuel cs x h _ => by
  obtain ⟨m, rfl, rfl, hw⟩ := DataW.trod_int ht h
  exact ⟨m, rfl, hw⟩⟩
theorem Opn.bool {P : Program} {t : TypeId} (hc : P.cellsOf t = 1) (ht : P.underlying t = some .bool) : Opn P t Kd.bool (fun _ => True) :=
 ⟨hc, fun H enc W fuel cs x h _ => by
  obtain ⟨m, rfl, rfl⟩ := DataW.trod_bool ht h
  exact ⟨m, rfl, trivial⟩⟩
theorem weightsAll_mem {H : Type} {P : Program} {e : TypeId} : ∀ {l : List (DataW H)} {d : DataW H}, d ∈ l → ∀ n ∈ d.weights P e, n ∈ DataW.weightsAll P e l
 | _ :: r, d, h, n, hn => by
  simp only [DataW.weightsAll, List.mem_append]
  rcases List.mem_cons.1 h with rfl | h
  ·
   exact .inl hn
  ·
   exact .inr (weightsAll_mem h n hn)
theorem Opn.slice {α : Type} (z : α) {P : Program} {t e : TypeId} {d : Kd α} {wf : α → Prop} {B : Nat} (hc : P.cellsOf t = 1) (ht : P.underlying t = some (.slice e)) (hB : P.bytesOf e = B) (h : Opn P e d wf) :
  Opn P t (Kd.slice e d) (fun xs => xs.length ≤ maxLen ∧ xs.length * B ≤ 140737488351232 ∧ ∀ y ∈ xs, wf y) :=
 ⟨hc, fun H enc W fuel cs x hf hw => by
  haveI : Inhabited α := ⟨z⟩
  rcases open_slice ht hf with ⟨rfl, rfl⟩ | ⟨a, len, cap, m, n, D, Pl, rfl, _, hl, hm, hmm, rfl, each⟩
  ·
   exact ⟨[], ⟨none, 0, rfl, Nat.le_refl _, rfl, by simp, fun h => absurd h (Nat.lt_irrefl 0)⟩, by simp, by simp, by simp⟩
  ·
   rw [if_pos rfl] at hmm
   subst hmm
   have hw0 : ∀ n ∈ DataW.weights P t (DataW.slice (H := H) ((List.range len).map D) ((List.range (m - len)).map fun j => D (len + j))), n ≤ reachBytes := hw
   have hww : ∀ i, i < len → ∀ n ∈ (D i).weights P e, n ≤ reachBytes := by
    intro i hi n hn
    refine hw0 n ?_
    simp only [DataW.weights, ht, List.mem_cons, List.mem_append]
    exact .inr (.inl (weightsAll_mem (List.mem_map.2 ⟨i, List.mem_range.2 hi, rfl⟩) n hn))
   have hB2 : len * B ≤ 140737488351232 := by
    have := hw0 ((len + (m - len)) * B) (by simp [DataW.weights, ht, hB])
    refine Nat.le_trans (Nat.mul_le_mul_right _ (by omega)) this
   have hx : ∀ i, i < len → ∃ y, ∃ c : List Value, c.length = d.sz ∧ d.K W y c ∧ wf y ∧ ∀ j u, c[j]? = some u → W.cell? (a.add (i * d.sz + j)) = some u := by
    intro i hi
    obtain ⟨cs', h1, h2⟩ := each i (by omega)
    obtain ⟨y, hy, hwy⟩ := h.2 H enc W n cs' _ h2 (hww i hi)
    obtain ⟨_, hlen, hcell⟩ := World.cells?_some h1
    rw [h.1] at hlen hcell
    refine ⟨y, cs', hlen, hy, hwy, fun j u hu => ?_⟩
    have hj : j < d.sz := by
     have := (List.getElem?_eq_some_iff.1 hu).1
     omega
    have := hcell j hj
    rw [add_add] at this
    exact this.trans hu
   obtain ⟨f, hf'⟩ := choose_lt hx
   refine ⟨(List.range len).map f, ⟨some a, m, by simp, by simpa using hl, by simp, by simp only [maxLen] at hm; simp; omega, fun _ => ⟨a, rfl, fun j p hj => ?_⟩⟩, ?_, ?_, ?_⟩
   ·
    rw [List.getElem?_map] at hj
    have hj' : j < len := by
     by_cases hjl : j < len
     ·
      exact hjl
     ·
      rw [List.getElem?_eq_none (by simp; omega)] at hj
      cases hj
    rw [List.getElem?_range hj'] at hj
    obtain rfl := Option.some.inj hj
    obtain ⟨c, h1, h2, _, h3⟩ := hf' j hj'
    exact ⟨c, h1, h2, h3⟩
   ·
    simp; omega
   ·
    simpa using hB2
   ·
    intro y hy
    obtain ⟨i, hi, rfl⟩ := List.mem_map.1 hy
    obtain ⟨c, _, _, h2, _⟩ := hf' i (List.mem_range.1 hi)
    exact h2⟩
def FOpn {α : Type} (P : Program) (fs : List Field) (off : Nat) (d : Kd α) (wf : α → Prop) : Prop :=
 ∀ (H : Type) (enc : TypeId × Value → H) (W : World) (fuel : Nat) (cs : List Value) (xs : List (DataW H × List MemPlace)),
  xs.length = fs.length → (∀ (i : Nat) (f : Field), fs[i]? = some f → DataW.trod enc P W 0 (fun _ => true) true fuel f.type ((cs.drop f.offset).take (P.cellsOf f.type)) = xs[i]?) →
  (∀ n ∈ DataW.weightsEach P (fs.map (·.type)) (xs.map (·.1)), n ≤ reachBytes) → ∃ y, d.K W y ((cs.drop off).take d.sz) ∧ wf y
theorem FOpn.one {α : Type} {P : Program} {f : Field} {off : Nat} {d : Kd α} {wf : α → Prop} (ho : f.offset = off) (h : Opn P f.type d wf) : FOpn P [f] off d wf := by
 intro H enc W fuel cs xs hl hx hw
 match xs, hl with
 | [x], _ =>
  have h0 := hx 0 f rfl
  rw [ho, h.1] at h0
  exact h.2 H enc W fuel _ x h0 (fun n hn => hw n (by simp only [List.map, DataW.weightsEach, List.mem_append]; exact .inl hn))
theorem FOpn.cons {α β : Type} {P : Program} {f : Field} {fs : List Field} {off : Nat} {d : Kd α} {d' : Kd β} {wf : α → Prop} {wf' : β → Prop} (ho : f.offset = off) (h : Opn P f.type d wf) (h' : FOpn P fs (off + d.sz) d' wf') :
  FOpn P (f :: fs) off (Kd.pair d d') (fun x => wf x.1 ∧ wf' x.2) := by
 intro H enc W fuel cs xs hl hx hw
 match xs, hl with
 | x :: xs, hl =>
  have h0 := hx 0 f rfl
  rw [ho, h.1] at h0
  have hw' : ∀ n ∈ x.1.weights P f.type ++ DataW.weightsEach P (fs.map (·.type)) (xs.map (·.1)), n ≤ reachBytes := hw
  obtain ⟨y, hy, hwy⟩ := h.2 H enc W fuel _ x h0 (fun n hn => hw' n (List.mem_append_left _ hn))
  obtain ⟨y', hy', hwy'⟩ := h' H enc W fuel cs xs (by simpa using hl) (fun i f' hf' => hx (i + 1) f' (by simpa using hf')) (fun n hn => hw' n (List.mem_append_right _ hn))
  refine ⟨(y, y'), ⟨_, _, ?_, hy, hy'⟩, hwy, hwy'⟩
  show (cs.drop off).take (d.sz + d'.sz) = _
  rw [List.take_add, List.drop_drop]
theorem Opn.struct {α β : Type} {P : Program} {t : TypeId} {fs : Array Field} {d : Kd α} {wf : α → Prop} (f : β → α) (g : α → β) (hfg : ∀ x, f (g x) = x) (hc : P.cellsOf t = d.sz) (ht : P.underlying t = some (.struct fs)) (h : FOpn P fs.toList 0 d wf) :
  Opn P t (Kd.iso d f) (fun x => wf (f x)) :=
 ⟨hc, fun H enc W fuel cs x hf hw => by
  obtain ⟨xs, n, rfl, rfl, hl, hxs, each⟩ := DataW.trod_struct ht hf
  obtain ⟨y, hy, hwy⟩ := h H enc W n cs xs (by simpa using hxs) (fun i f' hf' => each i f' (by simpa using hf')) (fun n hn => hw n (by simp only [DataW.weights, ht]; exact hn))
  rw [List.drop_zero, List.take_of_length_le (by rw [hl, hc]; exact Nat.le_refl _)] at hy
  exact ⟨g y, (by rw [← hfg y] at hy; exact hy), (by rw [← hfg y] at hwy; exact hwy)⟩⟩
theorem par_weights {H : Type} {P : Program} {ts : List TypeId} {ds : List (DataW H)} {j : Nat} {t : TypeId} {d : DataW H} (h : (DataW.weightsEach P ts ds).all (· ≤ reachBytes) = true) (ht : ts[j]? = some t) (hd : ds[j]? = some d) :
  ∀ n ∈ d.weights P t, n ≤ reachBytes := fun n hn => of_decide_eq_true (List.all_eq_true.1 h n (DataW.weights_mem_each ht hd n hn))
theorem par_struct {α : Type} {H : Type} {enc : TypeId × Value → H} {P : Program} {W : World} {r : Reach} {b0 : Nat} {t : TypeId} {fs : Array Field} {d : Kd α} {wf : α → Prop} {v : Value} {D : DataW H} {ps : List MemPlace}
  (ht : P.underlying t = some (.struct fs)) (ho : Opn P t d wf) (hv : Value.okWide P W r b0 t v) (hd : DataW.Trod enc P W 0 (fun _ => true) true t v D ps) (hw : ∀ n ∈ D.weights P t, n ≤ reachBytes) :
  ∃ (cs : List Value) (x : α), v = .agg cs.toArray ∧ d.K W x cs ∧ wf x := by
 obtain ⟨cs, rfl, _⟩ := okWide_struct ht hv
 obtain ⟨fuel, hf⟩ := hd
 obtain ⟨y, hy, hwy⟩ := ho.2 H enc W fuel _ _ hf hw
 exact ⟨cs.toList, y, by simp, hy, hwy⟩
end Go.Proofs.YthmjimboajmhmaaW.Opens

namespace Go.Proofs.Ythmjimboajmhmaa.Pr
open Go.RowKit Go.Proofs.YthmjimboajmhmaaW.PrintWords Go.Proofs.YthmjimboajmhmaaW.PrintLast Go.Proofs.YthmjimboajmhmaaW.Opens
set_option linter.unusedVariables false
def wf65 (x : S65) : Prop := (Lit.int .i64 x.f0).wf = true ∧ (Lit.int .i64 x.f1).wf = true ∧ (Lit.int .i64 x.f2).wf = true ∧ (Lit.int .i64 x.f3).wf = true ∧ (Lit.int .i64 x.f4).wf = true
theorem opn65 : Opn Try.prog 65 k65 wf65 := Opn.struct (fun x : S65 => (x.f0, x.f1, x.f2, x.f3, x.f4)) (fun p => ⟨p.1, p.2.1, p.2.2.1, p.2.2.2.1, p.2.2.2.2⟩) (fun _ => rfl) (by kernel_rfl) Try.underlying65 (FOpn.cons rfl (Opn.int (by kernel_rfl) Try.underlying3) (FOpn.cons rfl (Opn.int (by kernel_rfl) Try.underlying3) (FOpn.cons rfl (Opn.int (by kernel_rfl) Try.underlying3) (FOpn.cons rfl (Opn.int (by kernel_rfl) Try.underlying3) (FOpn.one rfl (Opn.int (by kernel_rfl) Try.underlying3))))))
def wfL65 (l : List S65) : Prop := l.length ≤ maxLen ∧ l.length * 40 ≤ 140737488351232 ∧ ∀ y ∈ l, wf65 y
theorem opnL22 : Opn Try.prog 22 (Kd.slice 65 k65) wfL65 := Opn.slice z65 (by kernel_rfl) Try.underlying22 (by kernel_rfl) opn65
def wfL4 (l : List Bool) : Prop := l.length ≤ maxLen ∧ l.length * 1 ≤ 140737488351232 ∧ ∀ y ∈ l, True
theorem opnL23 : Opn Try.prog 23 (Kd.slice 4 Kd.bool) wfL4 := Opn.slice false (by kernel_rfl) Try.underlying23 (by kernel_rfl) (Opn.bool (by kernel_rfl) Try.underlying4)
def wf25 (x : S25) : Prop := wfL65 x.f0 ∧ wfL4 x.f1 ∧ wfL4 x.f2 ∧ (Lit.int .i64 x.f3).wf = true ∧ (Lit.int .i64 x.f4).wf = true
theorem opn25 : Opn Try.prog 25 k25 wf25 := Opn.struct (fun x : S25 => (x.f0, x.f1, x.f2, x.f3, x.f4)) (fun p => ⟨p.1, p.2.1, p.2.2.1, p.2.2.2.1, p.2.2.2.2⟩) (fun _ => rfl) (by kernel_rfl) Try.underlying25 (FOpn.cons rfl opnL22 (FOpn.cons rfl opnL23 (FOpn.cons rfl opnL23 (FOpn.cons rfl (Opn.int (by kernel_rfl) Try.underlying3) (FOpn.one rfl (Opn.int (by kernel_rfl) Try.underlying3))))))
theorem kq25_open {w : World} {x : S25} {cs : List Value} (h : k25.K w x cs) : ∃ (A0 : Option Addr) (c0 : Nat) (A1 : Option Addr) (c1 : Nat) (A2 : Option Addr) (c2 : Nat), cs = [.slice A0 x.f0.length c0, .slice A1 x.f1.length c1, .slice A2 x.f2.length c2, .int .i64 x.f3, .int .i64 x.f4] ∧ x.f0.length ≤ c0 ∧ Kd.C k65 w A0 x.f0.length x.f0 ∧ x.f1.length ≤ c1 ∧ Kd.C Kd.bool w A1 x.f1.length x.f1 ∧ x.f2.length ≤ c2 ∧ Kd.C Kd.bool w A2 x.f2.length x.f2 := by
 obtain ⟨_, _, rfl, ⟨A0, c0, rfl, hl0, hC0⟩, ⟨_, _, rfl, ⟨A1, c1, rfl, hl1, hC1⟩, ⟨_, _, rfl, ⟨A2, c2, rfl, hl2, hC2⟩, ⟨_, _, rfl, rfl, rfl⟩⟩⟩⟩ := h
 exact ⟨A0, c0, A1, c1, A2, c2, rfl, hl0, hC0, hl1, hC1, hl2, hC2⟩
def wf67 (x : S67) : Prop := (Lit.int .i64 x.f0).wf = true ∧ (Lit.int .i64 x.f1).wf = true ∧ wf65 x.f2
theorem opn67 : Opn Try.prog 67 k67 wf67 := Opn.struct (fun x : S67 => (x.f0, x.f1, x.f2)) (fun p => ⟨p.1, p.2.1, p.2.2⟩) (fun _ => rfl) (by kernel_rfl) Try.underlying67 (FOpn.cons rfl (Opn.int (by kernel_rfl) Try.underlying3) (FOpn.cons rfl (Opn.int (by kernel_rfl) Try.underlying3) (FOpn.one rfl opn65)))
theorem kq67_open {w : World} {x : S67} {cs : List Value} (h : k67.K w x cs) : cs = [.int .i64 x.f0, .int .i64 x.f1, .int .i64 x.f2.f0, .int .i64 x.f2.f1, .int .i64 x.f2.f2, .int .i64 x.f2.f3, .int .i64 x.f2.f4] := by
 obtain ⟨_, _, rfl, rfl, ⟨_, _, rfl, rfl, ⟨_, _, rfl, rfl, ⟨_, _, rfl, rfl, ⟨_, _, rfl, rfl, ⟨_, _, rfl, rfl, rfl⟩⟩⟩⟩⟩⟩ := h
 exact rfl
def FnExactWalkOn.Pure : Prop := ∀ (x0 : S25) (x1 : S67), wf25 x0 → wf67 x1 → ∃ k, laws_FnExactWalkOn.f k x0.f0 x0.f1 x0.f2 x0.f3 x0.f4 x1.f0 x1.f1 x1.f2.f0 x1.f2.f1 x1.f2.f2 x1.f2.f3 x1.f2.f4 = some true
end Go.Proofs.Ythmjimboajmhmaa.Pr

namespace Go.Proofs.Ythmjimboajmhmaa.Pr.Pure
open Go.RowKit Go.Proofs.YthmjimboajmhmaaW.PrintWords Go.Proofs.YthmjimboajmhmaaW.PrintLast Go.Proofs.YthmjimboajmhmaaW.PrintMore
set_option linter.unusedVariables false
set_option linter.unusedSimpArgs false
def FAR : Int := 1073741824
structure Arc where
 a : Int
 b : Int
 t : Int
def step1 (D : List Int) (a b t : Int) : List Int := if rd D a + t < rd D b then D.set b.toNat (rd D a + t) else D
def rnd (A : List Arc) (D : List Int) : List Int := A.foldl (fun D e => step1 D e.a e.b e.t) D
def it (A : List Arc) : Nat → List Int → List Int
 | 0, D => D
 | k + 1, D => rnd A (it A k D)
def In8 (i : Int) : Prop := 0 ≤ i ∧ i < 8
def OkA (A : List Arc) : Prop := ∀ e, e ∈ A → In8 e.a ∧ In8 e.b ∧ 1 ≤ e.t ∧ e.t ≤ 500
theorem rd_set {D : List Int} (hl : D.length = 8) {b i : Int} (hb : In8 b) (hi : In8 i) (x : Int) : rd (D.set b.toNat x) i = if i = b then x else rd D i := by
 unfold rd
 obtain ⟨hb0, hb1⟩ := hb
 obtain ⟨hi0, hi1⟩ := hi
 rw [List.getD_eq_getElem?_getD, List.getD_eq_getElem?_getD]
 by_cases e : i = b
 ·
  subst e
  rw [if_pos rfl, List.getElem?_set_self (by omega)]
  rfl
 ·
  rw [if_neg e, List.getElem?_set_ne (by omega)]
theorem len_step1 (D : List Int) (a b t : Int) : (step1 D a b t).length = D.length := by
 unfold step1
 split
 ·
  rw [List.length_set]
 ·
  rfl
theorem len_rnd (A : List Arc) : ∀ D : List Int, (rnd A D).length = D.length := by
 induction A with
 | nil => intro D; rfl
 | cons e A ih =>
  intro D
  show (rnd A (step1 D e.a e.b e.t)).length = _
  rw [ih, len_step1]
theorem rd_step1 {D : List Int} (hl : D.length = 8) {a b i : Int} (hb : In8 b) (hi : In8 i) (t : Int) : rd (step1 D a b t) i = if i = b ∧ rd D a + t < rd D b then rd D a + t else rd D i := by
 unfold step1
 by_cases h : rd D a + t < rd D b
 ·
  rw [if_pos h, rd_set hl hb hi]
  by_cases e : i = b
  ·
   rw [if_pos e, if_pos ⟨e, h⟩]
  ·
   rw [if_neg e, if_neg (fun z => e z.1)]
 ·
  rw [if_neg h, if_neg (fun z => h z.2)]
theorem step1_le {D : List Int} (hl : D.length = 8) {a b i : Int} (hb : In8 b) (hi : In8 i) (t : Int) : rd (step1 D a b t) i ≤ rd D i := by
 rw [rd_step1 hl hb hi]
 split
 ·
  rename_i h
  obtain ⟨rfl, h⟩ := h
  omega
 ·
  omega
theorem rnd_le (A : List Arc) (hA : OkA A) : ∀ (D : List Int), D.length = 8 → ∀ i, In8 i → rd (rnd A D) i ≤ rd D i := by
 induction A with
 | nil => intro D _ i _; exact Int.le_refl _
 | cons e A ih =>
  intro D hl i hi
  have h1 := ih (fun x hx => hA x (List.mem_cons_of_mem _ hx)) (step1 D e.a e.b e.t) (by rw [len_step1, hl]) i hi
  have h2 := step1_le (a := e.a) (t := e.t) hl (hA e List.mem_cons_self).2.1 hi
  exact Int.le_trans h1 h2
theorem rnd_arc (A : List Arc) (hA : OkA A) : ∀ (D : List Int), D.length = 8 → ∀ e, e ∈ A → rd (rnd A D) e.b ≤ rd D e.a + e.t := by
 induction A with
 | nil => intro D _ e he; cases he
 | cons x A ih =>
  intro D hl e he
  have hA' : OkA A := fun x hx => hA x (List.mem_cons_of_mem _ hx)
  have hx := hA x List.mem_cons_self
  have hl' : (step1 D x.a x.b x.t).length = 8 := by rw [len_step1, hl]
  show rd (rnd A (step1 D x.a x.b x.t)) e.b ≤ _
  rcases List.mem_cons.1 he with rfl | he'
  ·
   have h1 := rnd_le A hA' _ hl' e.b hx.2.1
   rw [rd_step1 hl hx.2.1 hx.2.1] at h1
   split at h1
   ·
    exact h1
   ·
    rename_i h
    have : ¬ (rd D e.a + e.t < rd D e.b) := fun z => h ⟨rfl, z⟩
    omega
  ·
   have h1 := ih hA' _ hl' e he'
   have h2 := step1_le (a := x.a) (t := x.t) hl hx.2.1 (hA e he).1
   omega
structure Inv (A : List Arc) (D : List Int) : Prop where
 len : D.length = 8
 lo : ∀ i, In8 i → 0 ≤ rd D i
 hi : ∀ i, In8 i → rd D i ≤ FAR
 zero : rd D 0 = 0
 tight : ∀ v, In8 v → v ≠ 0 → rd D v < FAR → ∃ e, e ∈ A ∧ e.b = v ∧ rd D e.a + e.t ≤ rd D v
theorem step_inv {A : List Arc} (hA : OkA A) {D : List Int} (h : Inv A D) {e : Arc} (he : e ∈ A) : Inv A (step1 D e.a e.b e.t) := by
 obtain ⟨ha, hb, ht, ht'⟩ := hA e he
 have hz : In8 0 := ⟨by omega, by omega⟩
 have la := h.lo e.a ha
 have hle := fun i hi => step1_le (a := e.a) (t := e.t) h.len hb (i := i) hi
 refine ⟨by rw [len_step1, h.len], fun i hi => ?_, fun i hi => Int.le_trans (hle i hi) (h.hi i hi), ?_, fun v hv hv0 hf => ?_⟩
 ·
  rw [rd_step1 h.len hb hi]
  split
  ·
   omega
  ·
   exact h.lo i hi
 ·
  rw [rd_step1 h.len hb hz]
  split
  ·
   rename_i z
   obtain ⟨z1, z2⟩ := z
   rw [← z1, h.zero] at z2
   omega
  ·
   exact h.zero
 ·
  by_cases hc : v = e.b ∧ rd D e.a + e.t < rd D e.b
  ·
   refine ⟨e, he, hc.1.symm, ?_⟩
   have := hle e.a ha
   have h2 := rd_step1 (a := e.a) (t := e.t) h.len hb hv
   rw [if_pos hc] at h2
   omega
  ·
   have h2 := rd_step1 (a := e.a) (t := e.t) h.len hb hv
   rw [if_neg hc] at h2
   rw [h2] at hf ⊢
   obtain ⟨x, hx, hxb, hxl⟩ := h.tight v hv hv0 hf
   exact ⟨x, hx, hxb, by have := hle x.a (hA x hx).1; omega⟩
theorem rnd_inv' {A : List Arc} (hA : OkA A) (B : List Arc) : (∀ e, e ∈ B → e ∈ A) → ∀ D, Inv A D → Inv A (rnd B D) := by
 induction B with
 | nil => intro _ D h; exact h
 | cons e B ih =>
  intro hB D h
  exact ih (fun x hx => hB x (List.mem_cons_of_mem _ hx)) _ (step_inv hA h (hB e List.mem_cons_self))
theorem rnd_inv {A : List Arc} (hA : OkA A) {D : List Int} (h : Inv A D) : Inv A (rnd A D) := rnd_inv' hA A (fun _ he => he) D h
theorem it_inv {A : List Arc} (hA : OkA A) {D : List Int} (h : Inv A D) : ∀ k, Inv A (it A k D)
 | 0 => h
 | k + 1 => rnd_inv hA (it_inv hA h k)
theorem cases8 {i : Int} (h : In8 i) : i = 0 ∨ i = 1 ∨ i = 2 ∨ i = 3 ∨ i = 4 ∨ i = 5 ∨ i = 6 ∨ i = 7 := by
 obtain ⟨h1, h2⟩ := h
 omega
theorem ext8 {D E : List Int} (hD : D.length = 8) (hE : E.length = 8) (h : ∀ i, In8 i → rd D i = rd E i) : D = E := by
 apply List.ext_getElem (by omega)
 intro i h1 h2
 have := h (i : Int) ⟨by omega, by omega⟩
 unfold rd at this
 rw [Int.toNat_natCast, List.getD_eq_getElem?_getD, List.getD_eq_getElem?_getD, List.getElem?_eq_getElem h1, List.getElem?_eq_getElem h2] at this
 exact this
def sum8 (D : List Int) : Int := rd D 0 + rd D 1 + rd D 2 + rd D 3 + rd D 4 + rd D 5 + rd D 6 + rd D 7
theorem le_or {D E : List Int} (hD : D.length = 8) (hE : E.length = 8) (h : ∀ i, In8 i → rd E i ≤ rd D i) : E = D ∨ sum8 E < sum8 D := by
 by_cases hq : ∀ i, In8 i → rd E i = rd D i
 ·
  exact .inl (ext8 hE hD hq)
 ·
  right
  obtain ⟨i, hi⟩ := Classical.not_forall.1 hq
  obtain ⟨hi8, hne⟩ := Classical.not_imp.1 hi
  have hlt : rd E i < rd D i := by have := h i hi8; omega
  have h0 := h 0 ⟨by omega, by omega⟩
  have h1 := h 1 ⟨by omega, by omega⟩
  have h2 := h 2 ⟨by omega, by omega⟩
  have h3 := h 3 ⟨by omega, by omega⟩
  have h4 := h 4 ⟨by omega, by omega⟩
  have h5 := h 5 ⟨by omega, by omega⟩
  have h6 := h 6 ⟨by omega, by omega⟩
  have h7 := h 7 ⟨by omega, by omega⟩
  unfold sum8
  rcases cases8 hi8 with rfl | rfl | rfl | rfl | rfl | rfl | rfl | rfl <;> omega
theorem sum8_nonneg {A : List Arc} {D : List Int} (h : Inv A D) : 0 ≤ sum8 D := by
 have h0 := h.lo 0 ⟨by omega, by omega⟩
 have h1 := h.lo 1 ⟨by omega, by omega⟩
 have h2 := h.lo 2 ⟨by omega, by omega⟩
 have h3 := h.lo 3 ⟨by omega, by omega⟩
 have h4 := h.lo 4 ⟨by omega, by omega⟩
 have h5 := h.lo 5 ⟨by omega, by omega⟩
 have h6 := h.lo 6 ⟨by omega, by omega⟩
 have h7 := h.lo 7 ⟨by omega, by omega⟩
 unfold sum8
 omega
theorem it_succ (A : List Arc) : ∀ (k : Nat) (D : List Int), it A (k + 1) D = it A k (rnd A D)
 | 0, D => rfl
 | k + 1, D => by
  show rnd A (it A (k + 1) D) = rnd A (it A k (rnd A D))
  rw [it_succ A k D]
theorem exists_fix {A : List Arc} (hA : OkA A) (n : Nat) : ∀ D, Inv A D → sum8 D ≤ n → ∃ N, rnd A (it A N D) = it A N D := by
 induction n with
 | zero =>
  intro D h hs
  rcases le_or h.len (by rw [len_rnd, h.len]) (rnd_le A hA D h.len) with e | e
  ·
   exact ⟨0, e⟩
  ·
   have := sum8_nonneg (rnd_inv hA h)
   omega
 | succ n ih =>
  intro D h hs
  rcases le_or h.len (by rw [len_rnd, h.len]) (rnd_le A hA D h.len) with e | e
  ·
   exact ⟨0, e⟩
  ·
   obtain ⟨N, hN⟩ := ih (rnd A D) (rnd_inv hA h) (by omega)
   refine ⟨N + 1, ?_⟩
   rw [it_succ]
   exact hN
theorem it_fix {A : List Arc} {D : List Int} (h : rnd A D = D) : ∀ k, it A k D = D
 | 0 => rfl
 | k + 1 => by
  show rnd A (it A k D) = D
  rw [it_fix h k, h]
theorem it_add (A : List Arc) (D : List Int) (j : Nat) : ∀ k, it A (j + k) D = it A k (it A j D)
 | 0 => rfl
 | k + 1 => by
  show rnd A (it A (j + k) D) = rnd A (it A k (it A j D))
  rw [it_add A D j k]
theorem it_anti {A : List Arc} (hA : OkA A) {D : List Int} (h : Inv A D) (j : Nat) : ∀ k i, In8 i → rd (it A (j + k) D) i ≤ rd (it A j D) i
 | 0, i, hi => Int.le_refl _
 | k + 1, i, hi => Int.le_trans (rnd_le A hA _ (it_inv hA h (j + k)).len i hi) (it_anti hA h j k i hi)
def cnt (d : List Int) (i v : Int) : Nat := if rd d i < rd d v then 1 else 0
theorem cnt_mono (d : List Int) {u v : Int} (h : rd d u < rd d v) (i : Int) : cnt d i u ≤ cnt d i v := by
 unfold cnt
 split <;> split <;> omega
theorem cnt_le (d : List Int) (i v : Int) : cnt d i v ≤ 1 := by
 unfold cnt
 split <;> omega
theorem cnt_self (d : List Int) (v : Int) : cnt d v v = 0 := by
 unfold cnt
 rw [if_neg (by omega)]
theorem cnt_yes (d : List Int) {u v : Int} (h : rd d u < rd d v) : cnt d u v = 1 := by
 unfold cnt
 rw [if_pos h]
def rank (d : List Int) (v : Int) : Nat := cnt d 0 v + cnt d 1 v + cnt d 2 v + cnt d 3 v + cnt d 4 v + cnt d 5 v + cnt d 6 v + cnt d 7 v
theorem rank_lt (d : List Int) {u v : Int} (hu : In8 u) (h : rd d u < rd d v) : rank d u < rank d v := by
 have m := cnt_mono d h
 have m0 := m 0
 have m1 := m 1
 have m2 := m 2
 have m3 := m 3
 have m4 := m 4
 have m5 := m 5
 have m6 := m 6
 have m7 := m 7
 have s := cnt_self d u
 have y := cnt_yes d h
 clear m h
 unfold rank
 rcases cases8 hu with rfl | rfl | rfl | rfl | rfl | rfl | rfl | rfl <;> omega
theorem rank_le (d : List Int) {v : Int} (hv : In8 v) : rank d v ≤ 7 := by
 have m := fun i => cnt_le d i v
 have m0 := m 0
 have m1 := m 1
 have m2 := m 2
 have m3 := m 3
 have m4 := m 4
 have m5 := m 5
 have m6 := m 6
 have m7 := m 7
 have s := cnt_self d v
 clear m
 unfold rank
 rcases cases8 hv with rfl | rfl | rfl | rfl | rfl | rfl | rfl | rfl <;> omega
def D0 : List Int := [0, FAR, FAR, FAR, FAR, FAR, FAR, FAR]
theorem D0_far {v : Int} (hv : In8 v) (h0 : v ≠ 0) : rd D0 v = FAR := by
 rcases cases8 hv with rfl | rfl | rfl | rfl | rfl | rfl | rfl | rfl
 ·
  exact absurd rfl h0
 all_goals rfl
theorem D0_inv (A : List Arc) : Inv A D0 := by
 refine ⟨rfl, fun i hi => ?_, fun i hi => ?_, rfl, fun v hv h0 hf => ?_⟩
 ·
  by_cases h : i = 0
  ·
   rw [h]; decide
  ·
   rw [D0_far hi h]; decide
 ·
  by_cases h : i = 0
  ·
   rw [h]; decide
  ·
   rw [D0_far hi h]; decide
 ·
  rw [D0_far hv h0] at hf
  omega
theorem it_rank {A : List Arc} (hA : OkA A) {d : List Int} (hd : Inv A d) (hle : ∀ k i, In8 i → rd d i ≤ rd (it A k D0) i) : ∀ (k : Nat) (v : Int), In8 v → rank d v ≤ k → rd (it A k D0) v = rd d v := by
 intro k
 induction k with
 | zero =>
  intro v hv hr
  by_cases h0 : v = 0
  ·
   rw [h0, hd.zero]; rfl
  ·
   show rd D0 v = _
   rw [D0_far hv h0]
   have h1 := hd.hi v hv
   by_cases hf : rd d v < FAR
   ·
    obtain ⟨e, he, rfl, hl⟩ := hd.tight v hv h0 hf
    obtain ⟨ha, hb, ht, _⟩ := hA e he
    have := rank_lt d ha (show rd d e.a < rd d e.b by omega)
    omega
   ·
    omega
 | succ k ih =>
  intro v hv hr
  have h1 := hle (k + 1) v hv
  have h2 := (it_inv hA (D0_inv A) (k + 1)).hi v hv
  by_cases h0 : v = 0
  ·
   rw [h0, hd.zero, (it_inv hA (D0_inv A) (k + 1)).zero]
  ·
   by_cases hf : rd d v < FAR
   ·
    obtain ⟨e, he, rfl, hl⟩ := hd.tight v hv h0 hf
    obtain ⟨ha, hb, ht, _⟩ := hA e he
    have h3 := rank_lt d ha (show rd d e.a < rd d e.b by omega)
    have h4 := ih e.a ha (by omega)
    have h5 := rnd_arc A hA _ (it_inv hA (D0_inv A) k).len e he
    have h6 : rd (it A (k + 1) D0) e.b ≤ rd (it A k D0) e.a + e.t := h5
    omega
   ·
    have := hd.hi v hv
    omega
theorem fix7 {A : List Arc} (hA : OkA A) : rnd A (it A 7 D0) = it A 7 D0 := by
 obtain ⟨N, hN⟩ := exists_fix hA (sum8 D0).toNat D0 (D0_inv A) (by have := sum8_nonneg (D0_inv A); omega)
 have hi := it_inv hA (D0_inv A) N
 have hle : ∀ k i, In8 i → rd (it A N D0) i ≤ rd (it A k D0) i := by
  intro k i hi8
  rcases Nat.le_total k N with h | h
  ·
   have := it_anti hA (D0_inv A) k (N - k) i hi8
   rwa [show k + (N - k) = N by omega] at this
  ·
   have := it_add A D0 N (k - N)
   rw [show N + (k - N) = k by omega, it_fix hN] at this
   rw [this]
   exact Int.le_refl _
 have e : it A 7 D0 = it A N D0 := ext8 (it_inv hA (D0_inv A) 7).len hi.len (fun i h8 => it_rank hA hi hle 7 i h8 (rank_le _ h8))
 rw [e, hN]
def dec (x : Int) : Int := if x = FAR then -1 else x
def Bd (c : Int) (D : List Int) : Prop := ∀ i, In8 i → rd D i = FAR ∨ rd D i ≤ c
theorem Bd.mono {c c' : Int} {D : List Int} (h : Bd c D) (hc : c ≤ c') : Bd c' D := fun i hi => by
 rcases h i hi with h | h
 ·
  exact .inl h
 ·
  exact .inr (by omega)
theorem step_bd {c : Int} {D : List Int} (hl : D.length = 8) (h : Bd c D) {a b t : Int} (ha : In8 a) (hb : In8 b) (ht : t ≤ 500) (hh : ∀ i, In8 i → rd D i ≤ FAR) (ht0 : 0 ≤ t) : Bd (c + 500) (step1 D a b t) := fun i hi => by
 rw [rd_step1 hl hb hi]
 split
 ·
  rename_i z
  rcases h a ha with e | e
  ·
   have := hh b hb
   omega
  ·
   exact .inr (by omega)
 ·
  rcases h i hi with e | e
  ·
   exact .inl e
  ·
   exact .inr (by omega)
theorem rd_map {D : List Int} (hl : D.length = 8) {i : Int} (hi : In8 i) : rd (D.map dec) i = dec (rd D i) := by
 obtain ⟨h0, h1⟩ := hi
 unfold rd
 rw [List.getD_eq_getElem?_getD, List.getD_eq_getElem?_getD, List.getElem?_map, List.getElem?_eq_getElem (by omega)]
 rfl
theorem dec_nonneg {x : Int} (h : 0 ≤ x) (h' : x ≤ FAR) : dec x ≥ 0 ↔ x < FAR := by
 unfold dec
 split <;> omega
theorem map_set_dec (D : List Int) (n : Nat) (x : Int) (hx : x ≠ FAR) : (D.map dec).set n x = (D.set n x).map dec := by
 rw [List.map_set]
 congr 1
 unfold dec
 rw [if_neg hx]
theorem cond_dec {c : Int} {D : List Int} (hl : D.length = 8) (hlo : ∀ i, In8 i → 0 ≤ rd D i) (hhi : ∀ i, In8 i → rd D i ≤ FAR) (hb : Bd c D) (hc : c + 500 < FAR) {a b t : Int} (ha : In8 a) (hb8 : In8 b) (ht : 1 ≤ t) (ht' : t ≤ 500) :
  (rd (D.map dec) a ≥ 0 ↔ rd D a < FAR) ∧ (rd D a < FAR → rd (D.map dec) a = rd D a ∧ (rd (D.map dec) b < 0 ∨ rd D a + t < rd (D.map dec) b ↔ rd D a + t < rd D b) ∧ rd D a + t < FAR) ∧ (¬ rd D a < FAR → ¬ rd D a + t < rd D b) := by
 rw [rd_map hl ha, rd_map hl hb8]
 have a0 := hlo a ha
 have a1 := hhi a ha
 have b0 := hlo b hb8
 have b1 := hhi b hb8
 have a2 := hb a ha
 unfold FAR at *
 refine ⟨dec_nonneg a0 a1, fun h => ⟨?_, ?_, ?_⟩, fun h => by omega⟩
 ·
  unfold dec FAR
  rw [if_neg (by omega)]
 ·
  unfold dec FAR
  split <;> omega
 ·
  omega
theorem relax_comm {D : List Int} (hl : D.length = 8) {a b t : Int} (ha : In8 a) (hb : In8 b) (ht : 1 ≤ t) : step1 (step1 D b a t) a b t = step1 (step1 D a b t) b a t := by
 apply ext8 (by rw [len_step1, len_step1, hl]) (by rw [len_step1, len_step1, hl])
 intro i hi
 have l1 : (step1 D b a t).length = 8 := by rw [len_step1, hl]
 have l2 : (step1 D a b t).length = 8 := by rw [len_step1, hl]
 rw [rd_step1 l1 hb hi, rd_step1 l2 ha hi, rd_step1 hl ha ha, rd_step1 hl ha hb, rd_step1 hl ha hi, rd_step1 hl hb hb, rd_step1 hl hb ha, rd_step1 hl hb hi]
 by_cases e : a = b
 ·
  subst e
  simp only [true_and]
 ·
  have e' : ¬ b = a := fun h => e h.symm
  simp only [e, e', false_and, if_false, true_and]
  by_cases c1 : rd D b + t < rd D a
  ·
   simp only [c1, if_true, and_true]
   have c2 : ¬ rd D a + t < rd D b := by omega
   have c3 : ¬ rd D b + t + t < rd D b := by omega
   simp only [c2, c3, and_false, if_false, c1, and_true]
  ·
   by_cases c2 : rd D a + t < rd D b
   ·
    have c3 : ¬ rd D a + t + t < rd D a := by omega
    simp only [c1, c2, c3, and_false, and_true, if_false, if_true]
   ·
    simp only [c1, c2, and_false, if_false]
theorem w64 {x : Int} (h1 : -9223372036854775808 ≤ x) (h2 : x ≤ 9223372036854775807) : wrap64 x = x := by
 unfold wrap64
 omega
theorem set_map_step {α β : Type} (f : α → β) (l : List α) (z : β) (i : Nat) (hi : i < l.length) (a : α) (ha : l[i]? = some a) :
  ((l.take i).map f ++ List.replicate (l.length - i) z).set i (f a) = (l.take (i + 1)).map f ++ List.replicate (l.length - (i + 1)) z := by
 have h1 : ((l.take i).map f).length = i := by simp; omega
 rw [List.set_append_right _ _ (by omega), h1, Nat.sub_self]
 obtain ⟨m, hm⟩ : ∃ m, l.length - i = m + 1 := ⟨l.length - i - 1, by omega⟩
 rw [hm, show l.length - (i + 1) = m by omega, List.replicate_succ, List.set_cons_zero, List.take_add_one, ha]
 simp
theorem getD_some {α : Type} (l : List α) (z : α) (i : Nat) (h : i < l.length) : l[i]? = some (l.getD i z) := by
 rw [List.getD_eq_getElem?_getD, List.getElem?_eq_getElem h]
 rfl
def cvLeg (x : S65) : S37 := ⟨x.f0, x.f1, x.f2, x.f3, x.f4⟩
theorem toLegS_l0 (l : List S65) (hl : l.length ≤ 4611686018427387904) (d : Nat) : ∀ (k i : Nat), i + d = l.length → d < k →
  laws_toLegS.l0 k l ((l.take i).map cvLeg ++ List.replicate (l.length - i) z37) i = some (l.map cvLeg) := by
 induction d with
 | zero =>
  intro k i hd hk
  obtain ⟨k, rfl⟩ : ∃ m, k = m + 1 := ⟨k - 1, by omega⟩
  simp only [laws_toLegS.l0]
  rw [if_neg (by omega), List.take_of_length_le (by omega), show l.length - i = 0 by omega]
  simp
 | succ d ih =>
  intro k i hd hk
  obtain ⟨k, rfl⟩ : ∃ m, k = m + 1 := ⟨k - 1, by omega⟩
  simp only [laws_toLegS.l0, laws_toLeg.f, Option.bind_some]
  rw [if_pos (by omega), if_pos (by omega), if_pos (by simp; omega), w64 (by omega) (by omega)]
  have ha : l[i]? = some (rd_T65 l i) := getD_some l z65 i (by omega)
  rw [Int.toNat_natCast]
  have := set_map_step cvLeg l z37 i (by omega) _ ha
  rw [show (⟨(rd_T65 l i).f0, (rd_T65 l i).f1, (rd_T65 l i).f2, (rd_T65 l i).f3, (rd_T65 l i).f4⟩ : S37) = cvLeg (rd_T65 l i) from rfl, this]
  exact ih k (i + 1) (by omega) (by omega)
theorem toLegS_eq {l : List S65} (hl : l.length * 40 ≤ 140737488351232) {k : Nat} (hk : l.length < k) : laws_toLegS.f k l = some (l.map cvLeg) := by
 unfold laws_toLegS.f
 rw [if_pos (by omega), if_pos (by omega), Int.toNat_natCast]
 have := toLegS_l0 l (by omega) l.length k 0 (by omega) hk
 simpa using this
theorem eqLegS_self (l : List S37) (hl : l.length ≤ 4611686018427387904) (d : Nat) : ∀ (k : Nat) (i : Int), 0 ≤ i → i + d = l.length → d < k → laws_eqLegS.l0 k l l i = some true := by
 induction d with
 | zero =>
  intro k i h0 hd hk
  obtain ⟨k, rfl⟩ : ∃ m, k = m + 1 := ⟨k - 1, by omega⟩
  simp only [laws_eqLegS.l0]
  rw [if_neg (by omega)]
 | succ d ih =>
  intro k i h0 hd hk
  obtain ⟨k, rfl⟩ : ∃ m, k = m + 1 := ⟨k - 1, by omega⟩
  simp only [laws_eqLegS.l0, laws_eqLeg.f, if_true, Option.bind_some]
  rw [if_pos (by omega), if_pos (by omega), if_pos (by omega), w64 (by omega) (by omega)]
  exact ih k (i + 1) (by omega) (by omega) (by omega)
theorem eqLegS_eq {l : List S37} (hl : l.length ≤ 4611686018427387904) {k : Nat} (hk : l.length < k) : laws_eqLegS.f k l l = some true := by
 unfold laws_eqLegS.f
 rw [if_pos rfl]
 exact eqLegS_self l hl l.length k 0 (by omega) (by omega) hk
theorem toBoolS_l0 (l : List Bool) (hl : l.length ≤ 4611686018427387904) (d : Nat) : ∀ (k i : Nat), i + d = l.length → d < k →
  laws_toBoolS.l0 k l (l.take i ++ List.replicate (l.length - i) false) i = some l := by
 induction d with
 | zero =>
  intro k i hd hk
  obtain ⟨k, rfl⟩ : ∃ m, k = m + 1 := ⟨k - 1, by omega⟩
  simp only [laws_toBoolS.l0]
  rw [if_neg (by omega), List.take_of_length_le (by omega), show l.length - i = 0 by omega]
  simp
 | succ d ih =>
  intro k i hd hk
  obtain ⟨k, rfl⟩ : ∃ m, k = m + 1 := ⟨k - 1, by omega⟩
  simp only [laws_toBoolS.l0]
  rw [if_pos (by omega), if_pos (by omega), if_pos (by simp; omega), w64 (by omega) (by omega)]
  have ha : l[i]? = some (rdOf false l i) := getD_some l false i (by omega)
  rw [Int.toNat_natCast]
  have := set_map_step (fun x : Bool => x) l false i (by omega) _ ha
  rw [List.map_id'', List.map_id''] at this
  ·
   rw [this]
   exact ih k (i + 1) (by omega) (by omega)
  ·
   exact fun _ => rfl
  ·
   exact fun _ => rfl
theorem toBoolS_eq {l : List Bool} (hl : l.length ≤ 140737488351232) {k : Nat} (hk : l.length < k) : laws_toBoolS.f k l = some l := by
 unfold laws_toBoolS.f
 rw [if_pos (by omega), if_pos (by omega), Int.toNat_natCast]
 have := toBoolS_l0 l (by omega) l.length k 0 (by omega) hk
 simpa using this
theorem eqBoolS_self (l : List Bool) (hl : l.length ≤ 4611686018427387904) (d : Nat) : ∀ (k : Nat) (i : Int), 0 ≤ i → i + d = l.length → d < k → laws_eqBoolS.l0 k l l i = some true := by
 induction d with
 | zero =>
  intro k i h0 hd hk
  obtain ⟨k, rfl⟩ : ∃ m, k = m + 1 := ⟨k - 1, by omega⟩
  simp only [laws_eqBoolS.l0]
  rw [if_neg (by omega)]
 | succ d ih =>
  intro k i h0 hd hk
  obtain ⟨k, rfl⟩ : ∃ m, k = m + 1 := ⟨k - 1, by omega⟩
  simp only [laws_eqBoolS.l0, bne_self_eq_false, Bool.false_eq_true, if_false]
  rw [if_pos (by omega), if_pos (by omega), if_pos (by omega), w64 (by omega) (by omega)]
  exact ih k (i + 1) (by omega) (by omega) (by omega)
theorem eqBoolS_eq {l : List Bool} (hl : l.length ≤ 4611686018427387904) {k : Nat} (hk : l.length < k) : laws_eqBoolS.f k l l = some true := by
 unfold laws_eqBoolS.f
 rw [if_pos rfl]
 exact eqBoolS_self l hl l.length k 0 (by omega) (by omega) hk
theorem toExploration_eq {l : List S65} {v d : List Bool} {a b : Int} (hl : l.length * 40 ≤ 140737488351232) (hv : v.length ≤ 140737488351232) (hd : d.length ≤ 140737488351232) {k : Nat} (hk : l.length < k) (hk1 : v.length < k) (hk2 : d.length < k) :
  laws_toExploration.f k l v d a b = some (l.map cvLeg, v, d, a, b) := by
 unfold laws_toExploration.f
 rw [toLegS_eq hl hk, toBoolS_eq hv hk1, toBoolS_eq hd hk2]
 rfl
theorem eqExploration_eq {l : List S37} {v d : List Bool} {a b : Int} (hl : l.length ≤ 4611686018427387904) (hv : v.length ≤ 4611686018427387904) (hd : d.length ≤ 4611686018427387904) {k : Nat} (hk : l.length < k) (hk1 : v.length < k) (hk2 : d.length < k) :
  laws_eqExploration.f k l v d a b l v d a b = some true := by
 unfold laws_eqExploration.f
 rw [eqLegS_eq hl hk, eqBoolS_eq hv hk1, eqBoolS_eq hd hk2]
 simp
theorem l1In_eq (a b c : Int) : spec_l1In.f a b c = some (decide (b ≤ a ∧ a ≤ c)) := by
 unfold spec_l1In.f
 by_cases h : a ≥ b
 ·
  rw [if_pos h]; simp [show b ≤ a from h]
 ·
  rw [if_neg h]; simp [show ¬ b ≤ a from h]
theorem within_eq (a b c : Int) : impl_within.f a b c = some (decide (b ≤ a ∧ a ≤ c)) := by
 unfold impl_within.f
 by_cases h : a ≥ b
 ·
  rw [if_pos h]; simp [show b ≤ a from h]
 ·
  rw [if_neg h]; simp [show ¬ b ≤ a from h]
theorem station_eq (a : Int) : spec_l4Station.f a = some (decide (0 ≤ a ∧ a ≤ 7)) := by
 unfold spec_l4Station.f; rw [l1In_eq]; rfl
theorem isStation_eq (a : Int) : impl_isStation.f a = some (decide (0 ≤ a ∧ a ≤ 7)) := by
 unfold impl_isStation.f; rw [within_eq]; rfl
def LegOk (x : S37) : Prop := (0 ≤ x.f0 ∧ x.f0 ≤ 7) ∧ (0 ≤ x.f1 ∧ x.f1 ≤ 7) ∧ x.f0 ≠ x.f1 ∧ (1 ≤ x.f2 ∧ x.f2 ≤ 500) ∧ (0 ≤ x.f3 ∧ x.f3 ≤ 359) ∧ (-90 ≤ x.f4 ∧ x.f4 ≤ 90)
theorem leg_spec (x : S37) : ∃ b, spec_l4Leg.f x.f0 x.f1 x.f2 x.f3 x.f4 = some b ∧ (b = true ↔ LegOk x) := by
 unfold spec_l4Leg.f spec_l2Bearing.f LegOk
 simp only [station_eq, l1In_eq, Option.bind_some, decide_eq_true_eq]
 by_cases h1 : 0 ≤ x.f0 ∧ x.f0 ≤ 7
 ·
  rw [if_pos h1]
  by_cases h2 : 0 ≤ x.f1 ∧ x.f1 ≤ 7
  ·
   rw [if_pos h2]
   by_cases h3 : x.f0 = x.f1
   ·
    rw [if_pos h3]
    exact ⟨_, rfl, fun h => (by cases h), fun h => absurd h3 h.2.2.1⟩
   ·
    rw [if_neg h3]
    by_cases h4 : 1 ≤ x.f2 ∧ x.f2 ≤ 500
    ·
     rw [if_pos h4]
     by_cases h5 : 0 ≤ x.f3 ∧ x.f3 ≤ 359
     ·
      rw [if_pos h5]
      refine ⟨_, rfl, ?_⟩
      rw [decide_eq_true_eq]
      exact ⟨fun h => ⟨h1, h2, h3, h4, h5, h⟩, fun h => h.2.2.2.2.2⟩
     ·
      rw [if_neg h5]
      exact ⟨_, rfl, fun h => (by cases h), fun h => absurd h.2.2.2.2.1 h5⟩
    ·
     rw [if_neg h4]
     exact ⟨_, rfl, fun h => (by cases h), fun h => absurd h.2.2.2.1 h4⟩
  ·
   rw [if_neg h2]
   exact ⟨_, rfl, fun h => (by cases h), fun h => absurd h.2.1 h2⟩
 ·
  rw [if_neg h1]
  exact ⟨_, rfl, fun h => (by cases h), fun h => absurd h.1 h1⟩
theorem leg_impl (a b c d e : Int) : impl_IsLeg.f a b c d e = spec_l4Leg.f a b c d e := by
 unfold impl_IsLeg.f spec_l4Leg.f impl_isBearing.f spec_l2Bearing.f
 simp only [station_eq, isStation_eq, within_eq, l1In_eq]
theorem legs_spec (l : List S37) (hl : l.length ≤ 4611686018427387904) (d : Nat) : ∀ (k : Nat) (i : Int), 0 ≤ i → i + d = l.length → d < k →
  ∃ b, spec_l4Legs.l0 k l i = some b ∧ (b = true ↔ (∀ j : Int, i ≤ j → j < l.length → LegOk (rd_T37 l j)) ∧ l.length ≤ 12) := by
 induction d with
 | zero =>
  intro k i h0 hd hk
  obtain ⟨k, rfl⟩ : ∃ m, k = m + 1 := ⟨k - 1, by omega⟩
  refine ⟨_, by simp only [spec_l4Legs.l0]; rw [if_neg (by omega)], ?_⟩
  rw [decide_eq_true_eq]
  constructor
  ·
   intro h
   exact ⟨fun j h1 h2 => by omega, by omega⟩
  ·
   intro h
   omega
 | succ d ih =>
  intro k i h0 hd hk
  obtain ⟨k, rfl⟩ : ∃ m, k = m + 1 := ⟨k - 1, by omega⟩
  obtain ⟨b, hb, hiff⟩ := ih k (i + 1) (by omega) (by omega) (by omega)
  obtain ⟨x, hx, hxi⟩ := leg_spec (rd_T37 l i)
  simp only [spec_l4Legs.l0]
  rw [if_pos (show i < (l.length : Int) by omega), if_pos h0, hx, w64 (by omega) (by omega)]
  simp only [Option.bind_some]
  cases x with
  | false =>
   rw [if_neg (by decide)]
   exact ⟨_, rfl, fun h => (by cases h), fun h => (by have := hxi.2 (h.1 i (by omega) (by omega)); cases this)⟩
  | true =>
   rw [if_pos rfl]
   refine ⟨b, hb, ?_⟩
   rw [hiff]
   refine ⟨fun h => ⟨fun j h1 h2 => ?_, h.2⟩, fun h => ⟨fun j h1 h2 => h.1 j (by omega) h2, h.2⟩⟩
   by_cases e : j = i
   ·
    rw [e]; exact hxi.1 rfl
   ·
    exact h.1 j (by omega) h2
theorem legs_impl (l : List S37) : ∀ (k : Nat) (i : Int), impl_areLegs.l0 k l l (l.length : Int) i = spec_l4Legs.l0 k l i
 | 0, i => by simp only [impl_areLegs.l0, spec_l4Legs.l0]
 | k + 1, i => by
  simp only [impl_areLegs.l0, spec_l4Legs.l0, leg_impl, legs_impl l k]
  by_cases h1 : i < (l.length : Int)
  ·
   simp only [if_pos h1]
  ·
   simp only [if_neg h1]
def usable (v : List Bool) (g : S37) : Bool := rdOf false v g.f0 && rdOf false v g.f1
def arcsOf (v : List Bool) : List S37 → List Arc
 | [] => []
 | g :: l => if usable v g = true then ⟨g.f0, g.f1, g.f2⟩ :: ⟨g.f1, g.f0, g.f2⟩ :: arcsOf v l else arcsOf v l
def LegsOk (l : List S37) : Prop := ∀ x, x ∈ l → LegOk x
theorem legsOk_of {l : List S37} (h : ∀ j : Int, 0 ≤ j → j < l.length → LegOk (rd_T37 l j)) : LegsOk l := by
 intro x hx
 obtain ⟨i, hi, rfl⟩ := List.mem_iff_getElem.1 hx
 have := h (i : Int) (by omega) (by omega)
 have e : rd_T37 l (i : Int) = l[i] := by
  show l.getD (i : Int).toNat _ = _
  rw [Int.toNat_natCast, List.getD_eq_getElem?_getD, List.getElem?_eq_getElem hi]
  rfl
 rwa [e] at this
theorem rdLeg_mem {l : List S37} {i : Int} (h0 : 0 ≤ i) (h1 : i < l.length) : rd_T37 l i ∈ l := by
 show l.getD i.toNat _ ∈ l
 rw [List.getD_eq_getElem?_getD, List.getElem?_eq_getElem (by omega)]
 exact List.getElem_mem _
theorem drop_rdLeg (l : List S37) (i : Nat) (h : i < l.length) : l.drop i = rd_T37 l (i : Int) :: l.drop (i + 1) := by
 rw [List.drop_eq_getElem_cons h]
 congr 1
 show _ = l.getD (i : Int).toNat _
 rw [Int.toNat_natCast, List.getD_eq_getElem?_getD, List.getElem?_eq_getElem h]
 rfl
theorem arcs_ok (v : List Bool) (l : List S37) (h : LegsOk l) : OkA (arcsOf v l) := by
 induction l with
 | nil => intro e he; cases he
 | cons g l ih =>
  have hg := h g List.mem_cons_self
  have ih := ih (fun x hx => h x (List.mem_cons_of_mem _ hx))
  intro e he
  unfold arcsOf at he
  split at he
  ·
   rcases List.mem_cons.1 he with rfl | he
   ·
    exact ⟨⟨hg.1.1, by have := hg.1.2; show g.f0 < 8; omega⟩, ⟨hg.2.1.1, by have := hg.2.1.2; show g.f1 < 8; omega⟩, hg.2.2.2.1⟩
   ·
    rcases List.mem_cons.1 he with rfl | he
    ·
     exact ⟨⟨hg.2.1.1, by have := hg.2.1.2; show g.f1 < 8; omega⟩, ⟨hg.1.1, by have := hg.1.2; show g.f0 < 8; omega⟩, hg.2.2.2.1⟩
    ·
     exact ih e he
  ·
   exact ih e he
def far8 (D : List Int) : Prop := D.length = 8 ∧ (∀ i, In8 i → 0 ≤ rd D i) ∧ (∀ i, In8 i → rd D i ≤ FAR)
theorem far8_step {D : List Int} (h : far8 D) {a b t : Int} (ha : In8 a) (hb : In8 b) (ht : 0 ≤ t) : far8 (step1 D a b t) := by
 refine ⟨by rw [len_step1, h.1], fun i hi => ?_, fun i hi => Int.le_trans (step1_le h.1 hb hi t) (h.2.2 i hi)⟩
 rw [rd_step1 h.1 hb hi]
 have := h.2.1 a ha
 split
 ·
  omega
 ·
  exact h.2.1 i hi
theorem set_same8 {D : List Int} (h : D.length = 8) {b : Int} (hb : In8 b) : D.set b.toNat (rd D b) = D := by
 apply ext8 (by rw [List.length_set, h]) h
 intro i hi
 rw [rd_set h hb hi]
 split
 ·
  rename_i e
  rw [e]
 ·
  rfl
theorem mn_step {D : List Int} (h : far8 D) {a b t : Int} (ha : In8 a) (hb : In8 b) (ht : 0 ≤ t) (ht' : t ≤ 500) : D.set b.toNat (mn (rd D b) (wrap64 (rd D a + t))) = step1 D a b t := by
 have a0 := h.2.1 a ha
 have a1 := h.2.2 a ha
 unfold FAR at a1
 rw [w64 (by omega) (by omega)]
 unfold mn step1
 by_cases hc : rd D a + t < rd D b
 ·
  rw [if_pos hc, if_pos hc]
 ·
  rw [if_neg hc, if_neg hc, set_same8 h.1 hb]
theorem in8 {a : Int} (h0 : 0 ≤ a) (h1 : a ≤ 7) : In8 a := ⟨h0, by omega⟩
theorem wayOut_l1 (l : List S37) (hl : LegsOk l) (hn : l.length ≤ 12) (v d : List Bool) (hv : v.length = 8) (a b r : Int) (n : Nat) : ∀ (k i : Nat) (D : List Int), i + n = l.length → n < k → far8 D →
  ∃ k', k ≤ k' + n + 1 ∧ k' < k ∧ impl_Exploration_wayOut.l1 k D r l (l.length : Int) i l v d a b = impl_Exploration_wayOut.l0 k' (rnd (arcsOf v (l.drop i)) D) (wrap64 (r + 1)) l v d a b := by
 induction n with
 | zero =>
  intro k i D hi hk hD
  obtain ⟨k, rfl⟩ : ∃ m, k = m + 1 := ⟨k - 1, by omega⟩
  refine ⟨k, by omega, by omega, ?_⟩
  simp only [impl_Exploration_wayOut.l1]
  rw [if_neg (by omega), List.drop_eq_nil_of_le (by omega)]
  rfl
 | succ n ih =>
  intro k i D hi hk hD
  obtain ⟨k, rfl⟩ : ∃ m, k = m + 1 := ⟨k - 1, by omega⟩
  rw [drop_rdLeg l i (by omega)]
  have hg := hl _ (rdLeg_mem (l := l) (i := (i : Int)) (by omega) (by omega))
  generalize hge : rd_T37 l (i : Int) = g at hg
  have i0 := in8 hg.1.1 hg.1.2
  have i1 := in8 hg.2.1.1 hg.2.1.2
  obtain ⟨g00, g01⟩ := hg.1
  obtain ⟨g10, g11⟩ := hg.2.1
  obtain ⟨ht, ht'⟩ := hg.2.2.2.1
  simp only [impl_Exploration_wayOut.l1, hge]
  rw [if_pos (by omega), if_pos (by omega), if_pos (by omega), if_pos (by omega), if_pos (by omega), w64 (x := (i : Int) + 1) (by omega) (by omega)]
  unfold arcsOf usable
  cases h0 : rdOf false v g.f0 with
  | false =>
   rw [if_neg (by decide)]
   obtain ⟨k', h1, h2, h3⟩ := ih k (i + 1) D (by omega) (by omega) hD
   exact ⟨k', by omega, by omega, h3⟩
  | true =>
   rw [if_pos rfl, if_pos (by omega), if_pos (by omega)]
   cases h1 : rdOf false v g.f1 with
   | false =>
    rw [if_neg (by decide)]
    obtain ⟨k', h1, h2, h3⟩ := ih k (i + 1) D (by omega) (by omega) hD
    exact ⟨k', by omega, by omega, h3⟩
   | true =>
    have hl8 := hD.1
    rw [if_pos rfl, if_pos (by omega), if_pos (by omega), mn_step hD i1 i0 (by omega) ht']
    simp only [Option.bind_some]
    rw [mn_step (far8_step hD i1 i0 (by omega)) i0 i1 (by omega) ht', relax_comm hl8 i0 i1 ht]
    obtain ⟨k', h1, h2, h3⟩ := ih k (i + 1) (step1 (step1 D g.f0 g.f1 g.f2) g.f1 g.f0 g.f2) (by omega) (by omega) (far8_step (far8_step hD i0 i1 (by omega)) i1 i0 (by omega))
    exact ⟨k', by omega, by omega, h3⟩
theorem wayOut_l0 (l : List S37) (hl : LegsOk l) (hn : l.length ≤ 12) (v d : List Bool) (hv : v.length = 8) (a b : Int) (ha : In8 a) (n : Nat) : ∀ (k r : Nat), r + n = 8 → n * 16 < k →
  impl_Exploration_wayOut.l0 k (it (arcsOf v l) r D0) r l v d a b = some (rd (it (arcsOf v l) 8 D0) a, decide (rd (it (arcsOf v l) 8 D0) a < FAR)) := by
 induction n with
 | zero =>
  intro k r hr hk
  obtain ⟨k, rfl⟩ : ∃ m, k = m + 1 := ⟨k - 1, by omega⟩
  obtain rfl : r = 8 := by omega
  have := (it_inv (arcs_ok v l hl) (D0_inv _) 8).len
  simp only [impl_Exploration_wayOut.l0]
  rw [if_neg (by decide), if_pos ha.1, if_pos (by have := ha.2; omega)]
  rfl
 | succ n ih =>
  intro k r hr hk
  obtain ⟨k, rfl⟩ : ∃ m, k = m + 1 := ⟨k - 1, by omega⟩
  simp only [impl_Exploration_wayOut.l0]
  rw [if_pos (by omega)]
  have I := it_inv (arcs_ok v l hl) (D0_inv _) r
  obtain ⟨k', h1, h2, h3⟩ := wayOut_l1 l hl hn v d hv a b r l.length k 0 (it (arcsOf v l) r D0) (by omega) (by omega) ⟨I.len, I.lo, I.hi⟩
  rw [show ((0 : Nat) : Int) = 0 from rfl] at h3
  rw [h3, w64 (by omega) (by omega), List.drop_zero]
  exact ih k' (r + 1) (by omega) (by omega)
theorem wayOut_eq {l : List S37} (hl : LegsOk l) (hn : l.length ≤ 12) {v : List Bool} (d : List Bool) (hv : v.length = 8) {a : Int} (b : Int) (ha : In8 a) {k : Nat} (hk : 200 ≤ k) :
  impl_Exploration_wayOut.f k l v d a b = some (rd (it (arcsOf v l) 7 D0) a, decide (rd (it (arcsOf v l) 7 D0) a < FAR)) := by
 have h := wayOut_l0 l hl hn v d hv a b ha 8 k 0 (by omega) (by omega)
 have e : it (arcsOf v l) 8 D0 = it (arcsOf v l) 7 D0 := fix7 (arcs_ok v l hl)
 rw [e] at h
 exact h
def stF (F : List Int) (a b t : Int) : List Int := if rd F a ≥ 0 ∧ (rd F b < 0 ∨ wrap64 (rd F a + t) < rd F b) then F.set b.toNat (wrap64 (rd F a + t)) else F
def cF (F : List Int) (a b t : Int) : Bool := decide (rd F a ≥ 0 ∧ (rd F b < 0 ∨ wrap64 (rd F a + t) < rd F b))
theorem out_l2 (l : List S37) (v : List Bool) (p : Int) (F : List Int) (ag : Bool) (i : Int) (h0 : 0 ≤ i) (hi : i < l.length) (hl : l.length ≤ 12) (hF : F.length = 8) (hv : v.length = 8) (i0 : In8 (rd_T37 l i).f0) (i1 : In8 (rd_T37 l i).f1) (k : Nat) :
  ∃ k', k ≤ k' ∧ k' ≤ k + 1 ∧ spec_l25Out.l2 (k + 3) l v p F ag i = (if usable v (rd_T37 l i) = true then spec_l25Out.l2 k' l v p (stF (stF F (rd_T37 l i).f0 (rd_T37 l i).f1 (rd_T37 l i).f2) (rd_T37 l i).f1 (rd_T37 l i).f0 (rd_T37 l i).f2) (ag || cF F (rd_T37 l i).f0 (rd_T37 l i).f1 (rd_T37 l i).f2 || cF (stF F (rd_T37 l i).f0 (rd_T37 l i).f1 (rd_T37 l i).f2) (rd_T37 l i).f1 (rd_T37 l i).f0 (rd_T37 l i).f2) (i + 1) else spec_l25Out.l2 k' l v p F ag (i + 1)) := by
 simp only [spec_l25Out.l2, w64 (x := i + 1) (by omega) (by omega)]
 generalize hge : rd_T37 l i = g at i0 i1
 obtain ⟨i00, i01⟩ := i0
 obtain ⟨i10, i11⟩ := i1
 rw [if_pos hi, if_pos h0, if_pos i00, if_pos (by omega)]
 unfold usable
 cases h0' : rdOf false v g.f0 with
 | false =>
  refine ⟨k + 1, by omega, by omega, ?_⟩
  rw [if_neg (by decide), if_neg (by simp)]
  simp only [spec_l25Out.j3, if_true, w64 (x := i + 1) (by omega) (by omega)]
 | true =>
  rw [if_pos rfl, if_pos i10, if_pos (by omega)]
  cases h1' : rdOf false v g.f1 with
  | false =>
   refine ⟨k + 1, by omega, by omega, ?_⟩
   rw [if_neg (by decide)]
   simp only [spec_l25Out.j3, Bool.not_false, if_true, w64 (x := i + 1) (by omega) (by omega)]
  | true =>
   refine ⟨k, by omega, by omega, ?_⟩
   rw [if_pos (by decide)]
   have tail : ∀ (Y : List Int) (ag' : Bool) (m : Int), m = 8 → (if rd Y g.f1 ≥ 0 then (if 0 ≤ g.f0 then (if g.f0 < m then (if rd Y g.f0 < 0 then spec_l25Out.l2 k l v p (Y.set g.f0.toNat (wrap64 (rd Y g.f1 + g.f2))) true (i + 1) else (if wrap64 (rd Y g.f1 + g.f2) < rd Y g.f0 then spec_l25Out.l2 k l v p (Y.set g.f0.toNat (wrap64 (rd Y g.f1 + g.f2))) true (i + 1) else spec_l25Out.l2 k l v p Y ag' (i + 1))) else none) else none) else spec_l25Out.l2 k l v p Y ag' (i + 1)) = spec_l25Out.l2 k l v p (stF Y g.f1 g.f0 g.f2) (ag' || cF Y g.f1 g.f0 g.f2) (i + 1) := by
    intro Y ag' m hY
    unfold stF cF
    by_cases c1 : rd Y g.f1 ≥ 0
    ·
     rw [if_pos c1, if_pos i00, if_pos (by omega)]
     by_cases c2 : rd Y g.f0 < 0
     ·
      rw [if_pos c2, if_pos ⟨c1, .inl c2⟩, decide_eq_true ⟨c1, .inl c2⟩, Bool.or_true]
     ·
      rw [if_neg c2]
      by_cases c3 : wrap64 (rd Y g.f1 + g.f2) < rd Y g.f0
      ·
       rw [if_pos c3, if_pos ⟨c1, .inr c3⟩, decide_eq_true ⟨c1, .inr c3⟩, Bool.or_true]
      ·
       have hn : ¬ (rd Y g.f1 ≥ 0 ∧ (rd Y g.f0 < 0 ∨ wrap64 (rd Y g.f1 + g.f2) < rd Y g.f0)) := fun h => by rcases h.2 with z | z <;> contradiction
       rw [if_neg c3, if_neg hn, decide_eq_false hn, Bool.or_false]
    ·
     have hn : ¬ (rd Y g.f1 ≥ 0 ∧ (rd Y g.f0 < 0 ∨ wrap64 (rd Y g.f1 + g.f2) < rd Y g.f0)) := fun h => c1 h.1
     rw [if_neg c1, if_neg hn, decide_eq_false hn, Bool.or_false]
   have main : ∀ (c : Bool), (c = true → (rd F g.f0 ≥ 0 ∧ (rd F g.f1 < 0 ∨ wrap64 (rd F g.f0 + g.f2) < rd F g.f1))) → (c = false → ¬ (rd F g.f0 ≥ 0 ∧ (rd F g.f1 < 0 ∨ wrap64 (rd F g.f0 + g.f2) < rd F g.f1))) → spec_l25Out.j4 (k + 1) l v p F ag i g.f0 g.f1 (wrap64 (rd F g.f0 + g.f2)) c = spec_l25Out.l2 k l v p (stF (stF F g.f0 g.f1 g.f2) g.f1 g.f0 g.f2) (ag || cF F g.f0 g.f1 g.f2 || cF (stF F g.f0 g.f1 g.f2) g.f1 g.f0 g.f2) (i + 1) := by
    intro c hc1 hc2
    simp only [spec_l25Out.j4, hge, w64 (x := i + 1) (by omega) (by omega)]
    cases c with
    | true =>
     have hc := hc1 rfl
     rw [if_pos rfl, if_pos i10, if_pos (by omega)]
     simp only [Option.bind_some]
     rw [if_pos h0, if_pos hi, tail (F.set g.f1.toNat (wrap64 (rd F g.f0 + g.f2))) true (F.length : Int) (by omega)]
     have e : stF F g.f0 g.f1 g.f2 = F.set g.f1.toNat (wrap64 (rd F g.f0 + g.f2)) := by
      unfold stF
      rw [if_pos hc]
     have e2 : cF F g.f0 g.f1 g.f2 = true := decide_eq_true hc
     rw [e, e2, Bool.or_true]
    | false =>
     have hc := hc2 rfl
     rw [if_neg (by decide), if_pos i10, if_pos (by omega), if_pos h0, if_pos hi, tail F ag (F.length : Int) (by omega)]
     have e : stF F g.f0 g.f1 g.f2 = F := by
      unfold stF
      rw [if_neg hc]
     have e2 : cF F g.f0 g.f1 g.f2 = false := decide_eq_false hc
     rw [e, e2, Bool.or_false]
   simp only [spec_l25Out.j3, hge, Bool.not_true, Bool.false_eq_true, if_false]
   rw [if_pos i00, if_pos (by omega), if_pos h0, if_pos hi]
   by_cases c1 : rd F g.f0 ≥ 0
   ·
    rw [if_pos c1, if_pos i10, if_pos (by omega)]
    by_cases c2 : rd F g.f1 < 0
    ·
     rw [if_pos c2, main true (fun _ => ⟨c1, .inl c2⟩) (fun h => by cases h)]
    ·
     rw [if_neg c2]
     by_cases c3 : wrap64 (rd F g.f0 + g.f2) < rd F g.f1
     ·
      rw [decide_eq_true c3, main true (fun _ => ⟨c1, .inr c3⟩) (fun h => by cases h)]
     ·
      rw [decide_eq_false c3, main false (fun h => by cases h) (fun _ h => by rcases h.2 with z | z <;> contradiction)]
   ·
    rw [if_neg c1, main false (fun h => by cases h) (fun _ h => c1 h.1)]
theorem stF_dec {c : Int} {D : List Int} (h : far8 D) (hb : Bd c D) (hc : c + 500 < FAR) {a b t : Int} (ha : In8 a) (hb8 : In8 b) (ht : 1 ≤ t) (ht' : t ≤ 500) :
  stF (D.map dec) a b t = (step1 D a b t).map dec ∧ (cF (D.map dec) a b t = true ↔ rd D a + t < rd D b) := by
 obtain ⟨h1, h2, h3⟩ := cond_dec h.1 h.2.1 h.2.2 hb hc ha hb8 ht ht'
 have a0 := h.2.1 a ha
 unfold stF cF step1
 rw [decide_eq_true_eq]
 by_cases hf : rd D a < FAR
 ·
  obtain ⟨e, e2, e3⟩ := h2 hf
  have hw : wrap64 (rd (D.map dec) a + t) = rd D a + t := by
   rw [e, w64 (by omega) (by unfold FAR at e3; omega)]
  have hcnd : (rd (D.map dec) a ≥ 0 ∧ (rd (D.map dec) b < 0 ∨ rd D a + t < rd (D.map dec) b)) ↔ rd D a + t < rd D b := ⟨fun z => e2.1 z.2, fun z => ⟨h1.2 hf, e2.2 z⟩⟩
  rw [hw]
  by_cases hlt : rd D a + t < rd D b
  ·
   rw [if_pos (hcnd.2 hlt), if_pos hlt, map_set_dec _ _ _ (by omega)]
   exact ⟨rfl, hcnd⟩
  ·
   rw [if_neg (fun z => hlt (hcnd.1 z)), if_neg hlt]
   exact ⟨rfl, hcnd⟩
 ·
  have hn := h3 hf
  rw [if_neg (fun z => hf (h1.1 z.1)), if_neg hn]
  exact ⟨rfl, fun z => absurd (h1.1 z.1) hf, fun z => absurd z hn⟩
theorem out_round (l : List S37) (hl : LegsOk l) (hn : l.length ≤ 12) (v : List Bool) (hv : v.length = 8) (p : Int) (n : Nat) : ∀ (k i : Nat) (D : List Int) (ag : Bool) (c : Int), i + n = l.length → 3 * n < k → far8 D → Bd c D → c + 1000 * n < FAR →
  ∃ k' ag', k ≤ k' + 3 * n + 1 ∧ k' < k ∧ spec_l25Out.l2 k l v p (D.map dec) ag i = spec_l25Out.l1 k' l v p ((rnd (arcsOf v (l.drop i)) D).map dec) ag' ∧ Bd (c + 1000 * n) (rnd (arcsOf v (l.drop i)) D) ∧ (ag' = true → ag = true ∨ sum8 (rnd (arcsOf v (l.drop i)) D) < sum8 D) ∧ (ag' = false → ag = false ∧ rnd (arcsOf v (l.drop i)) D = D) := by
 induction n with
 | zero =>
  intro k i D ag c hi hk hD hb hc
  obtain ⟨k, rfl⟩ : ∃ m, k = m + 1 := ⟨k - 1, by omega⟩
  refine ⟨k, ag, by omega, by omega, ?_, ?_, fun h => .inl h, fun h => ⟨h, ?_⟩⟩
  ·
   simp only [spec_l25Out.l2]
   rw [if_neg (by omega), List.drop_eq_nil_of_le (by omega)]
   rfl
  ·
   rw [List.drop_eq_nil_of_le (by omega)]
   exact hb.mono (by omega)
  ·
   rw [List.drop_eq_nil_of_le (by omega)]
   rfl
 | succ n ih =>
  intro k i D ag c hi hk hD hb hc
  obtain ⟨k, rfl⟩ : ∃ m, k = m + 3 := ⟨k - 3, by omega⟩
  have hg := hl _ (rdLeg_mem (l := l) (i := (i : Int)) (by omega) (by omega))
  have i0 := in8 hg.1.1 hg.1.2
  have i1 := in8 hg.2.1.1 hg.2.1.2
  obtain ⟨ht, ht'⟩ := hg.2.2.2.1
  obtain ⟨k1, hk1, hk2, e⟩ := out_l2 l v p (D.map dec) ag i (by omega) (by omega) hn (by rw [List.length_map, hD.1]) hv i0 i1 k
  rw [drop_rdLeg l i (by omega)]
  generalize hge : rd_T37 l (i : Int) = g at hg i0 i1 ht ht' e
  rw [e]
  cases hu : usable v g with
  | false =>
   rw [if_neg (by decide)]
   obtain ⟨k', ag', h1, h2, h3, h4, h5, h6⟩ := ih k1 (i + 1) D ag c (by omega) (by omega) hD hb (by omega)
   have ea : arcsOf v (g :: l.drop (i + 1)) = arcsOf v (l.drop (i + 1)) := by
    show (if usable v g = true then _ else _) = _
    rw [hu, if_neg (by decide)]
   rw [ea]
   exact ⟨k', ag', by omega, by omega, h3, h4.mono (by omega), h5, h6⟩
  | true =>
   rw [if_pos rfl]
   have ea : ∀ E, rnd (arcsOf v (g :: l.drop (i + 1))) E = rnd (arcsOf v (l.drop (i + 1))) (step1 (step1 E g.f0 g.f1 g.f2) g.f1 g.f0 g.f2) := by
    intro E
    show rnd (if usable v g = true then _ else _) _ = _
    rw [hu, if_pos rfl]
    rfl
   rw [ea D]
   obtain ⟨s1, s2⟩ := stF_dec hD hb (by omega) i0 i1 ht ht'
   have hD1 := far8_step hD i0 i1 (t := g.f2) (by omega)
   have hb1 := step_bd hD.1 hb i0 i1 ht' hD.2.2 (by omega)
   obtain ⟨s3, s4⟩ := stF_dec hD1 hb1 (by omega) i1 i0 ht ht'
   have hD2 := far8_step hD1 i1 i0 (t := g.f2) (by omega)
   have hb2 := step_bd hD1.1 hb1 i1 i0 ht' hD1.2.2 (by omega)
   rw [s1, s3]
   have hrest : ∀ i, In8 i → rd (step1 (step1 D g.f0 g.f1 g.f2) g.f1 g.f0 g.f2) i ≤ rd D i := fun j hj => Int.le_trans (step1_le hD1.1 i0 hj _) (step1_le hD.1 i1 hj _)
   have hrnd : ∀ j, In8 j → rd (rnd (arcsOf v (l.drop (i + 1))) (step1 (step1 D g.f0 g.f1 g.f2) g.f1 g.f0 g.f2)) j ≤ rd D j := fun j hj => Int.le_trans (rnd_le _ (arcs_ok v _ (fun x hx => hl x (List.mem_of_mem_drop hx))) _ hD2.1 j hj) (hrest j hj)
   have hrl : (rnd (arcsOf v (l.drop (i + 1))) (step1 (step1 D g.f0 g.f1 g.f2) g.f1 g.f0 g.f2)).length = 8 := by rw [len_rnd, hD2.1]
   have hdec1 : rd D g.f0 + g.f2 < rd D g.f1 → sum8 (rnd (arcsOf v (l.drop (i + 1))) (step1 (step1 D g.f0 g.f1 g.f2) g.f1 g.f0 g.f2)) < sum8 D := by
    intro h
    rcases le_or hD.1 hrl hrnd with z | z
    ·
     exfalso
     have h7 := rd_step1 (a := g.f0) (t := g.f2) hD.1 i1 i1
     rw [if_pos ⟨rfl, h⟩] at h7
     have h8 := step1_le (a := g.f1) (t := g.f2) hD1.1 i0 i1
     have h9 := rnd_le (arcsOf v (l.drop (i + 1))) (arcs_ok v _ (fun x hx => hl x (List.mem_of_mem_drop hx))) _ hD2.1 g.f1 i1
     rw [z] at h9
     omega
    ·
     exact z
   have hdec2 : rd (step1 D g.f0 g.f1 g.f2) g.f1 + g.f2 < rd (step1 D g.f0 g.f1 g.f2) g.f0 → sum8 (rnd (arcsOf v (l.drop (i + 1))) (step1 (step1 D g.f0 g.f1 g.f2) g.f1 g.f0 g.f2)) < sum8 D := by
    intro h
    rcases le_or hD.1 hrl hrnd with z | z
    ·
     exfalso
     have h7 := rd_step1 (a := g.f1) (t := g.f2) hD1.1 i0 i0
     rw [if_pos ⟨rfl, h⟩] at h7
     have h8 := step1_le (a := g.f0) (t := g.f2) hD.1 i1 i0
     have h9 := rnd_le (arcsOf v (l.drop (i + 1))) (arcs_ok v _ (fun x hx => hl x (List.mem_of_mem_drop hx))) _ hD2.1 g.f0 i0
     rw [z] at h9
     omega
    ·
     exact z
   obtain ⟨k', ag', h1, h2, h3, h4, h5, h6⟩ := ih k1 (i + 1) (step1 (step1 D g.f0 g.f1 g.f2) g.f1 g.f0 g.f2) (ag || cF (D.map dec) g.f0 g.f1 g.f2 || cF ((step1 D g.f0 g.f1 g.f2).map dec) g.f1 g.f0 g.f2) (c + 500 + 500) (by omega) (by omega) hD2 hb2 (by omega)
   refine ⟨k', ag', by omega, by omega, h3, h4.mono (by omega), fun h => ?_, fun h => ?_⟩
   ·
    rcases h5 h with z | z
    ·
     rw [Bool.or_eq_true, Bool.or_eq_true] at z
     rcases z with (z | z) | z
     ·
      exact .inl z
     ·
      exact .inr (hdec1 (s2.1 z))
     ·
      exact .inr (hdec2 (s4.1 z))
    ·
     have q : sum8 (step1 (step1 D g.f0 g.f1 g.f2) g.f1 g.f0 g.f2) ≤ sum8 D := by
      rcases le_or hD.1 hD2.1 hrest with q | q
      ·
       rw [q]; exact Int.le_refl _
      ·
       omega
     exact .inr (by omega)
   ·
    obtain ⟨z1, z2⟩ := h6 h
    rw [Bool.or_eq_false_iff, Bool.or_eq_false_iff] at z1
    obtain ⟨⟨za, zb⟩, zc⟩ := z1
    refine ⟨za, z2.trans ?_⟩
    have n1 : ¬ (rd D g.f0 + g.f2 < rd D g.f1) := fun q => by rw [s2.2 q] at zb; cases zb
    have e1 : step1 D g.f0 g.f1 g.f2 = D := by
     unfold step1
     rw [if_neg n1]
    have n2 : ¬ (rd (step1 D g.f0 g.f1 g.f2) g.f1 + g.f2 < rd (step1 D g.f0 g.f1 g.f2) g.f0) := fun q => by rw [s4.2 q] at zc; cases zc
    have e2 : step1 (step1 D g.f0 g.f1 g.f2) g.f1 g.f0 g.f2 = step1 D g.f0 g.f1 g.f2 := by
     rw [show step1 (step1 D g.f0 g.f1 g.f2) g.f1 g.f0 g.f2 = if rd (step1 D g.f0 g.f1 g.f2) g.f1 + g.f2 < rd (step1 D g.f0 g.f1 g.f2) g.f0 then _ else _ from rfl, if_neg n2]
    rw [e2, e1]
theorem D0_bd (A : List Arc) : Bd 0 D0 := fun i hi => by
 by_cases h : i = 0
 ·
  rw [h]; right; decide
 ·
  exact .inl (D0_far hi h)
theorem out_l1 (l : List S37) (hl : LegsOk l) (hn : l.length ≤ 12) (v : List Bool) (hv : v.length = 8) (p : Int) (hp : In8 p) (n : Nat) : ∀ (k r : Nat), r + n = 7 → 40 * n + 40 < k → Bd (12000 * r) (it (arcsOf v l) r D0) →
  spec_l25Out.l1 k l v p ((it (arcsOf v l) r D0).map dec) true = some (dec (rd (it (arcsOf v l) 7 D0) p)) := by
 have hok := arcs_ok v l hl
 have fin : ∀ (k : Nat) (r : Nat), r ≤ 7 → it (arcsOf v l) (r + 1) D0 = it (arcsOf v l) r D0 → spec_l25Out.l1 (k + 1) l v p ((it (arcsOf v l) (r + 1) D0).map dec) false = some (dec (rd (it (arcsOf v l) 7 D0) p)) := by
  intro k r hr he
  have hlen := (it_inv hok (D0_inv _) r).len
  have e7 : it (arcsOf v l) 7 D0 = it (arcsOf v l) r D0 := by
   have := it_add (arcsOf v l) D0 r (7 - r)
   rw [show r + (7 - r) = 7 by omega, it_fix he] at this
   exact this
  simp only [spec_l25Out.l1, Bool.false_eq_true, if_false]
  have h1 := hp.1
  have h2 := hp.2
  rw [he, if_pos h1, if_pos (by rw [List.length_map, hlen]; exact h2), rd_map hlen hp, e7]
 induction n with
 | zero =>
  intro k r hr hk hb
  obtain ⟨k, rfl⟩ : ∃ m, k = m + 1 := ⟨k - 1, by omega⟩
  have e8 : rnd (arcsOf v l) (it (arcsOf v l) r D0) = it (arcsOf v l) r D0 := by
   rw [show r = 7 by omega]
   exact fix7 hok
  simp only [spec_l25Out.l1, if_true]
  have I := it_inv hok (D0_inv _) r
  obtain ⟨k', ag', h1, h2, h3, h4, h5, h6⟩ := out_round l hl hn v hv p l.length k 0 (it (arcsOf v l) r D0) false (12000 * r) (by omega) (by omega) ⟨I.len, I.lo, I.hi⟩ hb (by unfold FAR; omega)
  rw [show ((0 : Nat) : Int) = 0 from rfl, List.drop_zero] at h3
  rw [List.drop_zero] at h5 h6
  rw [h3]
  cases ag' with
  | true =>
   exfalso
   rcases h5 rfl with z | z
   ·
    cases z
   ·
    rw [e8] at z
    omega
  | false =>
   have a1 : r ≤ 7 := by clear h3 h4 h5 h6 hb; omega
   have a2 : k' = k' - 1 + 1 := by clear h3 h4 h5 h6 hb; omega
   rw [a2]
   exact fin (k' - 1) r a1 e8
 | succ n ih =>
  intro k r hr hk hb
  obtain ⟨k, rfl⟩ : ∃ m, k = m + 1 := ⟨k - 1, by omega⟩
  simp only [spec_l25Out.l1, if_true]
  have I := it_inv hok (D0_inv _) r
  obtain ⟨k', ag', h1, h2, h3, h4, h5, h6⟩ := out_round l hl hn v hv p l.length k 0 (it (arcsOf v l) r D0) false (12000 * r) (by omega) (by omega) ⟨I.len, I.lo, I.hi⟩ hb (by unfold FAR; omega)
  rw [show ((0 : Nat) : Int) = 0 from rfl, List.drop_zero] at h3
  rw [List.drop_zero] at h4 h5 h6
  rw [h3]
  cases ag' with
  | true =>
   have hb' : Bd (12000 * ((r + 1 : Nat) : Int)) (it (arcsOf v l) (r + 1) D0) := Bd.mono (c := 12000 * r + 1000 * l.length) h4 (by omega)
   have a1 : r + 1 + n = 7 := by clear h3 h4 h5 h6 hb' hb; omega
   have a2 : 40 * n + 40 < k' := by clear h3 h4 h5 h6 hb' hb; omega
   have hq := ih k' (r + 1) a1 a2 hb'
   exact hq
  | false =>
   have a1 : r ≤ 7 := by clear h3 h4 h5 h6 hb; omega
   have a2 : k' = k' - 1 + 1 := by clear h3 h4 h5 h6 hb; omega
   rw [a2]
   exact fin (k' - 1) r a1 (h6 rfl).2
theorem out_l0 (l : List S37) (v : List Bool) (p : Int) (n : Nat) : ∀ (k j : Nat), j + n = 8 → n < k →
  ∃ k', k = k' + n + 1 ∧ spec_l25Out.l0 k l v p (List.replicate j (-1)) j = spec_l25Out.l1 k' l v p (D0.map dec) true := by
 induction n with
 | zero =>
  intro k j hj hk
  obtain ⟨k, rfl⟩ : ∃ m, k = m + 1 := ⟨k - 1, by omega⟩
  obtain rfl : j = 8 := by omega
  refine ⟨k, by omega, ?_⟩
  simp only [spec_l25Out.l0]
  rw [if_neg (by decide), if_pos (by decide)]
  rfl
 | succ n ih =>
  intro k j hj hk
  obtain ⟨k, rfl⟩ : ∃ m, k = m + 1 := ⟨k - 1, by omega⟩
  simp only [spec_l25Out.l0]
  rw [if_pos (by omega), if_pos (by rw [List.length_replicate]; omega), w64 (by omega) (by omega)]
  obtain ⟨k', h1, h2⟩ := ih k (j + 1) (by omega) (by omega)
  refine ⟨k', by omega, ?_⟩
  rw [List.replicate_succ'] at h2
  exact h2
theorem out_eq {l : List S37} (hl : LegsOk l) (hn : l.length ≤ 12) {v : List Bool} (hv : v.length = 8) {p : Int} (hp : In8 p) {k : Nat} (hk : 400 ≤ k) :
  spec_l25Out.f k l v p = some (dec (rd (it (arcsOf v l) 7 D0) p)) := by
 obtain ⟨k', h1, h2⟩ := out_l0 l v p 8 k 0 (by omega) (by omega)
 unfold spec_l25Out.f
 rw [show ([] : List Int) = List.replicate 0 (-1) from rfl, show (0 : Int) = ((0 : Nat) : Int) from rfl, h2]
 exact out_l1 l hl hn v hv p hp 7 k' 0 (by omega) (by omega) (D0_bd (arcsOf v l))
def way (l : List S37) (v : List Bool) (p : Int) : Int := rd (it (arcsOf v l) 7 D0) p
theorem way_bd {l : List S37} (hl : LegsOk l) (v : List Bool) {p : Int} (hp : In8 p) : 0 ≤ way l v p ∧ way l v p ≤ FAR := by
 have I := it_inv (arcs_ok v l hl) (D0_inv _) 7
 exact ⟨I.lo p hp, I.hi p hp⟩
structure ExplOk (l : List S37) (v d : List Bool) (p t : Int) : Prop where
 legs : LegsOk l
 len : l.length ≤ 12
 hv : v.length = 8
 hd : d.length = 8
 hp : In8 p
 ht : 0 ≤ t ∧ t ≤ 100000
 hway : way l v p < FAR
 hlight : way l v p ≤ t
 v0 : rdOf false v 0 = true
 vp : rdOf false v p = true
theorem good_eq (l : List S37) (hl : l.length ≤ 4611686018427387904) (v d : List Bool) (p t : Int) {k : Nat} (hk : l.length + 410 ≤ k) :
  ∃ b, spec_l25Good.f k l v d p t = some b ∧ impl_IsExploration.f k l v d p t = some b ∧ (b = true ↔ ExplOk l v d p t) := by
 obtain ⟨x, hx, hxi⟩ := legs_spec l hl l.length k 0 (by omega) (by omega) (by omega)
 obtain ⟨k, rfl⟩ : ∃ m, k = m + 1 := ⟨k - 1, by omega⟩
 have hno : ¬ ExplOk l v d p t → ∃ b, some false = some b ∧ some false = some b ∧ (b = true ↔ ExplOk l v d p t) := fun h => ⟨false, rfl, rfl, fun z => (by cases z), fun z => absurd z h⟩
 unfold spec_l25Good.f impl_IsExploration.f spec_l4Legs.f impl_areLegs.f
 rw [legs_impl, hx]
 simp only [Option.bind_some, station_eq, isStation_eq, l1In_eq, within_eq]
 cases x with
 | false =>
  simp only [spec_l25Good.j0, impl_IsExploration.j0, Bool.false_eq_true, if_false, if_true]
  refine hno fun h => ?_
  have := hxi.2 ⟨fun j h1 h2 => h.legs _ (rdLeg_mem h1 h2), h.len⟩
  cases this
 | true =>
  obtain ⟨hlo, hlen⟩ := hxi.1 rfl
  have hlegs := legsOk_of hlo
  simp only [if_true, spec_l25Good.j0, impl_IsExploration.j0]
  by_cases h1 : (v.length : Int) = 8
  ·
   rw [if_pos h1, if_pos h1]
   by_cases h2 : (d.length : Int) = 8
   ·
    rw [if_pos h2, if_pos h2]
    by_cases h3 : 0 ≤ p ∧ p ≤ 7
    ·
     rw [decide_eq_true h3, if_pos rfl, if_pos rfl]
     by_cases h4 : 0 ≤ t ∧ t ≤ 100000
     ·
      have hv8 : v.length = 8 := by omega
      have hp8 := in8 h3.1 h3.2
      rw [decide_eq_true h4]
      simp only [Bool.not_true, Bool.false_eq_true, if_false]
      have hvp : (0 : Int) < (v.length : Int) := by omega
      simp only [if_pos hvp]
      cases h5 : rdOf false v 0 with
      | false =>
       simp only [Bool.false_eq_true, if_false]
       exact hno fun h => by have := h.v0; rw [h5] at this; cases this
      | true =>
       have hpv : p < (v.length : Int) := by omega
       simp only [if_true, if_pos h3.1, if_pos hpv]
       cases h6 : rdOf false v p with
       | false =>
        simp only [Bool.false_eq_true, if_false]
        exact hno fun h => by have := h.vp; rw [h6] at this; cases this
       | true =>
        simp only [if_true]
        rw [out_eq hlegs hlen hv8 hp8 (by omega), wayOut_eq hlegs hlen d hv8 t hp8 (by omega)]
        simp only [Option.bind_some]; obtain ⟨w0, w1⟩ := way_bd hlegs v hp8
        have hex : way l v p < FAR → way l v p ≤ t → ExplOk l v d p t := fun a b => ⟨hlegs, hlen, hv8, by omega, hp8, h4, a, b, h5, h6⟩
        rw [show rd (it (arcsOf v l) 7 D0) p = way l v p from rfl]
        by_cases h7 : way l v p < FAR
        ·
         have e : dec (way l v p) = way l v p := by
          unfold dec
          rw [if_neg (by omega)]
         rw [e, if_pos w0, decide_eq_true h7, if_pos rfl]
         refine ⟨_, rfl, rfl, ?_⟩
         rw [decide_eq_true_eq]
         exact ⟨fun h => hex h7 h, fun h => h.hlight⟩
        ·
         have e : dec (way l v p) = -1 := by
          unfold dec
          rw [if_pos (by omega)]
         rw [e, if_neg (by decide), decide_eq_false h7, if_neg (by decide)]
         exact hno fun h => h7 h.hway
     ·
      rw [decide_eq_false h4]
      simp only [Bool.not_false, if_true]
      exact hno fun h => h4 h.ht
    ·
     rw [decide_eq_false h3]
     simp only [Bool.false_eq_true, if_false, if_true]
     exact hno fun h => h3 ⟨h.hp.1, by have := h.hp.2; omega⟩
   ·
    rw [if_neg h2, if_neg h2]
    exact hno fun h => h2 (by have := h.hd; omega)
  ·
   rw [if_neg h1, if_neg h1]
   exact hno fun h => h1 (by have := h.hv; omega)
theorem set_app {α : Type} (pre ys : List α) (y z : α) (i : Nat) (h : pre.length = i) : (pre ++ y :: ys).set ((i : Int)).toNat z = pre ++ z :: ys := by
 rw [Int.toNat_natCast, List.set_append_right _ _ (by omega), h, Nat.sub_self, List.set_cons_zero]
theorem getD_app {α : Type} (pre ys : List α) (y d : α) (i : Nat) (h : pre.length = i) : (pre ++ y :: ys).getD ((i : Int)).toNat d = y := by
 rw [Int.toNat_natCast, List.getD_eq_getElem?_getD, List.getElem?_append_right (by omega), h, Nat.sub_self]
 rfl
theorem len_app {α : Type} (pre ys : List α) (y : α) : ((pre ++ y :: ys).length : Int) = (pre.length : Int) + (ys.length : Int) + 1 := by
 simp
 omega
def upLeg (a : Int) : Nat → List S37
 | 0 => []
 | n + 1 => ⟨a, a + 1, a + 1 + 1, a + 1 + 1 + 1, a + 1 + 1 + 1 + 1⟩ :: upLeg (a + 1 + 1 + 1 + 1 + 1) n
theorem upLeg_len (n : Nat) : ∀ a, (upLeg a n).length = n := by
 induction n with
 | zero => intro a; rfl
 | succ n ih => intro a; simp [upLeg, ih]
theorem upLeg_get (n : Nat) : ∀ (a A : Int) (j : Nat), j < n → A = a + 5 * j → (upLeg a n)[j]? = some ⟨A, A + 1, A + 1 + 1, A + 1 + 1 + 1, A + 1 + 1 + 1 + 1⟩ := by
 induction n with
 | zero => intro a A j h; omega
 | succ n ih =>
  intro a A j h hA
  cases j with
  | zero =>
   obtain rfl : A = a := by omega
   simp [upLeg]
  | succ j =>
   simp only [upLeg, List.getElem?_cons_succ]
   exact ih (a + 1 + 1 + 1 + 1 + 1) A j (by omega) (by omega)
theorem markLegS_up0 (d : Nat) : ∀ (k i : Nat) (pre suf : List S37) (a : Int), pre.length = i → suf.length = d → d < k → i + d ≤ 1152921504606846976 → 0 ≤ a → a + 5 * d ≤ 4611686018427387904 →
  laws_markLegS.l0 k (pre ++ suf) a i = some (a + 5 * d, pre ++ upLeg a d) := by
 induction d with
 | zero =>
  intro k i pre suf a hp hs hk hb h0 h1
  obtain ⟨k, rfl⟩ : ∃ m, k = m + 1 := ⟨k - 1, by omega⟩
  obtain rfl : suf = [] := List.length_eq_zero_iff.1 hs
  simp only [laws_markLegS.l0]
  rw [if_neg (by simp; omega)]
  simp [upLeg]
 | succ d ih =>
  intro k i pre suf a hp hs hk hb h0 h1
  obtain ⟨k, rfl⟩ : ∃ m, k = m + 1 := ⟨k - 1, by omega⟩
  obtain ⟨y, ys, rfl⟩ : ∃ y ys, suf = y :: ys := List.exists_cons_of_length_pos (by omega)
  have hys : ys.length = d := by simpa using hs
  have er : ∀ z, rd_T37 (pre ++ z :: ys) (i : Int) = z := fun z => getD_app pre ys z z37 i hp
  have es : ∀ y z, (pre ++ y :: ys).set ((i : Int)).toNat z = pre ++ z :: ys := fun y z => set_app pre ys y z i hp
  have c1 : (i : Int) < ((pre ++ y :: ys).length : Int) := by rw [len_app]; omega
  have c2 : (0 : Int) ≤ (i : Int) := by omega
  simp only [laws_markLegS.l0, Option.bind_some, er, es]
  rw [if_pos c1, if_pos c2]
  rw [w64 (x := a + 1) (by omega) (by omega), w64 (x := a + 1 + 1) (by omega) (by omega), w64 (x := a + 1 + 1 + 1) (by omega) (by omega), w64 (x := a + 1 + 1 + 1 + 1) (by omega) (by omega), w64 (x := a + 1 + 1 + 1 + 1 + 1) (by omega) (by omega), w64 (x := (i : Int) + 1) (by omega) (by omega)]
  have := ih k (i + 1) (pre ++ [⟨a, a + 1, a + 1 + 1, a + 1 + 1 + 1, a + 1 + 1 + 1 + 1⟩]) ys (a + 1 + 1 + 1 + 1 + 1) (by simp; omega) hys (by omega) (by omega) (by omega) (by omega)
  rw [List.append_assoc, List.append_assoc, List.singleton_append, List.singleton_append] at this
  rw [show ((i : Int) + 1) = ((i + 1 : Nat) : Int) by omega, this]
  simp only [upLeg, Option.some.injEq, Prod.mk.injEq, and_true]
  omega
theorem markLegS_up {l : List S37} (hl : l.length ≤ 70368744177664) {k : Nat} (hk : l.length < k) {a : Int} (h0 : 0 ≤ a) (h1 : a ≤ 1125899906842624) : laws_markLegS.f k l a = some (a + 5 * l.length, upLeg a l.length) := by
 unfold laws_markLegS.f
 have := markLegS_up0 l.length k 0 [] l a rfl rfl hk (by omega) h0 (by omega)
 simpa using this
theorem heldLegS_up0 (n : Nat) (b : Int) (d : Nat) : ∀ (k i : Nat) (A : Int), A = b + 5 * i → i + d = n → d < k → n ≤ 1152921504606846976 → 0 ≤ b → b + 5 * n ≤ 4611686018427387904 →
  laws_heldLegS.l0 k (upLeg b n) A i = some (b + 5 * n) := by
 induction d with
 | zero =>
  intro k i A hA hd hk hn h0 h1
  obtain ⟨k, rfl⟩ : ∃ m, k = m + 1 := ⟨k - 1, by omega⟩
  simp only [laws_heldLegS.l0]
  rw [if_neg (by rw [upLeg_len]; omega)]
  congr 1
  omega
 | succ d ih =>
  intro k i A hA hd hk hn h0 h1
  obtain ⟨k, rfl⟩ : ∃ m, k = m + 1 := ⟨k - 1, by omega⟩
  have e : rd_T37 (upLeg b n) (i : Int) = ⟨A, A + 1, A + 1 + 1, A + 1 + 1 + 1, A + 1 + 1 + 1 + 1⟩ := by
   show (upLeg b n).getD ((i : Int)).toNat _ = _
   rw [Int.toNat_natCast, List.getD_eq_getElem?_getD, upLeg_get n b A i (by omega) hA]
   rfl
  have c1 : (i : Int) < ((upLeg b n).length : Int) := by rw [upLeg_len]; omega
  have c2 : (0 : Int) ≤ (i : Int) := by omega
  have hA0 : 0 ≤ A := by omega
  have hA1 : A + 5 ≤ 4611686018427387904 := by omega
  have := ih k (i + 1) (A + 1 + 1 + 1 + 1 + 1) (by omega) (by omega) (by omega) hn h0 h1
  simp only [laws_heldLegS.l0, e]
  rw [if_pos c1, if_pos c2, w64 (x := A + 1) (by omega) (by omega), w64 (x := A + 1 + 1) (by omega) (by omega), w64 (x := A + 1 + 1 + 1) (by omega) (by omega), w64 (x := A + 1 + 1 + 1 + 1) (by omega) (by omega), w64 (x := A + 1 + 1 + 1 + 1 + 1) (by omega) (by omega), w64 (x := (i : Int) + 1) (by omega) (by omega)]
  simp only [if_true]
  rw [show ((i : Int) + 1) = ((i + 1 : Nat) : Int) by omega]
  exact this
theorem heldLegS_up {n : Nat} (hn : n ≤ 70368744177664) {k : Nat} (hk : n < k) {a : Int} (h0 : 0 ≤ a) (h1 : a ≤ 1125899906842624) : laws_heldLegS.f k (upLeg a n) a = some (a + 5 * n) := by
 unfold laws_heldLegS.f
 have := heldLegS_up0 n a n k 0 a (by omega) (by omega) hk (by omega) h0 (by omega)
 simpa using this
def upBool (a : Int) : Nat → List Bool
 | 0 => []
 | n + 1 => (Int.tmod a 3 == 0) :: upBool (a + 1) n
theorem upBool_len (n : Nat) : ∀ a, (upBool a n).length = n := by
 induction n with
 | zero => intro a; rfl
 | succ n ih => intro a; simp [upBool, ih]
theorem upBool_get (n : Nat) : ∀ (a A : Int) (j : Nat), j < n → A = a + j → (upBool a n)[j]? = some (Int.tmod A 3 == 0) := by
 induction n with
 | zero => intro a A j h; omega
 | succ n ih =>
  intro a A j h hA
  cases j with
  | zero =>
   obtain rfl : A = a := by omega
   simp [upBool]
  | succ j =>
   simp only [upBool, List.getElem?_cons_succ]
   exact ih (a + 1) A j (by omega) (by omega)
theorem markBoolS_up0 (d : Nat) : ∀ (k i : Nat) (pre suf : List Bool) (a : Int), pre.length = i → suf.length = d → d < k → i + d ≤ 1152921504606846976 → 0 ≤ a → a + d ≤ 4611686018427387904 →
  laws_markBoolS.l0 k (pre ++ suf) a i = some (a + d, pre ++ upBool a d) := by
 induction d with
 | zero =>
  intro k i pre suf a hp hs hk hb h0 h1
  obtain ⟨k, rfl⟩ : ∃ m, k = m + 1 := ⟨k - 1, by omega⟩
  obtain rfl : suf = [] := List.length_eq_zero_iff.1 hs
  simp only [laws_markBoolS.l0]
  rw [if_neg (by simp; omega)]
  simp [upBool]
 | succ d ih =>
  intro k i pre suf a hp hs hk hb h0 h1
  obtain ⟨k, rfl⟩ : ∃ m, k = m + 1 := ⟨k - 1, by omega⟩
  obtain ⟨y, ys, rfl⟩ : ∃ y ys, suf = y :: ys := List.exists_cons_of_length_pos (by omega)
  have hys : ys.length = d := by simpa using hs
  have es : ∀ y z, (pre ++ y :: ys).set ((i : Int)).toNat z = pre ++ z :: ys := fun y z => set_app pre ys y z i hp
  have c1 : (i : Int) < ((pre ++ y :: ys).length : Int) := by rw [len_app]; omega
  have c2 : (0 : Int) ≤ (i : Int) := by omega
  simp only [laws_markBoolS.l0, es]
  rw [if_pos c1, if_pos c2]
  rw [w64 (x := a + 1) (by omega) (by omega), w64 (x := (i : Int) + 1) (by omega) (by omega)]
  have := ih k (i + 1) (pre ++ [Int.tmod a 3 == 0]) ys (a + 1) (by simp; omega) hys (by omega) (by omega) (by omega) (by omega)
  rw [List.append_assoc, List.append_assoc, List.singleton_append, List.singleton_append] at this
  rw [show ((i : Int) + 1) = ((i + 1 : Nat) : Int) by omega, this]
  simp only [upBool, Option.some.injEq, Prod.mk.injEq, and_true]
  omega
theorem markBoolS_up {l : List Bool} (hl : l.length ≤ 140737488355328) {k : Nat} (hk : l.length < k) {a : Int} (h0 : 0 ≤ a) (h1 : a ≤ 1125899906842624) : laws_markBoolS.f k l a = some (a + l.length, upBool a l.length) := by
 unfold laws_markBoolS.f
 have := markBoolS_up0 l.length k 0 [] l a rfl rfl hk (by omega) h0 (by omega)
 simpa using this
theorem heldBoolS_up0 (n : Nat) (b : Int) (d : Nat) : ∀ (k i : Nat) (A : Int), A = b + i → i + d = n → d < k → n ≤ 1152921504606846976 → 0 ≤ b → b + n ≤ 4611686018427387904 →
  laws_heldBoolS.l0 k (upBool b n) A i = some (b + n) := by
 induction d with
 | zero =>
  intro k i A hA hd hk hn h0 h1
  obtain ⟨k, rfl⟩ : ∃ m, k = m + 1 := ⟨k - 1, by omega⟩
  simp only [laws_heldBoolS.l0]
  rw [if_neg (by rw [upBool_len]; omega)]
  congr 1
  omega
 | succ d ih =>
  intro k i A hA hd hk hn h0 h1
  obtain ⟨k, rfl⟩ : ∃ m, k = m + 1 := ⟨k - 1, by omega⟩
  have e : rdOf false (upBool b n) (i : Int) = (Int.tmod A 3 == 0) := by
   show (upBool b n).getD ((i : Int)).toNat _ = _
   rw [Int.toNat_natCast, List.getD_eq_getElem?_getD, upBool_get n b A i (by omega) hA]
   rfl
  have c1 : (i : Int) < ((upBool b n).length : Int) := by rw [upBool_len]; omega
  have c2 : (0 : Int) ≤ (i : Int) := by omega
  have := ih k (i + 1) (A + 1) (by omega) (by omega) (by omega) hn h0 h1
  simp only [laws_heldBoolS.l0, e, bne_self_eq_false, Bool.false_eq_true, if_false]
  rw [if_pos c1, if_pos c2, w64 (x := A + 1) (by omega) (by omega), w64 (x := (i : Int) + 1) (by omega) (by omega)]
  rw [show ((i : Int) + 1) = ((i + 1 : Nat) : Int) by omega]
  exact this
theorem heldBoolS_up {n : Nat} (hn : n ≤ 140737488355328) {k : Nat} (hk : n < k) {a : Int} (h0 : 0 ≤ a) (h1 : a ≤ 1125899906842624) : laws_heldBoolS.f k (upBool a n) a = some (a + n) := by
 unfold laws_heldBoolS.f
 have := heldBoolS_up0 n a n k 0 a (by omega) (by omega) hk (by omega) h0 (by omega)
 simpa using this
theorem markExploration_eq {l : List S37} {v d : List Bool} (p t : Int) (hl : l.length ≤ 70368744177) (hv : v.length ≤ 70368744177) (hd : d.length ≤ 70368744177) {k : Nat} (hk : l.length < k) (hk1 : v.length < k) (hk2 : d.length < k) :
  laws_markExploration.f k l v d p t 1 = some ((1 : Int) + 5 * (l.length : Int) + (v.length : Int) + (d.length : Int), upLeg 1 l.length, upBool ((1 : Int) + 5 * (l.length : Int)) v.length, upBool ((1 : Int) + 5 * (l.length : Int) + (v.length : Int)) d.length) := by
 unfold laws_markExploration.f
 rw [markLegS_up (by omega) hk (by omega) (by omega)]
 simp only [Option.bind_some]
 rw [markBoolS_up (by omega) hk1 (by omega) (by omega)]
 simp only [Option.bind_some]
 rw [markBoolS_up (by omega) hk2 (by omega) (by omega)]
 rfl
theorem heldExploration_eq {n m j : Nat} (p t : Int) (hl : n ≤ 70368744177) (hv : m ≤ 70368744177) (hd : j ≤ 70368744177) {k : Nat} (hk : n < k) (hk1 : m < k) (hk2 : j < k) :
  laws_heldExploration.f k (upLeg 1 n) (upBool ((1 : Int) + 5 * (n : Int)) m) (upBool ((1 : Int) + 5 * (n : Int) + (m : Int)) j) p t 1 = some ((1 : Int) + 5 * (n : Int) + (m : Int) + (j : Int)) := by
 unfold laws_heldExploration.f
 rw [heldLegS_up (by omega) hk (by omega) (by omega)]
 simp only [Option.bind_some]
 rw [if_neg (by omega), heldBoolS_up (by omega) hk1 (by omega) (by omega)]
 simp only [Option.bind_some]
 rw [if_neg (by omega), heldBoolS_up (by omega) hk2 (by omega) (by omega)]
 simp only [Option.bind_some]
 rw [if_neg (by omega)]
theorem own_eq (l : List S37) (v d : List Bool) (p t : Int) (hl : l.length ≤ 1000000) (hv : v.length ≤ 1000000) (hd : d.length ≤ 1000000) : spec_l25Own.f l v d p t = some (l, v, d, p, t) := by
 unfold spec_l25Own.f
 simp only [Option.bind_some, List.nil_append, List.length_nil, Nat.zero_add]
 rw [if_pos (by omega), if_pos (by omega), if_pos (by omega)]
theorem clone_eq (l : List S37) (v d : List Bool) (p t : Int) (hl : l.length ≤ 1000000) (hv : v.length ≤ 1000000) (hd : d.length ≤ 1000000) : impl_Exploration_clone.f l v d p t = some (l, v, d, p, t) := by
 unfold impl_Exploration_clone.f impl_Leg_87.f slices_Clone_bool_bool.f
 rw [if_pos (by omega), if_pos (by omega), if_pos (by omega)]
 rfl
theorem go_moves {l : List S37} {v d : List Bool} {p t a b tp c s m : Int} (h : a = p ∨ b = p) (h0 : 0 ≤ wrap64 (wrap64 (a + b) - p)) (h1 : wrap64 (wrap64 (a + b) - p) < (v.length : Int)) :
  spec_l25Go.f l v d p t a b tp c s m = some (l, v.set (wrap64 (wrap64 (a + b) - p)).toNat true, d, wrap64 (wrap64 (a + b) - p), wrap64 (t - m), true) := by
 unfold spec_l25Go.f
 by_cases q : a = p
 ·
  rw [if_pos q, if_pos h0, if_pos h1]
 ·
  rw [if_neg q, if_pos (h.resolve_left q), if_pos h0, if_pos h1]
theorem go_not {l : List S37} {v d : List Bool} {p t a b tp c s m : Int} (ha : a ≠ p) (hb : b ≠ p) : spec_l25Go.f l v d p t a b tp c s m = some (l, v, d, p, t, false) := by
 unfold spec_l25Go.f
 rw [if_neg ha, if_neg hb]
def Steps (K : Nat) (l : List S37) (v d : List Bool) (p t k i a b tp c s : Int) : Prop :=
 ∃ L V D P T q, spec_l25Make.f K l v d p t k i a b tp c s = some (L, V, D, P, T, q) ∧ impl_walkOn.f K l v d p t k i a b tp c s = some (if q = true then (L, V, D, P, T, true) else ([], [], [], 0, 0, false)) ∧ L.length ≤ 13 ∧ V.length = 8 ∧ D.length = 8 ∧ (q = true → ExplOk L V D P T)
theorem zero_leg (k i : Int) (h2 : k ≠ 2) (h3 : k = 3 → i = 0) : ¬ ((k ≠ 2 ∧ ¬ ((0 : Int) = 0 ∧ (0 : Int) = 0 ∧ (0 : Int) = 0 ∧ (0 : Int) = 0 ∧ (0 : Int) = 0)) ∨ ((k = 2 ∨ k = 3) ∧ i ≠ 0)) := by
 rintro (⟨_, z⟩ | ⟨z | z, zi⟩)
 ·
  exact z ⟨rfl, rfl, rfl, rfl, rfl⟩
 ·
  exact h2 z
 ·
  exact zi (h3 z)
theorem walkOn_of {K : Nat} {l L : List S37} {v d V D : List Bool} {p t k i a b tp c s P T : Int} {q : Bool} (hl : l.length ≤ 1000000) (hv : v.length ≤ 1000000) (hd : d.length ≤ 1000000) (hw : walk_f l v d p t k i a b tp c s = some (L, V, D, P, T, true)) (hq : impl_IsExploration.f K L V D P T = some q) :
  impl_walkOn.f K l v d p t k i a b tp c s = some (if q = true then (L, V, D, P, T, true) else ([], [], [], 0, 0, false)) := by
 unfold impl_walkOn.f
 rw [clone_eq l v d p t hl hv hd]
 simp only [Option.bind_some]
 rw [hw]
 simp only [Option.bind_some, if_true]
 rw [hq]
 simp only [Option.bind_some]
 cases q <;> rfl
theorem walkOn_no {K : Nat} {l L : List S37} {v d V D : List Bool} {p t k i a b tp c s P T : Int} (hl : l.length ≤ 1000000) (hv : v.length ≤ 1000000) (hd : d.length ≤ 1000000) (hw : walk_f l v d p t k i a b tp c s = some (L, V, D, P, T, false)) :
  impl_walkOn.f K l v d p t k i a b tp c s = some ([], [], [], 0, 0, false) := by
 unfold impl_walkOn.f
 rw [clone_eq l v d p t hl hv hd]
 simp only [Option.bind_some]
 rw [hw]
 simp only [Option.bind_some, Bool.false_eq_true, if_false]
theorem make1 {l : List S37} {v d : List Bool} {p t : Int} (g : ExplOk l v d p t) {i : Int} (h0 : 0 ≤ i) (h1 : i < (l.length : Int)) {K : Nat} (hK : 450 ≤ K) : Steps K l v d p t 1 i 0 0 0 0 0 := by
 have hlen := g.len
 have hv := g.hv
 have hd := g.hd
 obtain ⟨p0, p1⟩ := g.hp
 obtain ⟨⟨a0, a1⟩, ⟨b0, b1⟩, _, ⟨c0, c1⟩, _, _⟩ := g.legs _ (rdLeg_mem h0 h1)
 have hin : 0 ≤ i ∧ i ≤ wrap64 ((l.length : Int) - 1) := ⟨h0, by unfold wrap64; omega⟩
 have hs0 : spec_l25Make.f K l v d p t 1 i 0 0 0 0 0 = (spec_l25Go.f l v d p t (rd_T37 l i).f0 (rd_T37 l i).f1 (rd_T37 l i).f2 (rd_T37 l i).f3 (rd_T37 l i).f4 (rd_T37 l i).f2).bind fun r => if r.2.2.2.2.2 = true then (spec_l25Good.f K r.1 r.2.1 r.2.2.1 r.2.2.2.1 r.2.2.2.2.1).bind fun x => some (r.1, r.2.1, r.2.2.1, r.2.2.2.1, r.2.2.2.2.1, x) else some (r.1, r.2.1, r.2.2.1, r.2.2.2.1, r.2.2.2.2.1, false) := by
  unfold spec_l25Make.f
  rw [own_eq l v d p t (by omega) (by omega) (by omega)]
  simp only [Option.bind_some]
  rw [if_pos trivial, if_pos h0, if_pos h1]
 have hw0 : walk_f l v d p t 1 i 0 0 0 0 0 = if (rd_T37 l i).f0 ≠ p ∧ (rd_T37 l i).f1 ≠ p then some (l, v, d, p, t, false) else if 0 ≤ wrap64 (wrap64 ((rd_T37 l i).f0 + (rd_T37 l i).f1) - p) ∧ wrap64 (wrap64 ((rd_T37 l i).f0 + (rd_T37 l i).f1) - p) < (v.length : Int) then some (l, v.set (wrap64 (wrap64 ((rd_T37 l i).f0 + (rd_T37 l i).f1) - p)).toNat true, d, wrap64 (wrap64 ((rd_T37 l i).f0 + (rd_T37 l i).f1) - p), wrap64 (t - wrap64 (1 * (rd_T37 l i).f2)), true) else none := by
  unfold walk_f
  rw [if_neg (zero_leg 1 i (by decide) (fun z => absurd z (by decide))), if_pos rfl, if_pos hin]
 generalize rd_T37 l i = y at *
 by_cases hn : y.f0 ≠ p ∧ y.f1 ≠ p
 ·
  rw [if_pos hn] at hw0
  rw [go_not hn.1 hn.2] at hs0
  simp only [Option.bind_some, Bool.false_eq_true, if_false] at hs0
  exact ⟨_, _, _, _, _, false, hs0, walkOn_no (by omega) (by omega) (by omega) hw0, by omega, hv, hd, fun z => by cases z⟩
 ·
  have hor : y.f0 = p ∨ y.f1 = p := by
   by_cases z : y.f0 = p
   ·
    exact .inl z
   ·
    exact .inr (Classical.byContradiction fun z2 => hn ⟨z, z2⟩)
  have e0 : 0 ≤ wrap64 (wrap64 (y.f0 + y.f1) - p) := by unfold wrap64; omega
  have e1 : wrap64 (wrap64 (y.f0 + y.f1) - p) < (v.length : Int) := by unfold wrap64; omega
  have et : wrap64 (1 * y.f2) = y.f2 := by unfold wrap64; omega
  rw [if_neg hn, if_pos ⟨e0, e1⟩, et] at hw0
  rw [go_moves hor e0 e1] at hs0
  obtain ⟨b, g1, g2, g3⟩ := good_eq l (by omega) (v.set (wrap64 (wrap64 (y.f0 + y.f1) - p)).toNat true) d (wrap64 (wrap64 (y.f0 + y.f1) - p)) (wrap64 (t - y.f2)) (k := K) (by omega)
  simp only [Option.bind_some, if_true] at hs0
  rw [g1, Option.bind_some] at hs0
  exact ⟨_, _, _, _, _, b, hs0, walkOn_of (by omega) (by omega) (by omega) hw0 g2, by omega, by rw [List.length_set]; exact hv, hd, fun z => g3.1 z⟩
theorem make2 {l : List S37} {v d : List Bool} {p t : Int} (g : ExplOk l v d p t) {a b tp c s : Int} (hx : LegOk ⟨a, b, tp, c, s⟩) {K : Nat} (hK : 450 ≤ K) : Steps K l v d p t 2 0 a b tp c s := by
 have hlen := g.len
 have hv := g.hv
 have hd := g.hd
 obtain ⟨p0, p1⟩ := g.hp
 have hle : spec_l4Leg.f a b tp c s = some true := by
  obtain ⟨r, h1, h2⟩ := leg_spec ⟨a, b, tp, c, s⟩
  rw [h2.2 hx] at h1
  exact h1
 have hli : impl_IsLeg.f a b tp c s = some true := by rw [leg_impl]; exact hle
 obtain ⟨⟨a0, a1⟩, ⟨b0, b1⟩, hne, ⟨c0, c1⟩, _, _⟩ := hx
 simp only at a0 a1 b0 b1 c0 c1 hne
 have c0' : ¬ (((2 : Int) ≠ 2 ∧ ¬ (a = 0 ∧ b = 0 ∧ tp = 0 ∧ c = 0 ∧ s = 0)) ∨ (((2 : Int) = 2 ∨ (2 : Int) = 3) ∧ (0 : Int) ≠ 0)) := by
  rintro (⟨z, _⟩ | ⟨_, z⟩)
  ·
   exact z rfl
  ·
   exact z rfl
 have hs0 : spec_l25Make.f K l v d p t 2 0 a b tp c s = (spec_l25Go.f (l ++ [⟨a, b, tp, c, s⟩]) v d p t a b tp c s (wrap64 (3 * tp))).bind fun r => if a = p then (spec_l25Good.f K r.1 r.2.1 r.2.2.1 r.2.2.2.1 r.2.2.2.2.1).bind fun x => some (r.1, r.2.1, r.2.2.1, r.2.2.2.1, r.2.2.2.2.1, x) else some (r.1, r.2.1, r.2.2.1, r.2.2.2.1, r.2.2.2.2.1, false) := by
  unfold spec_l25Make.f
  rw [own_eq l v d p t (by omega) (by omega) (by omega)]
  simp only [Option.bind_some]
  rw [if_neg (by decide), if_pos trivial, if_pos (by omega)]
 have hw0 : walk_f l v d p t 2 0 a b tp c s = if a = p then (if l.length < 1000000 ∧ 0 ≤ wrap64 (wrap64 (a + b) - p) ∧ wrap64 (wrap64 (a + b) - p) < (v.length : Int) then some (l ++ [⟨a, b, tp, c, s⟩], v.set (wrap64 (wrap64 (a + b) - p)).toNat true, d, wrap64 (wrap64 (a + b) - p), wrap64 (t - wrap64 (3 * tp)), true) else none) else some (l, v, d, p, t, false) := by
  unfold walk_f
  rw [if_neg c0', if_neg (by decide), if_pos rfl, hli, Option.bind_some]
  by_cases q : a = p
  ·
   rw [if_pos ⟨rfl, q⟩, if_pos q]
  ·
   rw [if_neg (fun z => q z.2), if_neg q]
 have hl13 : (l ++ [(⟨a, b, tp, c, s⟩ : S37)]).length = l.length + 1 := by rw [List.length_append]; rfl
 by_cases hap : a = p
 ·
  have e0 : 0 ≤ wrap64 (wrap64 (a + b) - p) := by unfold wrap64; omega
  have e1 : wrap64 (wrap64 (a + b) - p) < (v.length : Int) := by unfold wrap64; omega
  rw [if_pos hap, if_pos ⟨by omega, e0, e1⟩] at hw0
  rw [go_moves (.inl hap) e0 e1] at hs0
  obtain ⟨q, g1, g2, g3⟩ := good_eq (l ++ [⟨a, b, tp, c, s⟩]) (by omega) (v.set (wrap64 (wrap64 (a + b) - p)).toNat true) d (wrap64 (wrap64 (a + b) - p)) (wrap64 (t - wrap64 (3 * tp))) (k := K) (by omega)
  simp only [Option.bind_some, if_pos hap] at hs0
  rw [g1, Option.bind_some] at hs0
  exact ⟨_, _, _, _, _, q, hs0, walkOn_of (by omega) (by omega) (by omega) hw0 g2, by omega, by rw [List.length_set]; exact hv, hd, fun z => g3.1 z⟩
 ·
  rw [if_neg hap] at hw0
  have hi := walkOn_no (K := K) (by omega) (by omega) (by omega) hw0
  by_cases hbp : b = p
  ·
   have e0 : 0 ≤ wrap64 (wrap64 (a + b) - p) := by unfold wrap64; omega
   have e1 : wrap64 (wrap64 (a + b) - p) < (v.length : Int) := by unfold wrap64; omega
   rw [go_moves (.inr hbp) e0 e1] at hs0
   simp only [Option.bind_some, if_neg hap] at hs0
   exact ⟨_, _, _, _, _, false, hs0, hi, by omega, by rw [List.length_set]; exact hv, hd, fun z => by cases z⟩
  ·
   rw [go_not hap hbp] at hs0
   simp only [Option.bind_some, if_neg hap] at hs0
   exact ⟨_, _, _, _, _, false, hs0, hi, by omega, hv, hd, fun z => by cases z⟩
theorem make3 {l : List S37} {v d : List Bool} {p t : Int} (g : ExplOk l v d p t) {K : Nat} (hK : 450 ≤ K) : Steps K l v d p t 3 0 0 0 0 0 0 := by
 have hlen := g.len
 have hv := g.hv
 have hd := g.hd
 obtain ⟨p0, p1⟩ := g.hp
 have hpd : p < (d.length : Int) := by omega
 have hs0 : spec_l25Make.f K l v d p t 3 0 0 0 0 0 0 = if rdOf false d p = true then some (l, v, d.set p.toNat true, p, t, false) else (spec_l25Good.f K l v (d.set p.toNat true) p t).bind fun x => some (l, v, d.set p.toNat true, p, t, x) := by
  unfold spec_l25Make.f
  rw [own_eq l v d p t (by omega) (by omega) (by omega)]
  simp only [Option.bind_some]
  rw [if_neg (by decide), if_neg (by decide), if_pos trivial, if_pos p0, if_pos hpd, if_pos hpd]
 have hw0 : walk_f l v d p t 3 0 0 0 0 0 0 = if rdOf false d p = true then some (l, v, d, p, t, false) else some (l, v, d.set p.toNat true, p, t, true) := by
  unfold walk_f
  rw [if_neg (zero_leg 3 0 (by decide) (fun _ => rfl)), if_neg (by decide), if_neg (by decide), if_pos rfl, if_pos ⟨p0, hpd⟩]
 by_cases q : rdOf false d p = true
 ·
  rw [if_pos q] at hs0 hw0
  exact ⟨_, _, _, _, _, false, hs0, walkOn_no (by omega) (by omega) (by omega) hw0, by omega, hv, by rw [List.length_set]; exact hd, fun z => by cases z⟩
 ·
  rw [if_neg q] at hs0 hw0
  obtain ⟨b, g1, g2, g3⟩ := good_eq l (by omega) v (d.set p.toNat true) p t (k := K) (by omega)
  rw [g1, Option.bind_some] at hs0
  exact ⟨_, _, _, _, _, b, hs0, walkOn_of (by omega) (by omega) (by omega) hw0 g2, by omega, hv, by rw [List.length_set]; exact hd, fun z => g3.1 z⟩
theorem make4 {l : List S37} {v d : List Bool} {p t : Int} (g : ExplOk l v d p t) {i : Int} (h1 : 1 ≤ i) (h2 : i ≤ 1000) {K : Nat} (hK : 450 ≤ K) : Steps K l v d p t 4 i 0 0 0 0 0 := by
 have hlen := g.len
 have hv := g.hv
 have hd := g.hd
 have hs0 : spec_l25Make.f K l v d p t 4 i 0 0 0 0 0 = if p = 0 then (spec_l25Good.f K l v d p (wrap64 (t + i))).bind fun x => some (l, v, d, p, wrap64 (t + i), x) else some (l, v, d, p, wrap64 (t + i), false) := by
  unfold spec_l25Make.f
  rw [own_eq l v d p t (by omega) (by omega) (by omega)]
  simp only [Option.bind_some]
  rw [if_neg (by decide), if_neg (by decide), if_neg (by decide)]
 have hw0 : walk_f l v d p t 4 i 0 0 0 0 0 = if p = 0 ∧ 1 ≤ i ∧ i ≤ 1000 then some (l, v, d, p, wrap64 (t + i), true) else some (l, v, d, p, t, false) := by
  unfold walk_f
  rw [if_neg (zero_leg 4 i (by decide) (fun z => absurd z (by decide))), if_neg (by decide), if_neg (by decide), if_neg (by decide), if_pos rfl]
 by_cases q : p = 0
 ·
  rw [if_pos q] at hs0
  rw [if_pos ⟨q, h1, h2⟩] at hw0
  obtain ⟨b, g1, g2, g3⟩ := good_eq l (by omega) v d p (wrap64 (t + i)) (k := K) (by omega)
  rw [g1, Option.bind_some] at hs0
  exact ⟨_, _, _, _, _, b, hs0, walkOn_of (by omega) (by omega) (by omega) hw0 g2, by omega, hv, hd, fun z => g3.1 z⟩
 ·
  rw [if_neg q] at hs0
  rw [if_neg (fun z => q z.1)] at hw0
  exact ⟨_, _, _, _, _, false, hs0, walkOn_no (by omega) (by omega) (by omega) hw0, by omega, hv, hd, fun z => by cases z⟩
end Go.Proofs.Ythmjimboajmhmaa.Pr.Pure

namespace Go.Proofs.Ythmjimboajmhmaa.Pr.Pure
open Go.RowKit Go.Proofs.YthmjimboajmhmaaW.PrintWords Go.Proofs.YthmjimboajmhmaaW.PrintLast Go.Proofs.YthmjimboajmhmaaW.PrintMore Go.Proofs.YthmjimboajmhmaaW.Opens
set_option linter.unusedVariables false
set_option linter.unusedSimpArgs false
theorem zeros_dec (a b tp c s : Int) : (a == 0 && (b == 0 && (tp == 0 && (c == 0 && (s == 0))))) = decide (a = 0 ∧ b = 0 ∧ tp = 0 ∧ c = 0 ∧ s = 0) := by
 rw [Bool.eq_iff_iff]
 simp
theorem walk_valid (K : Nat) {l : List S37} {v d : List Bool} {p t : Int} (g : ExplOk l v d p t) (k i a b tp c s : Int) :
  ∃ q, spec_l25Walk.f l v d p t k i a b tp c s = some q ∧ (q = true → (k = 1 ∧ 0 ≤ i ∧ i < (l.length : Int) ∧ a = 0 ∧ b = 0 ∧ tp = 0 ∧ c = 0 ∧ s = 0) ∨ (k = 2 ∧ i = 0 ∧ LegOk ⟨a, b, tp, c, s⟩) ∨ (k = 3 ∧ i = 0 ∧ a = 0 ∧ b = 0 ∧ tp = 0 ∧ c = 0 ∧ s = 0) ∨ (k = 4 ∧ 1 ≤ i ∧ i ≤ 1000 ∧ a = 0 ∧ b = 0 ∧ tp = 0 ∧ c = 0 ∧ s = 0)) ∧ (q = false → impl_walkOn.f K l v d p t k i a b tp c s = some ([], [], [], 0, 0, false)) := by
 have hlen := g.len
 have hv := g.hv
 have hd := g.hd
 have no : walk_f l v d p t k i a b tp c s = some (l, v, d, p, t, false) → impl_walkOn.f K l v d p t k i a b tp c s = some ([], [], [], 0, 0, false) := fun h => walkOn_no (by omega) (by omega) (by omega) h
 have hw : wrap64 ((l.length : Int) - 1) = (l.length : Int) - 1 := by unfold wrap64; omega
 unfold spec_l25Walk.f
 simp only [zeros_dec]
 by_cases k1 : k = 1
 ·
  subst k1
  rw [if_pos rfl, l1In_eq, Option.bind_some, hw]
  by_cases hi : 0 ≤ i ∧ i ≤ (l.length : Int) - 1
  ·
   rw [if_pos (decide_eq_true hi)]
   refine ⟨_, rfl, fun h => ?_, fun h => no ?_⟩
   ·
    obtain ⟨z1, z2, z3, z4, z5⟩ := of_decide_eq_true h
    exact .inl ⟨rfl, hi.1, by omega, z1, z2, z3, z4, z5⟩
   ·
    unfold walk_f
    rw [if_pos (.inl ⟨by decide, of_decide_eq_false h⟩)]
  ·
   rw [if_neg (by rw [decide_eq_false hi]; decide)]
   refine ⟨_, rfl, (fun h => by cases h), fun _ => no ?_⟩
   unfold walk_f
   by_cases z : ((1 : Int) ≠ 2 ∧ ¬ (a = 0 ∧ b = 0 ∧ tp = 0 ∧ c = 0 ∧ s = 0)) ∨ (((1 : Int) = 2 ∨ (1 : Int) = 3) ∧ i ≠ 0)
   ·
    rw [if_pos z]
   ·
    rw [if_neg z, if_pos rfl, hw, if_neg hi]
 rw [if_neg k1]
 by_cases k2 : k = 2
 ·
  subst k2
  rw [if_pos rfl]
  by_cases hi : i = 0
  ·
   subst hi
   obtain ⟨r, h1, h2⟩ := leg_spec ⟨a, b, tp, c, s⟩
   simp only at h1
   rw [if_pos rfl, h1, Option.bind_some]
   refine ⟨_, rfl, fun h => .inr (.inl ⟨rfl, rfl, h2.1 h⟩), fun h => no ?_⟩
   unfold walk_f
   rw [if_neg (by rintro (⟨z, _⟩ | ⟨_, z⟩); exact z rfl; exact z rfl), if_neg (by decide), if_pos rfl, leg_impl, h1, Option.bind_some, if_neg (fun z => by rw [h] at z; cases z.1)]
  ·
   rw [if_neg hi]
   refine ⟨_, rfl, (fun h => by cases h), fun _ => no ?_⟩
   unfold walk_f
   rw [if_pos (.inr ⟨.inl rfl, hi⟩)]
 rw [if_neg k2]
 by_cases k3 : k = 3
 ·
  subst k3
  rw [if_pos rfl]
  by_cases hi : i = 0
  ·
   rw [if_pos hi]
   refine ⟨_, rfl, fun h => ?_, fun h => no ?_⟩
   ·
    obtain ⟨z1, z2, z3, z4, z5⟩ := of_decide_eq_true h
    exact .inr (.inr (.inl ⟨rfl, hi, z1, z2, z3, z4, z5⟩))
   ·
    unfold walk_f
    rw [if_pos (.inl ⟨by decide, of_decide_eq_false h⟩)]
  ·
   rw [if_neg hi]
   refine ⟨_, rfl, (fun h => by cases h), fun _ => no ?_⟩
   unfold walk_f
   rw [if_pos (.inr ⟨.inr rfl, hi⟩)]
 rw [if_neg k3]
 by_cases k4 : k = 4
 ·
  subst k4
  rw [if_pos rfl, l1In_eq, Option.bind_some]
  by_cases hi : 1 ≤ i ∧ i ≤ 1000
  ·
   rw [if_pos (decide_eq_true hi)]
   refine ⟨_, rfl, fun h => ?_, fun h => no ?_⟩
   ·
    obtain ⟨z1, z2, z3, z4, z5⟩ := of_decide_eq_true h
    exact .inr (.inr (.inr ⟨rfl, hi.1, hi.2, z1, z2, z3, z4, z5⟩))
   ·
    unfold walk_f
    rw [if_pos (.inl ⟨by decide, of_decide_eq_false h⟩)]
  ·
   rw [if_neg (by rw [decide_eq_false hi]; decide)]
   refine ⟨_, rfl, (fun h => by cases h), fun _ => no ?_⟩
   unfold walk_f
   by_cases z : ((4 : Int) ≠ 2 ∧ ¬ (a = 0 ∧ b = 0 ∧ tp = 0 ∧ c = 0 ∧ s = 0)) ∨ (((4 : Int) = 2 ∨ (4 : Int) = 3) ∧ i ≠ 0)
   ·
    rw [if_pos z]
   ·
    rw [if_neg z, if_neg (by decide), if_neg (by decide), if_neg (by decide), if_pos rfl, if_neg (fun y => hi y.2)]
 rw [if_neg k4]
 refine ⟨_, rfl, (fun h => by cases h), fun _ => no ?_⟩
 unfold walk_f
 by_cases z : (k ≠ 2 ∧ ¬ (a = 0 ∧ b = 0 ∧ tp = 0 ∧ c = 0 ∧ s = 0)) ∨ ((k = 2 ∨ k = 3) ∧ i ≠ 0)
 ·
  rw [if_pos z]
 ·
  rw [if_neg z, if_neg k1, if_neg k2, if_neg k3, if_neg k4]
theorem walk_step {l : List S37} {v d : List Bool} {p t : Int} (g : ExplOk l v d p t) {k i a b tp c s : Int} (h : (k = 1 ∧ 0 ≤ i ∧ i < (l.length : Int) ∧ a = 0 ∧ b = 0 ∧ tp = 0 ∧ c = 0 ∧ s = 0) ∨ (k = 2 ∧ i = 0 ∧ LegOk ⟨a, b, tp, c, s⟩) ∨ (k = 3 ∧ i = 0 ∧ a = 0 ∧ b = 0 ∧ tp = 0 ∧ c = 0 ∧ s = 0) ∨ (k = 4 ∧ 1 ≤ i ∧ i ≤ 1000 ∧ a = 0 ∧ b = 0 ∧ tp = 0 ∧ c = 0 ∧ s = 0)) {K : Nat} (hK : 450 ≤ K) : Steps K l v d p t k i a b tp c s := by
 rcases h with ⟨rfl, h0, h1, rfl, rfl, rfl, rfl, rfl⟩ | ⟨rfl, rfl, h⟩ | ⟨rfl, rfl, rfl, rfl, rfl, rfl, rfl⟩ | ⟨rfl, h0, h1, rfl, rfl, rfl, rfl, rfl⟩
 ·
  exact make1 g h0 h1 hK
 ·
  exact make2 g h hK
 ·
  exact make3 g hK
 ·
  exact make4 g h0 h1 hK
theorem walk_both (l : List S37) (hl : l.length ≤ 4611686018427387904) (v d : List Bool) (p t k i a b tp c s : Int) {K : Nat} (hK : l.length + 480 ≤ K) :
  ∃ L V D P T q, spec_WalkOn.f K l v d p t k i a b tp c s = some (L, V, D, P, T, q) ∧ impl_WalkOn.f K l v d p t k i a b tp c s = some (L, V, D, P, T, q) ∧ L.length ≤ 13 ∧ V.length ≤ 8 ∧ D.length ≤ 8 := by
 obtain ⟨b0, e1, e2, hb⟩ := good_eq l hl v d p t (k := K) (by omega)
 obtain ⟨J, rfl⟩ : ∃ m, K = m + 1 := ⟨K - 1, by omega⟩
 unfold spec_WalkOn.f impl_WalkOn.f
 rw [e1, e2]
 simp only [Option.bind_some]
 cases b0 with
 | false =>
  simp only [Bool.false_eq_true, if_false, spec_WalkOn.j0, if_true]
  exact ⟨_, _, _, _, _, _, rfl, rfl, by simp, by simp, by simp⟩
 | true =>
  have ok := hb.1 rfl
  obtain ⟨q, w1, w2, w3⟩ := walk_valid (J + 1) ok k i a b tp c s
  simp only [if_true, w1, Option.bind_some]
  cases q with
  | false =>
   simp only [Bool.not_false, spec_WalkOn.j0, if_true, w3 rfl, Option.bind_some]
   exact ⟨_, _, _, _, _, _, rfl, rfl, by simp, by simp, by simp⟩
  | true =>
   obtain ⟨L, V, D, P, T, q, h1, h2, hL, hV, hD, _⟩ := walk_step ok (w2 rfl) (K := J) (by omega)
   replace h2 := at_rounds (fun k_ => impl_walkOn.mono l v d p t k i a b tp c s k_) (Nat.le_succ J) h2
   simp only [Bool.not_true, spec_WalkOn.j0, Bool.false_eq_true, if_false, h1, h2, Option.bind_some]
   cases q with
   | false =>
    simp only [Bool.false_eq_true, if_false]
    exact ⟨_, _, _, _, _, _, rfl, rfl, by simp, by simp, by simp⟩
   | true =>
    simp only [if_true]
    exact ⟨_, _, _, _, _, _, rfl, rfl, hL, by omega, by omega⟩
theorem FnExactWalkOn : FnExactWalkOn.Pure := by
 intro x y h hy
 obtain ⟨⟨_, hb0, hw0⟩, ⟨_, hb1, hw1⟩, ⟨_, hb2, hw2⟩, i3, i4⟩ := h
 have hm : (x.f0.map cvLeg).length = x.f0.length := List.length_map _
 obtain ⟨J, hJ⟩ : ∃ K, K = x.f0.length + x.f1.length + x.f2.length + 600 := ⟨_, rfl⟩
 obtain ⟨L, V, D, P, T, q, e1', e2', hL, hV, hD⟩ := walk_both (x.f0.map cvLeg) (by omega) x.f1 x.f2 x.f3 x.f4 y.f0 y.f1 y.f2.f0 y.f2.f1 y.f2.f2 y.f2.f3 y.f2.f4 (K := J) (by omega)
 have t := toExploration_eq (l := x.f0) (v := x.f1) (d := x.f2) (a := x.f3) (b := x.f4) hb0 (by omega) (by omega) (k := J) (by omega) (by omega) (by omega)
 have qx := eqExploration_eq (l := x.f0.map cvLeg) (v := x.f1) (d := x.f2) (a := x.f3) (b := x.f4) (by omega) (by omega) (by omega) (k := J) (by omega) (by omega) (by omega)
 have qi := eqExploration_eq (l := L) (v := V) (d := D) (a := P) (b := T) (by omega) (by omega) (by omega) (k := J) (by omega) (by omega) (by omega)
 have mi := markExploration_eq (l := L) (v := V) (d := D) P T (by omega) (by omega) (by omega) (k := J) (by omega) (by omega) (by omega)
 have hi := heldExploration_eq (n := L.length) (m := V.length) (j := D.length) P T (by omega) (by omega) (by omega) (k := J) (by omega) (by omega) (by omega)
 have tw : laws_toWalk.f y.f0 y.f1 y.f2.f0 y.f2.f1 y.f2.f2 y.f2.f3 y.f2.f4 = some (y.f0, y.f1, y.f2.f0, y.f2.f1, y.f2.f2, y.f2.f3, y.f2.f4) := rfl
 refine ⟨J, ?_⟩
 unfold laws_FnExactWalkOn.f laws_szExploration.f laws_szLegS.f laws_szBoolS.f
 by_cases s1 : wrap64 (1048576 - (x.f0.length : Int)) < 0
 ·
  rw [if_pos s1]
  simp
 ·
  rw [if_neg s1]
  simp only [Option.bind_some]
  rw [if_neg s1]
  by_cases s2 : wrap64 (wrap64 (1048576 - (x.f0.length : Int)) - (x.f1.length : Int)) < 0
  ·
   rw [if_pos s2]
   simp
  ·
   rw [if_neg s2]
   simp only [Option.bind_some]
   rw [if_neg s2]
   by_cases s3 : wrap64 (wrap64 (wrap64 (1048576 - (x.f0.length : Int)) - (x.f1.length : Int)) - (x.f2.length : Int)) < 0
   ·
    rw [if_pos s3]
    simp
   ·
    rw [if_neg s3]
    simp only [Option.bind_some]
    rw [if_neg s3]
    have hl0 : x.f0.length ≤ 1048576 := by
     unfold wrap64 at s1
     omega
    have hl1 : x.f1.length ≤ 1048576 := by
     unfold wrap64 at s1 s2
     omega
    have hl2 : x.f2.length ≤ 1048576 := by
     unfold wrap64 at s1 s2 s3
     omega
    have mx := markExploration_eq (l := x.f0.map cvLeg) (v := x.f1) (d := x.f2) x.f3 x.f4 (by omega) (by omega) (by omega) (k := J) (by omega) (by omega) (by omega)
    rw [Option.bind_some, if_neg s3, t, Option.bind_some, tw, Option.bind_some]
    simp only
    rw [e1', Option.bind_some, e2', Option.bind_some]
    simp only
    rw [qi, Option.bind_some, qx, Option.bind_some, mx, Option.bind_some, mi, Option.bind_some]
    simp only
    rw [hi, Option.bind_some]
    rw [if_pos ⟨trivial, trivial, trivial, by omega, by omega, rfl⟩]
end Go.Proofs.Ythmjimboajmhmaa.Pr.Pure

