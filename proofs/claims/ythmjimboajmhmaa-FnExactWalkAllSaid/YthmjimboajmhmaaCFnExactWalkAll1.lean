/-
What is proved: parts of the law FnExactWalkAll: what the functions that it reaches compute, and the plain law.
Conditions: those of each theorem.
-/
import Derived.ArgAppend
import Derived.Below
import Derived.BigQuiet
import Derived.Deep.AppendLies
import Derived.Deep.CutBlock
import Derived.Deep.DeepCutAuto
import Derived.Deep.Draws
import Derived.Deep.LoopGhost
import Derived.Deep.OwnRows
import Derived.Deep.QuietTactic
import Derived.Deep.RegionHeld3
import Derived.Deep.RegionLaw
import Derived.KernelRfl
import Derived.Laws.BitsLemmas
import Derived.Laws.BytesArg
import Derived.Laws.CopyOwn
import Derived.Laws.Cover1
import Derived.Laws.IdiomCopy
import Derived.Laws.IdiomStrings
import Derived.Laws.MakeOwn
import Derived.Laws.OwnMore
import Derived.Laws.Rows
import Derived.Laws.Slices
import Derived.Lib.AppendStr
import Derived.Lib.ConvBytes
import Derived.Maps.AppendAt
import Derived.OrdersHeld
import Derived.OwnWalk
import Derived.RowKit
import Derived.RowKit3
import Derived.Shelf.Abstract
import Derived.StillTailTactics
import Derived.Tactics
import Derived.Test.YthmjimboajmhmaaProg
import Derived.WalkKit
import Derived.WideLaws
import Derived.Test.YthmjimboajmhmaaCFnExactWalkAll0
set_option maxHeartbeats 8000000
set_option maxRecDepth 100000
namespace Go.Proofs.Ythmjimboajmhmaa.Pr
open Go.RowKit Go.Proofs.YthmjimboajmhmaaW.PrintWords Go.Proofs.YthmjimboajmhmaaW.PrintLast Go.Proofs.YthmjimboajmhmaaW.PrintMore
attribute [local go_sem] max2_int min2_int max_two min_two max_three min_three max_four min_four   -- for this text's walks alone
set_option linter.unusedVariables false
set_option linter.unusedSimpArgs false
def errW : Option Int → Value
 | none => .nilIface
 | some c => .iface 0 (.int .i64 c)
theorem errW_none : errW none = .nilIface := rfl
theorem errW_some (c : Int) : errW (some c) = .iface 0 (.int .i64 c) := rfl
theorem info3 : (Try.prog.info? 3).map (fun i => (i.zero, i.size, i.bytes)) = some (some (.int .i64 0), 1, 8) := by kernel_rfl
theorem info4 : (Try.prog.info? 4).map (fun i => (i.zero, i.size, i.bytes)) = some (some (.bool false), 1, 1) := by kernel_rfl
theorem info37 : (Try.prog.info? 37).map (fun i => (i.zero, i.size, i.bytes)) = some (some (.agg #[(.int .i64 0), (.int .i64 0), (.int .i64 0), (.int .i64 0), (.int .i64 0)]), 5, 40) := by kernel_rfl
theorem info39 : (Try.prog.info? 39).map (fun i => (i.zero, i.size, i.bytes)) = some (some (.agg #[(.int .i64 0), (.int .i64 0), (.int .i64 0), (.int .i64 0), (.int .i64 0), (.int .i64 0), (.int .i64 0)]), 7, 56) := by kernel_rfl
structure S65 where
 f0 : Int
 f1 : Int
 f2 : Int
 f3 : Int
 f4 : Int
def z65 : S65 := ⟨(0 : Int), (0 : Int), (0 : Int), (0 : Int), (0 : Int)⟩
def k65 : Kd S65 := Kd.iso (Kd.pair (Kd.int .i64) (Kd.pair (Kd.int .i64) (Kd.pair (Kd.int .i64) (Kd.pair (Kd.int .i64) (Kd.int .i64))))) (fun x : S65 => (x.f0, x.f1, x.f2, x.f3, x.f4))
theorem k65_open {w : World} {x : S65} {cs : List Value} (h : k65.K w x cs) : cs = [.int .i64 x.f0, .int .i64 x.f1, .int .i64 x.f2, .int .i64 x.f3, .int .i64 x.f4] := by
 obtain ⟨_, _, rfl, rfl, ⟨_, _, rfl, rfl, ⟨_, _, rfl, rfl, ⟨_, _, rfl, rfl, rfl⟩⟩⟩⟩ := h
 exact rfl
def rd_T65 (xs : List S65) (i : Int) : S65 := xs.getD i.toNat z65
theorem at_T65 {w : World} {A : Option Addr} {n : Nat} {xs : List S65} (h : Kd.C k65 w A n xs) (i : Int) (h0 : 0 ≤ i) (h1 : i < n) : ∃ ad , A = some ad ∧ w.cell? (ad.add (i.toNat * 5)) = some (.int .i64 (rd_T65 xs i).f0) ∧ w.cell? ⟨(ad.add (i.toNat * 5)).block, (ad.add (i.toNat * 5)).off + 1, none⟩ = some (.int .i64 (rd_T65 xs i).f1) ∧ w.cell? ⟨(ad.add (i.toNat * 5)).block, (ad.add (i.toNat * 5)).off + 2, none⟩ = some (.int .i64 (rd_T65 xs i).f2) ∧ w.cell? ⟨(ad.add (i.toNat * 5)).block, (ad.add (i.toNat * 5)).off + 3, none⟩ = some (.int .i64 (rd_T65 xs i).f3) ∧ w.cell? ⟨(ad.add (i.toNat * 5)).block, (ad.add (i.toNat * 5)).off + 4, none⟩ = some (.int .i64 (rd_T65 xs i).f4) := by
 obtain ⟨ad, c, e, _, hK, hc0⟩ := Kd.C_get h z65 i h0 h1
 have hc : ∀ j u, c[j]? = some u → w.cell? (ad.add (i.toNat * 5 + j)) = some u := hc0
 obtain rfl := k65_open hK
 exact ⟨ad, e, hc 0 _ rfl, by rw [← add_field _ _ 1 (by omega)]; exact hc 1 _ rfl, by rw [← add_field _ _ 2 (by omega)]; exact hc 2 _ rfl, by rw [← add_field _ _ 3 (by omega)]; exact hc 3 _ rfl, by rw [← add_field _ _ 4 (by omega)]; exact hc 4 _ rfl⟩
structure S37 where
 f0 : Int
 f1 : Int
 f2 : Int
 f3 : Int
 f4 : Int
def z37 : S37 := ⟨(0 : Int), (0 : Int), (0 : Int), (0 : Int), (0 : Int)⟩
def k37 : Kd S37 := Kd.iso (Kd.pair (Kd.int .i64) (Kd.pair (Kd.int .i64) (Kd.pair (Kd.int .i64) (Kd.pair (Kd.int .i64) (Kd.int .i64))))) (fun x : S37 => (x.f0, x.f1, x.f2, x.f3, x.f4))
theorem k37_open {w : World} {x : S37} {cs : List Value} (h : k37.K w x cs) : cs = [.int .i64 x.f0, .int .i64 x.f1, .int .i64 x.f2, .int .i64 x.f3, .int .i64 x.f4] := by
 obtain ⟨_, _, rfl, rfl, ⟨_, _, rfl, rfl, ⟨_, _, rfl, rfl, ⟨_, _, rfl, rfl, rfl⟩⟩⟩⟩ := h
 exact rfl
theorem k37_openM {w : World} {base : Nat} {ok : Nat → Prop} {x : S37} {cs : List Value} (h : k37.M w base ok x cs) : cs = [.int .i64 x.f0, .int .i64 x.f1, .int .i64 x.f2, .int .i64 x.f3, .int .i64 x.f4] := by
 obtain ⟨_, _, rfl, rfl, ⟨_, _, rfl, rfl, ⟨_, _, rfl, rfl, ⟨_, _, rfl, rfl, rfl⟩⟩⟩⟩ := h
 exact rfl
theorem k37_mkM (w : World) (base : Nat) (ok : Nat → Prop) (x : S37)  : k37.M w base ok x [.int .i64 x.f0, .int .i64 x.f1, .int .i64 x.f2, .int .i64 x.f3, .int .i64 x.f4] := ⟨[.int .i64 x.f0], [.int .i64 x.f1, .int .i64 x.f2, .int .i64 x.f3, .int .i64 x.f4], rfl, rfl, ⟨[.int .i64 x.f1], [.int .i64 x.f2, .int .i64 x.f3, .int .i64 x.f4], rfl, rfl, ⟨[.int .i64 x.f2], [.int .i64 x.f3, .int .i64 x.f4], rfl, rfl, ⟨[.int .i64 x.f3], [.int .i64 x.f4], rfl, rfl, rfl⟩⟩⟩⟩
def rd_T37 (xs : List S37) (i : Int) : S37 := xs.getD i.toNat z37
theorem at_T37 {w : World} {A : Option Addr} {n : Nat} {xs : List S37} (h : Kd.C k37 w A n xs) (i : Int) (h0 : 0 ≤ i) (h1 : i < n) : ∃ ad , A = some ad ∧ w.cell? (ad.add (i.toNat * 5)) = some (.int .i64 (rd_T37 xs i).f0) ∧ w.cell? ⟨(ad.add (i.toNat * 5)).block, (ad.add (i.toNat * 5)).off + 1, none⟩ = some (.int .i64 (rd_T37 xs i).f1) ∧ w.cell? ⟨(ad.add (i.toNat * 5)).block, (ad.add (i.toNat * 5)).off + 2, none⟩ = some (.int .i64 (rd_T37 xs i).f2) ∧ w.cell? ⟨(ad.add (i.toNat * 5)).block, (ad.add (i.toNat * 5)).off + 3, none⟩ = some (.int .i64 (rd_T37 xs i).f3) ∧ w.cell? ⟨(ad.add (i.toNat * 5)).block, (ad.add (i.toNat * 5)).off + 4, none⟩ = some (.int .i64 (rd_T37 xs i).f4) := by
 obtain ⟨ad, c, e, _, hK, hc0⟩ := Kd.C_get h z37 i h0 h1
 have hc : ∀ j u, c[j]? = some u → w.cell? (ad.add (i.toNat * 5 + j)) = some u := hc0
 obtain rfl := k37_open hK
 exact ⟨ad, e, hc 0 _ rfl, by rw [← add_field _ _ 1 (by omega)]; exact hc 1 _ rfl, by rw [← add_field _ _ 2 (by omega)]; exact hc 2 _ rfl, by rw [← add_field _ _ 3 (by omega)]; exact hc 3 _ rfl, by rw [← add_field _ _ 4 (by omega)]; exact hc 4 _ rfl⟩
structure S39 where
 f0 : Int
 f1 : Int
 f2 : S37
def z39 : S39 := ⟨(0 : Int), (0 : Int), z37⟩
def k39 : Kd S39 := Kd.iso (Kd.pair (Kd.int .i64) (Kd.pair (Kd.int .i64) k37)) (fun x : S39 => (x.f0, x.f1, x.f2))
theorem k39_open {w : World} {x : S39} {cs : List Value} (h : k39.K w x cs) : cs = [.int .i64 x.f0, .int .i64 x.f1, .int .i64 x.f2.f0, .int .i64 x.f2.f1, .int .i64 x.f2.f2, .int .i64 x.f2.f3, .int .i64 x.f2.f4] := by
 obtain ⟨_, _, rfl, rfl, ⟨_, _, rfl, rfl, s2⟩⟩ := h
 obtain rfl := k37_open s2
 exact rfl
theorem k39_openM {w : World} {base : Nat} {ok : Nat → Prop} {x : S39} {cs : List Value} (h : k39.M w base ok x cs) : cs = [.int .i64 x.f0, .int .i64 x.f1, .int .i64 x.f2.f0, .int .i64 x.f2.f1, .int .i64 x.f2.f2, .int .i64 x.f2.f3, .int .i64 x.f2.f4] := by
 obtain ⟨_, _, rfl, rfl, ⟨_, _, rfl, rfl, s2⟩⟩ := h
 obtain rfl := k37_openM s2
 exact rfl
theorem k39_mkM (w : World) (base : Nat) (ok : Nat → Prop) (x : S39)  : k39.M w base ok x [.int .i64 x.f0, .int .i64 x.f1, .int .i64 x.f2.f0, .int .i64 x.f2.f1, .int .i64 x.f2.f2, .int .i64 x.f2.f3, .int .i64 x.f2.f4] := ⟨[.int .i64 x.f0], [.int .i64 x.f1, .int .i64 x.f2.f0, .int .i64 x.f2.f1, .int .i64 x.f2.f2, .int .i64 x.f2.f3, .int .i64 x.f2.f4], rfl, rfl, ⟨[.int .i64 x.f1], [.int .i64 x.f2.f0, .int .i64 x.f2.f1, .int .i64 x.f2.f2, .int .i64 x.f2.f3, .int .i64 x.f2.f4], rfl, rfl, (k37_mkM w base ok x.f2 )⟩⟩
def rd_T39 (xs : List S39) (i : Int) : S39 := xs.getD i.toNat z39
theorem at_T39 {w : World} {A : Option Addr} {n : Nat} {xs : List S39} (h : Kd.C k39 w A n xs) (i : Int) (h0 : 0 ≤ i) (h1 : i < n) : ∃ ad , A = some ad ∧ w.cell? (ad.add (i.toNat * 7)) = some (.int .i64 (rd_T39 xs i).f0) ∧ w.cell? ⟨(ad.add (i.toNat * 7)).block, (ad.add (i.toNat * 7)).off + 1, none⟩ = some (.int .i64 (rd_T39 xs i).f1) ∧ w.cell? ⟨(ad.add (i.toNat * 7)).block, (ad.add (i.toNat * 7)).off + 2, none⟩ = some (.int .i64 (rd_T39 xs i).f2.f0) ∧ w.cell? ⟨(ad.add (i.toNat * 7)).block, (ad.add (i.toNat * 7)).off + 3, none⟩ = some (.int .i64 (rd_T39 xs i).f2.f1) ∧ w.cell? ⟨(ad.add (i.toNat * 7)).block, (ad.add (i.toNat * 7)).off + 4, none⟩ = some (.int .i64 (rd_T39 xs i).f2.f2) ∧ w.cell? ⟨(ad.add (i.toNat * 7)).block, (ad.add (i.toNat * 7)).off + 5, none⟩ = some (.int .i64 (rd_T39 xs i).f2.f3) ∧ w.cell? ⟨(ad.add (i.toNat * 7)).block, (ad.add (i.toNat * 7)).off + 6, none⟩ = some (.int .i64 (rd_T39 xs i).f2.f4) := by
 obtain ⟨ad, c, e, _, hK, hc0⟩ := Kd.C_get h z39 i h0 h1
 have hc : ∀ j u, c[j]? = some u → w.cell? (ad.add (i.toNat * 7 + j)) = some u := hc0
 obtain rfl := k39_open hK
 exact ⟨ad, e, hc 0 _ rfl, by rw [← add_field _ _ 1 (by omega)]; exact hc 1 _ rfl, by rw [← add_field _ _ 2 (by omega)]; exact hc 2 _ rfl, by rw [← add_field _ _ 3 (by omega)]; exact hc 3 _ rfl, by rw [← add_field _ _ 4 (by omega)]; exact hc 4 _ rfl, by rw [← add_field _ _ 5 (by omega)]; exact hc 5 _ rfl, by rw [← add_field _ _ 6 (by omega)]; exact hc 6 _ rfl⟩
structure S25 where
 f0 : (List S65)
 f1 : (List Bool)
 f2 : (List Bool)
 f3 : Int
 f4 : Int
def k25 : Kd S25 := Kd.iso (Kd.pair (Kd.slice 65 k65) (Kd.pair (Kd.slice 4 Kd.bool) (Kd.pair (Kd.slice 4 Kd.bool) (Kd.pair (Kd.int .i64) (Kd.int .i64))))) (fun x : S25 => (x.f0, x.f1, x.f2, x.f3, x.f4))
structure S67 where
 f0 : Int
 f1 : Int
 f2 : S65
def z67 : S67 := ⟨(0 : Int), (0 : Int), z65⟩
def k67 : Kd S67 := Kd.iso (Kd.pair (Kd.int .i64) (Kd.pair (Kd.int .i64) k65)) (fun x : S67 => (x.f0, x.f1, x.f2))
theorem k67_open {w : World} {x : S67} {cs : List Value} (h : k67.K w x cs) : cs = [.int .i64 x.f0, .int .i64 x.f1, .int .i64 x.f2.f0, .int .i64 x.f2.f1, .int .i64 x.f2.f2, .int .i64 x.f2.f3, .int .i64 x.f2.f4] := by
 obtain ⟨_, _, rfl, rfl, ⟨_, _, rfl, rfl, s2⟩⟩ := h
 obtain rfl := k65_open s2
 exact rfl
def rd_T67 (xs : List S67) (i : Int) : S67 := xs.getD i.toNat z67
theorem at_T67 {w : World} {A : Option Addr} {n : Nat} {xs : List S67} (h : Kd.C k67 w A n xs) (i : Int) (h0 : 0 ≤ i) (h1 : i < n) : ∃ ad , A = some ad ∧ w.cell? (ad.add (i.toNat * 7)) = some (.int .i64 (rd_T67 xs i).f0) ∧ w.cell? ⟨(ad.add (i.toNat * 7)).block, (ad.add (i.toNat * 7)).off + 1, none⟩ = some (.int .i64 (rd_T67 xs i).f1) ∧ w.cell? ⟨(ad.add (i.toNat * 7)).block, (ad.add (i.toNat * 7)).off + 2, none⟩ = some (.int .i64 (rd_T67 xs i).f2.f0) ∧ w.cell? ⟨(ad.add (i.toNat * 7)).block, (ad.add (i.toNat * 7)).off + 3, none⟩ = some (.int .i64 (rd_T67 xs i).f2.f1) ∧ w.cell? ⟨(ad.add (i.toNat * 7)).block, (ad.add (i.toNat * 7)).off + 4, none⟩ = some (.int .i64 (rd_T67 xs i).f2.f2) ∧ w.cell? ⟨(ad.add (i.toNat * 7)).block, (ad.add (i.toNat * 7)).off + 5, none⟩ = some (.int .i64 (rd_T67 xs i).f2.f3) ∧ w.cell? ⟨(ad.add (i.toNat * 7)).block, (ad.add (i.toNat * 7)).off + 6, none⟩ = some (.int .i64 (rd_T67 xs i).f2.f4) := by
 obtain ⟨ad, c, e, _, hK, hc0⟩ := Kd.C_get h z67 i h0 h1
 have hc : ∀ j u, c[j]? = some u → w.cell? (ad.add (i.toNat * 7 + j)) = some u := hc0
 obtain rfl := k67_open hK
 exact ⟨ad, e, hc 0 _ rfl, by rw [← add_field _ _ 1 (by omega)]; exact hc 1 _ rfl, by rw [← add_field _ _ 2 (by omega)]; exact hc 2 _ rfl, by rw [← add_field _ _ 3 (by omega)]; exact hc 3 _ rfl, by rw [← add_field _ _ 4 (by omega)]; exact hc 4 _ rfl, by rw [← add_field _ _ 5 (by omega)]; exact hc 5 _ rfl, by rw [← add_field _ _ 6 (by omega)]; exact hc 6 _ rfl⟩
def laws_szLegS.f (l0 : List (S65)) (a1 : Int) : Option (Int) := if (wrap64 (a1 - (l0.length : Int))) < 0 then (some (-1)) else (some (wrap64 (a1 - (l0.length : Int))))
theorem laws_szLegS.calls (A0 : Option Addr) (c0 : Nat) (l0 : List (S65)) (a1 : Int) (r : Int) (w : World) (hr0 : Kd.C k65 w A0 l0.length l0) (hc0 : l0.length ≤ c0) (h : laws_szLegS.f l0 a1 = some r) :
  Calls Try.prog 37 #[.slice A0 l0.length c0, .int .i64 a1] w fun e w' => e = .returned (.int .i64 r) ∧ Drawn0 w w' := by
 have HR0 := Aside0.mk hr0
 have HC0 := Aside0.mk hc0
 clear hr0 hc0
 have H : (if (wrap64 (a1 - (l0.length : Int))) < 0 then (some (-1)) else (some (wrap64 (a1 - (l0.length : Int))))) = some r := h
 clear h
 by_cases c3 : (wrap64 (a1 - (l0.length : Int))) < 0
 ·
  rw [if_pos c3] at H
  have c3b0 : decide ((wrap64 (a1 - (l0.length : Int))) < 0) = true := decide_eq_true c3
  clear c3
  obtain rfl := Option.some.inj H
  go_enter Try.func37, Try.ntmps37
  go_wp2
  go_ret
  exact ⟨by first | rfl | (simp; done) | (simp [*]; done), by repeat (first | exact Drawn0.refl _ | apply Drawn0.step)⟩
 ·
  rw [if_neg c3] at H
  have c3b0 : decide ((wrap64 (a1 - (l0.length : Int))) < 0) = false := decide_eq_false c3
  clear c3
  obtain rfl := Option.some.inj H
  go_enter Try.func37, Try.ntmps37
  go_wp2
  go_ret
  exact ⟨by first | rfl | (simp; done) | (simp [*]; done), by repeat (first | exact Drawn0.refl _ | apply Drawn0.step)⟩
def laws_szBoolS.f (l0 : List Bool) (a1 : Int) : Option (Int) := if (wrap64 (a1 - (l0.length : Int))) < 0 then (some (-1)) else (some (wrap64 (a1 - (l0.length : Int))))
theorem laws_szBoolS.calls (A0 : Option Addr) (c0 : Nat) (l0 : List Bool) (a1 : Int) (r : Int) (w : World) (hr0 : Kd.C Kd.bool w A0 l0.length l0) (hc0 : l0.length ≤ c0) (h : laws_szBoolS.f l0 a1 = some r) :
  Calls Try.prog 66 #[.slice A0 l0.length c0, .int .i64 a1] w fun e w' => e = .returned (.int .i64 r) ∧ Drawn0 w w' := by
 have HR0 := Aside0.mk hr0
 have HC0 := Aside0.mk hc0
 clear hr0 hc0
 have H : (if (wrap64 (a1 - (l0.length : Int))) < 0 then (some (-1)) else (some (wrap64 (a1 - (l0.length : Int))))) = some r := h
 clear h
 by_cases c3 : (wrap64 (a1 - (l0.length : Int))) < 0
 ·
  rw [if_pos c3] at H
  have c3b0 : decide ((wrap64 (a1 - (l0.length : Int))) < 0) = true := decide_eq_true c3
  clear c3
  obtain rfl := Option.some.inj H
  go_enter Try.func66, Try.ntmps66
  go_wp2
  go_ret
  exact ⟨by first | rfl | (simp; done) | (simp [*]; done), by repeat (first | exact Drawn0.refl _ | apply Drawn0.step)⟩
 ·
  rw [if_neg c3] at H
  have c3b0 : decide ((wrap64 (a1 - (l0.length : Int))) < 0) = false := decide_eq_false c3
  clear c3
  obtain rfl := Option.some.inj H
  go_enter Try.func66, Try.ntmps66
  go_wp2
  go_ret
  exact ⟨by first | rfl | (simp; done) | (simp [*]; done), by repeat (first | exact Drawn0.refl _ | apply Drawn0.step)⟩
end Go.Proofs.Ythmjimboajmhmaa.Pr

namespace Go.Proofs.Ythmjimboajmhmaa.Pr
open Go.RowKit Go.Proofs.YthmjimboajmhmaaW.PrintWords Go.Proofs.YthmjimboajmhmaaW.PrintLast Go.Proofs.YthmjimboajmhmaaW.PrintMore
set_option linter.unusedVariables false
set_option linter.unusedSimpArgs false
section
variable {P : Program} {md : Region.Mode} {ops : Array Oper} {Q : Exit → Act → World → Prop} {S : World → Prop} {ds : List Nat} {T : Bool × List (List Nat × List Nat)}
theorem pz_ {fuel : Nat} {l : Array Bool} {a : Act} {w : World} {oi : Oper} {v : Value} {a' : Act} (HT : Aside0 (rtab md ops = T)) (i : Nat) (N : Option Tmp) (l' : Array Bool) (h : wpAnyLast P md ops Q S ds fuel l' a' w)
  (hi : ops[i]? = some oi := by exact rfl) (hN : oi.dst = N := by exact rfl) (hc : anyT T l.toList l'.toList i = true := by kernel_rfl) (hQ : ∀ c a w, Q (.panic c) (a.put oi.dst v) w → Q (.panic c) a w := by exact fun _ _ _ h => h)
  (hy : Yields P ops oi v a := by exact Or.inl ⟨by rfl, by intro w'; go_simp; with_reducible rfl⟩) (ha : a.put N v = a' := by simp only [Act.put, List.setIfInBounds_toArray, List.set_cons_zero, List.set_cons_succ, i64_w, i32_w]; rfl) :
  wpAnyLast P md ops Q S ds (fuel + 1) l a w := pure_ l' hi hN (any_of HT.out hc) hQ hy ha h
theorem ga_ {rest : List Oper} {oi : Oper} {a : Act} {w : World} {f : FuncId} {fn : Func} {ar : Array Operand} {ts : Array TypeId} (N : Option Tmp) (hf : P.funcs[f]? = some fn) (args : Array Value) (h : Calls P f args w fun e w' => ∃ v, e = .returned v ∧ wpList P ops Q rest (a.put N v) w')
  (hd : oi.dst = N := by exact rfl) (hg : oi.guard = none := by exact rfl) (hname : (fn.name == "runtime.NumGoroutine") = false := by kernel_rfl) (hb : fn.body.isSome = true := by exact rfl) (hop : oi.op = .call { callee := .value (.func f), args := ar, argTypes := ts } := by exact rfl)
  (hargs : ar.map a.eval = args := by (try simp only [List.map_toArray, List.map_cons, List.map_nil]); first | done | rfl | (simp only [List.length_drop, List.length_take]; rfl)) : wpList P ops Q (oi :: rest) a w := goesL_ N hd hg hf hname hb args hop hargs h
end
theorem lb0_ {n : Nat} {w w0 w1 : World} (HB : Below n w w0) (h : Below n w w0 → Below n w w1 := by intro HB_; repeat (first | (with_reducible first | exact HB_ | apply below_alloc | apply pw_below_drewN | apply below_drew1) | exact HB_)) : Below n w w1 := h HB
theorem lb1_ {n : Nat} {w w0 w1 : World} {A : Prop} (HB : Below n w w0) (G : A) (h : Below n w w0 → A → Below n w w1 := by intro HB_ G_; repeat (first | (with_reducible first | exact HB_ | apply below_alloc | apply pw_below_drewN | apply below_drew1 | refine below_set ?_ G_) | exact HB_)) : Below n w w1 := h HB G
theorem lb2_ {n : Nat} {w w0 w1 : World} {A B : Prop} (HB : Below n w w0) (G : A) (H : B) (h : Below n w w0 → A → B → Below n w w1 := by intro HB_ G_ H_; repeat (first | (with_reducible first | exact HB_ | apply below_alloc | apply pw_below_drewN | apply below_drew1 | refine below_set ?_ G_ | refine below_set ?_ H_) | exact HB_)) : Below n w w1 := h HB G H
theorem rr_ {α : Sort _} {a b : α} (h : a = b := by first | rfl | (simp [errW_none, errW_some] <;> rfl) | (simp [*, errW_none, errW_some] <;> rfl)) : a = b := h
theorem kr_ {α : Type} {d : Kd α} {e base : Nat} {w w1 : World} {ok : Nat → Prop} {v : Value} {xs : List α} (h : d.R e w base ok v xs) (hh : d.R e w base ok v xs → d.R e w1 base ok v xs := by intro h_; (with_reducible repeat (first | apply Kd.R_alloc | apply Kd.R_drewN | apply Kd.R_drew)); exact h_) : d.R e w1 base ok v xs := hh h
theorem kc_ {α : Type} {d : Kd α} {w w1 : World} {A : Option Addr} {n : Nat} {xs : List α} (h : d.C w A n xs) (hh : d.C w A n xs → d.C w1 A n xs := by intro h_; repeat (first | exact h_ | (with_reducible refine Kd.C_alloc ?_ _) | (with_reducible refine Kd.C_drewN ?_ _) | (with_reducible refine Kd.C_drew ?_))) : d.C w1 A n xs := hh h
theorem bk_ {w w1 : World} {g : Nat} {o : Obj} (h : w.heap[g]? = some o) (hh : w.heap[g]? = some o → w1.heap[g]? = some o := by intro h_; (with_reducible repeat (first | refine blk_drewN ?_ _ | refine blk_drew ?_ | refine blk_alloc ?_ _)); exact h_) : w1.heap[g]? = some o := hh h
theorem dt_ {p : Prop} [inst : Decidable p] (h : decide p = true := by first | (with_reducible assumption) | assumption) : p := of_decide_eq_true h
theorem bc_ {w w0 : World} {a : Addr} {v : Value} (hb : Below w.heap.size w w0) (h : w.cell? a = some v) : w0.cell? a = some v := (hb.cell (World.block_lt_of_cell? w _ h)).trans h
section
variable {P : Program} {md : Region.Mode} {ops : Array Oper} {Q : Exit → Act → World → Prop} {S : World → Prop} {ds : List Nat}
theorem na_ {fuel : Nat} {l : Array Bool} {a a' : Act} {w : World} (h : wpAnyLast P md ops Q S ds fuel l a' w) (ha : a = a' := by show Act.put _ (some _) _ = _; simp only [Act.put, List.setIfInBounds_toArray, List.set_cons_zero, List.set_cons_succ, i64_w, i32_w]; rfl) : wpAnyLast P md ops Q S ds fuel l a w := norm_ ha h
theorem nb_ {fuel : Nat} {l : Array Bool} {a a' : Act} {w : World} (h : wpAnyLast P md ops Q S ds fuel l a' w) (ha : a = a' := by simp only [putAll, Act.put, List.setIfInBounds_toArray, List.set_cons_zero, List.set_cons_succ]; rfl) : wpAnyLast P md ops Q S ds fuel l a w := norm_ ha h
end
theorem bz_ {w W : World} {g : Nat} (hg : g = W.heap.size) (h : Below w.heap.size w W) : w.heap.size ≤ g := by rw [hg]; exact h.size
theorem lb3_ {n : Nat} {w w0 w1 : World} {A B C : Prop} (HB : Below n w w0) (G : A) (H : B) (I : C) (h : Below n w w0 → A → B → C → Below n w w1 := by intro HB_ G_ H_ I_; repeat (first | (with_reducible first | exact HB_ | apply below_alloc | apply pw_below_drewN | apply below_drew1 | refine below_set ?_ G_ | refine below_set ?_ H_ | refine below_set ?_ I_) | exact HB_)) : Below n w w1 := h HB G H I
theorem kt_ {w w0 w1 : World} {S : Nat → Prop} (h : Kept w w0 S) (hh : Kept w w0 S → Kept w w1 S := by intro h_; repeat (first | (with_reducible first | exact h_ | apply Kept.alloc | apply Kept.drewN | apply Kept.drew) | exact h_)) : Kept w w1 S := hh h
theorem krm_ {α : Type} {d : Kd α} {e base : Nat} {w w1 : World} {ok ok' : Nat → Prop} {v : Value} {xs : List α} (h : d.R e w base ok v xs) (hm : ∀ k, ok k → ok' k) (hh : d.R e w base ok v xs → d.R e w1 base ok v xs := by intro h_; (with_reducible repeat (first | apply Kd.R_alloc | apply Kd.R_drewN | apply Kd.R_drew)); exact h_) : d.R e w1 base ok' v xs := Kd.R_mono (hh h) hm
theorem bb_ {w1 w2 : World} {g : Nat} {o : Obj} (h : w1.heap[g]? = some o) (hb : Below w1.heap.size w1 w2) : w2.heap[g]? = some o := blk_below h hb
theorem ry_ {α : Type} {d : Kd α} {e base : Nat} {w : World} {ok : Nat → Prop} {v : Value} {xs ys : List α} (he : ys = xs) (h : d.R e w base ok v xs) : d.R e w base ok v ys := by rw [he]; exact h
section
variable {P : Program} {ops : Array Oper} {Q : Exit → Act → World → Prop}
theorem gs_ {oi : Oper} {N : Option Tmp} {a : Act} {w : World} {K : Act → World → Prop} {f : FuncId} {fn : Func} {ar : Array Operand} {ts : Array TypeId} (hf : P.funcs[f]? = some fn) (args : Array Value) (h : Calls P f args w fun e w' => ∃ v, e = .returned v ∧ K (a.put N v) w')
  (hname : (fn.name == "runtime.NumGoroutine") = false := by kernel_rfl) (hb : fn.body.isSome = true := by exact rfl) (hw : Region.wanted oi (yielded ops a.tmps) = true := by rfl) (hN : oi.dst = N := by exact rfl) (hop : oi.op = .call { callee := .value (.func f), args := ar, argTypes := ts } := by exact rfl)
  (hargs : ar.map a.eval = args := by (try simp only [List.map_toArray, List.map_cons, List.map_nil]); first | done | rfl | (simp only [List.length_drop, List.length_take]; rfl)) : if Region.wanted oi (yielded ops a.tmps) = true then Oper.wp P oi a w K Q else K (a.put N undef) w := goes_ hf hname hb args hw hN hop hargs h
end
theorem cz5_ {w : World} {g : Nat} {t : TypeId} {a0 a1 a2 a3 a4 : Value} (h : w.heap[g]? = some (.cells #[a0, a1, a2, a3, a4] t (0, 0))) : w.cell? ⟨g, 0, none⟩ = some a0 ∧ w.cell? ⟨g, 1, none⟩ = some a1 ∧ w.cell? ⟨g, 2, none⟩ = some a2 ∧ w.cell? ⟨g, 3, none⟩ = some a3 ∧ w.cell? ⟨g, 4, none⟩ = some a4 := ⟨(blk_cell h 0).trans rfl, (blk_cell h 1).trans rfl, (blk_cell h 2).trans rfl, (blk_cell h 3).trans rfl, (blk_cell h 4).trans rfl⟩
theorem fz5_ {w : World} {g : Nat} {t : TypeId} {a0 a1 a2 a3 a4 : Value} (h : w.heap[g]? = some (.cells #[a0, a1, a2, a3, a4] t (0, 0))) : w.frozen? ⟨g, 0, none⟩ = false ∧ w.frozen? ⟨g, 1, none⟩ = false ∧ w.frozen? ⟨g, 2, none⟩ = false ∧ w.frozen? ⟨g, 3, none⟩ = false ∧ w.frozen? ⟨g, 4, none⟩ = false := ⟨blk_frozen h 0, blk_frozen h 1, blk_frozen h 2, blk_frozen h 3, blk_frozen h 4⟩
theorem cz7_ {w : World} {g : Nat} {t : TypeId} {a0 a1 a2 a3 a4 a5 a6 : Value} (h : w.heap[g]? = some (.cells #[a0, a1, a2, a3, a4, a5, a6] t (0, 0))) : w.cell? ⟨g, 0, none⟩ = some a0 ∧ w.cell? ⟨g, 1, none⟩ = some a1 ∧ w.cell? ⟨g, 2, none⟩ = some a2 ∧ w.cell? ⟨g, 3, none⟩ = some a3 ∧ w.cell? ⟨g, 4, none⟩ = some a4 ∧ w.cell? ⟨g, 5, none⟩ = some a5 ∧ w.cell? ⟨g, 6, none⟩ = some a6 := ⟨(blk_cell h 0).trans rfl, (blk_cell h 1).trans rfl, (blk_cell h 2).trans rfl, (blk_cell h 3).trans rfl, (blk_cell h 4).trans rfl, (blk_cell h 5).trans rfl, (blk_cell h 6).trans rfl⟩
theorem fz7_ {w : World} {g : Nat} {t : TypeId} {a0 a1 a2 a3 a4 a5 a6 : Value} (h : w.heap[g]? = some (.cells #[a0, a1, a2, a3, a4, a5, a6] t (0, 0))) : w.frozen? ⟨g, 0, none⟩ = false ∧ w.frozen? ⟨g, 1, none⟩ = false ∧ w.frozen? ⟨g, 2, none⟩ = false ∧ w.frozen? ⟨g, 3, none⟩ = false ∧ w.frozen? ⟨g, 4, none⟩ = false ∧ w.frozen? ⟨g, 5, none⟩ = false ∧ w.frozen? ⟨g, 6, none⟩ = false := ⟨blk_frozen h 0, blk_frozen h 1, blk_frozen h 2, blk_frozen h 3, blk_frozen h 4, blk_frozen h 5, blk_frozen h 6⟩
abbrev tT : Bool := true
abbrev fF : Bool := false
section
variable {P : Program} {md : Region.Mode} {ops : Array Oper} {Q : Exit → Act → World → Prop} {S : World → Prop} {ds : List Nat} {T : Bool × List (List Nat × List Nat)} {B : List Nat}
theorem tk_ {fuel : Nat} {l : Array Bool} {a : Act} {w : World} {oi : Oper} {v : Value} {a' : Act} (HT : Aside0 (rtab md ops = T)) (HW : Aside0 (waitsOk T.2 B = true)) (hS : S w) (i : Nat) (N : Option Tmp) (l' : Array Bool) (h : wpAnyLast P md ops Q S ds fuel l' a' w)
  (hi : ops[i]? = some oi := by exact rfl) (hN : oi.dst = N := by exact rfl) (hc : takeW T B ds l.toList l'.toList i = true := by kernel_rfl) (hQ : ∀ c a w, Q (.panic c) (a.put oi.dst v) w → Q (.panic c) a w := by exact fun _ _ _ h => h)
  (hy : YieldsIf P ops S oi v a := by exact Or.inl ⟨by rfl, by intro w' hs; (repeat (obtain ⟨s_, hs⟩ := hs)); go_simp; with_reducible rfl⟩) (ha : a.put N v = a' := by simp only [Act.put, List.setIfInBounds_toArray, List.set_cons_zero, List.set_cons_succ, i64_w, i32_w]; rfl) :
  wpAnyLast P md ops Q S ds (fuel + 1) l a w := take_ l' hi hN (take_ofW HT.out HW.out hc) hQ hy hS ha h
theorem pu_ {fuel : Nat} {l : Array Bool} {a : Act} {w : World} {oi : Oper} {a' : Act} (HT : Aside0 (rtab md ops = T)) (i : Nat) (N : Option Tmp) (l' : Array Bool) (h : wpAnyLast P md ops Q S ds fuel l' a' w)
  (hi : ops[i]? = some oi := by exact rfl) (hN : oi.dst = N := by exact rfl) (hc : anyT T l.toList l'.toList i = true := by kernel_rfl) (hQ : ∀ c a w, Q (.panic c) (a.put oi.dst undef) w → Q (.panic c) a w := by exact fun _ _ _ h => h)
  (hy : Yields P ops oi undef a := by exact Or.inr ⟨by rfl, rfl⟩) (ha : a.put N undef = a' := by simp only [Act.put, List.setIfInBounds_toArray, List.set_cons_zero, List.set_cons_succ, i64_w, i32_w]; rfl) :
  wpAnyLast P md ops Q S ds (fuel + 1) l a w := pure_ l' hi hN (any_of HT.out hc) hQ hy ha h
end
theorem nl_ {w W : World} {g g' : Nat} {o : Obj} (hg : g' = W.heap.size) (h : w.heap[g]? = some o) (hh : w.heap[g]? = some o → W.heap[g]? = some o := by intro h_; (with_reducible repeat (first | refine blk_drewN ?_ _ | refine blk_drew ?_ | refine blk_alloc ?_ _)); exact h_) : g ≠ g' := by rw [hg]; exact Nat.ne_of_lt (blk_lt (hh h))
theorem ng_ {w W : World} {g g' : Nat} {o : Obj} (hg : g' = W.heap.size) (h : w.heap[g]? = some o) (hh : w.heap[g]? = some o → W.heap[g]? = some o := by intro h_; (with_reducible repeat (first | refine blk_drewN ?_ _ | refine blk_drew ?_ | refine blk_alloc ?_ _)); exact h_) : g' ≠ g := by rw [hg]; exact Nat.ne_of_gt (blk_lt (hh h))
theorem f2_ {w : World} {g g' : Nat} {t : TypeId} {cs : Array Value} {j0 j1 : Nat} (h : w.heap[g]? = some (.cells cs t (0, 0))) (hne : g ≠ g') (a0 a1 : Value) : ((w.setCell ⟨g', j0, none⟩ a0).setCell ⟨g', j1, none⟩ a1).heap[g]? = some (.cells cs t (0, 0)) := (blk_far (p := ⟨g', j1, none⟩) (blk_far (p := ⟨g', j0, none⟩) h hne _) hne _)
theorem f3_ {w : World} {g g' : Nat} {t : TypeId} {cs : Array Value} {j0 j1 j2 : Nat} (h : w.heap[g]? = some (.cells cs t (0, 0))) (hne : g ≠ g') (a0 a1 a2 : Value) : (((w.setCell ⟨g', j0, none⟩ a0).setCell ⟨g', j1, none⟩ a1).setCell ⟨g', j2, none⟩ a2).heap[g]? = some (.cells cs t (0, 0)) := (blk_far (p := ⟨g', j2, none⟩) (blk_far (p := ⟨g', j1, none⟩) (blk_far (p := ⟨g', j0, none⟩) h hne _) hne _) hne _)
theorem f4_ {w : World} {g g' : Nat} {t : TypeId} {cs : Array Value} {j0 j1 j2 j3 : Nat} (h : w.heap[g]? = some (.cells cs t (0, 0))) (hne : g ≠ g') (a0 a1 a2 a3 : Value) : ((((w.setCell ⟨g', j0, none⟩ a0).setCell ⟨g', j1, none⟩ a1).setCell ⟨g', j2, none⟩ a2).setCell ⟨g', j3, none⟩ a3).heap[g]? = some (.cells cs t (0, 0)) := (blk_far (p := ⟨g', j3, none⟩) (blk_far (p := ⟨g', j2, none⟩) (blk_far (p := ⟨g', j1, none⟩) (blk_far (p := ⟨g', j0, none⟩) h hne _) hne _) hne _) hne _)
theorem p5_ {w : World} {g : Nat} {t : TypeId} {b0 b1 b2 b3 b4 : Value} (h : w.heap[g]? = some (.cells #[b0, b1, b2, b3, b4] t (0, 0))) (a0 a1 a2 a3 a4 : Value) : (((((w.setCell ⟨g, 0, none⟩ a0).setCell ⟨g, 1, none⟩ a1).setCell ⟨g, 2, none⟩ a2).setCell ⟨g, 3, none⟩ a3).setCell ⟨g, 4, none⟩ a4).heap[g]? = some (.cells #[a0, a1, a2, a3, a4] t (0, 0)) := (blk_put (cs := #[a0, a1, a2, a3, b4]) (blk_put (cs := #[a0, a1, a2, b3, b4]) (blk_put (cs := #[a0, a1, b2, b3, b4]) (blk_put (cs := #[a0, b1, b2, b3, b4]) (blk_put (cs := #[b0, b1, b2, b3, b4]) h 0 _ rfl) 1 _ rfl) 2 _ rfl) 3 _ rfl) 4 _ rfl)
theorem f5_ {w : World} {g g' : Nat} {t : TypeId} {cs : Array Value} {j0 j1 j2 j3 j4 : Nat} (h : w.heap[g]? = some (.cells cs t (0, 0))) (hne : g ≠ g') (a0 a1 a2 a3 a4 : Value) : (((((w.setCell ⟨g', j0, none⟩ a0).setCell ⟨g', j1, none⟩ a1).setCell ⟨g', j2, none⟩ a2).setCell ⟨g', j3, none⟩ a3).setCell ⟨g', j4, none⟩ a4).heap[g]? = some (.cells cs t (0, 0)) := (blk_far (p := ⟨g', j4, none⟩) (blk_far (p := ⟨g', j3, none⟩) (blk_far (p := ⟨g', j2, none⟩) (blk_far (p := ⟨g', j1, none⟩) (blk_far (p := ⟨g', j0, none⟩) h hne _) hne _) hne _) hne _) hne _)
theorem r5_ {α : Type} {d : Kd α} {e base : Nat} {ok : Nat → Prop} {w : World} {g : Nat} {t : TypeId} {v : Value} {xs : List α} {cs : Array Value} (h : d.R e w base ok v xs) (hb : w.heap[g]? = some (.cells cs t (0, 0))) (ht : ∀ q, q ∈ e :: d.E → q ≠ t) (a0 a1 a2 a3 a4 : Value) : d.R e (((((w.setCell ⟨g, 0, none⟩ a0).setCell ⟨g, 1, none⟩ a1).setCell ⟨g, 2, none⟩ a2).setCell ⟨g, 3, none⟩ a3).setCell ⟨g, 4, none⟩ a4) base ok v xs := Kd.R_mono (Kd.R_far (p := ⟨g, 4, none⟩) (Kd.R_far (p := ⟨g, 3, none⟩) (Kd.R_far (p := ⟨g, 2, none⟩) (Kd.R_far (p := ⟨g, 1, none⟩) (Kd.R_far (p := ⟨g, 0, none⟩) (Kd.R_types h hb ht) (fun _ hk => hk.2) _) (fun _ hk => hk.2) _) (fun _ hk => hk.2) _) (fun _ hk => hk.2) _) (fun _ hk => hk.2) _) (fun _ hk => hk.1)
theorem p7_ {w : World} {g : Nat} {t : TypeId} {b0 b1 b2 b3 b4 b5 b6 : Value} (h : w.heap[g]? = some (.cells #[b0, b1, b2, b3, b4, b5, b6] t (0, 0))) (a0 a1 a2 a3 a4 a5 a6 : Value) : (((((((w.setCell ⟨g, 0, none⟩ a0).setCell ⟨g, 1, none⟩ a1).setCell ⟨g, 2, none⟩ a2).setCell ⟨g, 3, none⟩ a3).setCell ⟨g, 4, none⟩ a4).setCell ⟨g, 5, none⟩ a5).setCell ⟨g, 6, none⟩ a6).heap[g]? = some (.cells #[a0, a1, a2, a3, a4, a5, a6] t (0, 0)) := (blk_put (cs := #[a0, a1, a2, a3, a4, a5, b6]) (blk_put (cs := #[a0, a1, a2, a3, a4, b5, b6]) (blk_put (cs := #[a0, a1, a2, a3, b4, b5, b6]) (blk_put (cs := #[a0, a1, a2, b3, b4, b5, b6]) (blk_put (cs := #[a0, a1, b2, b3, b4, b5, b6]) (blk_put (cs := #[a0, b1, b2, b3, b4, b5, b6]) (blk_put (cs := #[b0, b1, b2, b3, b4, b5, b6]) h 0 _ rfl) 1 _ rfl) 2 _ rfl) 3 _ rfl) 4 _ rfl) 5 _ rfl) 6 _ rfl)
theorem f7_ {w : World} {g g' : Nat} {t : TypeId} {cs : Array Value} {j0 j1 j2 j3 j4 j5 j6 : Nat} (h : w.heap[g]? = some (.cells cs t (0, 0))) (hne : g ≠ g') (a0 a1 a2 a3 a4 a5 a6 : Value) : (((((((w.setCell ⟨g', j0, none⟩ a0).setCell ⟨g', j1, none⟩ a1).setCell ⟨g', j2, none⟩ a2).setCell ⟨g', j3, none⟩ a3).setCell ⟨g', j4, none⟩ a4).setCell ⟨g', j5, none⟩ a5).setCell ⟨g', j6, none⟩ a6).heap[g]? = some (.cells cs t (0, 0)) := (blk_far (p := ⟨g', j6, none⟩) (blk_far (p := ⟨g', j5, none⟩) (blk_far (p := ⟨g', j4, none⟩) (blk_far (p := ⟨g', j3, none⟩) (blk_far (p := ⟨g', j2, none⟩) (blk_far (p := ⟨g', j1, none⟩) (blk_far (p := ⟨g', j0, none⟩) h hne _) hne _) hne _) hne _) hne _) hne _) hne _)
end Go.Proofs.Ythmjimboajmhmaa.Pr

namespace Go.Proofs.Ythmjimboajmhmaa.Pr
open Go.RowKit Go.Proofs.YthmjimboajmhmaaW.PrintWords Go.Proofs.YthmjimboajmhmaaW.PrintLast Go.Proofs.YthmjimboajmhmaaW.PrintMore
attribute [local go_sem] max2_int min2_int max_two min_two max_three min_three max_four min_four   -- for this text's walks alone
set_option linter.unusedVariables false
set_option linter.unusedSimpArgs false
def laws_szExploration.f (l0_0 : List (S65)) (l0_1 : List Bool) (l0_2 : List Bool) (a0_3 : Int) (a0_4 : Int) (a1 : Int) : Option (Int) := (laws_szLegS.f l0_0 a1).bind fun t102 => (if t102 < 0 then (some (-1)) else ((laws_szBoolS.f l0_1 t102).bind fun t103 => (if t103 < 0 then (some (-1)) else ((laws_szBoolS.f l0_2 t103).bind fun t104 => (if t104 < 0 then (some (-1)) else (some t104))))))
theorem laws_szExploration.calls (A0_0 : Option Addr) (c0_0 : Nat) (l0_0 : List (S65)) (A0_1 : Option Addr) (c0_1 : Nat) (l0_1 : List Bool) (A0_2 : Option Addr) (c0_2 : Nat) (l0_2 : List Bool) (a0_3 : Int) (a0_4 : Int) (a1 : Int) (r : Int) (w : World) (hr0_0 : Kd.C k65 w A0_0 l0_0.length l0_0) (hc0_0 : l0_0.length ≤ c0_0) (hr0_1 : Kd.C Kd.bool w A0_1 l0_1.length l0_1) (hc0_1 : l0_1.length ≤ c0_1) (hr0_2 : Kd.C Kd.bool w A0_2 l0_2.length l0_2) (hc0_2 : l0_2.length ≤ c0_2) (h : laws_szExploration.f l0_0 l0_1 l0_2 a0_3 a0_4 a1 = some r) :
  Calls Try.prog 15 #[.agg #[.slice A0_0 l0_0.length c0_0, .slice A0_1 l0_1.length c0_1, .slice A0_2 l0_2.length c0_2, .int .i64 a0_3, .int .i64 a0_4], .int .i64 a1] w fun e w' => e = .returned (.int .i64 r) ∧ Below w.heap.size w w' := by
 have hu25 := Try.underlying25
 have HR0_0 := Aside0.mk hr0_0
 have HC0_0 := Aside0.mk hc0_0
 clear hr0_0 hc0_0
 have HR0_1 := Aside0.mk hr0_1
 have HC0_1 := Aside0.mk hc0_1
 clear hr0_1 hc0_1
 have HR0_2 := Aside0.mk hr0_2
 have HC0_2 := Aside0.mk hc0_2
 clear hr0_2 hc0_2
 have HB := Aside0.mk (Below.refl w.heap.size w)
 have H : ((laws_szLegS.f l0_0 a1).bind fun t102 => (if t102 < 0 then (some (-1)) else ((laws_szBoolS.f l0_1 t102).bind fun t103 => (if t103 < 0 then (some (-1)) else ((laws_szBoolS.f l0_2 t103).bind fun t104 => (if t104 < 0 then (some (-1)) else (some t104))))))) = some r := h
 clear h
 replace H := Option.bind_eq_some_iff.mp H
 obtain ⟨t102, A30, H⟩ := H
 replace H : (if t102 < 0 then (some (-1)) else ((laws_szBoolS.f l0_1 t102).bind fun t103 => (if t103 < 0 then (some (-1)) else ((laws_szBoolS.f l0_2 t103).bind fun t104 => (if t104 < 0 then (some (-1)) else (some t104)))))) = some r := H
 have A3 := Aside0.mk A30
 clear A30
 by_cases c4 : t102 < 0
 ·
  rw [if_pos c4] at H
  have c4b0 : decide (t102 < 0) = true := decide_eq_true c4
  clear c4
  obtain rfl := Option.some.inj H
  go_enter Try.func15, Try.ntmps15
  go_wp2_with (first | ((with_reducible refine gate_dst (N := 2) rfl ?_); refine box_event ?hg (N := 2) ?hd (cs := #[.slice A0_0 l0_0.length c0_0, .slice A0_1 l0_1.length c0_1, .slice A0_2 l0_2.length c0_2, .int .i64 a0_3, .int .i64 a0_4]) (t := 25) ?hr ?_; (case hd => rfl); (case hg => rfl); (case hr => first | (go_simp; done) | (go_simp; rfl)); intro gb101 hg w5 hbox hb; have BK101 := Aside0.mk (hbox); have GW101 := Aside0.mk ((bz_ hg (lb0_ HB.out))); have GE101 := Aside0.mk ((bz_ hg (lb0_ HB.out))); replace HB := Aside0.mk (below_step (lb0_ HB.out) hb); clear hb hbox hg; obtain ⟨hcz6_0, hcz6_1, hcz6_2, hcz6_3, hcz6_4⟩ := cz5_ BK101.out; obtain ⟨hfz6_0, hfz6_1, hfz6_2, hfz6_3, hfz6_4⟩ := fz5_ BK101.out) | ((with_reducible refine gate_callee (f := 37) rfl ?_); refine ga_ (some 8) Try.func37 #[.slice A0_0 l0_0.length c0_0, .int .i64 a1] ?_; (with_reducible refine (laws_szLegS.calls _ _ l0_0 a1 t102 _ ?side1 ?side2 A3.out).mono ?_); (case side1 => exact kc_ (Kd.C_below HR0_0.out HB.out)); (case side2 => exact HC0_0.out); rintro e w' ⟨rfl, ⟨nd, rfl⟩⟩; refine ⟨_, rfl, ?_⟩))
  go_ret
  exact ⟨rr_, lb1_ HB.out GE101.out⟩
 ·
  rw [if_neg c4] at H
  have c4b0 : decide (t102 < 0) = false := decide_eq_false c4
  clear c4
  replace H := Option.bind_eq_some_iff.mp H
  obtain ⟨t103, A70, H⟩ := H
  replace H : (if t103 < 0 then (some (-1)) else ((laws_szBoolS.f l0_2 t103).bind fun t104 => (if t104 < 0 then (some (-1)) else (some t104)))) = some r := H
  have A7 := Aside0.mk A70
  clear A70
  by_cases c8 : t103 < 0
  ·
   rw [if_pos c8] at H
   have c8b0 : decide (t103 < 0) = true := decide_eq_true c8
   clear c8
   obtain rfl := Option.some.inj H
   go_enter Try.func15, Try.ntmps15
   go_wp2_with (first | ((with_reducible refine gate_dst (N := 2) rfl ?_); refine box_event ?hg (N := 2) ?hd (cs := #[.slice A0_0 l0_0.length c0_0, .slice A0_1 l0_1.length c0_1, .slice A0_2 l0_2.length c0_2, .int .i64 a0_3, .int .i64 a0_4]) (t := 25) ?hr ?_; (case hd => rfl); (case hg => rfl); (case hr => first | (go_simp; done) | (go_simp; rfl)); intro gb101 hg w9 hbox hb; have BK101 := Aside0.mk (hbox); have GW101 := Aside0.mk ((bz_ hg (lb0_ HB.out))); have GE101 := Aside0.mk ((bz_ hg (lb0_ HB.out))); replace HB := Aside0.mk (below_step (lb0_ HB.out) hb); clear hb hbox hg; obtain ⟨hcz10_0, hcz10_1, hcz10_2, hcz10_3, hcz10_4⟩ := cz5_ BK101.out; obtain ⟨hfz10_0, hfz10_1, hfz10_2, hfz10_3, hfz10_4⟩ := fz5_ BK101.out) | ((with_reducible refine gate_callee (f := 37) rfl ?_); refine ga_ (some 8) Try.func37 #[.slice A0_0 l0_0.length c0_0, .int .i64 a1] ?_; (with_reducible refine (laws_szLegS.calls _ _ l0_0 a1 t102 _ ?side1 ?side2 A3.out).mono ?_); (case side1 => exact kc_ (Kd.C_below HR0_0.out HB.out)); (case side2 => exact HC0_0.out); rintro e w' ⟨rfl, ⟨nd, rfl⟩⟩; refine ⟨_, rfl, ?_⟩) | ((with_reducible refine gate_callee (f := 66) rfl ?_); refine ga_ (some 14) Try.func66 #[.slice A0_1 l0_1.length c0_1, .int .i64 t102] ?_; (with_reducible refine (laws_szBoolS.calls _ _ l0_1 t102 t103 _ ?side1 ?side2 A7.out).mono ?_); (case side1 => exact kc_ (Kd.C_below HR0_1.out (lb1_ HB.out GE101.out))); (case side2 => exact HC0_1.out); rintro e w' ⟨rfl, ⟨nd, rfl⟩⟩; refine ⟨_, rfl, ?_⟩))
   go_ret
   exact ⟨rr_, lb1_ HB.out GE101.out⟩
  ·
   rw [if_neg c8] at H
   have c8b0 : decide (t103 < 0) = false := decide_eq_false c8
   clear c8
   replace H := Option.bind_eq_some_iff.mp H
   obtain ⟨t104, A110, H⟩ := H
   replace H : (if t104 < 0 then (some (-1)) else (some t104)) = some r := H
   have A11 := Aside0.mk A110
   clear A110
   by_cases c12 : t104 < 0
   ·
    rw [if_pos c12] at H
    have c12b0 : decide (t104 < 0) = true := decide_eq_true c12
    clear c12
    obtain rfl := Option.some.inj H
    go_enter Try.func15, Try.ntmps15
    go_wp2_with (first | ((with_reducible refine gate_dst (N := 2) rfl ?_); refine box_event ?hg (N := 2) ?hd (cs := #[.slice A0_0 l0_0.length c0_0, .slice A0_1 l0_1.length c0_1, .slice A0_2 l0_2.length c0_2, .int .i64 a0_3, .int .i64 a0_4]) (t := 25) ?hr ?_; (case hd => rfl); (case hg => rfl); (case hr => first | (go_simp; done) | (go_simp; rfl)); intro gb101 hg w13 hbox hb; have BK101 := Aside0.mk (hbox); have GW101 := Aside0.mk ((bz_ hg (lb0_ HB.out))); have GE101 := Aside0.mk ((bz_ hg (lb0_ HB.out))); replace HB := Aside0.mk (below_step (lb0_ HB.out) hb); clear hb hbox hg; obtain ⟨hcz14_0, hcz14_1, hcz14_2, hcz14_3, hcz14_4⟩ := cz5_ BK101.out; obtain ⟨hfz14_0, hfz14_1, hfz14_2, hfz14_3, hfz14_4⟩ := fz5_ BK101.out) | ((with_reducible refine gate_callee (f := 37) rfl ?_); refine ga_ (some 8) Try.func37 #[.slice A0_0 l0_0.length c0_0, .int .i64 a1] ?_; (with_reducible refine (laws_szLegS.calls _ _ l0_0 a1 t102 _ ?side1 ?side2 A3.out).mono ?_); (case side1 => exact kc_ (Kd.C_below HR0_0.out HB.out)); (case side2 => exact HC0_0.out); rintro e w' ⟨rfl, ⟨nd, rfl⟩⟩; refine ⟨_, rfl, ?_⟩) | ((with_reducible refine gate_callee (f := 66) rfl ?_); refine ga_ (some 14) Try.func66 #[.slice A0_1 l0_1.length c0_1, .int .i64 t102] ?_; (with_reducible refine (laws_szBoolS.calls _ _ l0_1 t102 t103 _ ?side1 ?side2 A7.out).mono ?_); (case side1 => exact kc_ (Kd.C_below HR0_1.out (lb1_ HB.out GE101.out))); (case side2 => exact HC0_1.out); rintro e w' ⟨rfl, ⟨nd, rfl⟩⟩; refine ⟨_, rfl, ?_⟩) | ((with_reducible refine gate_callee (f := 66) rfl ?_); refine ga_ (some 20) Try.func66 #[.slice A0_2 l0_2.length c0_2, .int .i64 t103] ?_; (with_reducible refine (laws_szBoolS.calls _ _ l0_2 t103 t104 _ ?side1 ?side2 A11.out).mono ?_); (case side1 => exact kc_ (Kd.C_below HR0_2.out (lb1_ HB.out GE101.out))); (case side2 => exact HC0_2.out); rintro e w' ⟨rfl, ⟨nd, rfl⟩⟩; refine ⟨_, rfl, ?_⟩))
    go_ret
    exact ⟨rr_, lb1_ HB.out GE101.out⟩
   ·
    rw [if_neg c12] at H
    have c12b0 : decide (t104 < 0) = false := decide_eq_false c12
    clear c12
    obtain rfl := Option.some.inj H
    go_enter Try.func15, Try.ntmps15
    go_wp2_with (first | ((with_reducible refine gate_dst (N := 2) rfl ?_); refine box_event ?hg (N := 2) ?hd (cs := #[.slice A0_0 l0_0.length c0_0, .slice A0_1 l0_1.length c0_1, .slice A0_2 l0_2.length c0_2, .int .i64 a0_3, .int .i64 a0_4]) (t := 25) ?hr ?_; (case hd => rfl); (case hg => rfl); (case hr => first | (go_simp; done) | (go_simp; rfl)); intro gb101 hg w15 hbox hb; have BK101 := Aside0.mk (hbox); have GW101 := Aside0.mk ((bz_ hg (lb0_ HB.out))); have GE101 := Aside0.mk ((bz_ hg (lb0_ HB.out))); replace HB := Aside0.mk (below_step (lb0_ HB.out) hb); clear hb hbox hg; obtain ⟨hcz16_0, hcz16_1, hcz16_2, hcz16_3, hcz16_4⟩ := cz5_ BK101.out; obtain ⟨hfz16_0, hfz16_1, hfz16_2, hfz16_3, hfz16_4⟩ := fz5_ BK101.out) | ((with_reducible refine gate_callee (f := 37) rfl ?_); refine ga_ (some 8) Try.func37 #[.slice A0_0 l0_0.length c0_0, .int .i64 a1] ?_; (with_reducible refine (laws_szLegS.calls _ _ l0_0 a1 t102 _ ?side1 ?side2 A3.out).mono ?_); (case side1 => exact kc_ (Kd.C_below HR0_0.out HB.out)); (case side2 => exact HC0_0.out); rintro e w' ⟨rfl, ⟨nd, rfl⟩⟩; refine ⟨_, rfl, ?_⟩) | ((with_reducible refine gate_callee (f := 66) rfl ?_); refine ga_ (some 14) Try.func66 #[.slice A0_1 l0_1.length c0_1, .int .i64 t102] ?_; (with_reducible refine (laws_szBoolS.calls _ _ l0_1 t102 t103 _ ?side1 ?side2 A7.out).mono ?_); (case side1 => exact kc_ (Kd.C_below HR0_1.out (lb1_ HB.out GE101.out))); (case side2 => exact HC0_1.out); rintro e w' ⟨rfl, ⟨nd, rfl⟩⟩; refine ⟨_, rfl, ?_⟩) | ((with_reducible refine gate_callee (f := 66) rfl ?_); refine ga_ (some 20) Try.func66 #[.slice A0_2 l0_2.length c0_2, .int .i64 t103] ?_; (with_reducible refine (laws_szBoolS.calls _ _ l0_2 t103 t104 _ ?side1 ?side2 A11.out).mono ?_); (case side1 => exact kc_ (Kd.C_below HR0_2.out (lb1_ HB.out GE101.out))); (case side2 => exact HC0_2.out); rintro e w' ⟨rfl, ⟨nd, rfl⟩⟩; refine ⟨_, rfl, ?_⟩))
    go_ret
    exact ⟨rr_, lb1_ HB.out GE101.out⟩
def laws_toLeg.f (a0_0 : Int) (a0_1 : Int) (a0_2 : Int) (a0_3 : Int) (a0_4 : Int) : Option (Int × Int × Int × Int × Int) := some (a0_0, a0_1, a0_2, a0_3, a0_4)
theorem laws_toLeg.calls (a0_0 : Int) (a0_1 : Int) (a0_2 : Int) (a0_3 : Int) (a0_4 : Int) (r1 : Int) (r2 : Int) (r3 : Int) (r4 : Int) (r5 : Int) (w : World) (h : laws_toLeg.f a0_0 a0_1 a0_2 a0_3 a0_4 = some (r1, r2, r3, r4, r5)) :
  Calls Try.prog 89 #[.agg #[.int .i64 a0_0, .int .i64 a0_1, .int .i64 a0_2, .int .i64 a0_3, .int .i64 a0_4]] w fun e w' => e = .returned (.agg #[.int .i64 r1, .int .i64 r2, .int .i64 r3, .int .i64 r4, .int .i64 r5]) ∧ Below w.heap.size w w' := by
 have hu65 := Try.underlying65
 have hu37 := Try.underlying37
 have HB := Aside0.mk (Below.refl w.heap.size w)
 have H : (some (a0_0, a0_1, a0_2, a0_3, a0_4)) = some (r1, r2, r3, r4, r5) := h
 clear h
 simp only [Option.some.injEq, Prod.mk.injEq] at H
 obtain ⟨rfl, rfl, rfl, rfl, rfl⟩ := H
 go_enter Try.func89, Try.ntmps89
 go_wp2_with (first | ((with_reducible refine gate_dst (N := 1) rfl ?_); refine box_event ?hg (N := 1) ?hd (cs := #[.int .i64 a0_0, .int .i64 a0_1, .int .i64 a0_2, .int .i64 a0_3, .int .i64 a0_4]) (t := 65) ?hr ?_; (case hd => rfl); (case hg => rfl); (case hr => first | (go_simp; done) | (go_simp; rfl)); intro gb156 hg w2 hbox hb; have BK156 := Aside0.mk (hbox); have GW156 := Aside0.mk ((bz_ hg (lb0_ HB.out))); have GE156 := Aside0.mk ((bz_ hg (lb0_ HB.out))); replace HB := Aside0.mk (below_step (lb0_ HB.out) hb); clear hb hbox hg) | ((with_reducible refine gate_dst (N := 2) rfl ?_); refine box_event ?hg (N := 2) ?hd (cs := #[.int .i64 0, .int .i64 0, .int .i64 0, .int .i64 0, .int .i64 0]) (t := 37) ?hr ?_; (case hd => rfl); (case hg => rfl); (case hr => first | (go_simp; done) | (go_simp; rfl)); intro gb157 hg w3 hbox hb; have BK157 := Aside0.mk (hbox); have GW157 := Aside0.mk ((bz_ hg (lb1_ HB.out GE156.out))); have GE157 := Aside0.mk ((bz_ hg (lb1_ HB.out GE156.out))); replace HB := Aside0.mk (below_step (lb1_ HB.out GE156.out) hb); have NB156_157 := Aside0.mk (nl_ hg BK156.out); have NB157_156 := Aside0.mk (ng_ hg BK156.out); replace BK156 := Aside0.mk (bb_ (bk_ BK156.out) hb); clear hb hbox hg) | ((with_reducible refine gate_dst (N := 3) rfl ?_); refine box_event ?hg (N := 3) ?hd (cs := #[.int .i64 0, .int .i64 0, .int .i64 0, .int .i64 0, .int .i64 0]) (t := 37) ?hr ?_; (case hd => rfl); (case hg => rfl); (case hr => first | (go_simp; done) | (go_simp; rfl)); intro gb158 hg w4 hbox hb; have BK158 := Aside0.mk (hbox); have GW158 := Aside0.mk ((bz_ hg (lb2_ HB.out GE156.out GE157.out))); have GE158 := Aside0.mk ((bz_ hg (lb2_ HB.out GE156.out GE157.out))); replace HB := Aside0.mk (below_step (lb2_ HB.out GE156.out GE157.out) hb); have NB156_158 := Aside0.mk (nl_ hg BK156.out); have NB158_156 := Aside0.mk (ng_ hg BK156.out); replace BK156 := Aside0.mk (bb_ (bk_ BK156.out) hb); have NB157_158 := Aside0.mk (nl_ hg BK157.out); have NB158_157 := Aside0.mk (ng_ hg BK157.out); replace BK157 := Aside0.mk (bb_ (bk_ BK157.out) hb); clear hb hbox hg; have hnb5 := NB156_157.out; have hnc5 := NB157_156.out; have hnb6 := NB156_158.out; have hnc6 := NB158_156.out; obtain ⟨hcz7_0, hcz7_1, hcz7_2, hcz7_3, hcz7_4⟩ := cz5_ BK156.out; obtain ⟨hfz7_0, hfz7_1, hfz7_2, hfz7_3, hfz7_4⟩ := fz5_ BK156.out; have hnb8 := NB158_157.out; have hnc8 := NB157_158.out; obtain ⟨hcz9_0, hcz9_1, hcz9_2, hcz9_3, hcz9_4⟩ := cz5_ BK158.out; obtain ⟨hfz9_0, hfz9_1, hfz9_2, hfz9_3, hfz9_4⟩ := fz5_ BK158.out; obtain ⟨hcz10_0, hcz10_1, hcz10_2, hcz10_3, hcz10_4⟩ := cz5_ BK157.out; obtain ⟨hfz10_0, hfz10_1, hfz10_2, hfz10_3, hfz10_4⟩ := fz5_ BK157.out))
 refine bodyPost_ret (results_cell_row rfl _ _ gb157 37 #[.int .i64 a0_0, .int .i64 a0_1, .int .i64 a0_2, .int .i64 a0_3, .int .i64 a0_4] (0, 0) _ rfl (by (with_reducible repeat (first | refine blk_drewN ?_ _ | refine blk_drew ?_ | refine blk_alloc ?_ _)); refine blk_put (cs := #[.int .i64 a0_0, .int .i64 a0_1, .int .i64 a0_2, .int .i64 a0_3, .int .i64 0]) ?_ 4 _ rfl; (with_reducible repeat (first | refine blk_drewN ?_ _ | refine blk_drew ?_ | refine blk_alloc ?_ _)); refine blk_put (cs := #[.int .i64 a0_0, .int .i64 a0_1, .int .i64 a0_2, .int .i64 0, .int .i64 0]) ?_ 3 _ rfl; (with_reducible repeat (first | refine blk_drewN ?_ _ | refine blk_drew ?_ | refine blk_alloc ?_ _)); refine blk_put (cs := #[.int .i64 a0_0, .int .i64 a0_1, .int .i64 0, .int .i64 0, .int .i64 0]) ?_ 2 _ rfl; (with_reducible repeat (first | refine blk_drewN ?_ _ | refine blk_drew ?_ | refine blk_alloc ?_ _)); refine blk_put (cs := #[.int .i64 a0_0, .int .i64 0, .int .i64 0, .int .i64 0, .int .i64 0]) ?_ 1 _ rfl; (with_reducible repeat (first | refine blk_drewN ?_ _ | refine blk_drew ?_ | refine blk_alloc ?_ _)); refine blk_put (cs := #[.int .i64 0, .int .i64 0, .int .i64 0, .int .i64 0, .int .i64 0]) ?_ 0 _ rfl; (with_reducible repeat (first | refine blk_drewN ?_ _ | refine blk_drew ?_ | refine blk_alloc ?_ _)); refine blk_far ?_ NB157_158.out _; (with_reducible repeat (first | refine blk_drewN ?_ _ | refine blk_drew ?_ | refine blk_alloc ?_ _)); refine blk_far ?_ NB157_158.out _; (with_reducible repeat (first | refine blk_drewN ?_ _ | refine blk_drew ?_ | refine blk_alloc ?_ _)); refine blk_far ?_ NB157_158.out _; (with_reducible repeat (first | refine blk_drewN ?_ _ | refine blk_drew ?_ | refine blk_alloc ?_ _)); refine blk_far ?_ NB157_158.out _; (with_reducible repeat (first | refine blk_drewN ?_ _ | refine blk_drew ?_ | refine blk_alloc ?_ _)); refine blk_far ?_ NB157_158.out _; (with_reducible repeat (first | refine blk_drewN ?_ _ | refine blk_drew ?_ | refine blk_alloc ?_ _)); exact BK157.out) Try.underlying37 rfl (by kernel_rfl)) rfl ?_
 exact ⟨rr_, lb3_ HB.out GE156.out GE157.out GE158.out⟩
def laws_toLegS.l0 : Nat → List (S65) → List (S37) → Int → Option ((List (S37)))
 | 0, _, _, _ => none
 | k + 1, x0, x3, x4 => if x4 < (x0.length : Int) then (if 0 ≤ x4 then ((laws_toLeg.f ((rd_T65 x0 x4).f0) ((rd_T65 x0 x4).f1) ((rd_T65 x0 x4).f2) ((rd_T65 x0 x4).f3) ((rd_T65 x0 x4).f4)).bind fun bt163 => (if x4 < (x3.length : Int) then (laws_toLegS.l0 k x0 (x3.set (x4 : Int).toNat (⟨bt163.1, bt163.2.1, bt163.2.2.1, bt163.2.2.2.1, bt163.2.2.2.2⟩ : S37)) (wrap64 (x4 + 1))) else (none))) else (none)) else (some x3)
def laws_toLegS.f (k : Nat) (l0 : List (S65)) : Option ((List (S37))) := if 0 ≤ (l0.length : Int) then (if ((l0.length : Int) : Int).toNat ≤ 7036874417766 then (laws_toLegS.l0 k l0 (List.replicate ((l0.length : Int) : Int).toNat z37) 0) else (none)) else (none)
theorem laws_toLegS.calls (k : Nat) (A0 : Option Addr) (c0 : Nat) (l0 : List (S65)) (r : List (S37)) (w : World) (hr0 : Kd.C k65 w A0 l0.length l0) (hc0 : l0.length ≤ c0) (h : laws_toLegS.f k l0 = some r) :
  Calls Try.prog 38 #[.slice A0 l0.length c0] w fun e w' => ∃ v0_ : Value, e = .returned (v0_) ∧ Kd.R k37 37 w' w.heap.size (fun _ => True) v0_ r ∧ Below w.heap.size w w' := by
 have hu65 := Try.underlying65
 have hu37 := Try.underlying37
 have HR0 := Aside0.mk hr0
 have HC0 := Aside0.mk hc0
 clear hr0 hc0
 have HB := Aside0.mk (Below.refl w.heap.size w)
 have H : (if 0 ≤ (l0.length : Int) then (if ((l0.length : Int) : Int).toNat ≤ 7036874417766 then (laws_toLegS.l0 k l0 (List.replicate ((l0.length : Int) : Int).toNat z37) 0) else (none)) else (none)) = some r := h
 clear h
 by_cases c2 : 0 ≤ (l0.length : Int)
 ·
  rw [if_pos c2] at H
  have c2b0 := eq_true c2
  have c2b1 : decide (0 ≤ (l0.length : Int)) = true := decide_eq_true c2
  clear c2
  by_cases c3 : ((l0.length : Int) : Int).toNat ≤ 7036874417766
  ·
   rw [if_pos c3] at H
   have c3b0 := eq_true c3
   have c3b1 : decide (((l0.length : Int) : Int).toNat ≤ 7036874417766) = true := decide_eq_true c3
   clear c3
   obtain ⟨y159, hy159⟩ : ∃ y_ : List (S37), y_ = (List.replicate ((l0.length : Int) : Int).toNat z37) := ⟨_, rfl⟩
   replace H : (laws_toLegS.l0 k l0 y159 0) = some r := by first | (rw [hy159]; with_reducible exact H) | (have H2_ := (Option.bind_some _ _).symm.trans H; rw [hy159]; with_reducible exact H2_) | (have H2_ := (Option.bind_some _ _).symm.trans H; with_reducible exact H2_) | with_reducible exact H | (rw [hy159]; exact H) | exact H
   have Ny159 := Aside0.mk hy159
   clear hy159
   have H' := Aside0.mk H
   clear H
   go_enter Try.func38, Try.ntmps38
   go_wp2_with (first | ((with_reducible refine gate_dst (N := 7) rfl ?_); refine Kd.R_make k37 _ 37 rfl (N := 7) rfl 28 _ _ rfl (l0.length : Int) rfl rfl Try.underlying28 (.agg #[(.int .i64 0), (.int .i64 0), (.int .i64 0), (.int .i64 0), (.int .i64 0)]) 40 info37 rfl (by decide) (by omega) z37 (ok := fun _ => True) (okp := fun _ => True) (k37_mkM _ _ _ z37 ) (fun _ hk => hk) trivial (dt_) (Nat.le_trans (Nat.mul_le_mul_right _ (dt_ : (l0.length : Int).toNat ≤ 7036874417766)) (by omega)) (Below.refl _ _) (Nat.le_refl _) ?_; intro v160 w4 ho5 hb hg_ hnew_; clear hg_ hnew_; replace ho5 := ry_ Ny159.out ho5; have HO161 := Aside0.mk (Kd.R_lower ho5 (below_size (lb0_ HB.out))); replace HB := Aside0.mk (below_step (lb0_ HB.out) hb); clear hb ho5))
   go_loopg [4] k (fun kq v4 w' => ∃ (x3_1 : List (S37)) (x4_1 : Int), v4 = .int .i64 x4_1 ∧ Aside0 (laws_toLegS.l0 kq l0 x3_1 x4_1 = some r) ∧ Aside0 (kq ≤ k) ∧ Aside0 (Kd.R k37 37 w' w.heap.size (fun _ => True) v160 x3_1) ∧ Aside0 (Below w.heap.size w w'))
   case atStart => exact ⟨(y159), (0), (by first | rfl | (simp; done) | (simp [*]; done)), H', ⟨Nat.le_refl _⟩, ⟨kr_ HO161.out⟩, ⟨lb0_ HB.out⟩⟩
   case round =>
    clear H'
    try clear c2
    try clear c2b0
    try clear c2b1
    try clear p2
    try clear c3
    try clear c3b0
    try clear c3b1
    obtain ⟨x3_1, x4_1, rfl, HA, HK1, HO_3, HB⟩ := hrel
    cases gk with
    | zero => exact absurd HA.out (by simp [laws_toLegS.l0])
    | succ k1 =>
     have H := HA.out
     clear HA
     simp only [laws_toLegS.l0] at H
     by_cases c6 : x4_1 < (l0.length : Int)
     ·
      rw [if_pos c6] at H
      have c6b0 : decide (x4_1 < (l0.length : Int)) = true := decide_eq_true c6
      clear c6
      by_cases c7 : 0 ≤ x4_1
      ·
       rw [if_pos c7] at H
       have c7b0 : decide (0 ≤ x4_1) = true := decide_eq_true c7
       clear c7
       replace H := Option.bind_eq_some_iff.mp H
       obtain ⟨⟨t163, t164, t165, t166, t167⟩, A80, H⟩ := H
       replace H : (if x4_1 < (x3_1.length : Int) then (laws_toLegS.l0 k1 l0 (x3_1.set (x4_1 : Int).toNat (⟨t163, t164, t165, t166, t167⟩ : S37)) (wrap64 (x4_1 + 1))) else (none)) = some r := H
       have A8 := Aside0.mk A80
       clear A80
       by_cases c9 : x4_1 < (x3_1.length : Int)
       ·
        rw [if_pos c9] at H
        have c9b0 : decide (x4_1 < (x3_1.length : Int)) = true := decide_eq_true c9; clear c9
        obtain ⟨y168, hy168⟩ : ∃ y_ : List (S37), y_ = (x3_1.set (x4_1 : Int).toNat (⟨t163, t164, t165, t166, t167⟩ : S37)) := ⟨_, rfl⟩
        replace H : (laws_toLegS.l0 k1 l0 y168 (wrap64 (x4_1 + 1))) = some r := by first | (rw [hy168]; with_reducible exact H) | (have H2_ := (Option.bind_some _ _).symm.trans H; rw [hy168]; with_reducible exact H2_) | (have H2_ := (Option.bind_some _ _).symm.trans H; with_reducible exact H2_) | with_reducible exact H | (rw [hy168]; exact H) | exact H
        have Ny168 := Aside0.mk hy168; clear hy168; have H' := Aside0.mk H; clear H; have p162 : 0 ≤ (x4_1 : Int) := dt_; have q162 : x4_1 < (l0.length : Int) := dt_; obtain ⟨ad162, e162, hx162_0, hx162_1, hx162_2, hx162_3, hx162_4⟩ := at_T65 HR0.out x4_1 p162 q162
        cases e162
        replace hx162_0 := bc_ HB.out hx162_0; replace hx162_1 := bc_ HB.out hx162_1; replace hx162_2 := bc_ HB.out hx162_2; replace hx162_3 := bc_ HB.out hx162_3; replace hx162_4 := bc_ HB.out hx162_4; replace p162 := eq_true p162; replace q162 := eq_true q162
        go_wp2_with (first | ((with_reducible refine gate_callee (f := 89) rfl ?_); refine ga_ (some 20) Try.func89 #[.agg #[.int .i64 ((rd_T65 l0 x4_1).f0), .int .i64 ((rd_T65 l0 x4_1).f1), .int .i64 ((rd_T65 l0 x4_1).f2), .int .i64 ((rd_T65 l0 x4_1).f3), .int .i64 ((rd_T65 l0 x4_1).f4)]] ?_; (with_reducible refine (laws_toLeg.calls ((rd_T65 l0 x4_1).f0) ((rd_T65 l0 x4_1).f1) ((rd_T65 l0 x4_1).f2) ((rd_T65 l0 x4_1).f3) ((rd_T65 l0 x4_1).f4) t163 t164 t165 t166 t167 _ A8.out).mono ?_); rintro e w11 ⟨rfl, hb⟩; refine ⟨_, rfl, ?_⟩; replace HO_3 := Aside0.mk (Kd.R_below (kr_ HO_3.out) hb); replace HB := Aside0.mk (below_step (lb0_ HB.out) hb); (try clear hb); (try clear hb2); (try clear hk); (try clear hi); have p10 : 0 ≤ (x4_1 : Int) := dt_; have q10 : (x4_1 : Int) < ((x3_1.length : Int) : Int) := dt_; obtain ⟨go10, co10, eo10, gb10, gl10, cl10, HG10⟩ := Kd.R_form HO_3.out (by omega); (first | cases eo10 | (injection eo10 with ea_ en_ ec_; (first | subst ea_ | (injection ea_ with ea_; subst ea_)); subst ec_; clear en_)); have GB10 := Aside0.mk gb10; have GG10 := Aside0.mk HG10; clear gb10 gl10 HG10; obtain ⟨ce10, hcl10, hM10, hcc10, hfr10⟩ := Kd.R_elem HO_3.out z37 (x4_1 : Int) p10 q10; obtain rfl := k37_openM hM10; have hx10_0 : w11.cell? ⟨go10, (x4_1 : Int).toNat * 5, none⟩ = some (.int .i64 ((rd_T37 x3_1 x4_1).f0)) := hcc10 0 _ rfl; have hx10_1 : w11.cell? ⟨go10, (x4_1 : Int).toNat * 5 + 1, none⟩ = some (.int .i64 ((rd_T37 x3_1 x4_1).f1)) := hcc10 1 _ rfl; have hx10_2 : w11.cell? ⟨go10, (x4_1 : Int).toNat * 5 + 2, none⟩ = some (.int .i64 ((rd_T37 x3_1 x4_1).f2)) := hcc10 2 _ rfl; have hx10_3 : w11.cell? ⟨go10, (x4_1 : Int).toNat * 5 + 3, none⟩ = some (.int .i64 ((rd_T37 x3_1 x4_1).f3)) := hcc10 3 _ rfl; have hx10_4 : w11.cell? ⟨go10, (x4_1 : Int).toNat * 5 + 4, none⟩ = some (.int .i64 ((rd_T37 x3_1 x4_1).f4)) := hcc10 4 _ rfl; have hf10_0 : w11.frozen? ⟨go10, (x4_1 : Int).toNat * 5, none⟩ = false := hfr10 0; have hf10_1 : w11.frozen? ⟨go10, (x4_1 : Int).toNat * 5 + 1, none⟩ = false := hfr10 1; have hf10_2 : w11.frozen? ⟨go10, (x4_1 : Int).toNat * 5 + 2, none⟩ = false := hfr10 2; have hf10_3 : w11.frozen? ⟨go10, (x4_1 : Int).toNat * 5 + 3, none⟩ = false := hfr10 3; have hf10_4 : w11.frozen? ⟨go10, (x4_1 : Int).toNat * 5 + 4, none⟩ = false := hfr10 4; clear hcl10 hcc10 hfr10 hM10; replace p10 := eq_true p10; replace q10 := eq_true q10; have HX12 := Aside0.mk (show Kd.R k37 37 w11 w.heap.size (fun _ => True) (.slice (some ⟨go10, 0, none⟩) x3_1.length co10) x3_1 from (kr_ HO_3.out)); obtain ⟨ce12, hcl12, hM12, hcc12, hfr12⟩ := Kd.R_elem HX12.out z37 (x4_1 : Int) (dt_) (by have h_ : (x4_1 : Int) < ((x3_1.length : Int) : Int) := dt_; first | exact h_ | (have e_ := (Kd.R_reads' HO_3.out).1; omega) | simpa using h_); obtain rfl := k37_openM hM12; have HP12 := Kd.R_seg HX12.out (x4_1 : Int) (dt_) (by have h_ : (x4_1 : Int) < ((x3_1.length : Int) : Int) := dt_; first | exact h_ | (have e_ := (Kd.R_reads' HO_3.out).1; omega) | simpa using h_) (seg := [.int .i64 t163, .int .i64 t164, .int .i64 t165, .int .i64 t166, .int .i64 t167]) (j := 0) hcl12 hcc12 (show 5 ≤ 5 from by decide) (x' := (⟨t163, t164, t165, t166, t167⟩ : S37)) (k37_mkM _ _ _ (⟨t163, t164, t165, t166, t167⟩ : S37) ) (fun _ hk => hk); have hx12_0 := hcc12 0 _ rfl; (try simp only [show (k37).sz = 5 from rfl, Nat.mul_one, Nat.add_zero] at hx12_0); have hf12_0 := hfr12 0; (try simp only [show (k37).sz = 5 from rfl, Nat.mul_one, Nat.add_zero] at hf12_0); have hx12_1 := hcc12 1 _ rfl; (try simp only [show (k37).sz = 5 from rfl, Nat.mul_one, Nat.add_zero] at hx12_1); have hf12_1 := hfr12 1; (try simp only [show (k37).sz = 5 from rfl, Nat.mul_one, Nat.add_zero] at hf12_1); have hx12_2 := hcc12 2 _ rfl; (try simp only [show (k37).sz = 5 from rfl, Nat.mul_one, Nat.add_zero] at hx12_2); have hf12_2 := hfr12 2; (try simp only [show (k37).sz = 5 from rfl, Nat.mul_one, Nat.add_zero] at hf12_2); have hx12_3 := hcc12 3 _ rfl; (try simp only [show (k37).sz = 5 from rfl, Nat.mul_one, Nat.add_zero] at hx12_3); have hf12_3 := hfr12 3; (try simp only [show (k37).sz = 5 from rfl, Nat.mul_one, Nat.add_zero] at hf12_3); have hx12_4 := hcc12 4 _ rfl; (try simp only [show (k37).sz = 5 from rfl, Nat.mul_one, Nat.add_zero] at hx12_4); have hf12_4 := hfr12 4; (try simp only [show (k37).sz = 5 from rfl, Nat.mul_one, Nat.add_zero] at hf12_4); clear hcl12 hcc12 hfr12 hM12) | ((with_reducible refine gate_store (t := 37) (p := 21) rfl ?_); refine store_event (t := 37) (p := 21) (v := ?vo_w13) (w1 := (((((w11.setCell ⟨go10, (x4_1 : Int).toNat * 5, none⟩ (.int .i64 t163)).setCell ⟨go10, (x4_1 : Int).toNat * 5 + 1, none⟩ (.int .i64 t164)).setCell ⟨go10, (x4_1 : Int).toNat * 5 + 2, none⟩ (.int .i64 t165)).setCell ⟨go10, (x4_1 : Int).toNat * 5 + 3, none⟩ (.int .i64 t166)).setCell ⟨go10, (x4_1 : Int).toNat * 5 + 4, none⟩ (.int .i64 t167))) ?hg ?ho ?hn ?hr ?_; (case ho => rfl); (case hg => rfl); (case hn => rfl); (case hr => first | (go_simp; done) | (go_simp; rfl)); intro w13 hw; have hg : w11.grownBy w13 (some go10) := (by rw [hw]; exact HP12.2); have hp_ : Kd.R k37 37 w13 w.heap.size (fun _ => True) (.slice (some ⟨go10, 0, none⟩) x3_1.length co10) y168 := (by rw [hw, Ny168.out]; exact HP12.1); clear HP12; replace HO_3 := Aside0.mk (hp_); replace HB := Aside0.mk ((by rw [hw]; exact below_set (below_set (below_set (below_set (below_set (HB.out) GB10.out) GB10.out) GB10.out) GB10.out) GB10.out : Below w.heap.size w w13)); clear hg hw hp_))
        go_roundg k1
        case measure => have := HK1.out; omega
        case rel => exact ⟨(y168), (wrap64 (x4_1 + 1)), (by first | rfl | (simp; done) | (simp [*]; done)), H', ⟨by have := HK1.out; omega⟩, ⟨by (with_reducible repeat (first | apply Kd.R_alloc | apply Kd.R_drewN | apply Kd.R_drew)); first | exact HO_3.out | (rw [Ny168.out]; exact (Kd.R_putg (Kd.R_drewN HO_3.out _) _ _).1) | (rw [Ny168.out]; exact (Kd.R_putg HO_3.out _ _).1)⟩, ⟨by repeat (first | (with_reducible first | exact HB.out | apply below_alloc | apply pw_below_drewN | apply below_drew1) | exact HB.out | (first | exact below_set (pw_below_drewN HB.out _) GB10.out | exact below_set HB.out GB10.out))⟩⟩
       ·
        rw [if_neg c9] at H
        exact absurd H (by simp)
      ·
       rw [if_neg c7] at H
       exact absurd H (by simp)
     ·
      rw [if_neg c6] at H
      have c6b0 : decide (x4_1 < (l0.length : Int)) = false := decide_eq_false c6
      clear c6
      obtain rfl := Option.some.inj H
      go_wp2
      go_ret
      exact ⟨_, rr_, kr_ HO_3.out, lb0_ HB.out⟩
  ·
   rw [if_neg c3] at H
   exact absurd H (by simp)
 ·
  rw [if_neg c2] at H
  exact absurd H (by simp)
def laws_toBoolS.l0 : Nat → List Bool → List Bool → Int → Option (List Bool)
 | 0, _, _, _ => none
 | k + 1, x0, x3, x4 => if x4 < (x0.length : Int) then (if 0 ≤ x4 then (if x4 < (x3.length : Int) then (laws_toBoolS.l0 k x0 (x3.set (x4 : Int).toNat (rdOf false x0 x4)) (wrap64 (x4 + 1))) else (none)) else (none)) else (some x3)
def laws_toBoolS.f (k : Nat) (l0 : List Bool) : Option (List Bool) := if 0 ≤ (l0.length : Int) then (if ((l0.length : Int) : Int).toNat ≤ 281474976710656 then (laws_toBoolS.l0 k l0 (List.replicate ((l0.length : Int) : Int).toNat false) 0) else (none)) else (none)
theorem laws_toBoolS.calls (k : Nat) (A0 : Option Addr) (c0 : Nat) (l0 : List Bool) (r : List Bool) (w : World) (hr0 : Kd.C Kd.bool w A0 l0.length l0) (hc0 : l0.length ≤ c0) (h : laws_toBoolS.f k l0 = some r) :
  Calls Try.prog 68 #[.slice A0 l0.length c0] w fun e w' => ∃ v0_ : Value, e = .returned (v0_) ∧ Kd.R Kd.bool 4 w' w.heap.size (fun _ => True) v0_ r ∧ Below w.heap.size w w' := by
 have HR0 := Aside0.mk hr0
 have HC0 := Aside0.mk hc0
 clear hr0 hc0
 have HB := Aside0.mk (Below.refl w.heap.size w)
 have H : (if 0 ≤ (l0.length : Int) then (if ((l0.length : Int) : Int).toNat ≤ 281474976710656 then (laws_toBoolS.l0 k l0 (List.replicate ((l0.length : Int) : Int).toNat false) 0) else (none)) else (none)) = some r := h
 clear h
 by_cases c2 : 0 ≤ (l0.length : Int)
 ·
  rw [if_pos c2] at H
  have c2b0 := eq_true c2
  have c2b1 : decide (0 ≤ (l0.length : Int)) = true := decide_eq_true c2
  clear c2
  by_cases c3 : ((l0.length : Int) : Int).toNat ≤ 281474976710656
  ·
   rw [if_pos c3] at H
   have c3b0 := eq_true c3
   have c3b1 : decide (((l0.length : Int) : Int).toNat ≤ 281474976710656) = true := decide_eq_true c3
   clear c3
   obtain ⟨y169, hy169⟩ : ∃ y_ : List Bool, y_ = (List.replicate ((l0.length : Int) : Int).toNat false) := ⟨_, rfl⟩
   replace H : (laws_toBoolS.l0 k l0 y169 0) = some r := by first | (rw [hy169]; with_reducible exact H) | (have H2_ := (Option.bind_some _ _).symm.trans H; rw [hy169]; with_reducible exact H2_) | (have H2_ := (Option.bind_some _ _).symm.trans H; with_reducible exact H2_) | with_reducible exact H | (rw [hy169]; exact H) | exact H
   have Ny169 := Aside0.mk hy169
   clear hy169
   have H' := Aside0.mk H
   clear H
   go_enter Try.func68, Try.ntmps68
   go_wp2_with (first | ((with_reducible refine gate_dst (N := 7) rfl ?_); refine Kd.R_make Kd.bool _ 4 rfl (N := 7) rfl 23 _ _ rfl (l0.length : Int) rfl rfl Try.underlying23 (.bool false) 1 info4 rfl (by decide) (by omega) false (ok := fun _ => True) (okp := fun _ => True) rfl (fun _ hk => hk) trivial (dt_) (Nat.le_trans (Nat.mul_le_mul_right _ (dt_ : (l0.length : Int).toNat ≤ 281474976710656)) (by omega)) (Below.refl _ _) (Nat.le_refl _) ?_; intro v170 w4 ho5 hb hg_ hnew_; clear hg_ hnew_; replace ho5 := ry_ Ny169.out ho5; have HO171 := Aside0.mk (Kd.R_lower ho5 (below_size (lb0_ HB.out))); replace HB := Aside0.mk (below_step (lb0_ HB.out) hb); clear hb ho5))
   go_loopg [4] k (fun kq v4 w' => ∃ (x3_1 : List Bool) (x4_1 : Int), v4 = .int .i64 x4_1 ∧ Aside0 (laws_toBoolS.l0 kq l0 x3_1 x4_1 = some r) ∧ Aside0 (kq ≤ k) ∧ Aside0 (Kd.R Kd.bool 4 w' w.heap.size (fun _ => True) v170 x3_1) ∧ Aside0 (Below w.heap.size w w'))
   case atStart => exact ⟨(y169), (0), (by first | rfl | (simp; done) | (simp [*]; done)), H', ⟨Nat.le_refl _⟩, ⟨kr_ HO171.out⟩, ⟨lb0_ HB.out⟩⟩
   case round =>
    clear H'
    try clear c2
    try clear c2b0
    try clear c2b1
    try clear p2
    try clear c3
    try clear c3b0
    try clear c3b1
    obtain ⟨x3_1, x4_1, rfl, HA, HK1, HO_3, HB⟩ := hrel
    cases gk with
    | zero => exact absurd HA.out (by simp [laws_toBoolS.l0])
    | succ k1 =>
     have H := HA.out
     clear HA
     simp only [laws_toBoolS.l0] at H
     by_cases c6 : x4_1 < (l0.length : Int)
     ·
      rw [if_pos c6] at H
      have c6b0 : decide (x4_1 < (l0.length : Int)) = true := decide_eq_true c6
      clear c6
      by_cases c7 : 0 ≤ x4_1
      ·
       rw [if_pos c7] at H
       have c7b0 : decide (0 ≤ x4_1) = true := decide_eq_true c7
       clear c7
       by_cases c8 : x4_1 < (x3_1.length : Int)
       ·
        rw [if_pos c8] at H
        have c8b0 : decide (x4_1 < (x3_1.length : Int)) = true := decide_eq_true c8; clear c8
        obtain ⟨y173, hy173⟩ : ∃ y_ : List Bool, y_ = (x3_1.set (x4_1 : Int).toNat (rdOf false l0 x4_1)) := ⟨_, rfl⟩
        replace H : (laws_toBoolS.l0 k1 l0 y173 (wrap64 (x4_1 + 1))) = some r := by first | (rw [hy173]; with_reducible exact H) | (have H2_ := (Option.bind_some _ _).symm.trans H; rw [hy173]; with_reducible exact H2_) | (have H2_ := (Option.bind_some _ _).symm.trans H; with_reducible exact H2_) | with_reducible exact H | (rw [hy173]; exact H) | exact H
        have Ny173 := Aside0.mk hy173; clear hy173; have H' := Aside0.mk H; clear H; have p172 : 0 ≤ (x4_1 : Int) := dt_; have q172 : x4_1 < (l0.length : Int) := dt_; obtain ⟨ad172, e172, hx172_0⟩ := Kd.at_bool HR0.out x4_1 p172 q172
        cases e172
        replace hx172_0 := bc_ HB.out hx172_0; replace p172 := eq_true p172; replace q172 := eq_true q172; have p9 : 0 ≤ (x4_1 : Int) := dt_; have q9 : (x4_1 : Int) < ((x3_1.length : Int) : Int) := dt_; obtain ⟨go9, co9, eo9, gb9, gl9, cl9, HG9⟩ := Kd.R_form HO_3.out (by omega)
        (first | cases eo9 | (injection eo9 with ea_ en_ ec_; (first | subst ea_ | (injection ea_ with ea_; subst ea_)); subst ec_; clear en_))
        have GB9 := Aside0.mk gb9; have GG9 := Aside0.mk HG9; clear gb9 gl9 HG9; obtain ⟨hx9_0, hf9_0⟩ := Kd.R_celln false HO_3.out (x4_1 : Int) p9 q9; replace p9 := eq_true p9; replace q9 := eq_true q9; have HP10 := Kd.R_putg HO_3.out (x4_1 : Int) (rdOf false l0 x4_1)
        go_wp2_with (first | ((with_reducible refine gate_store (t := 4) (p := 20) rfl ?_); refine store_event (t := 4) (p := 20) (v := ?vo_w11) (w1 := (wr.setCell ⟨go9, (x4_1 : Int).toNat, none⟩ (.bool (rdOf false l0 x4_1)))) ?hg ?ho ?hn ?hr ?_; (case ho => rfl); (case hg => rfl); (case hn => rfl); (case hr => first | (go_simp; done) | (go_simp; rfl)); intro w11 hw; have hg : wr.grownBy w11 (some go9) := (by rw [hw]; exact HP10.2); have hp_ : Kd.R Kd.bool 4 w11 w.heap.size (fun _ => True) (.slice (some ⟨go9, 0, none⟩) x3_1.length co9) y173 := (by rw [hw, Ny173.out]; exact HP10.1); clear HP10; replace HO_3 := Aside0.mk (hp_); replace HB := Aside0.mk ((by rw [hw]; exact below_set (HB.out) GB9.out : Below w.heap.size w w11)); clear hg hw hp_))
        go_roundg k1
        case measure => have := HK1.out; omega
        case rel => exact ⟨(y173), (wrap64 (x4_1 + 1)), (by first | rfl | (simp; done) | (simp [*]; done)), H', ⟨by have := HK1.out; omega⟩, ⟨by (with_reducible repeat (first | apply Kd.R_alloc | apply Kd.R_drewN | apply Kd.R_drew)); first | exact HO_3.out | (rw [Ny173.out]; exact (Kd.R_putg (Kd.R_drewN HO_3.out _) _ _).1) | (rw [Ny173.out]; exact (Kd.R_putg HO_3.out _ _).1)⟩, ⟨by repeat (first | (with_reducible first | exact HB.out | apply below_alloc | apply pw_below_drewN | apply below_drew1) | exact HB.out | (first | exact below_set (pw_below_drewN HB.out _) GB9.out | exact below_set HB.out GB9.out))⟩⟩
       ·
        rw [if_neg c8] at H
        exact absurd H (by simp)
      ·
       rw [if_neg c7] at H
       exact absurd H (by simp)
     ·
      rw [if_neg c6] at H
      have c6b0 : decide (x4_1 < (l0.length : Int)) = false := decide_eq_false c6
      clear c6
      obtain rfl := Option.some.inj H
      go_wp2
      go_ret
      exact ⟨_, rr_, kr_ HO_3.out, lb0_ HB.out⟩
  ·
   rw [if_neg c3] at H
   exact absurd H (by simp)
 ·
  rw [if_neg c2] at H
  exact absurd H (by simp)
end Go.Proofs.Ythmjimboajmhmaa.Pr

namespace Go.Proofs.Ythmjimboajmhmaa.Pr
open Go.RowKit Go.Proofs.YthmjimboajmhmaaW.PrintWords Go.Proofs.YthmjimboajmhmaaW.PrintLast Go.Proofs.YthmjimboajmhmaaW.PrintMore
set_option linter.unusedVariables false
set_option linter.unusedSimpArgs false
theorem kg_ {α : Type} {d : Kd α} {e base g t : Nat} {w w1 : World} {ok : Nat → Prop} {v : Value} {xs : List α} {cs : Array Value} (h : d.R e w base ok v xs) (B : w.heap[g]? = some (.cells cs t (0, 0))) (ht : ∀ q, q ∈ e :: d.E → q ≠ t := by decide) (hh : d.R e w base (fun k => ok k ∧ k ≠ g) v xs → d.R e w1 base (fun k => ok k ∧ k ≠ g) v xs := by intro h_; (repeat (with_reducible first | exact h_ | apply Kd.R_alloc | apply Kd.R_drewN | apply Kd.R_drew | refine Kd.R_far ?_ (fun _ hk => hk.2) _))) : d.R e w1 base ok v xs := Kd.R_mono (hh (Kd.R_types h B ht)) (fun _ h_ => h_.1)
end Go.Proofs.Ythmjimboajmhmaa.Pr

namespace Go.Proofs.Ythmjimboajmhmaa.Pr
open Go.RowKit Go.Proofs.YthmjimboajmhmaaW.PrintWords Go.Proofs.YthmjimboajmhmaaW.PrintLast Go.Proofs.YthmjimboajmhmaaW.PrintMore
attribute [local go_sem] max2_int min2_int max_two min_two max_three min_three max_four min_four   -- for this text's walks alone
set_option linter.unusedVariables false
set_option linter.unusedSimpArgs false
def laws_toExploration.f (k : Nat) (l0_0 : List (S65)) (l0_1 : List Bool) (l0_2 : List Bool) (a0_3 : Int) (a0_4 : Int) : Option ((List (S37)) × List Bool × List Bool × Int × Int) := (laws_toLegS.f k l0_0).bind fun t177 => ((laws_toBoolS.f k l0_1).bind fun t180 => ((laws_toBoolS.f k l0_2).bind fun t183 => (some (t177, t180, t183, a0_3, a0_4))))
theorem laws_toExploration.calls (k : Nat) (A0_0 : Option Addr) (c0_0 : Nat) (l0_0 : List (S65)) (A0_1 : Option Addr) (c0_1 : Nat) (l0_1 : List Bool) (A0_2 : Option Addr) (c0_2 : Nat) (l0_2 : List Bool) (a0_3 : Int) (a0_4 : Int) (r1 : List (S37)) (r2 : List Bool) (r3 : List Bool) (r4 : Int) (r5 : Int) (w : World) (hr0_0 : Kd.C k65 w A0_0 l0_0.length l0_0) (hc0_0 : l0_0.length ≤ c0_0) (hr0_1 : Kd.C Kd.bool w A0_1 l0_1.length l0_1) (hc0_1 : l0_1.length ≤ c0_1) (hr0_2 : Kd.C Kd.bool w A0_2 l0_2.length l0_2) (hc0_2 : l0_2.length ≤ c0_2) (h : laws_toExploration.f k l0_0 l0_1 l0_2 a0_3 a0_4 = some (r1, r2, r3, r4, r5)) :
  Calls Try.prog 17 #[.agg #[.slice A0_0 l0_0.length c0_0, .slice A0_1 l0_1.length c0_1, .slice A0_2 l0_2.length c0_2, .int .i64 a0_3, .int .i64 a0_4]] w fun e w' => ∃ v0_ v1_ v2_ : Value, e = .returned (.agg #[v0_, v1_, v2_, .int .i64 r4, .int .i64 r5]) ∧ Kd.R k37 37 w' w.heap.size (fun _ => True) v0_ r1 ∧ Kd.R Kd.bool 4 w' w.heap.size (fun k_ => some k_ ≠ (v2_ : Value).ownBlock) v1_ r2 ∧ Kd.R Kd.bool 4 w' w.heap.size (fun k_ => some k_ ≠ (v1_ : Value).ownBlock) v2_ r3 ∧ Below w.heap.size w w' := by
 have hu25 := Try.underlying25
 have hu30 := Try.underlying30
 have HR0_0 := Aside0.mk hr0_0
 have HC0_0 := Aside0.mk hc0_0
 clear hr0_0 hc0_0
 have HR0_1 := Aside0.mk hr0_1
 have HC0_1 := Aside0.mk hc0_1
 clear hr0_1 hc0_1
 have HR0_2 := Aside0.mk hr0_2
 have HC0_2 := Aside0.mk hc0_2
 clear hr0_2 hc0_2
 have HB := Aside0.mk (Below.refl w.heap.size w)
 have H : ((laws_toLegS.f k l0_0).bind fun t177 => ((laws_toBoolS.f k l0_1).bind fun t180 => ((laws_toBoolS.f k l0_2).bind fun t183 => (some (t177, t180, t183, a0_3, a0_4))))) = some (r1, r2, r3, r4, r5) := h
 clear h
 replace H := Option.bind_eq_some_iff.mp H
 obtain ⟨t177, A20, H⟩ := H
 replace H : ((laws_toBoolS.f k l0_1).bind fun t180 => ((laws_toBoolS.f k l0_2).bind fun t183 => (some (t177, t180, t183, a0_3, a0_4)))) = some (r1, r2, r3, r4, r5) := H
 have A2 := Aside0.mk A20
 clear A20
 replace H := Option.bind_eq_some_iff.mp H
 obtain ⟨t180, A30, H⟩ := H
 replace H : ((laws_toBoolS.f k l0_2).bind fun t183 => (some (t177, t180, t183, a0_3, a0_4))) = some (r1, r2, r3, r4, r5) := H
 have A3 := Aside0.mk A30
 clear A30
 replace H := Option.bind_eq_some_iff.mp H
 obtain ⟨t183, A40, H⟩ := H
 replace H : (some (t177, t180, t183, a0_3, a0_4)) = some (r1, r2, r3, r4, r5) := H
 have A4 := Aside0.mk A40
 clear A40
 simp only [Option.some.injEq, Prod.mk.injEq] at H
 obtain ⟨rfl, rfl, rfl, rfl, rfl⟩ := H
 go_enter Try.func17, Try.ntmps17
 go_wp2_with (first | ((with_reducible refine gate_dst (N := 1) rfl ?_); refine box_event ?hg (N := 1) ?hd (cs := #[.slice A0_0 l0_0.length c0_0, .slice A0_1 l0_1.length c0_1, .slice A0_2 l0_2.length c0_2, .int .i64 a0_3, .int .i64 a0_4]) (t := 25) ?hr ?_; (case hd => rfl); (case hg => rfl); (case hr => first | (go_simp; done) | (go_simp; rfl)); intro gb174 hg w5 hbox hb; have BK174 := Aside0.mk (hbox); have GW174 := Aside0.mk ((bz_ hg (lb0_ HB.out))); have GE174 := Aside0.mk ((bz_ hg (lb0_ HB.out))); replace HB := Aside0.mk (below_step (lb0_ HB.out) hb); clear hb hbox hg) | ((with_reducible refine gate_dst (N := 2) rfl ?_); refine box_event ?hg (N := 2) ?hd (cs := #[.slice none 0 0, .slice none 0 0, .slice none 0 0, .int .i64 0, .int .i64 0]) (t := 30) ?hr ?_; (case hd => rfl); (case hg => rfl); (case hr => first | (go_simp; done) | (go_simp; rfl)); intro gb175 hg w6 hbox hb; have BK175 := Aside0.mk (hbox); have GW175 := Aside0.mk ((bz_ hg (lb1_ HB.out GE174.out))); have GE175 := Aside0.mk ((bz_ hg (lb1_ HB.out GE174.out))); replace HB := Aside0.mk (below_step (lb1_ HB.out GE174.out) hb); have NB174_175 := Aside0.mk (nl_ hg BK174.out); have NB175_174 := Aside0.mk (ng_ hg BK174.out); replace BK174 := Aside0.mk (bb_ (bk_ BK174.out) hb); clear hb hbox hg) | ((with_reducible refine gate_dst (N := 3) rfl ?_); refine box_event ?hg (N := 3) ?hd (cs := #[.slice none 0 0, .slice none 0 0, .slice none 0 0, .int .i64 0, .int .i64 0]) (t := 30) ?hr ?_; (case hd => rfl); (case hg => rfl); (case hr => first | (go_simp; done) | (go_simp; rfl)); intro gb176 hg w7 hbox hb; have BK176 := Aside0.mk (hbox); have GW176 := Aside0.mk ((bz_ hg (lb2_ HB.out GE174.out GE175.out))); have GE176 := Aside0.mk ((bz_ hg (lb2_ HB.out GE174.out GE175.out))); replace HB := Aside0.mk (below_step (lb2_ HB.out GE174.out GE175.out) hb); have NB174_176 := Aside0.mk (nl_ hg BK174.out); have NB176_174 := Aside0.mk (ng_ hg BK174.out); replace BK174 := Aside0.mk (bb_ (bk_ BK174.out) hb); have NB175_176 := Aside0.mk (nl_ hg BK175.out); have NB176_175 := Aside0.mk (ng_ hg BK175.out); replace BK175 := Aside0.mk (bb_ (bk_ BK175.out) hb); clear hb hbox hg; have hnb8 := NB174_175.out; have hnc8 := NB175_174.out; have hnb9 := NB174_176.out; have hnc9 := NB176_174.out; obtain ⟨hcz10_0, hcz10_1, hcz10_2, hcz10_3, hcz10_4⟩ := cz5_ BK174.out; obtain ⟨hfz10_0, hfz10_1, hfz10_2, hfz10_3, hfz10_4⟩ := fz5_ BK174.out) | ((with_reducible refine gate_callee (f := 38) rfl ?_); refine ga_ (some 6) Try.func38 #[.slice A0_0 l0_0.length c0_0] ?_; (with_reducible refine (laws_toLegS.calls k _ _ l0_0 t177 _ ?side1 ?side2 A2.out).mono ?_); (case side1 => exact kc_ (Kd.C_below HR0_0.out HB.out)); (case side2 => exact HC0_0.out); rintro e w11 ⟨v178, rfl, ho0, hb⟩; refine ⟨_, rfl, ?_⟩; have HO179 := Aside0.mk (Kd.R_lower ho0 (below_size (lb3_ HB.out GE174.out GE175.out GE176.out))); replace BK174 := Aside0.mk (bb_ (bk_ BK174.out) hb); replace BK175 := Aside0.mk (bb_ (bk_ BK175.out) hb); replace BK176 := Aside0.mk (bb_ (bk_ BK176.out) hb); replace HB := Aside0.mk (below_step (lb3_ HB.out GE174.out GE175.out GE176.out) hb); (try clear hb); (try clear hb2); (try clear hk); (try clear hi); (try clear ho0); obtain ⟨Ao12, co12, eo12⟩ := Kd.R_slice HO179.out; subst eo12; have hnb13 := NB176_175.out; have hnc13 := NB175_176.out; obtain ⟨hcz14_0, hcz14_1, hcz14_2, hcz14_3, hcz14_4⟩ := cz5_ BK176.out; obtain ⟨hfz14_0, hfz14_1, hfz14_2, hfz14_3, hfz14_4⟩ := fz5_ BK176.out; obtain ⟨hcz15_0, hcz15_1, hcz15_2, hcz15_3, hcz15_4⟩ := cz5_ BK174.out; obtain ⟨hfz15_0, hfz15_1, hfz15_2, hfz15_3, hfz15_4⟩ := fz5_ BK174.out) | ((with_reducible refine gate_callee (f := 68) rfl ?_); refine ga_ (some 10) Try.func68 #[.slice A0_1 l0_1.length c0_1] ?_; (with_reducible refine (laws_toBoolS.calls k _ _ l0_1 t180 _ ?side1 ?side2 A3.out).mono ?_); (case side1 => exact Kd.C_below HR0_1.out (lb3_ HB.out GE174.out GE175.out GE176.out)); (case side2 => exact HC0_1.out); rintro e w16 ⟨v181, rfl, ho0, hb⟩; refine ⟨_, rfl, ?_⟩; replace HO179 := Aside0.mk (Kd.R_below (kg_ HO179.out BK176.out) hb); have HO182 := Aside0.mk (Kd.R_lower ho0 (below_size (lb3_ HB.out GE174.out GE175.out GE176.out))); replace BK174 := Aside0.mk (blk_below (g := gb174) (o := .cells #[.slice A0_0 l0_0.length c0_0, .slice A0_1 l0_1.length c0_1, .slice A0_2 l0_2.length c0_2, .int .i64 a0_3, .int .i64 a0_4] 25 (0, 0)) (by (with_reducible repeat (first | refine blk_drewN ?_ _ | refine blk_drew ?_ | refine blk_alloc ?_ _)); exact (blk_far BK174.out NB174_176.out _)) hb); replace BK175 := Aside0.mk (blk_below (g := gb175) (o := .cells #[.slice none 0 0, .slice none 0 0, .slice none 0 0, .int .i64 0, .int .i64 0] 30 (0, 0)) (by (with_reducible repeat (first | refine blk_drewN ?_ _ | refine blk_drew ?_ | refine blk_alloc ?_ _)); exact (blk_far BK175.out NB175_176.out _)) hb); replace BK176 := Aside0.mk (blk_below (g := gb176) (o := .cells #[.slice Ao12 t177.length co12, .slice none 0 0, .slice none 0 0, .int .i64 0, .int .i64 0] 30 (0, 0)) (by (with_reducible repeat (first | refine blk_drewN ?_ _ | refine blk_drew ?_ | refine blk_alloc ?_ _)); refine blk_put (cs := #[.slice none 0 0, .slice none 0 0, .slice none 0 0, .int .i64 0, .int .i64 0]) ?_ 0 _ rfl; (with_reducible repeat (first | refine blk_drewN ?_ _ | refine blk_drew ?_ | refine blk_alloc ?_ _)); exact BK176.out) hb); replace HB := Aside0.mk (below_step (lb3_ HB.out GE174.out GE175.out GE176.out) hb); (try clear hb); (try clear hb2); (try clear hk); (try clear hi); (try clear ho0); obtain ⟨Ao17, co17, eo17⟩ := Kd.R_slice HO182.out; subst eo17; obtain ⟨hcz18_0, hcz18_1, hcz18_2, hcz18_3, hcz18_4⟩ := cz5_ BK176.out; obtain ⟨hfz18_0, hfz18_1, hfz18_2, hfz18_3, hfz18_4⟩ := fz5_ BK176.out; obtain ⟨hcz19_0, hcz19_1, hcz19_2, hcz19_3, hcz19_4⟩ := cz5_ BK174.out; obtain ⟨hfz19_0, hfz19_1, hfz19_2, hfz19_3, hfz19_4⟩ := fz5_ BK174.out) | ((with_reducible refine gate_callee (f := 68) rfl ?_); refine ga_ (some 14) Try.func68 #[.slice A0_2 l0_2.length c0_2] ?_; (with_reducible refine (laws_toBoolS.calls k _ _ l0_2 t183 _ ?side1 ?side2 A4.out).mono ?_); (case side1 => exact Kd.C_below HR0_2.out (lb3_ HB.out GE174.out GE175.out GE176.out)); (case side2 => exact HC0_2.out); rintro e w20 ⟨v184, rfl, ho0, hb⟩; refine ⟨_, rfl, ?_⟩; replace HO179 := Aside0.mk (Kd.R_below (kg_ HO179.out BK176.out) hb); have HO185 := Aside0.mk (Kd.R_lower (Kd.R_new' ho0 (Kd.R_lt (kg_ HO182.out BK176.out))) (below_size (lb3_ HB.out GE174.out GE175.out GE176.out))); replace HO182 := Aside0.mk (Kd.R_elder' (kg_ HO182.out BK176.out) (Kd.R_base ho0) hb); replace BK174 := Aside0.mk (blk_below (g := gb174) (o := .cells #[.slice A0_0 l0_0.length c0_0, .slice A0_1 l0_1.length c0_1, .slice A0_2 l0_2.length c0_2, .int .i64 a0_3, .int .i64 a0_4] 25 (0, 0)) (by (with_reducible repeat (first | refine blk_drewN ?_ _ | refine blk_drew ?_ | refine blk_alloc ?_ _)); exact (blk_far BK174.out NB174_176.out _)) hb); replace BK175 := Aside0.mk (blk_below (g := gb175) (o := .cells #[.slice none 0 0, .slice none 0 0, .slice none 0 0, .int .i64 0, .int .i64 0] 30 (0, 0)) (by (with_reducible repeat (first | refine blk_drewN ?_ _ | refine blk_drew ?_ | refine blk_alloc ?_ _)); exact (blk_far BK175.out NB175_176.out _)) hb); replace BK176 := Aside0.mk (blk_below (g := gb176) (o := .cells #[.slice Ao12 t177.length co12, .slice Ao17 t180.length co17, .slice none 0 0, .int .i64 0, .int .i64 0] 30 (0, 0)) (by (with_reducible repeat (first | refine blk_drewN ?_ _ | refine blk_drew ?_ | refine blk_alloc ?_ _)); refine blk_put (cs := #[.slice Ao12 t177.length co12, .slice none 0 0, .slice none 0 0, .int .i64 0, .int .i64 0]) ?_ 1 _ rfl; (with_reducible repeat (first | refine blk_drewN ?_ _ | refine blk_drew ?_ | refine blk_alloc ?_ _)); exact BK176.out) hb); replace HB := Aside0.mk (below_step (lb3_ HB.out GE174.out GE175.out GE176.out) hb); (try clear hb); (try clear hb2); (try clear hk); (try clear hi); (try clear ho0); obtain ⟨Ao21, co21, eo21⟩ := Kd.R_slice HO185.out; subst eo21; obtain ⟨hcz22_0, hcz22_1, hcz22_2, hcz22_3, hcz22_4⟩ := cz5_ BK176.out; obtain ⟨hfz22_0, hfz22_1, hfz22_2, hfz22_3, hfz22_4⟩ := fz5_ BK176.out; obtain ⟨hcz23_0, hcz23_1, hcz23_2, hcz23_3, hcz23_4⟩ := cz5_ BK174.out; obtain ⟨hfz23_0, hfz23_1, hfz23_2, hfz23_3, hfz23_4⟩ := fz5_ BK174.out; obtain ⟨hcz24_0, hcz24_1, hcz24_2, hcz24_3, hcz24_4⟩ := cz5_ BK175.out; obtain ⟨hfz24_0, hfz24_1, hfz24_2, hfz24_3, hfz24_4⟩ := fz5_ BK175.out))
 refine bodyPost_ret (results_cell_row rfl _ _ gb175 30 #[.slice Ao12 t177.length co12, .slice Ao17 t180.length co17, .slice Ao21 t183.length co21, .int .i64 a0_3, .int .i64 a0_4] (0, 0) _ rfl (by (with_reducible repeat (first | refine blk_drewN ?_ _ | refine blk_drew ?_ | refine blk_alloc ?_ _)); refine blk_put (cs := #[.slice Ao12 t177.length co12, .slice Ao17 t180.length co17, .slice Ao21 t183.length co21, .int .i64 a0_3, .int .i64 0]) ?_ 4 _ rfl; (with_reducible repeat (first | refine blk_drewN ?_ _ | refine blk_drew ?_ | refine blk_alloc ?_ _)); refine blk_put (cs := #[.slice Ao12 t177.length co12, .slice Ao17 t180.length co17, .slice Ao21 t183.length co21, .int .i64 0, .int .i64 0]) ?_ 3 _ rfl; (with_reducible repeat (first | refine blk_drewN ?_ _ | refine blk_drew ?_ | refine blk_alloc ?_ _)); refine blk_put (cs := #[.slice Ao12 t177.length co12, .slice Ao17 t180.length co17, .slice none 0 0, .int .i64 0, .int .i64 0]) ?_ 2 _ rfl; (with_reducible repeat (first | refine blk_drewN ?_ _ | refine blk_drew ?_ | refine blk_alloc ?_ _)); refine blk_put (cs := #[.slice Ao12 t177.length co12, .slice none 0 0, .slice none 0 0, .int .i64 0, .int .i64 0]) ?_ 1 _ rfl; (with_reducible repeat (first | refine blk_drewN ?_ _ | refine blk_drew ?_ | refine blk_alloc ?_ _)); refine blk_put (cs := #[.slice none 0 0, .slice none 0 0, .slice none 0 0, .int .i64 0, .int .i64 0]) ?_ 0 _ rfl; (with_reducible repeat (first | refine blk_drewN ?_ _ | refine blk_drew ?_ | refine blk_alloc ?_ _)); refine blk_far ?_ NB175_176.out _; (with_reducible repeat (first | refine blk_drewN ?_ _ | refine blk_drew ?_ | refine blk_alloc ?_ _)); refine blk_far ?_ NB175_176.out _; (with_reducible repeat (first | refine blk_drewN ?_ _ | refine blk_drew ?_ | refine blk_alloc ?_ _)); refine blk_far ?_ NB175_176.out _; (with_reducible repeat (first | refine blk_drewN ?_ _ | refine blk_drew ?_ | refine blk_alloc ?_ _)); exact BK175.out) Try.underlying30 rfl (by kernel_rfl)) rfl ?_
 exact ⟨_, _, _, rr_, by (with_reducible repeat (first | apply Kd.R_alloc | apply Kd.R_drewN | apply Kd.R_drew)); exact Kd.R_mono (Kd.R_far (p := ⟨gb175, 4, none⟩) (Kd.R_far (p := ⟨gb175, 3, none⟩) (Kd.R_far (p := ⟨gb175, 2, none⟩) (Kd.R_far (p := ⟨gb175, 1, none⟩) (Kd.R_far (p := ⟨gb175, 0, none⟩) (Kd.R_far (p := ⟨gb176, 4, none⟩) (Kd.R_far (p := ⟨gb176, 3, none⟩) (Kd.R_far (p := ⟨gb176, 2, none⟩) (Kd.R_types (Kd.R_types HO179.out BK176.out (by decide)) BK175.out (by decide)) (fun _ hk => hk.1.2) (.slice Ao21 t183.length co21)) (fun _ hk => hk.1.2) (.int .i64 a0_3)) (fun _ hk => hk.1.2) (.int .i64 a0_4)) (fun _ hk => hk.2) (.slice Ao12 t177.length co12)) (fun _ hk => hk.2) (.slice Ao17 t180.length co17)) (fun _ hk => hk.2) (.slice Ao21 t183.length co21)) (fun _ hk => hk.2) (.int .i64 a0_3)) (fun _ hk => hk.2) (.int .i64 a0_4)) (fun _ hk => trivial), by (with_reducible repeat (first | apply Kd.R_alloc | apply Kd.R_drewN | apply Kd.R_drew)); exact Kd.R_mono (Kd.R_far (p := ⟨gb175, 4, none⟩) (Kd.R_far (p := ⟨gb175, 3, none⟩) (Kd.R_far (p := ⟨gb175, 2, none⟩) (Kd.R_far (p := ⟨gb175, 1, none⟩) (Kd.R_far (p := ⟨gb175, 0, none⟩) (Kd.R_far (p := ⟨gb176, 4, none⟩) (Kd.R_far (p := ⟨gb176, 3, none⟩) (Kd.R_far (p := ⟨gb176, 2, none⟩) (Kd.R_types (Kd.R_types HO182.out BK176.out (by decide)) BK175.out (by decide)) (fun _ hk => hk.1.2) (.slice Ao21 t183.length co21)) (fun _ hk => hk.1.2) (.int .i64 a0_3)) (fun _ hk => hk.1.2) (.int .i64 a0_4)) (fun _ hk => hk.2) (.slice Ao12 t177.length co12)) (fun _ hk => hk.2) (.slice Ao17 t180.length co17)) (fun _ hk => hk.2) (.slice Ao21 t183.length co21)) (fun _ hk => hk.2) (.int .i64 a0_3)) (fun _ hk => hk.2) (.int .i64 a0_4)) (fun _ hk => hk.1.1.2), by (with_reducible repeat (first | apply Kd.R_alloc | apply Kd.R_drewN | apply Kd.R_drew)); exact Kd.R_mono (Kd.R_far (p := ⟨gb175, 4, none⟩) (Kd.R_far (p := ⟨gb175, 3, none⟩) (Kd.R_far (p := ⟨gb175, 2, none⟩) (Kd.R_far (p := ⟨gb175, 1, none⟩) (Kd.R_far (p := ⟨gb175, 0, none⟩) (Kd.R_far (p := ⟨gb176, 4, none⟩) (Kd.R_far (p := ⟨gb176, 3, none⟩) (Kd.R_far (p := ⟨gb176, 2, none⟩) (Kd.R_types (Kd.R_types HO185.out BK176.out (by decide)) BK175.out (by decide)) (fun _ hk => hk.1.2) (.slice Ao21 t183.length co21)) (fun _ hk => hk.1.2) (.int .i64 a0_3)) (fun _ hk => hk.1.2) (.int .i64 a0_4)) (fun _ hk => hk.2) (.slice Ao12 t177.length co12)) (fun _ hk => hk.2) (.slice Ao17 t180.length co17)) (fun _ hk => hk.2) (.slice Ao21 t183.length co21)) (fun _ hk => hk.2) (.int .i64 a0_3)) (fun _ hk => hk.2) (.int .i64 a0_4)) (fun _ hk => hk.1.1.2), lb3_ HB.out GE174.out GE175.out GE176.out⟩
def laws_eqLeg.f (a0_0 : Int) (a0_1 : Int) (a0_2 : Int) (a0_3 : Int) (a0_4 : Int) (a1_0 : Int) (a1_1 : Int) (a1_2 : Int) (a1_3 : Int) (a1_4 : Int) : Option (Bool) := if a0_0 = a1_0 then (if a0_1 = a1_1 then (if a0_2 = a1_2 then (if a0_3 = a1_3 then (if a0_4 = a1_4 then (some true) else (some false)) else (some false)) else (some false)) else (some false)) else (some false)
theorem laws_eqLeg.calls (a0_0 : Int) (a0_1 : Int) (a0_2 : Int) (a0_3 : Int) (a0_4 : Int) (a1_0 : Int) (a1_1 : Int) (a1_2 : Int) (a1_3 : Int) (a1_4 : Int) (r : Bool) (w : World) (h : laws_eqLeg.f a0_0 a0_1 a0_2 a0_3 a0_4 a1_0 a1_1 a1_2 a1_3 a1_4 = some r) :
  Calls Try.prog 90 #[.agg #[.int .i64 a0_0, .int .i64 a0_1, .int .i64 a0_2, .int .i64 a0_3, .int .i64 a0_4], .agg #[.int .i64 a1_0, .int .i64 a1_1, .int .i64 a1_2, .int .i64 a1_3, .int .i64 a1_4]] w fun e w' => e = .returned (.bool r) ∧ Below w.heap.size w w' := by
 have hu37 := Try.underlying37
 have HB := Aside0.mk (Below.refl w.heap.size w)
 have H : (if a0_0 = a1_0 then (if a0_1 = a1_1 then (if a0_2 = a1_2 then (if a0_3 = a1_3 then (if a0_4 = a1_4 then (some true) else (some false)) else (some false)) else (some false)) else (some false)) else (some false)) = some r := h
 clear h
 by_cases c3 : a0_0 = a1_0
 ·
  rw [if_pos c3] at H
  have c3b0 : (a0_0 == a1_0) = true := beq_iff_eq.mpr c3
  have c3b1 : (a0_0 != a1_0) = false := bne_eq_false_iff_eq.mpr c3
  clear c3
  by_cases c4 : a0_1 = a1_1
  ·
   rw [if_pos c4] at H
   have c4b0 : (a0_1 == a1_1) = true := beq_iff_eq.mpr c4
   have c4b1 : (a0_1 != a1_1) = false := bne_eq_false_iff_eq.mpr c4
   clear c4
   by_cases c5 : a0_2 = a1_2
   ·
    rw [if_pos c5] at H
    have c5b0 : (a0_2 == a1_2) = true := beq_iff_eq.mpr c5
    have c5b1 : (a0_2 != a1_2) = false := bne_eq_false_iff_eq.mpr c5
    clear c5
    by_cases c6 : a0_3 = a1_3
    ·
     rw [if_pos c6] at H
     have c6b0 : (a0_3 == a1_3) = true := beq_iff_eq.mpr c6
     have c6b1 : (a0_3 != a1_3) = false := bne_eq_false_iff_eq.mpr c6
     clear c6
     by_cases c7 : a0_4 = a1_4
     ·
      rw [if_pos c7] at H
      have c7b0 : (a0_4 == a1_4) = true := beq_iff_eq.mpr c7
      have c7b1 : (a0_4 != a1_4) = false := bne_eq_false_iff_eq.mpr c7
      clear c7
      obtain rfl := Option.some.inj H
      go_enter Try.func90, Try.ntmps90
      go_wp2_with (first | ((with_reducible refine gate_dst (N := 2) rfl ?_); refine box_event ?hg (N := 2) ?hd (cs := #[.int .i64 a0_0, .int .i64 a0_1, .int .i64 a0_2, .int .i64 a0_3, .int .i64 a0_4]) (t := 37) ?hr ?_; (case hd => rfl); (case hg => rfl); (case hr => first | (go_simp; done) | (go_simp; rfl)); intro gb227 hg w8 hbox hb; have BK227 := Aside0.mk (hbox); have GW227 := Aside0.mk ((bz_ hg (lb0_ HB.out))); have GE227 := Aside0.mk ((bz_ hg (lb0_ HB.out))); replace HB := Aside0.mk (below_step (lb0_ HB.out) hb); clear hb hbox hg) | ((with_reducible refine gate_dst (N := 3) rfl ?_); refine box_event ?hg (N := 3) ?hd (cs := #[.int .i64 a1_0, .int .i64 a1_1, .int .i64 a1_2, .int .i64 a1_3, .int .i64 a1_4]) (t := 37) ?hr ?_; (case hd => rfl); (case hg => rfl); (case hr => first | (go_simp; done) | (go_simp; rfl)); intro gb228 hg w9 hbox hb; have BK228 := Aside0.mk (hbox); have GW228 := Aside0.mk ((bz_ hg (lb1_ HB.out GE227.out))); have GE228 := Aside0.mk ((bz_ hg (lb1_ HB.out GE227.out))); replace HB := Aside0.mk (below_step (lb1_ HB.out GE227.out) hb); have NB227_228 := Aside0.mk (nl_ hg BK227.out); have NB228_227 := Aside0.mk (ng_ hg BK227.out); replace BK227 := Aside0.mk (bb_ (bk_ BK227.out) hb); clear hb hbox hg; have hnb10 := NB227_228.out; have hnc10 := NB228_227.out; obtain ⟨hcz11_0, hcz11_1, hcz11_2, hcz11_3, hcz11_4⟩ := cz5_ BK227.out; obtain ⟨hfz11_0, hfz11_1, hfz11_2, hfz11_3, hfz11_4⟩ := fz5_ BK227.out; obtain ⟨hcz12_0, hcz12_1, hcz12_2, hcz12_3, hcz12_4⟩ := cz5_ BK228.out; obtain ⟨hfz12_0, hfz12_1, hfz12_2, hfz12_3, hfz12_4⟩ := fz5_ BK228.out))
      go_ret
      exact ⟨rr_, lb2_ HB.out GE227.out GE228.out⟩
     ·
      rw [if_neg c7] at H
      have c7b0 : (a0_4 == a1_4) = false := beq_eq_false_iff_ne.mpr c7
      have c7b1 : (a0_4 != a1_4) = true := bne_iff_ne.mpr c7
      obtain rfl := Option.some.inj H
      go_enter Try.func90, Try.ntmps90
      go_wp2_with (first | ((with_reducible refine gate_dst (N := 2) rfl ?_); refine box_event ?hg (N := 2) ?hd (cs := #[.int .i64 a0_0, .int .i64 a0_1, .int .i64 a0_2, .int .i64 a0_3, .int .i64 a0_4]) (t := 37) ?hr ?_; (case hd => rfl); (case hg => rfl); (case hr => first | (go_simp; done) | (go_simp; rfl)); intro gb227 hg w13 hbox hb; have BK227 := Aside0.mk (hbox); have GW227 := Aside0.mk ((bz_ hg (lb0_ HB.out))); have GE227 := Aside0.mk ((bz_ hg (lb0_ HB.out))); replace HB := Aside0.mk (below_step (lb0_ HB.out) hb); clear hb hbox hg) | ((with_reducible refine gate_dst (N := 3) rfl ?_); refine box_event ?hg (N := 3) ?hd (cs := #[.int .i64 a1_0, .int .i64 a1_1, .int .i64 a1_2, .int .i64 a1_3, .int .i64 a1_4]) (t := 37) ?hr ?_; (case hd => rfl); (case hg => rfl); (case hr => first | (go_simp; done) | (go_simp; rfl)); intro gb228 hg w14 hbox hb; have BK228 := Aside0.mk (hbox); have GW228 := Aside0.mk ((bz_ hg (lb1_ HB.out GE227.out))); have GE228 := Aside0.mk ((bz_ hg (lb1_ HB.out GE227.out))); replace HB := Aside0.mk (below_step (lb1_ HB.out GE227.out) hb); have NB227_228 := Aside0.mk (nl_ hg BK227.out); have NB228_227 := Aside0.mk (ng_ hg BK227.out); replace BK227 := Aside0.mk (bb_ (bk_ BK227.out) hb); clear hb hbox hg; have hnb15 := NB227_228.out; have hnc15 := NB228_227.out; obtain ⟨hcz16_0, hcz16_1, hcz16_2, hcz16_3, hcz16_4⟩ := cz5_ BK227.out; obtain ⟨hfz16_0, hfz16_1, hfz16_2, hfz16_3, hfz16_4⟩ := fz5_ BK227.out; obtain ⟨hcz17_0, hcz17_1, hcz17_2, hcz17_3, hcz17_4⟩ := cz5_ BK228.out; obtain ⟨hfz17_0, hfz17_1, hfz17_2, hfz17_3, hfz17_4⟩ := fz5_ BK228.out))
      go_ret
      exact ⟨rr_, lb2_ HB.out GE227.out GE228.out⟩
    ·
     rw [if_neg c6] at H
     have c6b0 : (a0_3 == a1_3) = false := beq_eq_false_iff_ne.mpr c6
     have c6b1 : (a0_3 != a1_3) = true := bne_iff_ne.mpr c6
     obtain rfl := Option.some.inj H
     go_enter Try.func90, Try.ntmps90
     go_wp2_with (first | ((with_reducible refine gate_dst (N := 2) rfl ?_); refine box_event ?hg (N := 2) ?hd (cs := #[.int .i64 a0_0, .int .i64 a0_1, .int .i64 a0_2, .int .i64 a0_3, .int .i64 a0_4]) (t := 37) ?hr ?_; (case hd => rfl); (case hg => rfl); (case hr => first | (go_simp; done) | (go_simp; rfl)); intro gb227 hg w18 hbox hb; have BK227 := Aside0.mk (hbox); have GW227 := Aside0.mk ((bz_ hg (lb0_ HB.out))); have GE227 := Aside0.mk ((bz_ hg (lb0_ HB.out))); replace HB := Aside0.mk (below_step (lb0_ HB.out) hb); clear hb hbox hg) | ((with_reducible refine gate_dst (N := 3) rfl ?_); refine box_event ?hg (N := 3) ?hd (cs := #[.int .i64 a1_0, .int .i64 a1_1, .int .i64 a1_2, .int .i64 a1_3, .int .i64 a1_4]) (t := 37) ?hr ?_; (case hd => rfl); (case hg => rfl); (case hr => first | (go_simp; done) | (go_simp; rfl)); intro gb228 hg w19 hbox hb; have BK228 := Aside0.mk (hbox); have GW228 := Aside0.mk ((bz_ hg (lb1_ HB.out GE227.out))); have GE228 := Aside0.mk ((bz_ hg (lb1_ HB.out GE227.out))); replace HB := Aside0.mk (below_step (lb1_ HB.out GE227.out) hb); have NB227_228 := Aside0.mk (nl_ hg BK227.out); have NB228_227 := Aside0.mk (ng_ hg BK227.out); replace BK227 := Aside0.mk (bb_ (bk_ BK227.out) hb); clear hb hbox hg; have hnb20 := NB227_228.out; have hnc20 := NB228_227.out; obtain ⟨hcz21_0, hcz21_1, hcz21_2, hcz21_3, hcz21_4⟩ := cz5_ BK227.out; obtain ⟨hfz21_0, hfz21_1, hfz21_2, hfz21_3, hfz21_4⟩ := fz5_ BK227.out; obtain ⟨hcz22_0, hcz22_1, hcz22_2, hcz22_3, hcz22_4⟩ := cz5_ BK228.out; obtain ⟨hfz22_0, hfz22_1, hfz22_2, hfz22_3, hfz22_4⟩ := fz5_ BK228.out))
     go_ret
     exact ⟨rr_, lb2_ HB.out GE227.out GE228.out⟩
   ·
    rw [if_neg c5] at H
    have c5b0 : (a0_2 == a1_2) = false := beq_eq_false_iff_ne.mpr c5
    have c5b1 : (a0_2 != a1_2) = true := bne_iff_ne.mpr c5
    obtain rfl := Option.some.inj H
    go_enter Try.func90, Try.ntmps90
    go_wp2_with (first | ((with_reducible refine gate_dst (N := 2) rfl ?_); refine box_event ?hg (N := 2) ?hd (cs := #[.int .i64 a0_0, .int .i64 a0_1, .int .i64 a0_2, .int .i64 a0_3, .int .i64 a0_4]) (t := 37) ?hr ?_; (case hd => rfl); (case hg => rfl); (case hr => first | (go_simp; done) | (go_simp; rfl)); intro gb227 hg w23 hbox hb; have BK227 := Aside0.mk (hbox); have GW227 := Aside0.mk ((bz_ hg (lb0_ HB.out))); have GE227 := Aside0.mk ((bz_ hg (lb0_ HB.out))); replace HB := Aside0.mk (below_step (lb0_ HB.out) hb); clear hb hbox hg) | ((with_reducible refine gate_dst (N := 3) rfl ?_); refine box_event ?hg (N := 3) ?hd (cs := #[.int .i64 a1_0, .int .i64 a1_1, .int .i64 a1_2, .int .i64 a1_3, .int .i64 a1_4]) (t := 37) ?hr ?_; (case hd => rfl); (case hg => rfl); (case hr => first | (go_simp; done) | (go_simp; rfl)); intro gb228 hg w24 hbox hb; have BK228 := Aside0.mk (hbox); have GW228 := Aside0.mk ((bz_ hg (lb1_ HB.out GE227.out))); have GE228 := Aside0.mk ((bz_ hg (lb1_ HB.out GE227.out))); replace HB := Aside0.mk (below_step (lb1_ HB.out GE227.out) hb); have NB227_228 := Aside0.mk (nl_ hg BK227.out); have NB228_227 := Aside0.mk (ng_ hg BK227.out); replace BK227 := Aside0.mk (bb_ (bk_ BK227.out) hb); clear hb hbox hg; have hnb25 := NB227_228.out; have hnc25 := NB228_227.out; obtain ⟨hcz26_0, hcz26_1, hcz26_2, hcz26_3, hcz26_4⟩ := cz5_ BK227.out; obtain ⟨hfz26_0, hfz26_1, hfz26_2, hfz26_3, hfz26_4⟩ := fz5_ BK227.out; obtain ⟨hcz27_0, hcz27_1, hcz27_2, hcz27_3, hcz27_4⟩ := cz5_ BK228.out; obtain ⟨hfz27_0, hfz27_1, hfz27_2, hfz27_3, hfz27_4⟩ := fz5_ BK228.out))
    go_ret
    exact ⟨rr_, lb2_ HB.out GE227.out GE228.out⟩
  ·
   rw [if_neg c4] at H
   have c4b0 : (a0_1 == a1_1) = false := beq_eq_false_iff_ne.mpr c4
   have c4b1 : (a0_1 != a1_1) = true := bne_iff_ne.mpr c4
   obtain rfl := Option.some.inj H
   go_enter Try.func90, Try.ntmps90
   go_wp2_with (first | ((with_reducible refine gate_dst (N := 2) rfl ?_); refine box_event ?hg (N := 2) ?hd (cs := #[.int .i64 a0_0, .int .i64 a0_1, .int .i64 a0_2, .int .i64 a0_3, .int .i64 a0_4]) (t := 37) ?hr ?_; (case hd => rfl); (case hg => rfl); (case hr => first | (go_simp; done) | (go_simp; rfl)); intro gb227 hg w28 hbox hb; have BK227 := Aside0.mk (hbox); have GW227 := Aside0.mk ((bz_ hg (lb0_ HB.out))); have GE227 := Aside0.mk ((bz_ hg (lb0_ HB.out))); replace HB := Aside0.mk (below_step (lb0_ HB.out) hb); clear hb hbox hg) | ((with_reducible refine gate_dst (N := 3) rfl ?_); refine box_event ?hg (N := 3) ?hd (cs := #[.int .i64 a1_0, .int .i64 a1_1, .int .i64 a1_2, .int .i64 a1_3, .int .i64 a1_4]) (t := 37) ?hr ?_; (case hd => rfl); (case hg => rfl); (case hr => first | (go_simp; done) | (go_simp; rfl)); intro gb228 hg w29 hbox hb; have BK228 := Aside0.mk (hbox); have GW228 := Aside0.mk ((bz_ hg (lb1_ HB.out GE227.out))); have GE228 := Aside0.mk ((bz_ hg (lb1_ HB.out GE227.out))); replace HB := Aside0.mk (below_step (lb1_ HB.out GE227.out) hb); have NB227_228 := Aside0.mk (nl_ hg BK227.out); have NB228_227 := Aside0.mk (ng_ hg BK227.out); replace BK227 := Aside0.mk (bb_ (bk_ BK227.out) hb); clear hb hbox hg; have hnb30 := NB227_228.out; have hnc30 := NB228_227.out; obtain ⟨hcz31_0, hcz31_1, hcz31_2, hcz31_3, hcz31_4⟩ := cz5_ BK227.out; obtain ⟨hfz31_0, hfz31_1, hfz31_2, hfz31_3, hfz31_4⟩ := fz5_ BK227.out; obtain ⟨hcz32_0, hcz32_1, hcz32_2, hcz32_3, hcz32_4⟩ := cz5_ BK228.out; obtain ⟨hfz32_0, hfz32_1, hfz32_2, hfz32_3, hfz32_4⟩ := fz5_ BK228.out))
   go_ret
   exact ⟨rr_, lb2_ HB.out GE227.out GE228.out⟩
 ·
  rw [if_neg c3] at H
  have c3b0 : (a0_0 == a1_0) = false := beq_eq_false_iff_ne.mpr c3
  have c3b1 : (a0_0 != a1_0) = true := bne_iff_ne.mpr c3
  obtain rfl := Option.some.inj H
  go_enter Try.func90, Try.ntmps90
  go_wp2_with (first | ((with_reducible refine gate_dst (N := 2) rfl ?_); refine box_event ?hg (N := 2) ?hd (cs := #[.int .i64 a0_0, .int .i64 a0_1, .int .i64 a0_2, .int .i64 a0_3, .int .i64 a0_4]) (t := 37) ?hr ?_; (case hd => rfl); (case hg => rfl); (case hr => first | (go_simp; done) | (go_simp; rfl)); intro gb227 hg w33 hbox hb; have BK227 := Aside0.mk (hbox); have GW227 := Aside0.mk ((bz_ hg (lb0_ HB.out))); have GE227 := Aside0.mk ((bz_ hg (lb0_ HB.out))); replace HB := Aside0.mk (below_step (lb0_ HB.out) hb); clear hb hbox hg) | ((with_reducible refine gate_dst (N := 3) rfl ?_); refine box_event ?hg (N := 3) ?hd (cs := #[.int .i64 a1_0, .int .i64 a1_1, .int .i64 a1_2, .int .i64 a1_3, .int .i64 a1_4]) (t := 37) ?hr ?_; (case hd => rfl); (case hg => rfl); (case hr => first | (go_simp; done) | (go_simp; rfl)); intro gb228 hg w34 hbox hb; have BK228 := Aside0.mk (hbox); have GW228 := Aside0.mk ((bz_ hg (lb1_ HB.out GE227.out))); have GE228 := Aside0.mk ((bz_ hg (lb1_ HB.out GE227.out))); replace HB := Aside0.mk (below_step (lb1_ HB.out GE227.out) hb); have NB227_228 := Aside0.mk (nl_ hg BK227.out); have NB228_227 := Aside0.mk (ng_ hg BK227.out); replace BK227 := Aside0.mk (bb_ (bk_ BK227.out) hb); clear hb hbox hg; have hnb35 := NB227_228.out; have hnc35 := NB228_227.out; obtain ⟨hcz36_0, hcz36_1, hcz36_2, hcz36_3, hcz36_4⟩ := cz5_ BK227.out; obtain ⟨hfz36_0, hfz36_1, hfz36_2, hfz36_3, hfz36_4⟩ := fz5_ BK227.out; obtain ⟨hcz37_0, hcz37_1, hcz37_2, hcz37_3, hcz37_4⟩ := cz5_ BK228.out; obtain ⟨hfz37_0, hfz37_1, hfz37_2, hfz37_3, hfz37_4⟩ := fz5_ BK228.out))
  go_ret
  exact ⟨rr_, lb2_ HB.out GE227.out GE228.out⟩
def laws_eqLegS.l0 : Nat → List (S37) → List (S37) → Int → Option (Bool)
 | 0, _, _, _ => none
 | k + 1, x0, x1, x5 => if x5 < (x0.length : Int) then (if 0 ≤ x5 then (if x5 < (x1.length : Int) then ((laws_eqLeg.f ((rd_T37 x0 x5).f0) ((rd_T37 x0 x5).f1) ((rd_T37 x0 x5).f2) ((rd_T37 x0 x5).f3) ((rd_T37 x0 x5).f4) ((rd_T37 x1 x5).f0) ((rd_T37 x1 x5).f1) ((rd_T37 x1 x5).f2) ((rd_T37 x1 x5).f3) ((rd_T37 x1 x5).f4)).bind fun t231 => (if t231 = true then (laws_eqLegS.l0 k x0 x1 (wrap64 (x5 + 1))) else (some false))) else (none)) else (none)) else (some true)
def laws_eqLegS.f (k : Nat) (l0 : List (S37)) (l1 : List (S37)) : Option (Bool) := if (l0.length : Int) = (l1.length : Int) then (laws_eqLegS.l0 k l0 l1 0) else (some false)
def laws_eqLegS.T6 : Bool × List (List Nat × List Nat) := (true, [([], []), ([], []), ([0, 1], [0, 1]), ([2], [2]), ([], []), ([], []), ([4, 5], [4, 5]), ([6], [6]), ([3, 7], [3, 7]), ([8], [8])])
def laws_eqLegS.B6 : List Nat := [0, 0, 3, 7, 0, 0, 48, 112, 255, 511]
theorem laws_eqLegS.tab6 : rtab .any (opsOf Try.f39 6) = laws_eqLegS.T6 := by kernel_rfl
theorem laws_eqLegS.bits6 : waitsOk laws_eqLegS.T6.2 laws_eqLegS.B6 = true := by kernel_rfl
abbrev laws_eqLegS.mk0 : Array Bool := #[fF,fF,fF,fF,fF,fF,fF,fF,fF,fF]
abbrev laws_eqLegS.mk1 : Array Bool := #[tT,fF,fF,fF,fF,fF,fF,fF,fF,fF]
abbrev laws_eqLegS.mk2 : Array Bool := #[tT,tT,fF,fF,fF,fF,fF,fF,fF,fF]
abbrev laws_eqLegS.mk3 : Array Bool := #[tT,tT,tT,fF,fF,fF,fF,fF,fF,fF]
abbrev laws_eqLegS.mk4 : Array Bool := #[tT,tT,tT,fF,tT,fF,fF,fF,fF,fF]
abbrev laws_eqLegS.mk5 : Array Bool := #[tT,tT,tT,fF,tT,tT,fF,fF,fF,fF]
abbrev laws_eqLegS.mk6 : Array Bool := #[tT,tT,tT,fF,tT,tT,tT,fF,fF,fF]
abbrev laws_eqLegS.mk7 : Array Bool := #[tT,tT,tT,tT,tT,tT,tT,fF,fF,fF]
abbrev laws_eqLegS.mk8 : Array Bool := #[tT,tT,tT,tT,tT,tT,tT,tT,fF,fF]
abbrev laws_eqLegS.mk9 : Array Bool := #[tT,tT,tT,tT,tT,tT,tT,tT,tT,fF]
abbrev laws_eqLegS.mk10 : Array Bool := #[tT,tT,tT,tT,tT,tT,tT,tT,tT,tT]
theorem laws_eqLegS.calls (k : Nat) (A0 : Option Addr) (c0 : Nat) (l0 : List (S37)) (A1 : Option Addr) (c1 : Nat) (l1 : List (S37)) (r : Bool) (w : World) (hr0 : Kd.C k37 w A0 l0.length l0) (hc0 : l0.length ≤ c0) (hr1 : Kd.C k37 w A1 l1.length l1) (hc1 : l1.length ≤ c1) (h : laws_eqLegS.f k l0 l1 = some r) :
  Calls Try.prog 39 #[.slice A0 l0.length c0, .slice A1 l1.length c1] w fun e w' => e = .returned (.bool r) ∧ Below w.heap.size w w' := by
 have hu37 := Try.underlying37
 have HR0 := Aside0.mk hr0
 have HC0 := Aside0.mk hc0
 clear hr0 hc0
 have HR1 := Aside0.mk hr1
 have HC1 := Aside0.mk hc1
 clear hr1 hc1
 have HB := Aside0.mk (Below.refl w.heap.size w)
 have H : (if (l0.length : Int) = (l1.length : Int) then (laws_eqLegS.l0 k l0 l1 0) else (some false)) = some r := h
 clear h
 by_cases c3 : (l0.length : Int) = (l1.length : Int)
 ·
  rw [if_pos c3] at H
  have c3b0 : ((l0.length : Int) == (l1.length : Int)) = true := beq_iff_eq.mpr c3
  have c3b1 : ((l0.length : Int) != (l1.length : Int)) = false := bne_eq_false_iff_eq.mpr c3
  have c3b2 : (l0.length == l1.length) = true := by first | simpa using c3 | (simp at c3 ⊢; omega)
  clear c3
  have H' := Aside0.mk H
  clear H
  go_enter Try.func39, Try.ntmps39
  go_wp2
  go_loopg [5] k (fun kq v5 w' => ∃ (x5_1 : Int), v5 = .int .i64 x5_1 ∧ Aside0 (laws_eqLegS.l0 kq l0 l1 x5_1 = some r) ∧ Aside0 (kq ≤ k) ∧ Aside0 (Below w.heap.size w w'))
  case atStart => exact ⟨(0), (by first | rfl | (simp; done) | (simp [*]; done)), H', ⟨Nat.le_refl _⟩, ⟨lb0_ HB.out⟩⟩
  case round =>
   clear H'
   try clear c1
   try clear p2
   try clear c3
   try clear c3b0
   try clear c3b1
   try clear c3b2
   obtain ⟨x5_1, rfl, HA, HK1, HB⟩ := hrel
   cases gk with
   | zero => exact absurd HA.out (by simp [laws_eqLegS.l0])
   | succ k1 =>
    have H := HA.out
    clear HA
    simp only [laws_eqLegS.l0] at H
    by_cases c4 : x5_1 < (l0.length : Int)
    ·
     rw [if_pos c4] at H
     have c4b0 : decide (x5_1 < (l0.length : Int)) = true := decide_eq_true c4
     clear c4
     by_cases c5 : 0 ≤ x5_1
     ·
      rw [if_pos c5] at H
      have c5b0 : decide (0 ≤ x5_1) = true := decide_eq_true c5
      clear c5
      by_cases c6 : x5_1 < (l1.length : Int)
      ·
       rw [if_pos c6] at H
       have c6b0 : decide (x5_1 < (l1.length : Int)) = true := decide_eq_true c6
       clear c6
       replace H := Option.bind_eq_some_iff.mp H
       obtain ⟨t231, A70, H⟩ := H
       replace H : (if t231 = true then (laws_eqLegS.l0 k1 l0 l1 (wrap64 (x5_1 + 1))) else (some false)) = some r := H
       have A7 := Aside0.mk A70
       clear A70
       by_cases c8 : t231 = true
       ·
        subst c8
        have H1 : (laws_eqLegS.l0 k1 l0 l1 (wrap64 (x5_1 + 1))) = some r := by rw [if_pos rfl] at H; exact H
        clear H; have H := H1; clear H1; have H' := Aside0.mk H; clear H
        try go_wp2
        replace HB := Aside0.mk (below_drew1 HB.out); have p229 : 0 ≤ (x5_1 : Int) := dt_; have q229 : x5_1 < (l0.length : Int) := dt_; obtain ⟨ad229, e229, hx229_0, hx229_1, hx229_2, hx229_3, hx229_4⟩ := at_T37 HR0.out x5_1 p229 q229; have hw229_4 := hx229_4; have hw229_3 := hx229_3; have hw229_2 := hx229_2; have hw229_1 := hx229_1; have hw229_0 := hx229_0
        cases e229
        replace hx229_0 := bc_ HB.out hx229_0; replace hx229_1 := bc_ HB.out hx229_1; replace hx229_2 := bc_ HB.out hx229_2; replace hx229_3 := bc_ HB.out hx229_3; replace hx229_4 := bc_ HB.out hx229_4; replace p229 := eq_true p229; replace q229 := eq_true q229; have p230 : 0 ≤ (x5_1 : Int) := dt_; have q230 : x5_1 < (l1.length : Int) := dt_; obtain ⟨ad230, e230, hx230_0, hx230_1, hx230_2, hx230_3, hx230_4⟩ := at_T37 HR1.out x5_1 p230 q230; have hw230_4 := hx230_4; have hw230_3 := hx230_3; have hw230_2 := hx230_2; have hw230_1 := hx230_1; have hw230_0 := hx230_0
        cases e230
        replace hx230_0 := bc_ HB.out hx230_0; replace hx230_1 := bc_ HB.out hx230_1; replace hx230_2 := bc_ HB.out hx230_2; replace hx230_3 := bc_ HB.out hx230_3; replace hx230_4 := bc_ HB.out hx230_4; replace p230 := eq_true p230; replace q230 := eq_true q230; refine start_ (n := 10) (S := fun w' => w'.cell? (ad229.add ((x5_1).toNat * 5)) = some (.int .i64 ((rd_T37 l0 x5_1).f0)) ∧ w'.cell? ⟨(ad229.add ((x5_1).toNat * 5)).block, (ad229.add ((x5_1).toNat * 5)).off + 1, none⟩ = some (.int .i64 ((rd_T37 l0 x5_1).f1)) ∧ w'.cell? ⟨(ad229.add ((x5_1).toNat * 5)).block, (ad229.add ((x5_1).toNat * 5)).off + 2, none⟩ = some (.int .i64 ((rd_T37 l0 x5_1).f2)) ∧ w'.cell? ⟨(ad229.add ((x5_1).toNat * 5)).block, (ad229.add ((x5_1).toNat * 5)).off + 3, none⟩ = some (.int .i64 ((rd_T37 l0 x5_1).f3)) ∧ w'.cell? ⟨(ad229.add ((x5_1).toNat * 5)).block, (ad229.add ((x5_1).toNat * 5)).off + 4, none⟩ = some (.int .i64 ((rd_T37 l0 x5_1).f4)) ∧ w'.cell? (ad230.add ((x5_1).toNat * 5)) = some (.int .i64 ((rd_T37 l1 x5_1).f0)) ∧ w'.cell? ⟨(ad230.add ((x5_1).toNat * 5)).block, (ad230.add ((x5_1).toNat * 5)).off + 1, none⟩ = some (.int .i64 ((rd_T37 l1 x5_1).f1)) ∧ w'.cell? ⟨(ad230.add ((x5_1).toNat * 5)).block, (ad230.add ((x5_1).toNat * 5)).off + 2, none⟩ = some (.int .i64 ((rd_T37 l1 x5_1).f2)) ∧ w'.cell? ⟨(ad230.add ((x5_1).toNat * 5)).block, (ad230.add ((x5_1).toNat * 5)).off + 3, none⟩ = some (.int .i64 ((rd_T37 l1 x5_1).f3)) ∧ w'.cell? ⟨(ad230.add ((x5_1).toNat * 5)).block, (ad230.add ((x5_1).toNat * 5)).off + 4, none⟩ = some (.int .i64 ((rd_T37 l1 x5_1).f4))) (ds := []) laws_eqLegS.mk0 (by kernel_rfl) rfl rfl ⟨(bc_ HB.out hw229_0), (bc_ HB.out hw229_1), (bc_ HB.out hw229_2), (bc_ HB.out hw229_3), (bc_ HB.out hw229_4), (bc_ HB.out hw230_0), (bc_ HB.out hw230_1), (bc_ HB.out hw230_2), (bc_ HB.out hw230_3), (bc_ HB.out hw230_4)⟩ (fun hHeld => ?_); refine with_tabW laws_eqLegS.tab6 laws_eqLegS.bits6 (fun HT_ HW_ => ?_); generalize wr.drew = w9 at HB hx229_0 hx229_1 hx229_2 hx229_3 hx229_4 hx230_0 hx230_1 hx230_2 hx230_3 hx230_4 hHeld ⊢; refine pz_ HT_ 0 (some 17) laws_eqLegS.mk1 ?_; refine pz_ HT_ 1 (some 18) laws_eqLegS.mk2 ?_; refine pz_ HT_ 2 (some 19) laws_eqLegS.mk3 ?_; refine pz_ HT_ 4 (some 21) laws_eqLegS.mk4 ?_; refine pz_ HT_ 5 (some 22) laws_eqLegS.mk5 ?_; refine pz_ HT_ 6 (some 23) laws_eqLegS.mk6 ?_; refine tk_ HT_ HW_ hHeld 3 (some 20) laws_eqLegS.mk7 ?_; refine tk_ HT_ HW_ hHeld 7 (some 24) laws_eqLegS.mk8 ?_; refine one_ (i := 8) (N := some 25) laws_eqLegS.mk9 rfl rfl (one_of HT_.out (by kernel_rfl)) (by decide) (fun K hK => ?_); refine gs_ Try.func90 #[.agg #[.int .i64 ((rd_T37 l0 x5_1).f0), .int .i64 ((rd_T37 l0 x5_1).f1), .int .i64 ((rd_T37 l0 x5_1).f2), .int .i64 ((rd_T37 l0 x5_1).f3), .int .i64 ((rd_T37 l0 x5_1).f4)], .agg #[.int .i64 ((rd_T37 l1 x5_1).f0), .int .i64 ((rd_T37 l1 x5_1).f1), .int .i64 ((rd_T37 l1 x5_1).f2), .int .i64 ((rd_T37 l1 x5_1).f3), .int .i64 ((rd_T37 l1 x5_1).f4)]] ?_; (with_reducible refine (laws_eqLeg.calls ((rd_T37 l0 x5_1).f0) ((rd_T37 l0 x5_1).f1) ((rd_T37 l0 x5_1).f2) ((rd_T37 l0 x5_1).f3) ((rd_T37 l0 x5_1).f4) ((rd_T37 l1 x5_1).f0) ((rd_T37 l1 x5_1).f1) ((rd_T37 l1 x5_1).f2) ((rd_T37 l1 x5_1).f3) ((rd_T37 l1 x5_1).f4) true _ A7.out).mono ?_); rintro e w10 ⟨rfl, hb⟩; refine ⟨_, rfl, ?_⟩; replace HB := Aside0.mk (below_step (lb0_ HB.out) hb); (try clear hb); (try clear hb2); (try clear hk); (try clear hi); refine hK.out _ _ ⟨((HB.out.cell (World.block_lt_of_cell? w _ hw229_0)).trans hw229_0), ((HB.out.cell (World.block_lt_of_cell? w _ hw229_1)).trans hw229_1), ((HB.out.cell (World.block_lt_of_cell? w _ hw229_2)).trans hw229_2), ((HB.out.cell (World.block_lt_of_cell? w _ hw229_3)).trans hw229_3), ((HB.out.cell (World.block_lt_of_cell? w _ hw229_4)).trans hw229_4), ((HB.out.cell (World.block_lt_of_cell? w _ hw230_0)).trans hw230_0), ((HB.out.cell (World.block_lt_of_cell? w _ hw230_1)).trans hw230_1), ((HB.out.cell (World.block_lt_of_cell? w _ hw230_2)).trans hw230_2), ((HB.out.cell (World.block_lt_of_cell? w _ hw230_3)).trans hw230_3), ((HB.out.cell (World.block_lt_of_cell? w _ hw230_4)).trans hw230_4)⟩ (fun hHeld => ?_); clear hK K; refine na_ ?_; refine pz_ HT_ 9 (some 26) laws_eqLegS.mk10 ?_; refine done_ (done_of HT_.out (by kernel_rfl)) ?_
        try go_wp2
        go_roundg k1
        case measure => have := HK1.out; omega
        case rel => exact ⟨(wrap64 (x5_1 + 1)), (by first | rfl | (simp; done) | (simp [*]; done)), H', ⟨by have := HK1.out; omega⟩, ⟨lb0_ HB.out⟩⟩
       ·
        replace c8 := Bool.eq_false_iff.mpr c8; subst c8
        have H1 : (some false) = some r := by rw [if_neg (show ¬ (false = true) by decide)] at H; exact H
        clear H; have H := H1; clear H1; obtain rfl := Option.some.inj H
        try go_wp2
        replace HB := Aside0.mk (below_drew1 HB.out); have p229 : 0 ≤ (x5_1 : Int) := dt_; have q229 : x5_1 < (l0.length : Int) := dt_; obtain ⟨ad229, e229, hx229_0, hx229_1, hx229_2, hx229_3, hx229_4⟩ := at_T37 HR0.out x5_1 p229 q229; have hw229_4 := hx229_4; have hw229_3 := hx229_3; have hw229_2 := hx229_2; have hw229_1 := hx229_1; have hw229_0 := hx229_0
        cases e229
        replace hx229_0 := bc_ HB.out hx229_0; replace hx229_1 := bc_ HB.out hx229_1; replace hx229_2 := bc_ HB.out hx229_2; replace hx229_3 := bc_ HB.out hx229_3; replace hx229_4 := bc_ HB.out hx229_4; replace p229 := eq_true p229; replace q229 := eq_true q229; have p230 : 0 ≤ (x5_1 : Int) := dt_; have q230 : x5_1 < (l1.length : Int) := dt_; obtain ⟨ad230, e230, hx230_0, hx230_1, hx230_2, hx230_3, hx230_4⟩ := at_T37 HR1.out x5_1 p230 q230; have hw230_4 := hx230_4; have hw230_3 := hx230_3; have hw230_2 := hx230_2; have hw230_1 := hx230_1; have hw230_0 := hx230_0
        cases e230
        replace hx230_0 := bc_ HB.out hx230_0; replace hx230_1 := bc_ HB.out hx230_1; replace hx230_2 := bc_ HB.out hx230_2; replace hx230_3 := bc_ HB.out hx230_3; replace hx230_4 := bc_ HB.out hx230_4; replace p230 := eq_true p230; replace q230 := eq_true q230; refine start_ (n := 10) (S := fun w' => w'.cell? (ad229.add ((x5_1).toNat * 5)) = some (.int .i64 ((rd_T37 l0 x5_1).f0)) ∧ w'.cell? ⟨(ad229.add ((x5_1).toNat * 5)).block, (ad229.add ((x5_1).toNat * 5)).off + 1, none⟩ = some (.int .i64 ((rd_T37 l0 x5_1).f1)) ∧ w'.cell? ⟨(ad229.add ((x5_1).toNat * 5)).block, (ad229.add ((x5_1).toNat * 5)).off + 2, none⟩ = some (.int .i64 ((rd_T37 l0 x5_1).f2)) ∧ w'.cell? ⟨(ad229.add ((x5_1).toNat * 5)).block, (ad229.add ((x5_1).toNat * 5)).off + 3, none⟩ = some (.int .i64 ((rd_T37 l0 x5_1).f3)) ∧ w'.cell? ⟨(ad229.add ((x5_1).toNat * 5)).block, (ad229.add ((x5_1).toNat * 5)).off + 4, none⟩ = some (.int .i64 ((rd_T37 l0 x5_1).f4)) ∧ w'.cell? (ad230.add ((x5_1).toNat * 5)) = some (.int .i64 ((rd_T37 l1 x5_1).f0)) ∧ w'.cell? ⟨(ad230.add ((x5_1).toNat * 5)).block, (ad230.add ((x5_1).toNat * 5)).off + 1, none⟩ = some (.int .i64 ((rd_T37 l1 x5_1).f1)) ∧ w'.cell? ⟨(ad230.add ((x5_1).toNat * 5)).block, (ad230.add ((x5_1).toNat * 5)).off + 2, none⟩ = some (.int .i64 ((rd_T37 l1 x5_1).f2)) ∧ w'.cell? ⟨(ad230.add ((x5_1).toNat * 5)).block, (ad230.add ((x5_1).toNat * 5)).off + 3, none⟩ = some (.int .i64 ((rd_T37 l1 x5_1).f3)) ∧ w'.cell? ⟨(ad230.add ((x5_1).toNat * 5)).block, (ad230.add ((x5_1).toNat * 5)).off + 4, none⟩ = some (.int .i64 ((rd_T37 l1 x5_1).f4))) (ds := []) laws_eqLegS.mk0 (by kernel_rfl) rfl rfl ⟨(bc_ HB.out hw229_0), (bc_ HB.out hw229_1), (bc_ HB.out hw229_2), (bc_ HB.out hw229_3), (bc_ HB.out hw229_4), (bc_ HB.out hw230_0), (bc_ HB.out hw230_1), (bc_ HB.out hw230_2), (bc_ HB.out hw230_3), (bc_ HB.out hw230_4)⟩ (fun hHeld => ?_); refine with_tabW laws_eqLegS.tab6 laws_eqLegS.bits6 (fun HT_ HW_ => ?_); generalize wr.drew = w11 at HB hx229_0 hx229_1 hx229_2 hx229_3 hx229_4 hx230_0 hx230_1 hx230_2 hx230_3 hx230_4 hHeld ⊢; refine pz_ HT_ 0 (some 17) laws_eqLegS.mk1 ?_; refine pz_ HT_ 1 (some 18) laws_eqLegS.mk2 ?_; refine pz_ HT_ 2 (some 19) laws_eqLegS.mk3 ?_; refine pz_ HT_ 4 (some 21) laws_eqLegS.mk4 ?_; refine pz_ HT_ 5 (some 22) laws_eqLegS.mk5 ?_; refine pz_ HT_ 6 (some 23) laws_eqLegS.mk6 ?_; refine tk_ HT_ HW_ hHeld 3 (some 20) laws_eqLegS.mk7 ?_; refine tk_ HT_ HW_ hHeld 7 (some 24) laws_eqLegS.mk8 ?_; refine one_ (i := 8) (N := some 25) laws_eqLegS.mk9 rfl rfl (one_of HT_.out (by kernel_rfl)) (by decide) (fun K hK => ?_); refine gs_ Try.func90 #[.agg #[.int .i64 ((rd_T37 l0 x5_1).f0), .int .i64 ((rd_T37 l0 x5_1).f1), .int .i64 ((rd_T37 l0 x5_1).f2), .int .i64 ((rd_T37 l0 x5_1).f3), .int .i64 ((rd_T37 l0 x5_1).f4)], .agg #[.int .i64 ((rd_T37 l1 x5_1).f0), .int .i64 ((rd_T37 l1 x5_1).f1), .int .i64 ((rd_T37 l1 x5_1).f2), .int .i64 ((rd_T37 l1 x5_1).f3), .int .i64 ((rd_T37 l1 x5_1).f4)]] ?_; (with_reducible refine (laws_eqLeg.calls ((rd_T37 l0 x5_1).f0) ((rd_T37 l0 x5_1).f1) ((rd_T37 l0 x5_1).f2) ((rd_T37 l0 x5_1).f3) ((rd_T37 l0 x5_1).f4) ((rd_T37 l1 x5_1).f0) ((rd_T37 l1 x5_1).f1) ((rd_T37 l1 x5_1).f2) ((rd_T37 l1 x5_1).f3) ((rd_T37 l1 x5_1).f4) false _ A7.out).mono ?_); rintro e w12 ⟨rfl, hb⟩; refine ⟨_, rfl, ?_⟩; replace HB := Aside0.mk (below_step (lb0_ HB.out) hb); (try clear hb); (try clear hb2); (try clear hk); (try clear hi); refine hK.out _ _ ⟨((HB.out.cell (World.block_lt_of_cell? w _ hw229_0)).trans hw229_0), ((HB.out.cell (World.block_lt_of_cell? w _ hw229_1)).trans hw229_1), ((HB.out.cell (World.block_lt_of_cell? w _ hw229_2)).trans hw229_2), ((HB.out.cell (World.block_lt_of_cell? w _ hw229_3)).trans hw229_3), ((HB.out.cell (World.block_lt_of_cell? w _ hw229_4)).trans hw229_4), ((HB.out.cell (World.block_lt_of_cell? w _ hw230_0)).trans hw230_0), ((HB.out.cell (World.block_lt_of_cell? w _ hw230_1)).trans hw230_1), ((HB.out.cell (World.block_lt_of_cell? w _ hw230_2)).trans hw230_2), ((HB.out.cell (World.block_lt_of_cell? w _ hw230_3)).trans hw230_3), ((HB.out.cell (World.block_lt_of_cell? w _ hw230_4)).trans hw230_4)⟩ (fun hHeld => ?_); clear hK K; refine na_ ?_; refine pz_ HT_ 9 (some 26) laws_eqLegS.mk10 ?_; refine done_ (done_of HT_.out (by kernel_rfl)) ?_
        try go_wp2
        go_ret
        exact ⟨rr_, lb0_ HB.out⟩
      ·
       rw [if_neg c6] at H
       exact absurd H (by simp)
     ·
      rw [if_neg c5] at H
      exact absurd H (by simp)
    ·
     rw [if_neg c4] at H
     have c4b0 : decide (x5_1 < (l0.length : Int)) = false := decide_eq_false c4
     clear c4
     obtain rfl := Option.some.inj H
     go_wp2
     go_ret
     exact ⟨rr_, lb0_ HB.out⟩
 ·
  rw [if_neg c3] at H
  have c3b0 : ((l0.length : Int) == (l1.length : Int)) = false := beq_eq_false_iff_ne.mpr c3
  have c3b1 : ((l0.length : Int) != (l1.length : Int)) = true := bne_iff_ne.mpr c3
  have c3b2 : (l0.length == l1.length) = false := by first | simpa using c3 | (simp at c3 ⊢; omega)
  obtain rfl := Option.some.inj H
  go_enter Try.func39, Try.ntmps39
  go_wp2
  go_ret
  exact ⟨rr_, lb0_ HB.out⟩
def laws_eqBoolS.l0 : Nat → List Bool → List Bool → Int → Option (Bool)
 | 0, _, _, _ => none
 | k + 1, x0, x1, x5 => if x5 < (x0.length : Int) then (if 0 ≤ x5 then (if x5 < (x1.length : Int) then (if ((rdOf false x0 x5) != (rdOf false x1 x5)) = true then (some false) else (laws_eqBoolS.l0 k x0 x1 (wrap64 (x5 + 1)))) else (none)) else (none)) else (some true)
def laws_eqBoolS.f (k : Nat) (l0 : List Bool) (l1 : List Bool) : Option (Bool) := if (l0.length : Int) = (l1.length : Int) then (laws_eqBoolS.l0 k l0 l1 0) else (some false)
theorem laws_eqBoolS.calls (k : Nat) (A0 : Option Addr) (c0 : Nat) (l0 : List Bool) (A1 : Option Addr) (c1 : Nat) (l1 : List Bool) (r : Bool) (w : World) (hr0 : Kd.C Kd.bool w A0 l0.length l0) (hc0 : l0.length ≤ c0) (hr1 : Kd.C Kd.bool w A1 l1.length l1) (hc1 : l1.length ≤ c1) (h : laws_eqBoolS.f k l0 l1 = some r) :
  Calls Try.prog 73 #[.slice A0 l0.length c0, .slice A1 l1.length c1] w fun e w' => e = .returned (.bool r) ∧ Drawn0 w w' := by
 have HR0 := Aside0.mk hr0
 have HC0 := Aside0.mk hc0
 clear hr0 hc0
 have HR1 := Aside0.mk hr1
 have HC1 := Aside0.mk hc1
 clear hr1 hc1
 have H : (if (l0.length : Int) = (l1.length : Int) then (laws_eqBoolS.l0 k l0 l1 0) else (some false)) = some r := h
 clear h
 by_cases c3 : (l0.length : Int) = (l1.length : Int)
 ·
  rw [if_pos c3] at H
  have c3b0 : ((l0.length : Int) == (l1.length : Int)) = true := beq_iff_eq.mpr c3
  have c3b1 : ((l0.length : Int) != (l1.length : Int)) = false := bne_eq_false_iff_eq.mpr c3
  have c3b2 : (l0.length == l1.length) = true := by first | simpa using c3 | (simp at c3 ⊢; omega)
  clear c3
  have H' := Aside0.mk H
  clear H
  go_enter Try.func73, Try.ntmps73
  go_wp2
  repeat (go_quiet (fail); try go_wp2)
  go_loopg [5] k (fun kq v5 w' => ∃ (x5_1 : Int), v5 = .int .i64 x5_1 ∧ Aside0 (laws_eqBoolS.l0 kq l0 l1 x5_1 = some r) ∧ Aside0 (kq ≤ k) ∧ Drawn0 w w')
  case atStart => exact ⟨(0), (by first | rfl | (simp; done) | (simp [*]; done)), H', ⟨Nat.le_refl _⟩, by repeat (first | exact Drawn0.refl _ | apply Drawn0.step)⟩
  case round =>
   clear H'
   try clear c1
   try clear p2
   try clear c3
   try clear c3b0
   try clear c3b1
   try clear c3b2
   obtain ⟨x5_1, rfl, HA, HK1, ⟨m1, rfl⟩⟩ := hrel
   cases gk with
   | zero => exact absurd HA.out (by simp [laws_eqBoolS.l0])
   | succ k1 =>
    have H := HA.out
    clear HA
    simp only [laws_eqBoolS.l0] at H
    by_cases c4 : x5_1 < (l0.length : Int)
    ·
     rw [if_pos c4] at H
     have c4b0 : decide (x5_1 < (l0.length : Int)) = true := decide_eq_true c4
     clear c4
     by_cases c5 : 0 ≤ x5_1
     ·
      rw [if_pos c5] at H
      have c5b0 : decide (0 ≤ x5_1) = true := decide_eq_true c5
      clear c5
      by_cases c6 : x5_1 < (l1.length : Int)
      ·
       rw [if_pos c6] at H
       have c6b0 : decide (x5_1 < (l1.length : Int)) = true := decide_eq_true c6
       clear c6
       by_cases c7 : ((rdOf false l0 x5_1) != (rdOf false l1 x5_1)) = true
       ·
        rw [if_pos c7] at H
        have c7b0 : ((rdOf false l0 x5_1) != (rdOf false l1 x5_1)) = true := c7; (try (have c7b1 : decide ((rdOf false l0 x5_1) = (rdOf false l1 x5_1)) = false := by simpa using c7)); (try (have c7b2 : ((rdOf false l0 x5_1) == (rdOf false l1 x5_1)) = false := by simpa using c7)); (try (have c7b3 : ¬ ((rdOf false l0 x5_1) = (rdOf false l1 x5_1)) := by simpa using c7)); clear c7; obtain rfl := Option.some.inj H; have p232 : 0 ≤ (x5_1 : Int) := dt_; have q232 : x5_1 < (l0.length : Int) := dt_; obtain ⟨ad232, e232, hx232_0⟩ := Kd.at_bool HR0.out x5_1 p232 q232
        cases e232
        replace p232 := eq_true p232; replace q232 := eq_true q232; have p233 : 0 ≤ (x5_1 : Int) := dt_; have q233 : x5_1 < (l1.length : Int) := dt_; obtain ⟨ad233, e233, hx233_0⟩ := Kd.at_bool HR1.out x5_1 p233 q233
        cases e233
        replace p233 := eq_true p233; replace q233 := eq_true q233
        go_wp2
        repeat (go_quiet (fail); try go_wp2)
        go_ret
        exact ⟨by first | rfl | (simp; done) | (simp [*]; done), by repeat (first | exact Drawn0.refl _ | apply Drawn0.step)⟩
       ·
        rw [if_neg c7] at H
        have c7b0 : ((rdOf false l0 x5_1) != (rdOf false l1 x5_1)) = false := by simpa using c7
        (try (have c7b1 : decide ((rdOf false l0 x5_1) = (rdOf false l1 x5_1)) = true := by simpa using c7)); (try (have c7b2 : ((rdOf false l0 x5_1) == (rdOf false l1 x5_1)) = true := by simpa using c7)); clear c7; have H' := Aside0.mk H; clear H; have p232 : 0 ≤ (x5_1 : Int) := dt_; have q232 : x5_1 < (l0.length : Int) := dt_; obtain ⟨ad232, e232, hx232_0⟩ := Kd.at_bool HR0.out x5_1 p232 q232
        cases e232
        replace p232 := eq_true p232; replace q232 := eq_true q232; have p233 : 0 ≤ (x5_1 : Int) := dt_; have q233 : x5_1 < (l1.length : Int) := dt_; obtain ⟨ad233, e233, hx233_0⟩ := Kd.at_bool HR1.out x5_1 p233 q233
        cases e233
        replace p233 := eq_true p233; replace q233 := eq_true q233
        go_wp2
        repeat (go_quiet (fail); try go_wp2)
        go_roundg k1
        case measure => have := HK1.out; omega
        case rel => exact ⟨(wrap64 (x5_1 + 1)), (by first | rfl | (simp; done) | (simp [*]; done)), H', ⟨by have := HK1.out; omega⟩, by repeat (first | exact Drawn0.refl _ | apply Drawn0.step)⟩
      ·
       rw [if_neg c6] at H
       exact absurd H (by simp)
     ·
      rw [if_neg c5] at H
      exact absurd H (by simp)
    ·
     rw [if_neg c4] at H
     have c4b0 : decide (x5_1 < (l0.length : Int)) = false := decide_eq_false c4
     clear c4
     obtain rfl := Option.some.inj H
     go_wp2
     repeat (go_quiet (fail); try go_wp2)
     go_ret
     exact ⟨by first | rfl | (simp; done) | (simp [*]; done), by repeat (first | exact Drawn0.refl _ | apply Drawn0.step)⟩
 ·
  rw [if_neg c3] at H
  have c3b0 : ((l0.length : Int) == (l1.length : Int)) = false := beq_eq_false_iff_ne.mpr c3
  have c3b1 : ((l0.length : Int) != (l1.length : Int)) = true := bne_iff_ne.mpr c3
  have c3b2 : (l0.length == l1.length) = false := by first | simpa using c3 | (simp at c3 ⊢; omega)
  obtain rfl := Option.some.inj H
  go_enter Try.func73, Try.ntmps73
  go_wp2
  repeat (go_quiet (fail); try go_wp2)
  go_ret
  exact ⟨by first | rfl | (simp; done) | (simp [*]; done), by repeat (first | exact Drawn0.refl _ | apply Drawn0.step)⟩
def laws_eqExploration.f (k : Nat) (l0_0 : List (S37)) (l0_1 : List Bool) (l0_2 : List Bool) (a0_3 : Int) (a0_4 : Int) (l1_0 : List (S37)) (l1_1 : List Bool) (l1_2 : List Bool) (a1_3 : Int) (a1_4 : Int) : Option (Bool) := (laws_eqLegS.f k l0_0 l1_0).bind fun t236 => (if t236 = true then ((laws_eqBoolS.f k l0_1 l1_1).bind fun t237 => (if t237 = true then ((laws_eqBoolS.f k l0_2 l1_2).bind fun t238 => (if t238 = true then (if a0_3 = a1_3 then (if a0_4 = a1_4 then (some true) else (some false)) else (some false)) else (some false))) else (some false))) else (some false))
theorem laws_eqExploration.calls (k : Nat) (A0_0 : Option Addr) (c0_0 : Nat) (l0_0 : List (S37)) (A0_1 : Option Addr) (c0_1 : Nat) (l0_1 : List Bool) (A0_2 : Option Addr) (c0_2 : Nat) (l0_2 : List Bool) (a0_3 : Int) (a0_4 : Int) (A1_0 : Option Addr) (c1_0 : Nat) (l1_0 : List (S37)) (A1_1 : Option Addr) (c1_1 : Nat) (l1_1 : List Bool) (A1_2 : Option Addr) (c1_2 : Nat) (l1_2 : List Bool) (a1_3 : Int) (a1_4 : Int) (r : Bool) (w : World) (hr0_0 : Kd.C k37 w A0_0 l0_0.length l0_0) (hc0_0 : l0_0.length ≤ c0_0) (hr0_1 : Kd.C Kd.bool w A0_1 l0_1.length l0_1) (hc0_1 : l0_1.length ≤ c0_1) (hr0_2 : Kd.C Kd.bool w A0_2 l0_2.length l0_2) (hc0_2 : l0_2.length ≤ c0_2) (hr1_0 : Kd.C k37 w A1_0 l1_0.length l1_0) (hc1_0 : l1_0.length ≤ c1_0) (hr1_1 : Kd.C Kd.bool w A1_1 l1_1.length l1_1) (hc1_1 : l1_1.length ≤ c1_1) (hr1_2 : Kd.C Kd.bool w A1_2 l1_2.length l1_2) (hc1_2 : l1_2.length ≤ c1_2) (h : laws_eqExploration.f k l0_0 l0_1 l0_2 a0_3 a0_4 l1_0 l1_1 l1_2 a1_3 a1_4 = some r) :
  Calls Try.prog 19 #[.agg #[.slice A0_0 l0_0.length c0_0, .slice A0_1 l0_1.length c0_1, .slice A0_2 l0_2.length c0_2, .int .i64 a0_3, .int .i64 a0_4], .agg #[.slice A1_0 l1_0.length c1_0, .slice A1_1 l1_1.length c1_1, .slice A1_2 l1_2.length c1_2, .int .i64 a1_3, .int .i64 a1_4]] w fun e w' => e = .returned (.bool r) ∧ Below w.heap.size w w' := by
 have hu30 := Try.underlying30
 have HR0_0 := Aside0.mk hr0_0
 have HC0_0 := Aside0.mk hc0_0
 clear hr0_0 hc0_0
 have HR0_1 := Aside0.mk hr0_1
 have HC0_1 := Aside0.mk hc0_1
 clear hr0_1 hc0_1
 have HR0_2 := Aside0.mk hr0_2
 have HC0_2 := Aside0.mk hc0_2
 clear hr0_2 hc0_2
 have HR1_0 := Aside0.mk hr1_0
 have HC1_0 := Aside0.mk hc1_0
 clear hr1_0 hc1_0
 have HR1_1 := Aside0.mk hr1_1
 have HC1_1 := Aside0.mk hc1_1
 clear hr1_1 hc1_1
 have HR1_2 := Aside0.mk hr1_2
 have HC1_2 := Aside0.mk hc1_2
 clear hr1_2 hc1_2
 have HB := Aside0.mk (Below.refl w.heap.size w)
 have H : ((laws_eqLegS.f k l0_0 l1_0).bind fun t236 => (if t236 = true then ((laws_eqBoolS.f k l0_1 l1_1).bind fun t237 => (if t237 = true then ((laws_eqBoolS.f k l0_2 l1_2).bind fun t238 => (if t238 = true then (if a0_3 = a1_3 then (if a0_4 = a1_4 then (some true) else (some false)) else (some false)) else (some false))) else (some false))) else (some false))) = some r := h
 clear h
 replace H := Option.bind_eq_some_iff.mp H
 obtain ⟨t236, A30, H⟩ := H
 replace H : (if t236 = true then ((laws_eqBoolS.f k l0_1 l1_1).bind fun t237 => (if t237 = true then ((laws_eqBoolS.f k l0_2 l1_2).bind fun t238 => (if t238 = true then (if a0_3 = a1_3 then (if a0_4 = a1_4 then (some true) else (some false)) else (some false)) else (some false))) else (some false))) else (some false)) = some r := H
 have A3 := Aside0.mk A30
 clear A30
 by_cases c4 : t236 = true
 ·
  subst c4
  have H1 : ((laws_eqBoolS.f k l0_1 l1_1).bind fun t237 => (if t237 = true then ((laws_eqBoolS.f k l0_2 l1_2).bind fun t238 => (if t238 = true then (if a0_3 = a1_3 then (if a0_4 = a1_4 then (some true) else (some false)) else (some false)) else (some false))) else (some false))) = some r := by rw [if_pos rfl] at H; exact H
  clear H
  have H := H1
  clear H1
  replace H := Option.bind_eq_some_iff.mp H
  obtain ⟨t237, A50, H⟩ := H
  replace H : (if t237 = true then ((laws_eqBoolS.f k l0_2 l1_2).bind fun t238 => (if t238 = true then (if a0_3 = a1_3 then (if a0_4 = a1_4 then (some true) else (some false)) else (some false)) else (some false))) else (some false)) = some r := H
  have A5 := Aside0.mk A50
  clear A50
  by_cases c6 : t237 = true
  ·
   subst c6
   have H1 : ((laws_eqBoolS.f k l0_2 l1_2).bind fun t238 => (if t238 = true then (if a0_3 = a1_3 then (if a0_4 = a1_4 then (some true) else (some false)) else (some false)) else (some false))) = some r := by rw [if_pos rfl] at H; exact H
   clear H
   have H := H1
   clear H1
   replace H := Option.bind_eq_some_iff.mp H
   obtain ⟨t238, A70, H⟩ := H
   replace H : (if t238 = true then (if a0_3 = a1_3 then (if a0_4 = a1_4 then (some true) else (some false)) else (some false)) else (some false)) = some r := H
   have A7 := Aside0.mk A70
   clear A70
   by_cases c8 : t238 = true
   ·
    subst c8
    have H1 : (if a0_3 = a1_3 then (if a0_4 = a1_4 then (some true) else (some false)) else (some false)) = some r := by rw [if_pos rfl] at H; exact H
    clear H
    have H := H1
    clear H1
    by_cases c9 : a0_3 = a1_3
    ·
     rw [if_pos c9] at H
     have c9b0 : (a0_3 == a1_3) = true := beq_iff_eq.mpr c9
     have c9b1 : (a0_3 != a1_3) = false := bne_eq_false_iff_eq.mpr c9
     clear c9
     by_cases c10 : a0_4 = a1_4
     ·
      rw [if_pos c10] at H
      have c10b0 : (a0_4 == a1_4) = true := beq_iff_eq.mpr c10
      have c10b1 : (a0_4 != a1_4) = false := bne_eq_false_iff_eq.mpr c10
      clear c10
      obtain rfl := Option.some.inj H
      go_enter Try.func19, Try.ntmps19
      go_wp2_with (first | ((with_reducible refine gate_dst (N := 2) rfl ?_); refine box_event ?hg (N := 2) ?hd (cs := #[.slice A0_0 l0_0.length c0_0, .slice A0_1 l0_1.length c0_1, .slice A0_2 l0_2.length c0_2, .int .i64 a0_3, .int .i64 a0_4]) (t := 30) ?hr ?_; (case hd => rfl); (case hg => rfl); (case hr => first | (go_simp; done) | (go_simp; rfl)); intro gb234 hg w11 hbox hb; have BK234 := Aside0.mk (hbox); have GW234 := Aside0.mk ((bz_ hg (lb0_ HB.out))); have GE234 := Aside0.mk ((bz_ hg (lb0_ HB.out))); replace HB := Aside0.mk (below_step (lb0_ HB.out) hb); clear hb hbox hg) | ((with_reducible refine gate_dst (N := 3) rfl ?_); refine box_event ?hg (N := 3) ?hd (cs := #[.slice A1_0 l1_0.length c1_0, .slice A1_1 l1_1.length c1_1, .slice A1_2 l1_2.length c1_2, .int .i64 a1_3, .int .i64 a1_4]) (t := 30) ?hr ?_; (case hd => rfl); (case hg => rfl); (case hr => first | (go_simp; done) | (go_simp; rfl)); intro gb235 hg w12 hbox hb; have BK235 := Aside0.mk (hbox); have GW235 := Aside0.mk ((bz_ hg (lb1_ HB.out GE234.out))); have GE235 := Aside0.mk ((bz_ hg (lb1_ HB.out GE234.out))); replace HB := Aside0.mk (below_step (lb1_ HB.out GE234.out) hb); have NB234_235 := Aside0.mk (nl_ hg BK234.out); have NB235_234 := Aside0.mk (ng_ hg BK234.out); replace BK234 := Aside0.mk (bb_ (bk_ BK234.out) hb); clear hb hbox hg; have hnb13 := NB234_235.out; have hnc13 := NB235_234.out; obtain ⟨hcz14_0, hcz14_1, hcz14_2, hcz14_3, hcz14_4⟩ := cz5_ BK234.out; obtain ⟨hfz14_0, hfz14_1, hfz14_2, hfz14_3, hfz14_4⟩ := fz5_ BK234.out; obtain ⟨hcz15_0, hcz15_1, hcz15_2, hcz15_3, hcz15_4⟩ := cz5_ BK235.out; obtain ⟨hfz15_0, hfz15_1, hfz15_2, hfz15_3, hfz15_4⟩ := fz5_ BK235.out) | ((with_reducible refine gate_callee (f := 39) rfl ?_); refine ga_ (some 9) Try.func39 #[.slice A0_0 l0_0.length c0_0, .slice A1_0 l1_0.length c1_0] ?_; (with_reducible refine (laws_eqLegS.calls k _ _ l0_0 _ _ l1_0 true _ ?side1 ?side2 ?side3 ?side4 A3.out).mono ?_); (case side1 => exact kc_ (Kd.C_below HR0_0.out HB.out)); (case side2 => exact HC0_0.out); (case side3 => exact kc_ (Kd.C_below HR1_0.out HB.out)); (case side4 => exact HC1_0.out); rintro e w16 ⟨rfl, hb⟩; refine ⟨_, rfl, ?_⟩; replace BK234 := Aside0.mk (bb_ (bk_ BK234.out) hb); replace BK235 := Aside0.mk (bb_ (bk_ BK235.out) hb); replace HB := Aside0.mk (below_step (lb2_ HB.out GE234.out GE235.out) hb); (try clear hb); (try clear hb2); (try clear hk); (try clear hi); obtain ⟨hcz17_0, hcz17_1, hcz17_2, hcz17_3, hcz17_4⟩ := cz5_ BK234.out; obtain ⟨hfz17_0, hfz17_1, hfz17_2, hfz17_3, hfz17_4⟩ := fz5_ BK234.out; obtain ⟨hcz18_0, hcz18_1, hcz18_2, hcz18_3, hcz18_4⟩ := cz5_ BK235.out; obtain ⟨hfz18_0, hfz18_1, hfz18_2, hfz18_3, hfz18_4⟩ := fz5_ BK235.out) | ((with_reducible refine gate_callee (f := 73) rfl ?_); refine ga_ (some 15) Try.func73 #[.slice A0_1 l0_1.length c0_1, .slice A1_1 l1_1.length c1_1] ?_; (with_reducible refine (laws_eqBoolS.calls k _ _ l0_1 _ _ l1_1 true _ ?side1 ?side2 ?side3 ?side4 A5.out).mono ?_); (case side1 => exact kc_ (Kd.C_below HR0_1.out HB.out)); (case side2 => exact HC0_1.out); (case side3 => exact kc_ (Kd.C_below HR1_1.out HB.out)); (case side4 => exact HC1_1.out); rintro e w' ⟨rfl, ⟨nd, rfl⟩⟩; refine ⟨_, rfl, ?_⟩) | ((with_reducible refine gate_callee (f := 73) rfl ?_); refine ga_ (some 21) Try.func73 #[.slice A0_2 l0_2.length c0_2, .slice A1_2 l1_2.length c1_2] ?_; (with_reducible refine (laws_eqBoolS.calls k _ _ l0_2 _ _ l1_2 true _ ?side1 ?side2 ?side3 ?side4 A7.out).mono ?_); (case side1 => exact kc_ (Kd.C_below HR0_2.out (lb2_ HB.out GE234.out GE235.out))); (case side2 => exact HC0_2.out); (case side3 => exact kc_ (Kd.C_below HR1_2.out (lb2_ HB.out GE234.out GE235.out))); (case side4 => exact HC1_2.out); rintro e w' ⟨rfl, ⟨nd, rfl⟩⟩; refine ⟨_, rfl, ?_⟩))
      go_ret
      exact ⟨rr_, lb2_ HB.out GE234.out GE235.out⟩
     ·
      rw [if_neg c10] at H
      have c10b0 : (a0_4 == a1_4) = false := beq_eq_false_iff_ne.mpr c10
      have c10b1 : (a0_4 != a1_4) = true := bne_iff_ne.mpr c10
      obtain rfl := Option.some.inj H
      go_enter Try.func19, Try.ntmps19
      go_wp2_with (first | ((with_reducible refine gate_dst (N := 2) rfl ?_); refine box_event ?hg (N := 2) ?hd (cs := #[.slice A0_0 l0_0.length c0_0, .slice A0_1 l0_1.length c0_1, .slice A0_2 l0_2.length c0_2, .int .i64 a0_3, .int .i64 a0_4]) (t := 30) ?hr ?_; (case hd => rfl); (case hg => rfl); (case hr => first | (go_simp; done) | (go_simp; rfl)); intro gb234 hg w19 hbox hb; have BK234 := Aside0.mk (hbox); have GW234 := Aside0.mk ((bz_ hg (lb0_ HB.out))); have GE234 := Aside0.mk ((bz_ hg (lb0_ HB.out))); replace HB := Aside0.mk (below_step (lb0_ HB.out) hb); clear hb hbox hg) | ((with_reducible refine gate_dst (N := 3) rfl ?_); refine box_event ?hg (N := 3) ?hd (cs := #[.slice A1_0 l1_0.length c1_0, .slice A1_1 l1_1.length c1_1, .slice A1_2 l1_2.length c1_2, .int .i64 a1_3, .int .i64 a1_4]) (t := 30) ?hr ?_; (case hd => rfl); (case hg => rfl); (case hr => first | (go_simp; done) | (go_simp; rfl)); intro gb235 hg w20 hbox hb; have BK235 := Aside0.mk (hbox); have GW235 := Aside0.mk ((bz_ hg (lb1_ HB.out GE234.out))); have GE235 := Aside0.mk ((bz_ hg (lb1_ HB.out GE234.out))); replace HB := Aside0.mk (below_step (lb1_ HB.out GE234.out) hb); have NB234_235 := Aside0.mk (nl_ hg BK234.out); have NB235_234 := Aside0.mk (ng_ hg BK234.out); replace BK234 := Aside0.mk (bb_ (bk_ BK234.out) hb); clear hb hbox hg; have hnb21 := NB234_235.out; have hnc21 := NB235_234.out; obtain ⟨hcz22_0, hcz22_1, hcz22_2, hcz22_3, hcz22_4⟩ := cz5_ BK234.out; obtain ⟨hfz22_0, hfz22_1, hfz22_2, hfz22_3, hfz22_4⟩ := fz5_ BK234.out; obtain ⟨hcz23_0, hcz23_1, hcz23_2, hcz23_3, hcz23_4⟩ := cz5_ BK235.out; obtain ⟨hfz23_0, hfz23_1, hfz23_2, hfz23_3, hfz23_4⟩ := fz5_ BK235.out) | ((with_reducible refine gate_callee (f := 39) rfl ?_); refine ga_ (some 9) Try.func39 #[.slice A0_0 l0_0.length c0_0, .slice A1_0 l1_0.length c1_0] ?_; (with_reducible refine (laws_eqLegS.calls k _ _ l0_0 _ _ l1_0 true _ ?side1 ?side2 ?side3 ?side4 A3.out).mono ?_); (case side1 => exact kc_ (Kd.C_below HR0_0.out HB.out)); (case side2 => exact HC0_0.out); (case side3 => exact kc_ (Kd.C_below HR1_0.out HB.out)); (case side4 => exact HC1_0.out); rintro e w24 ⟨rfl, hb⟩; refine ⟨_, rfl, ?_⟩; replace BK234 := Aside0.mk (bb_ (bk_ BK234.out) hb); replace BK235 := Aside0.mk (bb_ (bk_ BK235.out) hb); replace HB := Aside0.mk (below_step (lb2_ HB.out GE234.out GE235.out) hb); (try clear hb); (try clear hb2); (try clear hk); (try clear hi); obtain ⟨hcz25_0, hcz25_1, hcz25_2, hcz25_3, hcz25_4⟩ := cz5_ BK234.out; obtain ⟨hfz25_0, hfz25_1, hfz25_2, hfz25_3, hfz25_4⟩ := fz5_ BK234.out; obtain ⟨hcz26_0, hcz26_1, hcz26_2, hcz26_3, hcz26_4⟩ := cz5_ BK235.out; obtain ⟨hfz26_0, hfz26_1, hfz26_2, hfz26_3, hfz26_4⟩ := fz5_ BK235.out) | ((with_reducible refine gate_callee (f := 73) rfl ?_); refine ga_ (some 15) Try.func73 #[.slice A0_1 l0_1.length c0_1, .slice A1_1 l1_1.length c1_1] ?_; (with_reducible refine (laws_eqBoolS.calls k _ _ l0_1 _ _ l1_1 true _ ?side1 ?side2 ?side3 ?side4 A5.out).mono ?_); (case side1 => exact kc_ (Kd.C_below HR0_1.out HB.out)); (case side2 => exact HC0_1.out); (case side3 => exact kc_ (Kd.C_below HR1_1.out HB.out)); (case side4 => exact HC1_1.out); rintro e w' ⟨rfl, ⟨nd, rfl⟩⟩; refine ⟨_, rfl, ?_⟩) | ((with_reducible refine gate_callee (f := 73) rfl ?_); refine ga_ (some 21) Try.func73 #[.slice A0_2 l0_2.length c0_2, .slice A1_2 l1_2.length c1_2] ?_; (with_reducible refine (laws_eqBoolS.calls k _ _ l0_2 _ _ l1_2 true _ ?side1 ?side2 ?side3 ?side4 A7.out).mono ?_); (case side1 => exact kc_ (Kd.C_below HR0_2.out (lb2_ HB.out GE234.out GE235.out))); (case side2 => exact HC0_2.out); (case side3 => exact kc_ (Kd.C_below HR1_2.out (lb2_ HB.out GE234.out GE235.out))); (case side4 => exact HC1_2.out); rintro e w' ⟨rfl, ⟨nd, rfl⟩⟩; refine ⟨_, rfl, ?_⟩))
      go_ret
      exact ⟨rr_, lb2_ HB.out GE234.out GE235.out⟩
    ·
     rw [if_neg c9] at H
     have c9b0 : (a0_3 == a1_3) = false := beq_eq_false_iff_ne.mpr c9
     have c9b1 : (a0_3 != a1_3) = true := bne_iff_ne.mpr c9
     obtain rfl := Option.some.inj H
     go_enter Try.func19, Try.ntmps19
     go_wp2_with (first | ((with_reducible refine gate_dst (N := 2) rfl ?_); refine box_event ?hg (N := 2) ?hd (cs := #[.slice A0_0 l0_0.length c0_0, .slice A0_1 l0_1.length c0_1, .slice A0_2 l0_2.length c0_2, .int .i64 a0_3, .int .i64 a0_4]) (t := 30) ?hr ?_; (case hd => rfl); (case hg => rfl); (case hr => first | (go_simp; done) | (go_simp; rfl)); intro gb234 hg w27 hbox hb; have BK234 := Aside0.mk (hbox); have GW234 := Aside0.mk ((bz_ hg (lb0_ HB.out))); have GE234 := Aside0.mk ((bz_ hg (lb0_ HB.out))); replace HB := Aside0.mk (below_step (lb0_ HB.out) hb); clear hb hbox hg) | ((with_reducible refine gate_dst (N := 3) rfl ?_); refine box_event ?hg (N := 3) ?hd (cs := #[.slice A1_0 l1_0.length c1_0, .slice A1_1 l1_1.length c1_1, .slice A1_2 l1_2.length c1_2, .int .i64 a1_3, .int .i64 a1_4]) (t := 30) ?hr ?_; (case hd => rfl); (case hg => rfl); (case hr => first | (go_simp; done) | (go_simp; rfl)); intro gb235 hg w28 hbox hb; have BK235 := Aside0.mk (hbox); have GW235 := Aside0.mk ((bz_ hg (lb1_ HB.out GE234.out))); have GE235 := Aside0.mk ((bz_ hg (lb1_ HB.out GE234.out))); replace HB := Aside0.mk (below_step (lb1_ HB.out GE234.out) hb); have NB234_235 := Aside0.mk (nl_ hg BK234.out); have NB235_234 := Aside0.mk (ng_ hg BK234.out); replace BK234 := Aside0.mk (bb_ (bk_ BK234.out) hb); clear hb hbox hg; have hnb29 := NB234_235.out; have hnc29 := NB235_234.out; obtain ⟨hcz30_0, hcz30_1, hcz30_2, hcz30_3, hcz30_4⟩ := cz5_ BK234.out; obtain ⟨hfz30_0, hfz30_1, hfz30_2, hfz30_3, hfz30_4⟩ := fz5_ BK234.out; obtain ⟨hcz31_0, hcz31_1, hcz31_2, hcz31_3, hcz31_4⟩ := cz5_ BK235.out; obtain ⟨hfz31_0, hfz31_1, hfz31_2, hfz31_3, hfz31_4⟩ := fz5_ BK235.out) | ((with_reducible refine gate_callee (f := 39) rfl ?_); refine ga_ (some 9) Try.func39 #[.slice A0_0 l0_0.length c0_0, .slice A1_0 l1_0.length c1_0] ?_; (with_reducible refine (laws_eqLegS.calls k _ _ l0_0 _ _ l1_0 true _ ?side1 ?side2 ?side3 ?side4 A3.out).mono ?_); (case side1 => exact kc_ (Kd.C_below HR0_0.out HB.out)); (case side2 => exact HC0_0.out); (case side3 => exact kc_ (Kd.C_below HR1_0.out HB.out)); (case side4 => exact HC1_0.out); rintro e w32 ⟨rfl, hb⟩; refine ⟨_, rfl, ?_⟩; replace BK234 := Aside0.mk (bb_ (bk_ BK234.out) hb); replace BK235 := Aside0.mk (bb_ (bk_ BK235.out) hb); replace HB := Aside0.mk (below_step (lb2_ HB.out GE234.out GE235.out) hb); (try clear hb); (try clear hb2); (try clear hk); (try clear hi); obtain ⟨hcz33_0, hcz33_1, hcz33_2, hcz33_3, hcz33_4⟩ := cz5_ BK234.out; obtain ⟨hfz33_0, hfz33_1, hfz33_2, hfz33_3, hfz33_4⟩ := fz5_ BK234.out; obtain ⟨hcz34_0, hcz34_1, hcz34_2, hcz34_3, hcz34_4⟩ := cz5_ BK235.out; obtain ⟨hfz34_0, hfz34_1, hfz34_2, hfz34_3, hfz34_4⟩ := fz5_ BK235.out) | ((with_reducible refine gate_callee (f := 73) rfl ?_); refine ga_ (some 15) Try.func73 #[.slice A0_1 l0_1.length c0_1, .slice A1_1 l1_1.length c1_1] ?_; (with_reducible refine (laws_eqBoolS.calls k _ _ l0_1 _ _ l1_1 true _ ?side1 ?side2 ?side3 ?side4 A5.out).mono ?_); (case side1 => exact kc_ (Kd.C_below HR0_1.out HB.out)); (case side2 => exact HC0_1.out); (case side3 => exact kc_ (Kd.C_below HR1_1.out HB.out)); (case side4 => exact HC1_1.out); rintro e w' ⟨rfl, ⟨nd, rfl⟩⟩; refine ⟨_, rfl, ?_⟩) | ((with_reducible refine gate_callee (f := 73) rfl ?_); refine ga_ (some 21) Try.func73 #[.slice A0_2 l0_2.length c0_2, .slice A1_2 l1_2.length c1_2] ?_; (with_reducible refine (laws_eqBoolS.calls k _ _ l0_2 _ _ l1_2 true _ ?side1 ?side2 ?side3 ?side4 A7.out).mono ?_); (case side1 => exact kc_ (Kd.C_below HR0_2.out (lb2_ HB.out GE234.out GE235.out))); (case side2 => exact HC0_2.out); (case side3 => exact kc_ (Kd.C_below HR1_2.out (lb2_ HB.out GE234.out GE235.out))); (case side4 => exact HC1_2.out); rintro e w' ⟨rfl, ⟨nd, rfl⟩⟩; refine ⟨_, rfl, ?_⟩))
     go_ret
     exact ⟨rr_, lb2_ HB.out GE234.out GE235.out⟩
   ·
    replace c8 := Bool.eq_false_iff.mpr c8
    subst c8
    have H1 : (some false) = some r := by rw [if_neg (show ¬ (false = true) by decide)] at H; exact H
    clear H
    have H := H1
    clear H1
    obtain rfl := Option.some.inj H
    go_enter Try.func19, Try.ntmps19
    go_wp2_with (first | ((with_reducible refine gate_dst (N := 2) rfl ?_); refine box_event ?hg (N := 2) ?hd (cs := #[.slice A0_0 l0_0.length c0_0, .slice A0_1 l0_1.length c0_1, .slice A0_2 l0_2.length c0_2, .int .i64 a0_3, .int .i64 a0_4]) (t := 30) ?hr ?_; (case hd => rfl); (case hg => rfl); (case hr => first | (go_simp; done) | (go_simp; rfl)); intro gb234 hg w35 hbox hb; have BK234 := Aside0.mk (hbox); have GW234 := Aside0.mk ((bz_ hg (lb0_ HB.out))); have GE234 := Aside0.mk ((bz_ hg (lb0_ HB.out))); replace HB := Aside0.mk (below_step (lb0_ HB.out) hb); clear hb hbox hg) | ((with_reducible refine gate_dst (N := 3) rfl ?_); refine box_event ?hg (N := 3) ?hd (cs := #[.slice A1_0 l1_0.length c1_0, .slice A1_1 l1_1.length c1_1, .slice A1_2 l1_2.length c1_2, .int .i64 a1_3, .int .i64 a1_4]) (t := 30) ?hr ?_; (case hd => rfl); (case hg => rfl); (case hr => first | (go_simp; done) | (go_simp; rfl)); intro gb235 hg w36 hbox hb; have BK235 := Aside0.mk (hbox); have GW235 := Aside0.mk ((bz_ hg (lb1_ HB.out GE234.out))); have GE235 := Aside0.mk ((bz_ hg (lb1_ HB.out GE234.out))); replace HB := Aside0.mk (below_step (lb1_ HB.out GE234.out) hb); have NB234_235 := Aside0.mk (nl_ hg BK234.out); have NB235_234 := Aside0.mk (ng_ hg BK234.out); replace BK234 := Aside0.mk (bb_ (bk_ BK234.out) hb); clear hb hbox hg; have hnb37 := NB234_235.out; have hnc37 := NB235_234.out; obtain ⟨hcz38_0, hcz38_1, hcz38_2, hcz38_3, hcz38_4⟩ := cz5_ BK234.out; obtain ⟨hfz38_0, hfz38_1, hfz38_2, hfz38_3, hfz38_4⟩ := fz5_ BK234.out; obtain ⟨hcz39_0, hcz39_1, hcz39_2, hcz39_3, hcz39_4⟩ := cz5_ BK235.out; obtain ⟨hfz39_0, hfz39_1, hfz39_2, hfz39_3, hfz39_4⟩ := fz5_ BK235.out) | ((with_reducible refine gate_callee (f := 39) rfl ?_); refine ga_ (some 9) Try.func39 #[.slice A0_0 l0_0.length c0_0, .slice A1_0 l1_0.length c1_0] ?_; (with_reducible refine (laws_eqLegS.calls k _ _ l0_0 _ _ l1_0 true _ ?side1 ?side2 ?side3 ?side4 A3.out).mono ?_); (case side1 => exact kc_ (Kd.C_below HR0_0.out HB.out)); (case side2 => exact HC0_0.out); (case side3 => exact kc_ (Kd.C_below HR1_0.out HB.out)); (case side4 => exact HC1_0.out); rintro e w40 ⟨rfl, hb⟩; refine ⟨_, rfl, ?_⟩; replace BK234 := Aside0.mk (bb_ (bk_ BK234.out) hb); replace BK235 := Aside0.mk (bb_ (bk_ BK235.out) hb); replace HB := Aside0.mk (below_step (lb2_ HB.out GE234.out GE235.out) hb); (try clear hb); (try clear hb2); (try clear hk); (try clear hi); obtain ⟨hcz41_0, hcz41_1, hcz41_2, hcz41_3, hcz41_4⟩ := cz5_ BK234.out; obtain ⟨hfz41_0, hfz41_1, hfz41_2, hfz41_3, hfz41_4⟩ := fz5_ BK234.out; obtain ⟨hcz42_0, hcz42_1, hcz42_2, hcz42_3, hcz42_4⟩ := cz5_ BK235.out; obtain ⟨hfz42_0, hfz42_1, hfz42_2, hfz42_3, hfz42_4⟩ := fz5_ BK235.out) | ((with_reducible refine gate_callee (f := 73) rfl ?_); refine ga_ (some 15) Try.func73 #[.slice A0_1 l0_1.length c0_1, .slice A1_1 l1_1.length c1_1] ?_; (with_reducible refine (laws_eqBoolS.calls k _ _ l0_1 _ _ l1_1 true _ ?side1 ?side2 ?side3 ?side4 A5.out).mono ?_); (case side1 => exact kc_ (Kd.C_below HR0_1.out HB.out)); (case side2 => exact HC0_1.out); (case side3 => exact kc_ (Kd.C_below HR1_1.out HB.out)); (case side4 => exact HC1_1.out); rintro e w' ⟨rfl, ⟨nd, rfl⟩⟩; refine ⟨_, rfl, ?_⟩) | ((with_reducible refine gate_callee (f := 73) rfl ?_); refine ga_ (some 21) Try.func73 #[.slice A0_2 l0_2.length c0_2, .slice A1_2 l1_2.length c1_2] ?_; (with_reducible refine (laws_eqBoolS.calls k _ _ l0_2 _ _ l1_2 false _ ?side1 ?side2 ?side3 ?side4 A7.out).mono ?_); (case side1 => exact kc_ (Kd.C_below HR0_2.out (lb2_ HB.out GE234.out GE235.out))); (case side2 => exact HC0_2.out); (case side3 => exact kc_ (Kd.C_below HR1_2.out (lb2_ HB.out GE234.out GE235.out))); (case side4 => exact HC1_2.out); rintro e w' ⟨rfl, ⟨nd, rfl⟩⟩; refine ⟨_, rfl, ?_⟩))
    go_ret
    exact ⟨rr_, lb2_ HB.out GE234.out GE235.out⟩
  ·
   replace c6 := Bool.eq_false_iff.mpr c6
   subst c6
   have H1 : (some false) = some r := by rw [if_neg (show ¬ (false = true) by decide)] at H; exact H
   clear H
   have H := H1
   clear H1
   obtain rfl := Option.some.inj H
   go_enter Try.func19, Try.ntmps19
   go_wp2_with (first | ((with_reducible refine gate_dst (N := 2) rfl ?_); refine box_event ?hg (N := 2) ?hd (cs := #[.slice A0_0 l0_0.length c0_0, .slice A0_1 l0_1.length c0_1, .slice A0_2 l0_2.length c0_2, .int .i64 a0_3, .int .i64 a0_4]) (t := 30) ?hr ?_; (case hd => rfl); (case hg => rfl); (case hr => first | (go_simp; done) | (go_simp; rfl)); intro gb234 hg w43 hbox hb; have BK234 := Aside0.mk (hbox); have GW234 := Aside0.mk ((bz_ hg (lb0_ HB.out))); have GE234 := Aside0.mk ((bz_ hg (lb0_ HB.out))); replace HB := Aside0.mk (below_step (lb0_ HB.out) hb); clear hb hbox hg) | ((with_reducible refine gate_dst (N := 3) rfl ?_); refine box_event ?hg (N := 3) ?hd (cs := #[.slice A1_0 l1_0.length c1_0, .slice A1_1 l1_1.length c1_1, .slice A1_2 l1_2.length c1_2, .int .i64 a1_3, .int .i64 a1_4]) (t := 30) ?hr ?_; (case hd => rfl); (case hg => rfl); (case hr => first | (go_simp; done) | (go_simp; rfl)); intro gb235 hg w44 hbox hb; have BK235 := Aside0.mk (hbox); have GW235 := Aside0.mk ((bz_ hg (lb1_ HB.out GE234.out))); have GE235 := Aside0.mk ((bz_ hg (lb1_ HB.out GE234.out))); replace HB := Aside0.mk (below_step (lb1_ HB.out GE234.out) hb); have NB234_235 := Aside0.mk (nl_ hg BK234.out); have NB235_234 := Aside0.mk (ng_ hg BK234.out); replace BK234 := Aside0.mk (bb_ (bk_ BK234.out) hb); clear hb hbox hg; have hnb45 := NB234_235.out; have hnc45 := NB235_234.out; obtain ⟨hcz46_0, hcz46_1, hcz46_2, hcz46_3, hcz46_4⟩ := cz5_ BK234.out; obtain ⟨hfz46_0, hfz46_1, hfz46_2, hfz46_3, hfz46_4⟩ := fz5_ BK234.out; obtain ⟨hcz47_0, hcz47_1, hcz47_2, hcz47_3, hcz47_4⟩ := cz5_ BK235.out; obtain ⟨hfz47_0, hfz47_1, hfz47_2, hfz47_3, hfz47_4⟩ := fz5_ BK235.out) | ((with_reducible refine gate_callee (f := 39) rfl ?_); refine ga_ (some 9) Try.func39 #[.slice A0_0 l0_0.length c0_0, .slice A1_0 l1_0.length c1_0] ?_; (with_reducible refine (laws_eqLegS.calls k _ _ l0_0 _ _ l1_0 true _ ?side1 ?side2 ?side3 ?side4 A3.out).mono ?_); (case side1 => exact kc_ (Kd.C_below HR0_0.out HB.out)); (case side2 => exact HC0_0.out); (case side3 => exact kc_ (Kd.C_below HR1_0.out HB.out)); (case side4 => exact HC1_0.out); rintro e w48 ⟨rfl, hb⟩; refine ⟨_, rfl, ?_⟩; replace BK234 := Aside0.mk (bb_ (bk_ BK234.out) hb); replace BK235 := Aside0.mk (bb_ (bk_ BK235.out) hb); replace HB := Aside0.mk (below_step (lb2_ HB.out GE234.out GE235.out) hb); (try clear hb); (try clear hb2); (try clear hk); (try clear hi); obtain ⟨hcz49_0, hcz49_1, hcz49_2, hcz49_3, hcz49_4⟩ := cz5_ BK234.out; obtain ⟨hfz49_0, hfz49_1, hfz49_2, hfz49_3, hfz49_4⟩ := fz5_ BK234.out; obtain ⟨hcz50_0, hcz50_1, hcz50_2, hcz50_3, hcz50_4⟩ := cz5_ BK235.out; obtain ⟨hfz50_0, hfz50_1, hfz50_2, hfz50_3, hfz50_4⟩ := fz5_ BK235.out) | ((with_reducible refine gate_callee (f := 73) rfl ?_); refine ga_ (some 15) Try.func73 #[.slice A0_1 l0_1.length c0_1, .slice A1_1 l1_1.length c1_1] ?_; (with_reducible refine (laws_eqBoolS.calls k _ _ l0_1 _ _ l1_1 false _ ?side1 ?side2 ?side3 ?side4 A5.out).mono ?_); (case side1 => exact kc_ (Kd.C_below HR0_1.out HB.out)); (case side2 => exact HC0_1.out); (case side3 => exact kc_ (Kd.C_below HR1_1.out HB.out)); (case side4 => exact HC1_1.out); rintro e w' ⟨rfl, ⟨nd, rfl⟩⟩; refine ⟨_, rfl, ?_⟩))
   go_ret
   exact ⟨rr_, lb2_ HB.out GE234.out GE235.out⟩
 ·
  replace c4 := Bool.eq_false_iff.mpr c4
  subst c4
  have H1 : (some false) = some r := by rw [if_neg (show ¬ (false = true) by decide)] at H; exact H
  clear H
  have H := H1
  clear H1
  obtain rfl := Option.some.inj H
  go_enter Try.func19, Try.ntmps19
  go_wp2_with (first | ((with_reducible refine gate_dst (N := 2) rfl ?_); refine box_event ?hg (N := 2) ?hd (cs := #[.slice A0_0 l0_0.length c0_0, .slice A0_1 l0_1.length c0_1, .slice A0_2 l0_2.length c0_2, .int .i64 a0_3, .int .i64 a0_4]) (t := 30) ?hr ?_; (case hd => rfl); (case hg => rfl); (case hr => first | (go_simp; done) | (go_simp; rfl)); intro gb234 hg w51 hbox hb; have BK234 := Aside0.mk (hbox); have GW234 := Aside0.mk ((bz_ hg (lb0_ HB.out))); have GE234 := Aside0.mk ((bz_ hg (lb0_ HB.out))); replace HB := Aside0.mk (below_step (lb0_ HB.out) hb); clear hb hbox hg) | ((with_reducible refine gate_dst (N := 3) rfl ?_); refine box_event ?hg (N := 3) ?hd (cs := #[.slice A1_0 l1_0.length c1_0, .slice A1_1 l1_1.length c1_1, .slice A1_2 l1_2.length c1_2, .int .i64 a1_3, .int .i64 a1_4]) (t := 30) ?hr ?_; (case hd => rfl); (case hg => rfl); (case hr => first | (go_simp; done) | (go_simp; rfl)); intro gb235 hg w52 hbox hb; have BK235 := Aside0.mk (hbox); have GW235 := Aside0.mk ((bz_ hg (lb1_ HB.out GE234.out))); have GE235 := Aside0.mk ((bz_ hg (lb1_ HB.out GE234.out))); replace HB := Aside0.mk (below_step (lb1_ HB.out GE234.out) hb); have NB234_235 := Aside0.mk (nl_ hg BK234.out); have NB235_234 := Aside0.mk (ng_ hg BK234.out); replace BK234 := Aside0.mk (bb_ (bk_ BK234.out) hb); clear hb hbox hg; have hnb53 := NB234_235.out; have hnc53 := NB235_234.out; obtain ⟨hcz54_0, hcz54_1, hcz54_2, hcz54_3, hcz54_4⟩ := cz5_ BK234.out; obtain ⟨hfz54_0, hfz54_1, hfz54_2, hfz54_3, hfz54_4⟩ := fz5_ BK234.out; obtain ⟨hcz55_0, hcz55_1, hcz55_2, hcz55_3, hcz55_4⟩ := cz5_ BK235.out; obtain ⟨hfz55_0, hfz55_1, hfz55_2, hfz55_3, hfz55_4⟩ := fz5_ BK235.out) | ((with_reducible refine gate_callee (f := 39) rfl ?_); refine ga_ (some 9) Try.func39 #[.slice A0_0 l0_0.length c0_0, .slice A1_0 l1_0.length c1_0] ?_; (with_reducible refine (laws_eqLegS.calls k _ _ l0_0 _ _ l1_0 false _ ?side1 ?side2 ?side3 ?side4 A3.out).mono ?_); (case side1 => exact kc_ (Kd.C_below HR0_0.out HB.out)); (case side2 => exact HC0_0.out); (case side3 => exact kc_ (Kd.C_below HR1_0.out HB.out)); (case side4 => exact HC1_0.out); rintro e w56 ⟨rfl, hb⟩; refine ⟨_, rfl, ?_⟩; replace BK234 := Aside0.mk (bb_ (bk_ BK234.out) hb); replace BK235 := Aside0.mk (bb_ (bk_ BK235.out) hb); replace HB := Aside0.mk (below_step (lb2_ HB.out GE234.out GE235.out) hb); (try clear hb); (try clear hb2); (try clear hk); (try clear hi)))
  go_ret
  exact ⟨rr_, lb2_ HB.out GE234.out GE235.out⟩
theorem own_block_ {α : Type} {d : Kd α} {e base : Nat} {ok : Nat → Prop} {w : World} {v : Value} {xs : List α} (h : d.R e w base ok v xs) (hn : 0 < xs.length) : ∃ gv cap, v = .slice (some ⟨gv, 0, none⟩) xs.length cap ∧ base ≤ gv ∧ xs.length ≤ cap ∧ v.ownBlock = some gv := by
 obtain ⟨inner, ho⟩ := Kd.R_own h
 rcases ho.2 with ⟨_, h0⟩ | ⟨gv, cap, cur, rfl, hb, _, hc, _⟩
 ·
  omega
 ·
  exact ⟨gv, cap, rfl, hb, hc, rfl⟩
theorem own_ne_ {α : Type} {d : Kd α} {e base : Nat} {ok : Nat → Prop} {w : World} {v : Value} {xs : List α} (h : d.R e w base ok v xs) (hE : d.E = []) {g t : Nat} {cs : Array Value} (hb : w.heap[g]? = some (.cells cs t (0, 0))) (ht : e ≠ t) : d.R e w base (fun k => ok k ∧ k ≠ g) v xs := by
 refine Kd.R_mono (Kd.R_bound h) (fun k hk => ⟨hk.1, fun he => ?_⟩)
 obtain ⟨q, hq, cells, hc⟩ := hk.2.2.2
 subst he
 rw [hE, List.mem_singleton] at hq
 subst hq
 rw [hb] at hc
 injection hc with hc
 injection hc with _ hc
 exact ht hc.symm
structure ExS (w : World) (base g : Nat) (vL vV vD : Value) (L : List S37) (V D : List Bool) (p t : Int) : Prop where
 blk : w.heap[g]? = some (.cells #[vL, vV, vD, .int .i64 p, .int .i64 t] 30 (0, 0))
 gb : base ≤ g
 rL : Kd.R k37 37 w base (fun _ => True) vL L
 rV : Kd.R Kd.bool 4 w base (fun k => some k ≠ vD.ownBlock) vV V
 rD : Kd.R Kd.bool 4 w base (fun k => some k ≠ vV.ownBlock) vD D
namespace ExS
variable {w w1 : World} {base g : Nat} {vL vV vD : Value} {L : List S37} {V D : List Bool} {p t : Int}
theorem below (h : ExS w base g vL vV vD L V D p t) (hb : Below w.heap.size w w1) : ExS w1 base g vL vV vD L V D p t :=
 ⟨blk_below h.blk hb, h.gb, Kd.R_below h.rL hb, Kd.R_below h.rV hb, Kd.R_below h.rD hb⟩
theorem keep (h : ExS w base g vL vV vD L V D p t) (hk : KeepBut w w1 g none) {p' t' : Int} (hb : w1.heap[g]? = some (.cells #[vL, vV, vD, .int .i64 p', .int .i64 t'] 30 (0, 0))) : ExS w1 base g vL vV vD L V D p' t' :=
 ⟨hb, h.gb, Kd.R_mono (Kd.R_keep (own_ne_ h.rL rfl h.blk (by decide)) hk (fun _ hk => hk.2)) (fun _ hk => hk.1), Kd.R_mono (Kd.R_keep (own_ne_ h.rV rfl h.blk (by decide)) hk (fun _ hk => hk.2)) (fun _ hk => hk.1), Kd.R_mono (Kd.R_keep (own_ne_ h.rD rfl h.blk (by decide)) hk (fun _ hk => hk.2)) (fun _ hk => hk.1)⟩
theorem put3 (h : ExS w base g vL vV vD L V D p t) (p' : Int) : ExS (w.setCell ⟨g, 3, none⟩ (.int .i64 p')) base g vL vV vD L V D p' t :=
 h.keep (KeepBut.set_ (KeepBut.refl _ _ _) 3 _) (blk_put h.blk 3 _ rfl)
theorem put4 (h : ExS w base g vL vV vD L V D p t) (t' : Int) : ExS (w.setCell ⟨g, 4, none⟩ (.int .i64 t')) base g vL vV vD L V D p t' :=
 h.keep (KeepBut.set_ (KeepBut.refl _ _ _) 4 _) (blk_put h.blk 4 _ rfl)
theorem putV {gv cap : Nat} (h : ExS w base g vL (.slice (some ⟨gv, 0, none⟩) V.length cap) vD L V D p t) (i : Int) (x : Bool) : ExS (w.setCell ⟨gv, i.toNat, none⟩ (.bool x)) base g vL (.slice (some ⟨gv, 0, none⟩) V.length cap) vD L (V.set i.toNat x) D p t := by
 obtain ⟨h1, h2⟩ := Kd.R_putg (enc := Value.bool) h.rV i x
 have hne := h.rV.1 gv rfl
 have hg : gv ≠ g := ((own_ne_ h.rV rfl h.blk (by decide)).1 gv rfl).2
 refine ⟨blk_far h.blk (p := ⟨gv, i.toNat, none⟩) (fun e => hg e.symm) _, h.gb, ?_, h1, ?_⟩
 ·
  exact Kd.R_grown2 h.rL rfl h2 (fun k hk he => by
   injection hk with hk
   subst hk
   obtain ⟨q, hq, cells, hc⟩ := ((Kd.R_bound h.rL).1 gv he.symm).2.2.2
   obtain ⟨q', hq', cells', hc'⟩ := ((Kd.R_bound h.rV).1 gv rfl).2.2.2
   rw [hc] at hc'
   rw [show (k37).E = [] from rfl, List.mem_singleton] at hq
   rw [show (Kd.bool).E = [] from rfl, List.mem_singleton] at hq'
   injection hc' with hc'
   injection hc' with _ hc'
   rw [hq, hq'] at hc'
   exact absurd hc' (by decide))
 ·
  exact Kd.R_grown h.rD h2 (fun k hk => hk)
theorem putD {gv cap : Nat} (h : ExS w base g vL vV (.slice (some ⟨gv, 0, none⟩) D.length cap) L V D p t) (i : Int) (x : Bool) : ExS (w.setCell ⟨gv, i.toNat, none⟩ (.bool x)) base g vL vV (.slice (some ⟨gv, 0, none⟩) D.length cap) L V (D.set i.toNat x) p t := by
 obtain ⟨h1, h2⟩ := Kd.R_putg (enc := Value.bool) h.rD i x
 have hg : gv ≠ g := ((own_ne_ h.rD rfl h.blk (by decide)).1 gv rfl).2
 refine ⟨blk_far h.blk (p := ⟨gv, i.toNat, none⟩) (fun e => hg e.symm) _, h.gb, ?_, ?_, h1⟩
 ·
  exact Kd.R_grown2 h.rL rfl h2 (fun k hk he => by
   injection hk with hk
   subst hk
   obtain ⟨q, hq, cells, hc⟩ := ((Kd.R_bound h.rL).1 gv he.symm).2.2.2
   obtain ⟨q', hq', cells', hc'⟩ := ((Kd.R_bound h.rD).1 gv rfl).2.2.2
   rw [hc] at hc'
   rw [show (k37).E = [] from rfl, List.mem_singleton] at hq
   rw [show (Kd.bool).E = [] from rfl, List.mem_singleton] at hq'
   injection hc' with hc'
   injection hc' with _ hc'
   rw [hq, hq'] at hc'
   exact absurd hc' (by decide))
 ·
  exact Kd.R_grown h.rV h2 (fun k hk => hk)
end ExS
end Go.Proofs.Ythmjimboajmhmaa.Pr

namespace Go.Proofs.Ythmjimboajmhmaa.Pr
open Go.RowKit Go.Proofs.YthmjimboajmhmaaW.PrintWords Go.Proofs.YthmjimboajmhmaaW.PrintLast Go.Proofs.YthmjimboajmhmaaW.PrintMore
attribute [local go_sem] max2_int min2_int max_two min_two max_three min_three max_four min_four   -- for this text's walks alone
set_option linter.unusedVariables false
set_option linter.unusedSimpArgs false
def impl_within.f (a0 : Int) (a1 : Int) (a2 : Int) : Option (Bool) := if a0 ≥ a1 then (some (decide (a0 ≤ a2))) else (some false)
theorem impl_within.calls (a0 : Int) (a1 : Int) (a2 : Int) (r : Bool) (w : World) (h : impl_within.f a0 a1 a2 = some r) :
  Calls Try.prog 71 #[.int .i64 a0, .int .i64 a1, .int .i64 a2] w fun e w' => e = .returned (.bool r) ∧ Drawn0 w w' := by
 have H : (if a0 ≥ a1 then (some (decide (a0 ≤ a2))) else (some false)) = some r := h
 clear h
 by_cases c4 : a0 ≥ a1
 ·
  rw [if_pos c4] at H
  have c4b0 : decide (a1 ≤ a0) = true := decide_eq_true c4
  clear c4
  obtain rfl := Option.some.inj H
  go_enter Try.func71, Try.ntmps71
  go_wp2
  go_ret
  exact ⟨by first | rfl | (simp; done) | (simp [*]; done), by repeat (first | exact Drawn0.refl _ | apply Drawn0.step)⟩
 ·
  rw [if_neg c4] at H
  have c4b0 : decide (a1 ≤ a0) = false := decide_eq_false c4
  clear c4
  obtain rfl := Option.some.inj H
  go_enter Try.func71, Try.ntmps71
  go_wp2
  go_ret
  exact ⟨by first | rfl | (simp; done) | (simp [*]; done), by repeat (first | exact Drawn0.refl _ | apply Drawn0.step)⟩
def impl_isStation.f (a0 : Int) : Option (Bool) := (impl_within.f a0 0 7).bind fun t186 => (some t186)
theorem impl_isStation.calls (a0 : Int) (r : Bool) (w : World) (h : impl_isStation.f a0 = some r) :
  Calls Try.prog 70 #[.int .i64 a0] w fun e w' => e = .returned (.bool r) ∧ Drawn0 w w' := by
 have H : ((impl_within.f a0 0 7).bind fun t186 => (some t186)) = some r := h
 clear h
 replace H := Option.bind_eq_some_iff.mp H
 obtain ⟨t186, A20, H⟩ := H
 replace H : (some t186) = some r := H
 have A2 := Aside0.mk A20
 clear A20
 obtain rfl := Option.some.inj H
 go_enter Try.func70, Try.ntmps70
 go_wp2_with (first | ((with_reducible refine gate_callee (f := 71) rfl ?_); refine ga_ (some 4) Try.func71 #[.int .i64 a0, .int .i64 0, .int .i64 7] ?_; (with_reducible refine (impl_within.calls a0 0 7 t186 _ A2.out).mono ?_); rintro e w' ⟨rfl, ⟨nd, rfl⟩⟩; refine ⟨_, rfl, ?_⟩))
 go_ret
 exact ⟨by first | rfl | (simp; done) | (simp [*]; done), by repeat (first | exact Drawn0.refl _ | apply Drawn0.step)⟩
def impl_isBearing.f (a0 : Int) : Option (Bool) := (impl_within.f a0 0 359).bind fun t187 => (some t187)
theorem impl_isBearing.calls (a0 : Int) (r : Bool) (w : World) (h : impl_isBearing.f a0 = some r) :
  Calls Try.prog 117 #[.int .i64 a0] w fun e w' => e = .returned (.bool r) ∧ Drawn0 w w' := by
 have H : ((impl_within.f a0 0 359).bind fun t187 => (some t187)) = some r := h
 clear h
 replace H := Option.bind_eq_some_iff.mp H
 obtain ⟨t187, A20, H⟩ := H
 replace H : (some t187) = some r := H
 have A2 := Aside0.mk A20
 clear A20
 obtain rfl := Option.some.inj H
 go_enter Try.func117, Try.ntmps117
 go_wp2_with (first | ((with_reducible refine gate_callee (f := 71) rfl ?_); refine ga_ (some 4) Try.func71 #[.int .i64 a0, .int .i64 0, .int .i64 359] ?_; (with_reducible refine (impl_within.calls a0 0 359 t187 _ A2.out).mono ?_); rintro e w' ⟨rfl, ⟨nd, rfl⟩⟩; refine ⟨_, rfl, ?_⟩))
 go_ret
 exact ⟨by first | rfl | (simp; done) | (simp [*]; done), by repeat (first | exact Drawn0.refl _ | apply Drawn0.step)⟩
def impl_IsLeg.f (a0_0 : Int) (a0_1 : Int) (a0_2 : Int) (a0_3 : Int) (a0_4 : Int) : Option (Bool) := (impl_isStation.f a0_0).bind fun t189 => (if t189 = true then ((impl_isStation.f a0_1).bind fun t190 => (if t190 = true then (if a0_0 = a0_1 then (some false) else ((impl_within.f a0_2 1 500).bind fun t191 => (if t191 = true then ((impl_isBearing.f a0_3).bind fun t192 => (if t192 = true then ((impl_within.f a0_4 (-90) 90).bind fun t193 => (some t193)) else (some false))) else (some false)))) else (some false))) else (some false))
theorem impl_IsLeg.calls (a0_0 : Int) (a0_1 : Int) (a0_2 : Int) (a0_3 : Int) (a0_4 : Int) (r : Bool) (w : World) (h : impl_IsLeg.f a0_0 a0_1 a0_2 a0_3 a0_4 = some r) :
  Calls Try.prog 102 #[.agg #[.int .i64 a0_0, .int .i64 a0_1, .int .i64 a0_2, .int .i64 a0_3, .int .i64 a0_4]] w fun e w' => e = .returned (.bool r) ∧ Below w.heap.size w w' := by
 have hu37 := Try.underlying37
 have HB := Aside0.mk (Below.refl w.heap.size w)
 have H : ((impl_isStation.f a0_0).bind fun t189 => (if t189 = true then ((impl_isStation.f a0_1).bind fun t190 => (if t190 = true then (if a0_0 = a0_1 then (some false) else ((impl_within.f a0_2 1 500).bind fun t191 => (if t191 = true then ((impl_isBearing.f a0_3).bind fun t192 => (if t192 = true then ((impl_within.f a0_4 (-90) 90).bind fun t193 => (some t193)) else (some false))) else (some false)))) else (some false))) else (some false))) = some r := h
 clear h
 replace H := Option.bind_eq_some_iff.mp H
 obtain ⟨t189, A20, H⟩ := H
 replace H : (if t189 = true then ((impl_isStation.f a0_1).bind fun t190 => (if t190 = true then (if a0_0 = a0_1 then (some false) else ((impl_within.f a0_2 1 500).bind fun t191 => (if t191 = true then ((impl_isBearing.f a0_3).bind fun t192 => (if t192 = true then ((impl_within.f a0_4 (-90) 90).bind fun t193 => (some t193)) else (some false))) else (some false)))) else (some false))) else (some false)) = some r := H
 have A2 := Aside0.mk A20
 clear A20
 by_cases c3 : t189 = true
 ·
  subst c3
  have H1 : ((impl_isStation.f a0_1).bind fun t190 => (if t190 = true then (if a0_0 = a0_1 then (some false) else ((impl_within.f a0_2 1 500).bind fun t191 => (if t191 = true then ((impl_isBearing.f a0_3).bind fun t192 => (if t192 = true then ((impl_within.f a0_4 (-90) 90).bind fun t193 => (some t193)) else (some false))) else (some false)))) else (some false))) = some r := by rw [if_pos rfl] at H; exact H
  clear H
  have H := H1
  clear H1
  replace H := Option.bind_eq_some_iff.mp H
  obtain ⟨t190, A40, H⟩ := H
  replace H : (if t190 = true then (if a0_0 = a0_1 then (some false) else ((impl_within.f a0_2 1 500).bind fun t191 => (if t191 = true then ((impl_isBearing.f a0_3).bind fun t192 => (if t192 = true then ((impl_within.f a0_4 (-90) 90).bind fun t193 => (some t193)) else (some false))) else (some false)))) else (some false)) = some r := H
  have A4 := Aside0.mk A40
  clear A40
  by_cases c5 : t190 = true
  ·
   subst c5
   have H1 : (if a0_0 = a0_1 then (some false) else ((impl_within.f a0_2 1 500).bind fun t191 => (if t191 = true then ((impl_isBearing.f a0_3).bind fun t192 => (if t192 = true then ((impl_within.f a0_4 (-90) 90).bind fun t193 => (some t193)) else (some false))) else (some false)))) = some r := by rw [if_pos rfl] at H; exact H
   clear H
   have H := H1
   clear H1
   by_cases c6 : a0_0 = a0_1
   ·
    rw [if_pos c6] at H
    have c6b0 : (a0_0 == a0_1) = true := beq_iff_eq.mpr c6
    have c6b1 : (a0_0 != a0_1) = false := bne_eq_false_iff_eq.mpr c6
    clear c6
    obtain rfl := Option.some.inj H
    go_enter Try.func102, Try.ntmps102
    go_wp2_with (first | ((with_reducible refine gate_dst (N := 1) rfl ?_); refine box_event ?hg (N := 1) ?hd (cs := #[.int .i64 a0_0, .int .i64 a0_1, .int .i64 a0_2, .int .i64 a0_3, .int .i64 a0_4]) (t := 37) ?hr ?_; (case hd => rfl); (case hg => rfl); (case hr => first | (go_simp; done) | (go_simp; rfl)); intro gb188 hg w7 hbox hb; have BK188 := Aside0.mk (hbox); have GW188 := Aside0.mk ((bz_ hg (lb0_ HB.out))); have GE188 := Aside0.mk ((bz_ hg (lb0_ HB.out))); replace HB := Aside0.mk (below_step (lb0_ HB.out) hb); clear hb hbox hg; obtain ⟨hcz8_0, hcz8_1, hcz8_2, hcz8_3, hcz8_4⟩ := cz5_ BK188.out; obtain ⟨hfz8_0, hfz8_1, hfz8_2, hfz8_3, hfz8_4⟩ := fz5_ BK188.out) | ((with_reducible refine gate_callee (f := 70) rfl ?_); refine ga_ (some 5) Try.func70 #[.int .i64 a0_0] ?_; (with_reducible refine (impl_isStation.calls a0_0 true _ A2.out).mono ?_); rintro e w' ⟨rfl, ⟨nd, rfl⟩⟩; refine ⟨_, rfl, ?_⟩) | (go_at_call 70; (with_reducible refine (impl_isStation.calls a0_1 true _ A4.out).mono ?_); rintro e w' ⟨rfl, ⟨nd, rfl⟩⟩))
    go_ret
    exact ⟨rr_, lb1_ HB.out GE188.out⟩
   ·
    rw [if_neg c6] at H
    have c6b0 : (a0_0 == a0_1) = false := beq_eq_false_iff_ne.mpr c6
    have c6b1 : (a0_0 != a0_1) = true := bne_iff_ne.mpr c6
    replace H := Option.bind_eq_some_iff.mp H
    obtain ⟨t191, A90, H⟩ := H
    replace H : (if t191 = true then ((impl_isBearing.f a0_3).bind fun t192 => (if t192 = true then ((impl_within.f a0_4 (-90) 90).bind fun t193 => (some t193)) else (some false))) else (some false)) = some r := H
    have A9 := Aside0.mk A90
    clear A90
    by_cases c10 : t191 = true
    ·
     subst c10
     have H1 : ((impl_isBearing.f a0_3).bind fun t192 => (if t192 = true then ((impl_within.f a0_4 (-90) 90).bind fun t193 => (some t193)) else (some false))) = some r := by rw [if_pos rfl] at H; exact H
     clear H
     have H := H1
     clear H1
     replace H := Option.bind_eq_some_iff.mp H
     obtain ⟨t192, A110, H⟩ := H
     replace H : (if t192 = true then ((impl_within.f a0_4 (-90) 90).bind fun t193 => (some t193)) else (some false)) = some r := H
     have A11 := Aside0.mk A110
     clear A110
     by_cases c12 : t192 = true
     ·
      subst c12
      have H1 : ((impl_within.f a0_4 (-90) 90).bind fun t193 => (some t193)) = some r := by rw [if_pos rfl] at H; exact H
      clear H
      have H := H1
      clear H1
      replace H := Option.bind_eq_some_iff.mp H
      obtain ⟨t193, A130, H⟩ := H
      replace H : (some t193) = some r := H
      have A13 := Aside0.mk A130
      clear A130
      obtain rfl := Option.some.inj H
      go_enter Try.func102, Try.ntmps102
      go_wp2_with (first | ((with_reducible refine gate_dst (N := 1) rfl ?_); refine box_event ?hg (N := 1) ?hd (cs := #[.int .i64 a0_0, .int .i64 a0_1, .int .i64 a0_2, .int .i64 a0_3, .int .i64 a0_4]) (t := 37) ?hr ?_; (case hd => rfl); (case hg => rfl); (case hr => first | (go_simp; done) | (go_simp; rfl)); intro gb188 hg w14 hbox hb; have BK188 := Aside0.mk (hbox); have GW188 := Aside0.mk ((bz_ hg (lb0_ HB.out))); have GE188 := Aside0.mk ((bz_ hg (lb0_ HB.out))); replace HB := Aside0.mk (below_step (lb0_ HB.out) hb); clear hb hbox hg; obtain ⟨hcz15_0, hcz15_1, hcz15_2, hcz15_3, hcz15_4⟩ := cz5_ BK188.out; obtain ⟨hfz15_0, hfz15_1, hfz15_2, hfz15_3, hfz15_4⟩ := fz5_ BK188.out) | ((with_reducible refine gate_callee (f := 70) rfl ?_); refine ga_ (some 5) Try.func70 #[.int .i64 a0_0] ?_; (with_reducible refine (impl_isStation.calls a0_0 true _ A2.out).mono ?_); rintro e w' ⟨rfl, ⟨nd, rfl⟩⟩; refine ⟨_, rfl, ?_⟩) | (go_at_call 70; (with_reducible refine (impl_isStation.calls a0_1 true _ A4.out).mono ?_); rintro e w' ⟨rfl, ⟨nd, rfl⟩⟩) | (go_at_call 71; (with_reducible refine (impl_within.calls a0_2 1 500 true _ A9.out).mono ?_); rintro e w' ⟨rfl, ⟨nd, rfl⟩⟩) | (go_at_call 117; (with_reducible refine (impl_isBearing.calls a0_3 true _ A11.out).mono ?_); rintro e w' ⟨rfl, ⟨nd, rfl⟩⟩) | (go_at_call 71; (with_reducible refine (impl_within.calls a0_4 (-90) 90 t193 _ A13.out).mono ?_); rintro e w' ⟨rfl, ⟨nd, rfl⟩⟩))
      go_ret
      exact ⟨rr_, lb1_ HB.out GE188.out⟩
     ·
      replace c12 := Bool.eq_false_iff.mpr c12
      subst c12
      have H1 : (some false) = some r := by rw [if_neg (show ¬ (false = true) by decide)] at H; exact H
      clear H
      have H := H1
      clear H1
      obtain rfl := Option.some.inj H
      go_enter Try.func102, Try.ntmps102
      go_wp2_with (first | ((with_reducible refine gate_dst (N := 1) rfl ?_); refine box_event ?hg (N := 1) ?hd (cs := #[.int .i64 a0_0, .int .i64 a0_1, .int .i64 a0_2, .int .i64 a0_3, .int .i64 a0_4]) (t := 37) ?hr ?_; (case hd => rfl); (case hg => rfl); (case hr => first | (go_simp; done) | (go_simp; rfl)); intro gb188 hg w16 hbox hb; have BK188 := Aside0.mk (hbox); have GW188 := Aside0.mk ((bz_ hg (lb0_ HB.out))); have GE188 := Aside0.mk ((bz_ hg (lb0_ HB.out))); replace HB := Aside0.mk (below_step (lb0_ HB.out) hb); clear hb hbox hg; obtain ⟨hcz17_0, hcz17_1, hcz17_2, hcz17_3, hcz17_4⟩ := cz5_ BK188.out; obtain ⟨hfz17_0, hfz17_1, hfz17_2, hfz17_3, hfz17_4⟩ := fz5_ BK188.out) | ((with_reducible refine gate_callee (f := 70) rfl ?_); refine ga_ (some 5) Try.func70 #[.int .i64 a0_0] ?_; (with_reducible refine (impl_isStation.calls a0_0 true _ A2.out).mono ?_); rintro e w' ⟨rfl, ⟨nd, rfl⟩⟩; refine ⟨_, rfl, ?_⟩) | (go_at_call 70; (with_reducible refine (impl_isStation.calls a0_1 true _ A4.out).mono ?_); rintro e w' ⟨rfl, ⟨nd, rfl⟩⟩) | (go_at_call 71; (with_reducible refine (impl_within.calls a0_2 1 500 true _ A9.out).mono ?_); rintro e w' ⟨rfl, ⟨nd, rfl⟩⟩) | (go_at_call 117; (with_reducible refine (impl_isBearing.calls a0_3 false _ A11.out).mono ?_); rintro e w' ⟨rfl, ⟨nd, rfl⟩⟩))
      go_ret
      exact ⟨rr_, lb1_ HB.out GE188.out⟩
    ·
     replace c10 := Bool.eq_false_iff.mpr c10
     subst c10
     have H1 : (some false) = some r := by rw [if_neg (show ¬ (false = true) by decide)] at H; exact H
     clear H
     have H := H1
     clear H1
     obtain rfl := Option.some.inj H
     go_enter Try.func102, Try.ntmps102
     go_wp2_with (first | ((with_reducible refine gate_dst (N := 1) rfl ?_); refine box_event ?hg (N := 1) ?hd (cs := #[.int .i64 a0_0, .int .i64 a0_1, .int .i64 a0_2, .int .i64 a0_3, .int .i64 a0_4]) (t := 37) ?hr ?_; (case hd => rfl); (case hg => rfl); (case hr => first | (go_simp; done) | (go_simp; rfl)); intro gb188 hg w18 hbox hb; have BK188 := Aside0.mk (hbox); have GW188 := Aside0.mk ((bz_ hg (lb0_ HB.out))); have GE188 := Aside0.mk ((bz_ hg (lb0_ HB.out))); replace HB := Aside0.mk (below_step (lb0_ HB.out) hb); clear hb hbox hg; obtain ⟨hcz19_0, hcz19_1, hcz19_2, hcz19_3, hcz19_4⟩ := cz5_ BK188.out; obtain ⟨hfz19_0, hfz19_1, hfz19_2, hfz19_3, hfz19_4⟩ := fz5_ BK188.out) | ((with_reducible refine gate_callee (f := 70) rfl ?_); refine ga_ (some 5) Try.func70 #[.int .i64 a0_0] ?_; (with_reducible refine (impl_isStation.calls a0_0 true _ A2.out).mono ?_); rintro e w' ⟨rfl, ⟨nd, rfl⟩⟩; refine ⟨_, rfl, ?_⟩) | (go_at_call 70; (with_reducible refine (impl_isStation.calls a0_1 true _ A4.out).mono ?_); rintro e w' ⟨rfl, ⟨nd, rfl⟩⟩) | (go_at_call 71; (with_reducible refine (impl_within.calls a0_2 1 500 false _ A9.out).mono ?_); rintro e w' ⟨rfl, ⟨nd, rfl⟩⟩))
     go_ret
     exact ⟨rr_, lb1_ HB.out GE188.out⟩
  ·
   replace c5 := Bool.eq_false_iff.mpr c5
   subst c5
   have H1 : (some false) = some r := by rw [if_neg (show ¬ (false = true) by decide)] at H; exact H
   clear H
   have H := H1
   clear H1
   obtain rfl := Option.some.inj H
   go_enter Try.func102, Try.ntmps102
   go_wp2_with (first | ((with_reducible refine gate_dst (N := 1) rfl ?_); refine box_event ?hg (N := 1) ?hd (cs := #[.int .i64 a0_0, .int .i64 a0_1, .int .i64 a0_2, .int .i64 a0_3, .int .i64 a0_4]) (t := 37) ?hr ?_; (case hd => rfl); (case hg => rfl); (case hr => first | (go_simp; done) | (go_simp; rfl)); intro gb188 hg w20 hbox hb; have BK188 := Aside0.mk (hbox); have GW188 := Aside0.mk ((bz_ hg (lb0_ HB.out))); have GE188 := Aside0.mk ((bz_ hg (lb0_ HB.out))); replace HB := Aside0.mk (below_step (lb0_ HB.out) hb); clear hb hbox hg; obtain ⟨hcz21_0, hcz21_1, hcz21_2, hcz21_3, hcz21_4⟩ := cz5_ BK188.out; obtain ⟨hfz21_0, hfz21_1, hfz21_2, hfz21_3, hfz21_4⟩ := fz5_ BK188.out) | ((with_reducible refine gate_callee (f := 70) rfl ?_); refine ga_ (some 5) Try.func70 #[.int .i64 a0_0] ?_; (with_reducible refine (impl_isStation.calls a0_0 true _ A2.out).mono ?_); rintro e w' ⟨rfl, ⟨nd, rfl⟩⟩; refine ⟨_, rfl, ?_⟩) | (go_at_call 70; (with_reducible refine (impl_isStation.calls a0_1 false _ A4.out).mono ?_); rintro e w' ⟨rfl, ⟨nd, rfl⟩⟩))
   go_ret
   exact ⟨rr_, lb1_ HB.out GE188.out⟩
 ·
  replace c3 := Bool.eq_false_iff.mpr c3
  subst c3
  have H1 : (some false) = some r := by rw [if_neg (show ¬ (false = true) by decide)] at H; exact H
  clear H
  have H := H1
  clear H1
  obtain rfl := Option.some.inj H
  go_enter Try.func102, Try.ntmps102
  go_wp2_with (first | ((with_reducible refine gate_dst (N := 1) rfl ?_); refine box_event ?hg (N := 1) ?hd (cs := #[.int .i64 a0_0, .int .i64 a0_1, .int .i64 a0_2, .int .i64 a0_3, .int .i64 a0_4]) (t := 37) ?hr ?_; (case hd => rfl); (case hg => rfl); (case hr => first | (go_simp; done) | (go_simp; rfl)); intro gb188 hg w22 hbox hb; have BK188 := Aside0.mk (hbox); have GW188 := Aside0.mk ((bz_ hg (lb0_ HB.out))); have GE188 := Aside0.mk ((bz_ hg (lb0_ HB.out))); replace HB := Aside0.mk (below_step (lb0_ HB.out) hb); clear hb hbox hg; obtain ⟨hcz23_0, hcz23_1, hcz23_2, hcz23_3, hcz23_4⟩ := cz5_ BK188.out; obtain ⟨hfz23_0, hfz23_1, hfz23_2, hfz23_3, hfz23_4⟩ := fz5_ BK188.out) | ((with_reducible refine gate_callee (f := 70) rfl ?_); refine ga_ (some 5) Try.func70 #[.int .i64 a0_0] ?_; (with_reducible refine (impl_isStation.calls a0_0 false _ A2.out).mono ?_); rintro e w' ⟨rfl, ⟨nd, rfl⟩⟩; refine ⟨_, rfl, ?_⟩))
  go_ret
  exact ⟨rr_, lb1_ HB.out GE188.out⟩
def impl_areLegs.l0 : Nat → List (S37) → List (S37) → Int → Int → Option (Bool)
 | 0, _, _, _, _ => none
 | k + 1, x0, x5, x6, x7 => if x7 < x6 then (if 0 ≤ x7 then (if x7 < (x5.length : Int) then ((impl_IsLeg.f ((rd_T37 x5 x7).f0) ((rd_T37 x5 x7).f1) ((rd_T37 x5 x7).f2) ((rd_T37 x5 x7).f3) ((rd_T37 x5 x7).f4)).bind fun t196 => (if t196 = true then (impl_areLegs.l0 k x0 x5 x6 (wrap64 (x7 + 1))) else (some false))) else (none)) else (none)) else (some (decide ((x0.length : Int) ≤ 12)))
def impl_areLegs.f (k : Nat) (l0 : List (S37)) : Option (Bool) := impl_areLegs.l0 k l0 l0 (l0.length : Int) 0
theorem impl_areLegs.calls (k : Nat) (A0 : Option Addr) (c0 : Nat) (l0 : List (S37)) (r : Bool) (w : World) (hr0 : Kd.C k37 w A0 l0.length l0) (hc0 : l0.length ≤ c0) (h : impl_areLegs.f k l0 = some r) :
  Calls Try.prog 69 #[.slice A0 l0.length c0] w fun e w' => e = .returned (.bool r) ∧ Below w.heap.size w w' := by
 have hu37 := Try.underlying37
 have HR0 := Aside0.mk hr0
 have HC0 := Aside0.mk hc0
 clear hr0 hc0
 have HB := Aside0.mk (Below.refl w.heap.size w)
 have H : (impl_areLegs.l0 k l0 l0 (l0.length : Int) 0) = some r := h
 clear h
 have H' := Aside0.mk H
 clear H
 go_enter Try.func69, Try.ntmps69
 go_wp2
 go_loopg [7] k (fun kq v7 w' => ∃ (x7_1 : Int), v7 = .int .i64 x7_1 ∧ Aside0 (impl_areLegs.l0 kq l0 l0 (l0.length : Int) x7_1 = some r) ∧ Aside0 (kq ≤ k) ∧ Aside0 (Below w.heap.size w w'))
 case atStart => exact ⟨(0), (by first | rfl | (simp; done) | (simp [*]; done)), H', ⟨Nat.le_refl _⟩, ⟨lb0_ HB.out⟩⟩
 case round =>
  clear H'
  obtain ⟨x7_1, rfl, HA, HK1, HB⟩ := hrel
  cases gk with
  | zero => exact absurd HA.out (by simp [impl_areLegs.l0])
  | succ k1 =>
   have H := HA.out
   clear HA
   simp only [impl_areLegs.l0] at H
   by_cases c2 : x7_1 < (l0.length : Int)
   ·
    rw [if_pos c2] at H
    have c2b0 : decide (x7_1 < (l0.length : Int)) = true := decide_eq_true c2
    clear c2
    by_cases c3 : 0 ≤ x7_1
    ·
     rw [if_pos c3] at H
     have c3b0 : decide (0 ≤ x7_1) = true := decide_eq_true c3
     clear c3
     by_cases c4 : x7_1 < (l0.length : Int)
     ·
      rw [if_pos c4] at H
      have c4b0 : decide (x7_1 < (l0.length : Int)) = true := decide_eq_true c4
      clear c4
      replace H := Option.bind_eq_some_iff.mp H
      obtain ⟨t196, A50, H⟩ := H
      replace H : (if t196 = true then (impl_areLegs.l0 k1 l0 l0 (l0.length : Int) (wrap64 (x7_1 + 1))) else (some false)) = some r := H
      have A5 := Aside0.mk A50
      clear A50
      by_cases c6 : t196 = true
      ·
       subst c6
       have H1 : (impl_areLegs.l0 k1 l0 l0 (l0.length : Int) (wrap64 (x7_1 + 1))) = some r := by rw [if_pos rfl] at H; exact H
       clear H
       have H := H1
       clear H1
       have H' := Aside0.mk H
       clear H
       have p194 : 0 ≤ (x7_1 : Int) := dt_
       have q194 : x7_1 < (l0.length : Int) := dt_
       obtain ⟨ad194, e194, hx194_0, hx194_1, hx194_2, hx194_3, hx194_4⟩ := at_T37 HR0.out x7_1 p194 q194
       cases e194
       replace hx194_0 := bc_ HB.out hx194_0
       replace hx194_1 := bc_ HB.out hx194_1
       replace hx194_2 := bc_ HB.out hx194_2
       replace hx194_3 := bc_ HB.out hx194_3
       replace hx194_4 := bc_ HB.out hx194_4
       replace p194 := eq_true p194
       replace q194 := eq_true q194
       go_wp2_with (first | ((with_reducible refine gate_dst (N := 4) rfl ?_); refine box_event ?hg (N := 4) ?hd (cs := #[.int .i64 0, .int .i64 0, .int .i64 0, .int .i64 0, .int .i64 0]) (t := 37) ?hr ?_; (case hd => rfl); (case hg => rfl); (case hr => first | (go_simp; done) | (go_simp; rfl)); intro gb195 hg w7 hbox hb; have BK195 := Aside0.mk (hbox); have GW195 := Aside0.mk ((bz_ hg (lb0_ HB.out))); have GE195 := Aside0.mk ((bz_ hg (lb0_ HB.out))); replace HB := Aside0.mk (below_step (lb0_ HB.out) hb); clear hb hbox hg; obtain ⟨hcz8_0, hcz8_1, hcz8_2, hcz8_3, hcz8_4⟩ := cz5_ BK195.out; obtain ⟨hfz8_0, hfz8_1, hfz8_2, hfz8_3, hfz8_4⟩ := fz5_ BK195.out) | ((with_reducible refine gate_callee (f := 102) rfl ?_); refine ga_ (some 12) Try.func102 #[.agg #[.int .i64 ((rd_T37 l0 x7_1).f0), .int .i64 ((rd_T37 l0 x7_1).f1), .int .i64 ((rd_T37 l0 x7_1).f2), .int .i64 ((rd_T37 l0 x7_1).f3), .int .i64 ((rd_T37 l0 x7_1).f4)]] ?_; (with_reducible refine (impl_IsLeg.calls ((rd_T37 l0 x7_1).f0) ((rd_T37 l0 x7_1).f1) ((rd_T37 l0 x7_1).f2) ((rd_T37 l0 x7_1).f3) ((rd_T37 l0 x7_1).f4) true _ A5.out).mono ?_); rintro e w9 ⟨rfl, hb⟩; refine ⟨_, rfl, ?_⟩; replace BK195 := Aside0.mk (blk_below (g := gb195) (o := .cells #[.int .i64 ((rd_T37 l0 x7_1).f0), .int .i64 ((rd_T37 l0 x7_1).f1), .int .i64 ((rd_T37 l0 x7_1).f2), .int .i64 ((rd_T37 l0 x7_1).f3), .int .i64 ((rd_T37 l0 x7_1).f4)] 37 (0, 0)) (by (with_reducible repeat (first | refine blk_drewN ?_ _ | refine blk_drew ?_ | refine blk_alloc ?_ _)); exact (p5_ BK195.out _ _ _ _ _)) hb); replace HB := Aside0.mk (below_step (lb1_ HB.out GE195.out) hb); (try clear hb); (try clear hb2); (try clear hk); (try clear hi)))
       go_roundg k1
       case measure => have := HK1.out; omega
       case rel => exact ⟨(wrap64 (x7_1 + 1)), (by first | rfl | (simp; done) | (simp [*]; done)), H', ⟨by have := HK1.out; omega⟩, ⟨lb1_ HB.out GE195.out⟩⟩
      ·
       replace c6 := Bool.eq_false_iff.mpr c6
       subst c6
       have H1 : (some false) = some r := by rw [if_neg (show ¬ (false = true) by decide)] at H; exact H
       clear H
       have H := H1
       clear H1
       obtain rfl := Option.some.inj H
       have p194 : 0 ≤ (x7_1 : Int) := dt_
       have q194 : x7_1 < (l0.length : Int) := dt_
       obtain ⟨ad194, e194, hx194_0, hx194_1, hx194_2, hx194_3, hx194_4⟩ := at_T37 HR0.out x7_1 p194 q194
       cases e194
       replace hx194_0 := bc_ HB.out hx194_0
       replace hx194_1 := bc_ HB.out hx194_1
       replace hx194_2 := bc_ HB.out hx194_2
       replace hx194_3 := bc_ HB.out hx194_3
       replace hx194_4 := bc_ HB.out hx194_4
       replace p194 := eq_true p194
       replace q194 := eq_true q194
       go_wp2_with (first | ((with_reducible refine gate_dst (N := 4) rfl ?_); refine box_event ?hg (N := 4) ?hd (cs := #[.int .i64 0, .int .i64 0, .int .i64 0, .int .i64 0, .int .i64 0]) (t := 37) ?hr ?_; (case hd => rfl); (case hg => rfl); (case hr => first | (go_simp; done) | (go_simp; rfl)); intro gb195 hg w10 hbox hb; have BK195 := Aside0.mk (hbox); have GW195 := Aside0.mk ((bz_ hg (lb0_ HB.out))); have GE195 := Aside0.mk ((bz_ hg (lb0_ HB.out))); replace HB := Aside0.mk (below_step (lb0_ HB.out) hb); clear hb hbox hg; obtain ⟨hcz11_0, hcz11_1, hcz11_2, hcz11_3, hcz11_4⟩ := cz5_ BK195.out; obtain ⟨hfz11_0, hfz11_1, hfz11_2, hfz11_3, hfz11_4⟩ := fz5_ BK195.out) | ((with_reducible refine gate_callee (f := 102) rfl ?_); refine ga_ (some 12) Try.func102 #[.agg #[.int .i64 ((rd_T37 l0 x7_1).f0), .int .i64 ((rd_T37 l0 x7_1).f1), .int .i64 ((rd_T37 l0 x7_1).f2), .int .i64 ((rd_T37 l0 x7_1).f3), .int .i64 ((rd_T37 l0 x7_1).f4)]] ?_; (with_reducible refine (impl_IsLeg.calls ((rd_T37 l0 x7_1).f0) ((rd_T37 l0 x7_1).f1) ((rd_T37 l0 x7_1).f2) ((rd_T37 l0 x7_1).f3) ((rd_T37 l0 x7_1).f4) false _ A5.out).mono ?_); rintro e w12 ⟨rfl, hb⟩; refine ⟨_, rfl, ?_⟩; replace BK195 := Aside0.mk (blk_below (g := gb195) (o := .cells #[.int .i64 ((rd_T37 l0 x7_1).f0), .int .i64 ((rd_T37 l0 x7_1).f1), .int .i64 ((rd_T37 l0 x7_1).f2), .int .i64 ((rd_T37 l0 x7_1).f3), .int .i64 ((rd_T37 l0 x7_1).f4)] 37 (0, 0)) (by (with_reducible repeat (first | refine blk_drewN ?_ _ | refine blk_drew ?_ | refine blk_alloc ?_ _)); exact (p5_ BK195.out _ _ _ _ _)) hb); replace HB := Aside0.mk (below_step (lb1_ HB.out GE195.out) hb); (try clear hb); (try clear hb2); (try clear hk); (try clear hi)))
       go_ret
       exact ⟨rr_, lb1_ HB.out GE195.out⟩
     ·
      rw [if_neg c4] at H
      exact absurd H (by simp)
    ·
     rw [if_neg c3] at H
     exact absurd H (by simp)
   ·
    rw [if_neg c2] at H
    have c2b0 : decide (x7_1 < (l0.length : Int)) = false := decide_eq_false c2
    clear c2
    obtain rfl := Option.some.inj H
    go_wp2
    go_ret
    exact ⟨rr_, lb0_ HB.out⟩
theorem heap_new_ (w : World) (cs : Array Value) (t : TypeId) : (w.alloc (.cells cs t)).heap[w.heap.size]? = some (.cells cs t (0, 0)) := by
 show (w.heap.push _)[w.heap.size]? = _
 simp
theorem heap_size_ (w : World) (o : Obj) : (w.alloc o).heap.size = w.heap.size + 1 := by
 show (w.heap.push o).size = _
 simp
def bits_Mul64.f (a0 : Int) (a1 : Int) : Option (Int × Int) := some (IntKind.u64.wrap ((IntKind.u64.wrap ((IntKind.u64.wrap ((a0 / 4294967296) * (a1 / 4294967296))) + ((IntKind.u64.wrap ((IntKind.u64.wrap ((a0 / 4294967296) * (Go.bits .and .u64 a1 4294967295))) + ((IntKind.u64.wrap ((Go.bits .and .u64 a0 4294967295) * (Go.bits .and .u64 a1 4294967295))) / 4294967296))) / 4294967296))) + ((IntKind.u64.wrap ((Go.bits .and .u64 (IntKind.u64.wrap ((IntKind.u64.wrap ((a0 / 4294967296) * (Go.bits .and .u64 a1 4294967295))) + ((IntKind.u64.wrap ((Go.bits .and .u64 a0 4294967295) * (Go.bits .and .u64 a1 4294967295))) / 4294967296))) 4294967295) + (IntKind.u64.wrap ((Go.bits .and .u64 a0 4294967295) * (a1 / 4294967296))))) / 4294967296)), IntKind.u64.wrap (a0 * a1))
theorem bits_Mul64.calls (a0 : Int) (a1 : Int) (r1 : Int) (r2 : Int) (w : World) (h : bits_Mul64.f a0 a1 = some (r1, r2)) :
  Calls Try.prog 126 #[.int .u64 a0, .int .u64 a1] w fun e w' => e = .returned (.tuple #[.int .u64 r1, .int .u64 r2]) ∧ Drawn0 w w' := by
 have H : (some (IntKind.u64.wrap ((IntKind.u64.wrap ((IntKind.u64.wrap ((a0 / 4294967296) * (a1 / 4294967296))) + ((IntKind.u64.wrap ((IntKind.u64.wrap ((a0 / 4294967296) * (Go.bits .and .u64 a1 4294967295))) + ((IntKind.u64.wrap ((Go.bits .and .u64 a0 4294967295) * (Go.bits .and .u64 a1 4294967295))) / 4294967296))) / 4294967296))) + ((IntKind.u64.wrap ((Go.bits .and .u64 (IntKind.u64.wrap ((IntKind.u64.wrap ((a0 / 4294967296) * (Go.bits .and .u64 a1 4294967295))) + ((IntKind.u64.wrap ((Go.bits .and .u64 a0 4294967295) * (Go.bits .and .u64 a1 4294967295))) / 4294967296))) 4294967295) + (IntKind.u64.wrap ((Go.bits .and .u64 a0 4294967295) * (a1 / 4294967296))))) / 4294967296)), IntKind.u64.wrap (a0 * a1))) = some (r1, r2) := h
 clear h
 simp only [Option.some.injEq, Prod.mk.injEq] at H
 obtain ⟨rfl, rfl⟩ := H
 go_enter Try.func126, Try.ntmps126
 go_wp2
 go_ret2
 exact ⟨by first | rfl | (simp; done) | (simp [*]; done), by repeat (first | exact Drawn0.refl _ | apply Drawn0.step)⟩
def bits_Mul.f (a0 : Int) (a1 : Int) : Option (Int × Int) := (bits_Mul64.f a0 a1).bind fun bt197 => (some (bt197.1, bt197.2))
theorem bits_Mul.calls (a0 : Int) (a1 : Int) (r1 : Int) (r2 : Int) (w : World) (h : bits_Mul.f a0 a1 = some (r1, r2)) :
  Calls Try.prog 118 #[.int .u64 a0, .int .u64 a1] w fun e w' => e = .returned (.tuple #[.int .u64 r1, .int .u64 r2]) ∧ Drawn0 w w' := by
 have H : ((bits_Mul64.f a0 a1).bind fun bt197 => (some (bt197.1, bt197.2))) = some (r1, r2) := h
 clear h
 replace H := Option.bind_eq_some_iff.mp H
 obtain ⟨⟨t197, t198⟩, A30, H⟩ := H
 replace H : (some (t197, t198)) = some (r1, r2) := H
 have A3 := Aside0.mk A30
 clear A30
 simp only [Option.some.injEq, Prod.mk.injEq] at H
 obtain ⟨rfl, rfl⟩ := H
 go_enter Try.func118, Try.ntmps118
 go_wp2_with (first | ((with_reducible refine gate_callee (f := 126) rfl ?_); refine ga_ (some 25) Try.func126 #[.int .u64 a0, .int .u64 a1] ?_; (with_reducible refine (bits_Mul64.calls a0 a1 t197 t198 _ A3.out).mono ?_); rintro e w' ⟨rfl, ⟨nd, rfl⟩⟩; refine ⟨_, rfl, ?_⟩))
 go_ret2
 exact ⟨by first | rfl | (simp; done) | (simp [*]; done), by repeat (first | exact Drawn0.refl _ | apply Drawn0.step)⟩
def slices_Repeat_int_int.f (l0 : List Int) (a1 : Int) : Option (List Int) := if l0.length = 1 ∧ a1 = 8 then some (List.replicate 8 (rd l0 0)) else none
theorem made8 : madeCells (Value.int .i64 0).cells 8 = #[.int .i64 0, .int .i64 0, .int .i64 0, .int .i64 0, .int .i64 0, .int .i64 0, .int .i64 0, .int .i64 0] := by
 apply Array.ext
 ·
  simp [madeCells]
 ·
  intro i h1 h2
  match i, h2 with
  | 0, _ => simp [madeCells, Value.cells]
  | 1, _ => simp [madeCells, Value.cells]
  | 2, _ => simp [madeCells, Value.cells]
  | 3, _ => simp [madeCells, Value.cells]
  | 4, _ => simp [madeCells, Value.cells]
  | 5, _ => simp [madeCells, Value.cells]
  | 6, _ => simp [madeCells, Value.cells]
  | 7, _ => simp [madeCells, Value.cells]
  | n + 8, h => exact absurd h (by simp)
theorem cell_add0_ (W : World) (g j : Nat) : W.cell? ((⟨g, 0, none⟩ : Addr).add j) = W.cell? ⟨g, j, none⟩ := by
 unfold Addr.add
 split
 ·
  rename_i h
  rw [h]
 ·
  simp only [Nat.zero_add]
theorem mul_1_8 : bits_Mul.f 1 8 = some (0, 8) := by decide +kernel
theorem slices_Repeat_int_int.calls (A0 : Option Addr) (c0 : Nat) (l0 : List Int) (a1 : Int) (r : List Int) (w : World) (hr0 : Kd.C (Kd.int .i64) w A0 l0.length l0) (hc0 : l0.length ≤ c0) (h : slices_Repeat_int_int.f l0 a1 = some r) :
  Calls Try.prog 103 #[.slice A0 l0.length c0, .int .i64 a1] w fun e w' => ∃ v0_ : Value, e = .returned (v0_) ∧ Kd.R (Kd.int .i64) 3 w' w.heap.size (fun _ => True) v0_ r ∧ Below w.heap.size w w' := by
 unfold slices_Repeat_int_int.f at h
 by_cases hl : l0.length = 1 ∧ a1 = 8
 ·
  rw [if_pos hl] at h
  obtain rfl := Option.some.inj h
  obtain ⟨hl1, rfl⟩ := hl
  obtain ⟨ad, rfl, hx⟩ := Kd.at_int hr0 0 (by omega) (by omega)
  have HR := Aside0.mk hr0
  clear hr0
  rw [hl1] at hc0 ⊢
  have hm : ∀ W : World, Sem.run Try.prog (Instr.makeSlice 60 (.int .i64 8) (.int .i64 8)) W = .ok (.slice (some ⟨W.heap.size, 0, none⟩) 8 8) (W.alloc (.cells #[.int .i64 0, .int .i64 0, .int .i64 0, .int .i64 0, .int .i64 0, .int .i64 0, .int .i64 0, .int .i64 0] 3)) := fun W => by
   obtain ⟨i0, hi, hz0, hz1, hz2⟩ := info_parts info3
   have h := run_makeSlice (P := Try.prog) W 60 3 i0 (.int .i64 0) Try.underlying60 hi hz0 .i64 .i64 8 8 (by decide) (by decide) (by rw [hz1]; decide) (by rw [hz2]; decide) (by decide)
   rw [hz1] at h
   rw [h, show Int.toNat 8 * 1 = 8 from rfl, made8]
   rfl
  generalize rd l0 0 = x at hx ⊢
  have hsrc : Aside0 (∀ W : World, Below w.heap.size w W → ∀ (j : Nat) (v : Value), [Value.int .i64 x][j]? = some v → W.cell? (ad.add j) = some v) := ⟨fun W hb j v hj => by
   match j, hj with
   | 0, hj =>
    have : v = .int .i64 x := (by simpa using hj : Value.int .i64 x = v).symm
    subst this
    exact pw_cell_below hb hx⟩
  have hsz : Aside0 ((Try.prog.info? 3).map (·.size) = some 1) := ⟨by kernel_rfl⟩
  have hone : Aside0 (∀ v ∈ [Value.int .i64 x], v.oneCell' = true) := ⟨fun v hv => by rw [List.mem_singleton.1 hv]; rfl⟩
  go_enter Try.func103, Try.ntmps103
  go_wp2_with (first | (go_at_call 118; refine (bits_Mul.calls 1 8 0 8 _ mul_1_8).mono ?_; rintro e w1 ⟨rfl, ⟨n1, rfl⟩⟩) | (refine wpList_copy_splice rfl (.tmp 31) (.tmp 32) 60 60 rfl 3 Try.underlying60 hsz.out _ _ _ _ _ _ rfl rfl w.heap.size 0 [.int .i64 0, .int .i64 0, .int .i64 0, .int .i64 0, .int .i64 0, .int .i64 0, .int .i64 0, .int .i64 0] 3 (heap_new_ _ _ _) [.int .i64 x] rfl (fun _ => ⟨rfl, ad, rfl, hsrc.out _ (below_alloc (pw_below_drewN (Below.refl _ _) _) _)⟩) (by simp) hone.out w.heap.size w (below_alloc (pw_below_drewN (Below.refl _ _) _) _) (Nat.le_refl _) ?_; intro w2 hg2 hb2))
  have HG0 := Aside0.mk hg2
  have HB0 := Aside0.mk hb2
  clear hg2 hb2
  go_loopg [8] 3 (fun gg s8 wr => Aside0 (Below w.heap.size w wr) ∧ ((3 ≤ gg ∧ s8 = .int .i64 1 ∧ Aside0 (Hid (wr.heap[w.heap.size]? = some (.cells (List.toArray [.int .i64 x, .int .i64 0, .int .i64 0, .int .i64 0, .int .i64 0, .int .i64 0, .int .i64 0, .int .i64 0]) 3 (0, 0))))) ∨ (2 ≤ gg ∧ s8 = .int .i64 2 ∧ Aside0 (Hid (wr.heap[w.heap.size]? = some (.cells (List.toArray [.int .i64 x, .int .i64 x, .int .i64 0, .int .i64 0, .int .i64 0, .int .i64 0, .int .i64 0, .int .i64 0]) 3 (0, 0))))) ∨ (1 ≤ gg ∧ s8 = .int .i64 4 ∧ Aside0 (Hid (wr.heap[w.heap.size]? = some (.cells (List.toArray [.int .i64 x, .int .i64 x, .int .i64 x, .int .i64 x, .int .i64 0, .int .i64 0, .int .i64 0, .int .i64 0]) 3 (0, 0))))) ∨ (s8 = .int .i64 8 ∧ Aside0 (Hid (wr.heap[w.heap.size]? = some (.cells (List.toArray [.int .i64 x, .int .i64 x, .int .i64 x, .int .i64 x, .int .i64 x, .int .i64 x, .int .i64 x, .int .i64 x]) 3 (0, 0)))))))
  case atStart => exact ⟨HB0, .inl ⟨Nat.le_refl _, rfl, HG0⟩⟩
  case round =>
  obtain ⟨HB, ⟨hg, rfl, HG⟩ | ⟨hg, rfl, HG⟩ | ⟨hg, rfl, HG⟩ | ⟨rfl, HG⟩⟩ := hrel
  ·
   have hsrc1 : Aside0 (∀ W : World, Hid (W.heap[w.heap.size]? = some (.cells (List.toArray [.int .i64 x, .int .i64 0, .int .i64 0, .int .i64 0, .int .i64 0, .int .i64 0, .int .i64 0, .int .i64 0]) 3 (0, 0))) → ∀ (j : Nat) (v : Value), [Value.int .i64 x][j]? = some v → W.cell? ((⟨w.heap.size, 0, none⟩ : Addr).add j) = some v) := ⟨fun W hg j v hj => by
    have e := cell_of_row W w.heap.size (0 + j) _ 3 (0, 0) hg
    rw [Nat.zero_add] at e
    refine Eq.trans (cell_add0_ W w.heap.size j) (e.trans ?_)
    clear e hg
    have hl := (List.getElem?_eq_some_iff.1 hj).1
    match j, hl, hj with
    | 0, _, hj => exact hj
    | m + 1, hl, _ => exact absurd hl (by simp)⟩
   have hone1 : Aside0 (∀ v ∈ [Value.int .i64 x], v.oneCell' = true) := ⟨fun v hv => by simp at hv; rw [hv]; rfl⟩
   go_wp2_with fail
   go_region_held3 (fun W => True) (exact trivial) ((first | (refine step_copy_splice rfl (.tmp 41) (.tmp 44) 60 60 rfl 3 Try.underlying60 hsz.out _ _ _ _ _ _ rfl rfl w.heap.size 1 [.int .i64 x, .int .i64 0, .int .i64 0, .int .i64 0, .int .i64 0, .int .i64 0, .int .i64 0, .int .i64 0] 3 HG.out [Value.int .i64 x] rfl (fun _ => ⟨rfl, _, rfl, hsrc1.out _ HG.out⟩) (by simp) hone1.out w.heap.size w (below_drew HB.out) (Nat.le_refl _) ?_; intro w3 hg3 hb3) | fail))
   all_goals go_wp2_with fail
   go_roundg 2
   case measure => omega
   case rel => exact ⟨⟨hb3⟩, .inr (.inl ⟨by omega, by rfl, ⟨hg3⟩⟩)⟩
  ·
   have hsrc2 : Aside0 (∀ W : World, Hid (W.heap[w.heap.size]? = some (.cells (List.toArray [.int .i64 x, .int .i64 x, .int .i64 0, .int .i64 0, .int .i64 0, .int .i64 0, .int .i64 0, .int .i64 0]) 3 (0, 0))) → ∀ (j : Nat) (v : Value), [Value.int .i64 x, Value.int .i64 x][j]? = some v → W.cell? ((⟨w.heap.size, 0, none⟩ : Addr).add j) = some v) := ⟨fun W hg j v hj => by
    have e := cell_of_row W w.heap.size (0 + j) _ 3 (0, 0) hg
    rw [Nat.zero_add] at e
    refine Eq.trans (cell_add0_ W w.heap.size j) (e.trans ?_)
    clear e hg
    have hl := (List.getElem?_eq_some_iff.1 hj).1
    match j, hl, hj with
    | 0, _, hj => exact hj
    | 1, _, hj => exact hj
    | m + 2, hl, _ => exact absurd hl (by simp)⟩
   have hone2 : Aside0 (∀ v ∈ [Value.int .i64 x, Value.int .i64 x], v.oneCell' = true) := ⟨fun v hv => by simp at hv; rw [hv]; rfl⟩
   go_wp2_with fail
   go_region_held3 (fun W => True) (exact trivial) ((first | (refine step_copy_splice rfl (.tmp 41) (.tmp 44) 60 60 rfl 3 Try.underlying60 hsz.out _ _ _ _ _ _ rfl rfl w.heap.size 2 [.int .i64 x, .int .i64 x, .int .i64 0, .int .i64 0, .int .i64 0, .int .i64 0, .int .i64 0, .int .i64 0] 3 HG.out [Value.int .i64 x, Value.int .i64 x] rfl (fun _ => ⟨rfl, _, rfl, hsrc2.out _ HG.out⟩) (by simp) hone2.out w.heap.size w (below_drew HB.out) (Nat.le_refl _) ?_; intro w3 hg3 hb3) | fail))
   all_goals go_wp2_with fail
   go_roundg 1
   case measure => omega
   case rel => exact ⟨⟨hb3⟩, .inr (.inr (.inl ⟨by omega, by rfl, ⟨hg3⟩⟩))⟩
  ·
   have hsrc4 : Aside0 (∀ W : World, Hid (W.heap[w.heap.size]? = some (.cells (List.toArray [.int .i64 x, .int .i64 x, .int .i64 x, .int .i64 x, .int .i64 0, .int .i64 0, .int .i64 0, .int .i64 0]) 3 (0, 0))) → ∀ (j : Nat) (v : Value), [Value.int .i64 x, Value.int .i64 x, Value.int .i64 x, Value.int .i64 x][j]? = some v → W.cell? ((⟨w.heap.size, 0, none⟩ : Addr).add j) = some v) := ⟨fun W hg j v hj => by
    have e := cell_of_row W w.heap.size (0 + j) _ 3 (0, 0) hg
    rw [Nat.zero_add] at e
    refine Eq.trans (cell_add0_ W w.heap.size j) (e.trans ?_)
    clear e hg
    have hl := (List.getElem?_eq_some_iff.1 hj).1
    match j, hl, hj with
    | 0, _, hj => exact hj
    | 1, _, hj => exact hj
    | 2, _, hj => exact hj
    | 3, _, hj => exact hj
    | m + 4, hl, _ => exact absurd hl (by simp)⟩
   have hone4 : Aside0 (∀ v ∈ [Value.int .i64 x, Value.int .i64 x, Value.int .i64 x, Value.int .i64 x], v.oneCell' = true) := ⟨fun v hv => by simp at hv; rw [hv]; rfl⟩
   go_wp2_with fail
   go_region_held3 (fun W => True) (exact trivial) ((first | (refine step_copy_splice rfl (.tmp 41) (.tmp 44) 60 60 rfl 3 Try.underlying60 hsz.out _ _ _ _ _ _ rfl rfl w.heap.size 4 [.int .i64 x, .int .i64 x, .int .i64 x, .int .i64 x, .int .i64 0, .int .i64 0, .int .i64 0, .int .i64 0] 3 HG.out [Value.int .i64 x, Value.int .i64 x, Value.int .i64 x, Value.int .i64 x] rfl (fun _ => ⟨rfl, _, rfl, hsrc4.out _ HG.out⟩) (by simp) hone4.out w.heap.size w (below_drew HB.out) (Nat.le_refl _) ?_; intro w3 hg3 hb3) | fail))
   all_goals go_wp2_with fail
   go_roundg 0
   case measure => omega
   case rel => exact ⟨⟨hb3⟩, .inr (.inr (.inr ⟨by rfl, ⟨hg3⟩⟩))⟩
  ·
   go_wp2
   go_ret
   refine ⟨_, rfl, Kd.R_of_own ⟨rfl, .inr ⟨_, 8, _, rfl, Nat.le_refl _, HG.out, Nat.le_refl _, by decide, rfl, rfl⟩⟩ (fun _ _ => trivial), HB.out⟩
 ·
  rw [if_neg hl] at h
  cases h
mutual
def impl_Exploration_wayOut.l0 : Nat → List Int → Int → List (S37) → List Bool → List Bool → Int → Int → Option (Int × Bool)
 | 0, _, _, _, _, _, _, _ => none
 | k + 1, x4, x11, x200000, x200001, x200002, x200003, x200004 => if x11 < 8 then (impl_Exploration_wayOut.l1 k x4 x11 x200000 (x200000.length : Int) 0 x200000 x200001 x200002 x200003 x200004) else (if 0 ≤ x200003 then (if x200003 < (x4.length : Int) then (some (rd x4 x200003, decide ((rd x4 x200003) < 1073741824))) else (none)) else (none))
def impl_Exploration_wayOut.l1 : Nat → List Int → Int → List (S37) → Int → Int → List (S37) → List Bool → List Bool → Int → Int → Option (Int × Bool)
 | 0, _, _, _, _, _, _, _, _, _, _ => none
 | k + 1, x4, x11, x14, x15, x16, x200000, x200001, x200002, x200003, x200004 => if x16 < x15 then (if 0 ≤ x16 then (if x16 < (x14.length : Int) then (if 0 ≤ ((rd_T37 x14 x16).f0) then (if ((rd_T37 x14 x16).f0) < (x200001.length : Int) then (if rdOf false x200001 ((rd_T37 x14 x16).f0) = true then (if 0 ≤ ((rd_T37 x14 x16).f1) then (if ((rd_T37 x14 x16).f1) < (x200001.length : Int) then (if rdOf false x200001 ((rd_T37 x14 x16).f1) = true then (if ((rd_T37 x14 x16).f0) < (x4.length : Int) then (if ((rd_T37 x14 x16).f1) < (x4.length : Int) then ((some (x4.set (((rd_T37 x14 x16).f0) : Int).toNat (mn (rd x4 ((rd_T37 x14 x16).f0)) (wrap64 ((rd x4 ((rd_T37 x14 x16).f1)) + ((rd_T37 x14 x16).f2)))) : List Int)).bind fun y215 => (impl_Exploration_wayOut.l1 k (y215.set (((rd_T37 x14 x16).f1) : Int).toNat (mn (rd y215 ((rd_T37 x14 x16).f1)) (wrap64 ((rd y215 ((rd_T37 x14 x16).f0)) + ((rd_T37 x14 x16).f2))))) x11 x14 x15 (wrap64 (x16 + 1)) x200000 x200001 x200002 x200003 x200004)) else (none)) else (none)) else (impl_Exploration_wayOut.l1 k x4 x11 x14 x15 (wrap64 (x16 + 1)) x200000 x200001 x200002 x200003 x200004)) else (none)) else (none)) else (impl_Exploration_wayOut.l1 k x4 x11 x14 x15 (wrap64 (x16 + 1)) x200000 x200001 x200002 x200003 x200004)) else (none)) else (none)) else (none)) else (none)) else (impl_Exploration_wayOut.l0 k x4 (wrap64 (x11 + 1)) x200000 x200001 x200002 x200003 x200004)
end
def impl_Exploration_wayOut.f (k : Nat) (l0_0 : List (S37)) (l0_1 : List Bool) (l0_2 : List Bool) (a0_3 : Int) (a0_4 : Int) : Option (Int × Bool) := (slices_Repeat_int_int.f (([1073741824] : List Int)) 8).bind fun t203 => (if 0 < (t203.length : Int) then (impl_Exploration_wayOut.l0 k (t203.set (0 : Int).toNat 0) 0 l0_0 l0_1 l0_2 a0_3 a0_4) else (none))
def impl_Exploration_wayOut.T9 : Bool × List (List Nat × List Nat) := (true, [([], []), ([], []), ([1], [1]), ([], []), ([], []), ([4], [4]), ([3, 5], [3, 5]), ([6], [6]), ([], []), ([], []), ([9], [9]), ([8, 10], [8, 10]), ([11], [11]), ([], []), ([13], [13]), ([12, 14], [12, 14]), ([7, 15], [7, 15]), ([0, 2, 0, 1, 2, 3, 4, 5, 6, 7, 8, 9, 10, 11, 12, 13, 14, 15, 16], [0, 2]), ([17, 16, 0, 1, 2, 3, 4, 5, 6, 7, 8, 9, 10, 11, 12, 13, 14, 15, 16], [16, 17])])
def impl_Exploration_wayOut.B9 : List Nat := [0, 0, 2, 0, 0, 16, 56, 120, 0, 0, 512, 1792, 3840, 0, 8192, 32512, 65528, 131071, 262143]
theorem impl_Exploration_wayOut.tab9 : rtab .any (opsOf Try.f72 9) = impl_Exploration_wayOut.T9 := by kernel_rfl
theorem impl_Exploration_wayOut.bits9 : waitsOk impl_Exploration_wayOut.T9.2 impl_Exploration_wayOut.B9 = true := by kernel_rfl
def impl_Exploration_wayOut.T10 : Bool × List (List Nat × List Nat) := (true, [([], []), ([], []), ([1], [1]), ([], []), ([], []), ([4], [4]), ([3, 5], [3, 5]), ([6], [6]), ([], []), ([], []), ([9], [9]), ([8, 10], [8, 10]), ([11], [11]), ([], []), ([13], [13]), ([12, 14], [12, 14]), ([7, 15], [7, 15]), ([0, 2, 0, 1, 2, 3, 4, 5, 6, 7, 8, 9, 10, 11, 12, 13, 14, 15, 16], [0, 2]), ([17, 16, 0, 1, 2, 3, 4, 5, 6, 7, 8, 9, 10, 11, 12, 13, 14, 15, 16], [16, 17])])
def impl_Exploration_wayOut.B10 : List Nat := [0, 0, 2, 0, 0, 16, 56, 120, 0, 0, 512, 1792, 3840, 0, 8192, 32512, 65528, 131071, 262143]
theorem impl_Exploration_wayOut.tab10 : rtab .any (opsOf Try.f72 10) = impl_Exploration_wayOut.T10 := by kernel_rfl
theorem impl_Exploration_wayOut.bits10 : waitsOk impl_Exploration_wayOut.T10.2 impl_Exploration_wayOut.B10 = true := by kernel_rfl
def impl_Exploration_wayOut.T13 : Bool × List (List Nat × List Nat) := (true, [([], []), ([], []), ([1], [1]), ([0, 2], [0, 2]), ([3], [3]), ([], []), ([], []), ([6], [6]), ([5, 7], [5, 7]), ([8], [8]), ([9], [9]), ([4, 0, 1, 2, 3, 4], [4]), ([10, 11, 0, 1, 2, 3, 4, 5, 6, 7, 8, 9, 10, 11], [10])])
def impl_Exploration_wayOut.B13 : List Nat := [0, 0, 2, 7, 15, 0, 0, 64, 224, 480, 992, 31, 4095]
theorem impl_Exploration_wayOut.tab13 : rtab .any (opsOf Try.f72 13) = impl_Exploration_wayOut.T13 := by kernel_rfl
theorem impl_Exploration_wayOut.bits13 : waitsOk impl_Exploration_wayOut.T13.2 impl_Exploration_wayOut.B13 = true := by kernel_rfl
abbrev impl_Exploration_wayOut.mk0 : Array Bool := #[fF,fF,fF,fF,fF,fF,fF,fF,fF,fF,fF,fF,fF,fF,fF,fF,fF,fF,fF]
abbrev impl_Exploration_wayOut.mk1 : Array Bool := #[tT,fF,fF,fF,fF,fF,fF,fF,fF,fF,fF,fF,fF,fF,fF,fF,fF,fF,fF]
abbrev impl_Exploration_wayOut.mk2 : Array Bool := #[tT,tT,fF,fF,fF,fF,fF,fF,fF,fF,fF,fF,fF,fF,fF,fF,fF,fF,fF]
abbrev impl_Exploration_wayOut.mk3 : Array Bool := #[tT,tT,fF,tT,fF,fF,fF,fF,fF,fF,fF,fF,fF,fF,fF,fF,fF,fF,fF]
abbrev impl_Exploration_wayOut.mk4 : Array Bool := #[tT,tT,fF,tT,tT,fF,fF,fF,fF,fF,fF,fF,fF,fF,fF,fF,fF,fF,fF]
abbrev impl_Exploration_wayOut.mk5 : Array Bool := #[tT,tT,fF,tT,tT,fF,fF,fF,tT,fF,fF,fF,fF,fF,fF,fF,fF,fF,fF]
abbrev impl_Exploration_wayOut.mk6 : Array Bool := #[tT,tT,fF,tT,tT,fF,fF,fF,tT,tT,fF,fF,fF,fF,fF,fF,fF,fF,fF]
abbrev impl_Exploration_wayOut.mk7 : Array Bool := #[tT,tT,fF,tT,tT,fF,fF,fF,tT,tT,fF,fF,fF,tT,fF,fF,fF,fF,fF]
abbrev impl_Exploration_wayOut.mk8 : Array Bool := #[tT,tT,tT,tT,tT,fF,fF,fF,tT,tT,fF,fF,fF,tT,fF,fF,fF,fF,fF]
abbrev impl_Exploration_wayOut.mk9 : Array Bool := #[tT,tT,tT,tT,tT,tT,fF,fF,tT,tT,fF,fF,fF,tT,fF,fF,fF,fF,fF]
abbrev impl_Exploration_wayOut.mk10 : Array Bool := #[tT,tT,tT,tT,tT,tT,tT,fF,tT,tT,fF,fF,fF,tT,fF,fF,fF,fF,fF]
abbrev impl_Exploration_wayOut.mk11 : Array Bool := #[tT,tT,tT,tT,tT,tT,tT,tT,tT,tT,fF,fF,fF,tT,fF,fF,fF,fF,fF]
abbrev impl_Exploration_wayOut.mk12 : Array Bool := #[tT,tT,tT,tT,tT,tT,tT,tT,tT,tT,tT,fF,fF,tT,fF,fF,fF,fF,fF]
abbrev impl_Exploration_wayOut.mk13 : Array Bool := #[tT,tT,tT,tT,tT,tT,tT,tT,tT,tT,tT,tT,fF,tT,fF,fF,fF,fF,fF]
abbrev impl_Exploration_wayOut.mk14 : Array Bool := #[tT,tT,tT,tT,tT,tT,tT,tT,tT,tT,tT,tT,tT,tT,fF,fF,fF,fF,fF]
abbrev impl_Exploration_wayOut.mk15 : Array Bool := #[tT,tT,tT,tT,tT,tT,tT,tT,tT,tT,tT,tT,tT,tT,tT,fF,fF,fF,fF]
abbrev impl_Exploration_wayOut.mk16 : Array Bool := #[tT,tT,tT,tT,tT,tT,tT,tT,tT,tT,tT,tT,tT,tT,tT,tT,fF,fF,fF]
abbrev impl_Exploration_wayOut.mk17 : Array Bool := #[tT,tT,tT,tT,tT,tT,tT,tT,tT,tT,tT,tT,tT,tT,tT,tT,tT,fF,fF]
abbrev impl_Exploration_wayOut.mk18 : Array Bool := #[tT,tT,tT,tT,tT,tT,tT,tT,tT,tT,tT,tT,tT,tT,tT,tT,tT,tT,fF]
abbrev impl_Exploration_wayOut.mk19 : Array Bool := #[tT,tT,tT,tT,tT,tT,tT,tT,tT,tT,tT,tT,tT,tT,tT,tT,tT,tT,tT]
abbrev impl_Exploration_wayOut.mk20 : Array Bool := #[fF,fF,fF,fF,fF,fF,fF,fF,fF,fF,fF,fF,fF]
abbrev impl_Exploration_wayOut.mk21 : Array Bool := #[tT,fF,fF,fF,fF,fF,fF,fF,fF,fF,fF,fF,fF]
abbrev impl_Exploration_wayOut.mk22 : Array Bool := #[tT,tT,fF,fF,fF,fF,fF,fF,fF,fF,fF,fF,fF]
abbrev impl_Exploration_wayOut.mk23 : Array Bool := #[tT,tT,fF,fF,fF,tT,fF,fF,fF,fF,fF,fF,fF]
abbrev impl_Exploration_wayOut.mk24 : Array Bool := #[tT,tT,fF,fF,fF,tT,tT,fF,fF,fF,fF,fF,fF]
abbrev impl_Exploration_wayOut.mk25 : Array Bool := #[tT,tT,tT,fF,fF,tT,tT,fF,fF,fF,fF,fF,fF]
abbrev impl_Exploration_wayOut.mk26 : Array Bool := #[tT,tT,tT,tT,fF,tT,tT,fF,fF,fF,fF,fF,fF]
abbrev impl_Exploration_wayOut.mk27 : Array Bool := #[tT,tT,tT,tT,tT,tT,tT,fF,fF,fF,fF,fF,fF]
abbrev impl_Exploration_wayOut.mk28 : Array Bool := #[tT,tT,tT,tT,tT,tT,tT,fF,fF,fF,fF,tT,fF]
abbrev impl_Exploration_wayOut.mk29 : Array Bool := #[tT,tT,tT,tT,tT,tT,tT,tT,fF,fF,fF,tT,fF]
abbrev impl_Exploration_wayOut.mk30 : Array Bool := #[tT,tT,tT,tT,tT,tT,tT,tT,tT,fF,fF,tT,fF]
abbrev impl_Exploration_wayOut.mk31 : Array Bool := #[tT,tT,tT,tT,tT,tT,tT,tT,tT,tT,fF,tT,fF]
abbrev impl_Exploration_wayOut.mk32 : Array Bool := #[tT,tT,tT,tT,tT,tT,tT,tT,tT,tT,tT,tT,fF]
abbrev impl_Exploration_wayOut.mk33 : Array Bool := #[tT,tT,tT,tT,tT,tT,tT,tT,tT,tT,tT,tT,tT]
theorem impl_Exploration_wayOut.calls (k : Nat) (A0_0 : Option Addr) (c0_0 : Nat) (l0_0 : List (S37)) (A0_1 : Option Addr) (c0_1 : Nat) (l0_1 : List Bool) (A0_2 : Option Addr) (c0_2 : Nat) (l0_2 : List Bool) (a0_3 : Int) (a0_4 : Int) (r1 : Int) (r2 : Bool) (w : World) (hr0_0 : Kd.C k37 w A0_0 l0_0.length l0_0) (hc0_0 : l0_0.length ≤ c0_0) (hr0_1 : Kd.C Kd.bool w A0_1 l0_1.length l0_1) (hc0_1 : l0_1.length ≤ c0_1) (hr0_2 : Kd.C Kd.bool w A0_2 l0_2.length l0_2) (hc0_2 : l0_2.length ≤ c0_2) (h : impl_Exploration_wayOut.f k l0_0 l0_1 l0_2 a0_3 a0_4 = some (r1, r2)) :
  Calls Try.prog 72 #[.agg #[.slice A0_0 l0_0.length c0_0, .slice A0_1 l0_1.length c0_1, .slice A0_2 l0_2.length c0_2, .int .i64 a0_3, .int .i64 a0_4]] w fun e w' => e = .returned (.tuple #[.int .i64 r1, .bool r2]) ∧ Below w.heap.size w w' := by
 have hu30 := Try.underlying30
 have hu37 := Try.underlying37
 have HR0_0 := Aside0.mk hr0_0
 have HC0_0 := Aside0.mk hc0_0
 clear hr0_0 hc0_0
 have HR0_1 := Aside0.mk hr0_1
 have HC0_1 := Aside0.mk hc0_1
 clear hr0_1 hc0_1
 have HR0_2 := Aside0.mk hr0_2
 have HC0_2 := Aside0.mk hc0_2
 clear hr0_2 hc0_2
 have HB := Aside0.mk (Below.refl w.heap.size w)
 have H : ((slices_Repeat_int_int.f (([1073741824] : List Int)) 8).bind fun t203 => (if 0 < (t203.length : Int) then (impl_Exploration_wayOut.l0 k (t203.set (0 : Int).toNat 0) 0 l0_0 l0_1 l0_2 a0_3 a0_4) else (none))) = some (r1, r2) := h
 clear h
 obtain ⟨y200, hy200⟩ : ∃ y_ : List Int, y_ = (([1073741824] : List Int)) := ⟨_, rfl⟩
 replace H : ((slices_Repeat_int_int.f y200 8).bind fun t203 => (if 0 < (t203.length : Int) then (impl_Exploration_wayOut.l0 k (t203.set (0 : Int).toNat 0) 0 l0_0 l0_1 l0_2 a0_3 a0_4) else (none))) = some (r1, r2) := by first | (rw [hy200]; with_reducible exact H) | (have H2_ := (Option.bind_some _ _).symm.trans H; rw [hy200]; with_reducible exact H2_) | (have H2_ := (Option.bind_some _ _).symm.trans H; with_reducible exact H2_) | with_reducible exact H | (rw [hy200]; exact H) | exact H
 have Ny200 := Aside0.mk hy200
 clear hy200
 replace H := Option.bind_eq_some_iff.mp H
 obtain ⟨t203, A20, H⟩ := H
 replace H : (if 0 < (t203.length : Int) then (impl_Exploration_wayOut.l0 k (t203.set (0 : Int).toNat 0) 0 l0_0 l0_1 l0_2 a0_3 a0_4) else (none)) = some (r1, r2) := H
 have A2 := Aside0.mk A20
 clear A20
 by_cases c3 : 0 < (t203.length : Int)
 ·
  rw [if_pos c3] at H
  have c3b0 : decide (0 < (t203.length : Int)) = true := decide_eq_true c3
  have c3b1 : decide (0 < t203.length) = true := decide_eq_true (by omega)
  clear c3
  obtain ⟨y206, hy206⟩ : ∃ y_ : List Int, y_ = (t203.set (0 : Int).toNat 0) := ⟨_, rfl⟩
  replace H : (impl_Exploration_wayOut.l0 k y206 0 l0_0 l0_1 l0_2 a0_3 a0_4) = some (r1, r2) := by first | (rw [hy206]; with_reducible exact H) | (have H2_ := (Option.bind_some _ _).symm.trans H; rw [hy206]; with_reducible exact H2_) | (have H2_ := (Option.bind_some _ _).symm.trans H; with_reducible exact H2_) | with_reducible exact H | (rw [hy206]; exact H) | exact H
  have Ny206 := Aside0.mk hy206
  clear hy206
  have H' := Aside0.mk H
  clear H
  go_enter Try.func72, Try.ntmps72
  go_wp2_with (first | ((with_reducible refine gate_dst (N := 1) rfl ?_); refine box_event ?hg (N := 1) ?hd (cs := #[.slice A0_0 l0_0.length c0_0, .slice A0_1 l0_1.length c0_1, .slice A0_2 l0_2.length c0_2, .int .i64 a0_3, .int .i64 a0_4]) (t := 30) ?hr ?_; (case hd => rfl); (case hg => rfl); (case hr => first | (go_simp; done) | (go_simp; rfl)); intro gb199 hg w5 hbox hb; have BK199 := Aside0.mk (hbox); have GW199 := Aside0.mk ((bz_ hg (lb0_ HB.out))); have GE199 := Aside0.mk ((bz_ hg (lb0_ HB.out))); replace HB := Aside0.mk (below_step (lb0_ HB.out) hb); clear hb hbox hg) | ((with_reducible refine gate_dst (N := 7) rfl ?_); refine Kd.R_lit (Kd.int .i64) _ 3 ?hg (N := 7) ?hd (xs := ([1073741824] : List Int)) (inner := [.int .i64 1073741824]) (ok := fun _ => True) (okp := fun _ => True) ?hr ?hp (fun _ hk => hk) trivial (Below.refl _ _) (Nat.le_refl _) (by simp) ?_; (case hd => rfl); (case hg => rfl); (case hr => first | (go_simp; done) | (go_simp; rfl)); (case hp => exact (Reps.one (show Kd.M (Kd.int .i64) _ _ _ 1073741824 [.int .i64 1073741824] from rfl) (Reps.none _ _))); intro v201 w6 ho7 hb hg_ hnew_; clear hg_ hnew_; replace ho7 := ry_ Ny200.out ho7; have HO202 := Aside0.mk (Kd.R_lower ho7 (below_size (lb1_ HB.out GE199.out))); replace BK199 := Aside0.mk (bb_ (bk_ BK199.out) hb); replace HB := Aside0.mk (below_step (lb1_ HB.out GE199.out) hb); clear hb ho7; obtain ⟨Ao8, co8, eo8⟩ := Kd.R_slice HO202.out; subst eo8) | ((with_reducible refine gate_callee (f := 103) rfl ?_); refine ga_ (some 8) Try.func103 #[.slice Ao8 y200.length co8, .int .i64 8] ?_; (with_reducible refine (slices_Repeat_int_int.calls _ _ y200 8 t203 _ ?side1 ?side2 A2.out).mono ?_); (case side1 => exact kc_ (Kd.R_reads' HO202.out).2.2); (case side2 => exact (Kd.R_reads' HO202.out).2.1); rintro e w9 ⟨v204, rfl, ho0, hb⟩; refine ⟨_, rfl, ?_⟩; have HO205 := Aside0.mk (Kd.R_lower (Kd.R_new' ho0 (Kd.R_lt (kr_ HO202.out))) (below_size (lb1_ HB.out GE199.out))); replace HO202 := Aside0.mk (Kd.R_elder' (kr_ HO202.out) (Kd.R_base ho0) hb); replace BK199 := Aside0.mk (bb_ (bk_ BK199.out) hb); replace HB := Aside0.mk (below_step (lb1_ HB.out GE199.out) hb); (try clear hb); (try clear hb2); (try clear hk); (try clear hi); (try clear ho0); have p4 : 0 ≤ (0 : Int) := (by omega); have q4 : (0 : Int) < ((t203.length : Int) : Int) := dt_; have qi4 : (0 < t203.length) = True := eq_true (by omega); obtain ⟨go4, co4, eo4, gb4, gl4, cl4, HG4⟩ := Kd.R_form HO205.out (by omega); (first | cases eo4 | (injection eo4 with ea_ en_ ec_; (first | subst ea_ | (injection ea_ with ea_; subst ea_)); subst ec_; clear en_)); have GB4 := Aside0.mk gb4; have GG4 := Aside0.mk HG4; clear gb4 gl4 HG4; obtain ⟨hx4_0, hf4_0⟩ := Kd.R_celln 0 HO205.out (0 : Int) p4 q4; (try rw [show ((0 : Int)).toNat = 0 from rfl] at hx4_0); (try simp only [Nat.reduceMul, Nat.zero_mul, Nat.zero_add, Nat.reduceAdd] at hx4_0); (try rw [show ((0 : Int)).toNat = 0 from rfl] at hf4_0); (try simp only [Nat.reduceMul, Nat.zero_mul, Nat.zero_add, Nat.reduceAdd] at hf4_0); replace p4 := eq_true p4; replace q4 := eq_true q4; have n_ := Aside0.mk (Kd.R_mono (ok' := (fun k_ => some k_ ≠ (.slice Ao8 y200.length co8 : Value).ownBlock)) HO205.out (fun k_ hk => hk.2)); clear HO205; have HO205 := n_; clear n_; obtain ⟨hy10_, hz10_⟩ := Kd.R_celln 0 HO205.out (0 : Int) (by omega) (dt_); (try simp only [Int.reduceToNat, Int.toNat_zero, Int.toNat_ofNat, Nat.reduceMul, Nat.zero_mul, Nat.zero_add] at hy10_ hz10_); (try rw [show ((0 : Int)).toNat = 0 from rfl] at hy10_); (try rw [show ((0 : Int)).toNat = 0 from rfl] at hz10_); have HP10 := Kd.R_putg HO205.out (0 : Int) 0) | ((with_reducible refine gate_store (t := 3) (p := 10) rfl ?_); refine store_event (t := 3) (p := 10) (v := ?vo_w11) (w1 := (w9.setCell ⟨go4, (0 : Int).toNat, none⟩ (.int .i64 0))) ?hg ?ho ?hn ?hr ?_; (case ho => rfl); (case hg => rfl); (case hn => rfl); (case hr => first | (go_simp; done) | (go_simp; rfl)); intro w11 hw; have hg : w9.grownBy w11 (some go4) := (by rw [hw]; exact HP10.2); have hp_ : Kd.R (Kd.int .i64) 3 w11 w.heap.size (fun k_ => some k_ ≠ (.slice Ao8 y200.length co8 : Value).ownBlock) (.slice (some ⟨go4, 0, none⟩) t203.length co4) y206 := (by rw [hw, Ny206.out]; exact HP10.1); clear HP10; replace BK199 := Aside0.mk (blk_grown (g := gb199) (o := .cells #[.slice A0_0 l0_0.length c0_0, .slice A0_1 l0_1.length c0_1, .slice A0_2 l0_2.length c0_2, .int .i64 a0_3, .int .i64 a0_4] 30 (0, 0)) (bk_ BK199.out) hg (Kd.R_ne HO205.out BK199.out (by decide))); replace HO202 := Aside0.mk (Kd.R_after (v := (.slice (some ⟨go4, 0, none⟩) t203.length co4)) (v1 := (.slice (some ⟨go4, 0, none⟩) t203.length co4)) (ok := (fun _ => True)) (kr_ HO202.out) hg (.inl rfl)); replace HO205 := Aside0.mk (hp_); replace HB := Aside0.mk ((by rw [hw]; exact below_set (HB.out) GB4.out : Below w.heap.size w w11)); clear hg hw hp_))
  go_loopg [11] k (fun kq v11 w' => ∃ (x4_1 : List Int) (x11_1 : Int), v11 = .int .i64 x11_1 ∧ Aside0 (impl_Exploration_wayOut.l0 kq x4_1 x11_1 l0_0 l0_1 l0_2 a0_3 a0_4 = some (r1, r2)) ∧ Aside0 (kq ≤ k) ∧ Aside0 (Kd.R (Kd.int .i64) 3 w' w.heap.size (fun _ => True) (.slice (some ⟨go4, 0, none⟩) t203.length co4) x4_1) ∧ Aside0 (w'.heap[gb199]? = some (.cells #[(.slice A0_0 l0_0.length c0_0), (.slice A0_1 l0_1.length c0_1), (.slice A0_2 l0_2.length c0_2), .int .i64 a0_3, .int .i64 a0_4] 30 (0, 0))) ∧ Aside0 (Below w.heap.size w w'))
  case atStart => exact ⟨(y206), (0), (by first | rfl | (simp; done) | (simp [*]; done)), H', ⟨Nat.le_refl _⟩, ⟨krm_ HO205.out (fun _ hk => trivial)⟩, ⟨bk_ BK199.out⟩, ⟨lb1_ HB.out GE199.out⟩⟩
  case round =>
   clear H'
   try clear c1
   try clear p2
   try clear c3
   try clear c3b0
   try clear c3b1
   try clear p4
   try clear q4
   try clear hx4
   try clear qi4
   try clear hf4
   try clear c7
   try clear c10
   try clear hx4_0
   try clear p4
   try clear q4
   obtain ⟨x4_1, x11_1, rfl, HA, HK1, HO_4, BK199, HB⟩ := hrel
   have hl4_1 := (Kd.R_reads' HO_4.out).1
   rw [hl4_1] at HO_4
   (try simp only [hl4_1])
   (try simp only [hl4_1] at BK199)
   cases gk with
   | zero => exact absurd HA.out (by simp [impl_Exploration_wayOut.l0])
   | succ k1 =>
    have H := HA.out
    clear HA
    simp only [impl_Exploration_wayOut.l0] at H
    by_cases c12 : x11_1 < 8
    ·
     rw [if_pos c12] at H
     have c12b0 : decide (x11_1 < 8) = true := decide_eq_true c12
     clear c12
     have H' := Aside0.mk H
     clear H
     obtain ⟨hcz13_0, hcz13_1, hcz13_2, hcz13_3, hcz13_4⟩ := cz5_ BK199.out
     obtain ⟨hfz13_0, hfz13_1, hfz13_2, hfz13_3, hfz13_4⟩ := fz5_ BK199.out
     go_wp2
     go_loopg [16] k1 (fun kq v16 w' => ∃ (x4_2 : List Int) (x16_2 : Int), v16 = .int .i64 x16_2 ∧ Aside0 (impl_Exploration_wayOut.l1 kq x4_2 x11_1 l0_0 (l0_0.length : Int) x16_2 l0_0 l0_1 l0_2 a0_3 a0_4 = some (r1, r2)) ∧ Aside0 (kq ≤ k1) ∧ Aside0 (Kd.R (Kd.int .i64) 3 w' w.heap.size (fun _ => True) (.slice (some ⟨go4, 0, none⟩) x4_1.length co4) x4_2) ∧ Aside0 (w'.heap[gb199]? = some (.cells #[(.slice A0_0 l0_0.length c0_0), (.slice A0_1 l0_1.length c0_1), (.slice A0_2 l0_2.length c0_2), .int .i64 a0_3, .int .i64 a0_4] 30 (0, 0))) ∧ Aside0 (Below w.heap.size w w'))
     case atStart => exact ⟨(x4_1), (0), (by first | rfl | (simp; done) | (simp [*]; done)), H', ⟨Nat.le_refl _⟩, ⟨by (try simp only [hl4_1]); (with_reducible repeat (first | apply Kd.R_alloc | apply Kd.R_drewN | apply Kd.R_drew)); exact HO_4.out⟩, ⟨by (try simp only [hl4_1]); (with_reducible repeat (first | refine blk_drewN ?_ _ | refine blk_drew ?_ | refine blk_alloc ?_ _)); exact BK199.out⟩, ⟨lb1_ HB.out GE199.out⟩⟩
     case round =>
      clear H'
      try clear c1
      try clear p2
      try clear c3
      try clear c3b0
      try clear c3b1
      try clear p4
      try clear q4
      try clear hx4
      try clear qi4
      try clear hf4
      try clear c7
      try clear c10
      try clear c12
      try clear c12b0
      try clear hcz13_0 hcz13_1 hcz13_2 hcz13_3 hcz13_4
      try clear hfz13_0 hfz13_1 hfz13_2 hfz13_3 hfz13_4
      try clear hx4_0
      try clear p2
      try clear p4
      try clear q4
      obtain ⟨x4_2, x16_2, rfl, HA, HK2, HO_4, BK199, HB⟩ := hrel
      have hl4_2 := (Kd.R_reads' HO_4.out).1
      rw [hl4_2] at HO_4
      (try simp only [hl4_2])
      (try simp only [hl4_2] at BK199)
      cases gk with
      | zero => exact absurd HA.out (by simp [impl_Exploration_wayOut.l1])
      | succ k2 =>
       have H := HA.out
       clear HA
       simp only [impl_Exploration_wayOut.l1] at H
       by_cases c14 : x16_2 < (l0_0.length : Int)
       ·
        rw [if_pos c14] at H
        have c14b0 : decide (x16_2 < (l0_0.length : Int)) = true := decide_eq_true c14; clear c14
        by_cases c15 : 0 ≤ x16_2
        ·
         rw [if_pos c15] at H
         have c15b0 : decide (0 ≤ x16_2) = true := decide_eq_true c15; clear c15
         by_cases c16 : x16_2 < (l0_0.length : Int)
         ·
          rw [if_pos c16] at H
          have c16b0 : decide (x16_2 < (l0_0.length : Int)) = true := decide_eq_true c16; clear c16
          by_cases c17 : 0 ≤ ((rd_T37 l0_0 x16_2).f0)
          ·
           rw [if_pos c17] at H
           have c17b0 : decide (0 ≤ ((rd_T37 l0_0 x16_2).f0)) = true := decide_eq_true c17; clear c17
           by_cases c18 : ((rd_T37 l0_0 x16_2).f0) < (l0_1.length : Int)
           ·
            rw [if_pos c18] at H
            have c18b0 : decide (((rd_T37 l0_0 x16_2).f0) < (l0_1.length : Int)) = true := decide_eq_true c18; clear c18
            obtain ⟨bq19, hbq19⟩ : ∃ b_ : Bool, b_ = (rdOf false l0_1 ((rd_T37 l0_0 x16_2).f0)) := ⟨_, rfl⟩
            replace H : (if bq19 = true then (if 0 ≤ ((rd_T37 l0_0 x16_2).f1) then (if ((rd_T37 l0_0 x16_2).f1) < (l0_1.length : Int) then (if rdOf false l0_1 ((rd_T37 l0_0 x16_2).f1) = true then (if ((rd_T37 l0_0 x16_2).f0) < (x4_2.length : Int) then (if ((rd_T37 l0_0 x16_2).f1) < (x4_2.length : Int) then ((some (x4_2.set (((rd_T37 l0_0 x16_2).f0) : Int).toNat (mn (rd x4_2 ((rd_T37 l0_0 x16_2).f0)) (wrap64 ((rd x4_2 ((rd_T37 l0_0 x16_2).f1)) + ((rd_T37 l0_0 x16_2).f2)))) : List Int)).bind fun y215 => (impl_Exploration_wayOut.l1 k2 (y215.set (((rd_T37 l0_0 x16_2).f1) : Int).toNat (mn (rd y215 ((rd_T37 l0_0 x16_2).f1)) (wrap64 ((rd y215 ((rd_T37 l0_0 x16_2).f0)) + ((rd_T37 l0_0 x16_2).f2))))) x11_1 l0_0 (l0_0.length : Int) (wrap64 (x16_2 + 1)) l0_0 l0_1 l0_2 a0_3 a0_4)) else (none)) else (none)) else (impl_Exploration_wayOut.l1 k2 x4_2 x11_1 l0_0 (l0_0.length : Int) (wrap64 (x16_2 + 1)) l0_0 l0_1 l0_2 a0_3 a0_4)) else (none)) else (none)) else (impl_Exploration_wayOut.l1 k2 x4_2 x11_1 l0_0 (l0_0.length : Int) (wrap64 (x16_2 + 1)) l0_0 l0_1 l0_2 a0_3 a0_4)) = some (r1, r2) := by rw [← hbq19] at H; exact H
            have Nbq19 := Aside0.mk hbq19; clear hbq19
            by_cases c20 : bq19 = true
            ·
             subst c20
             have H1 : (if 0 ≤ ((rd_T37 l0_0 x16_2).f1) then (if ((rd_T37 l0_0 x16_2).f1) < (l0_1.length : Int) then (if rdOf false l0_1 ((rd_T37 l0_0 x16_2).f1) = true then (if ((rd_T37 l0_0 x16_2).f0) < (x4_2.length : Int) then (if ((rd_T37 l0_0 x16_2).f1) < (x4_2.length : Int) then ((some (x4_2.set (((rd_T37 l0_0 x16_2).f0) : Int).toNat (mn (rd x4_2 ((rd_T37 l0_0 x16_2).f0)) (wrap64 ((rd x4_2 ((rd_T37 l0_0 x16_2).f1)) + ((rd_T37 l0_0 x16_2).f2)))) : List Int)).bind fun y215 => (impl_Exploration_wayOut.l1 k2 (y215.set (((rd_T37 l0_0 x16_2).f1) : Int).toNat (mn (rd y215 ((rd_T37 l0_0 x16_2).f1)) (wrap64 ((rd y215 ((rd_T37 l0_0 x16_2).f0)) + ((rd_T37 l0_0 x16_2).f2))))) x11_1 l0_0 (l0_0.length : Int) (wrap64 (x16_2 + 1)) l0_0 l0_1 l0_2 a0_3 a0_4)) else (none)) else (none)) else (impl_Exploration_wayOut.l1 k2 x4_2 x11_1 l0_0 (l0_0.length : Int) (wrap64 (x16_2 + 1)) l0_0 l0_1 l0_2 a0_3 a0_4)) else (none)) else (none)) = some (r1, r2) := by rw [if_pos rfl] at H; exact H
             clear H; have H := H1; clear H1
             by_cases c21 : 0 ≤ ((rd_T37 l0_0 x16_2).f1)
             ·
              rw [if_pos c21] at H
              have c21b0 : decide (0 ≤ ((rd_T37 l0_0 x16_2).f1)) = true := decide_eq_true c21; clear c21
              by_cases c22 : ((rd_T37 l0_0 x16_2).f1) < (l0_1.length : Int)
              ·
               rw [if_pos c22] at H
               have c22b0 : decide (((rd_T37 l0_0 x16_2).f1) < (l0_1.length : Int)) = true := decide_eq_true c22; clear c22
               obtain ⟨bq23, hbq23⟩ : ∃ b_ : Bool, b_ = (rdOf false l0_1 ((rd_T37 l0_0 x16_2).f1)) := ⟨_, rfl⟩
               replace H : (if bq23 = true then (if ((rd_T37 l0_0 x16_2).f0) < (x4_2.length : Int) then (if ((rd_T37 l0_0 x16_2).f1) < (x4_2.length : Int) then ((some (x4_2.set (((rd_T37 l0_0 x16_2).f0) : Int).toNat (mn (rd x4_2 ((rd_T37 l0_0 x16_2).f0)) (wrap64 ((rd x4_2 ((rd_T37 l0_0 x16_2).f1)) + ((rd_T37 l0_0 x16_2).f2)))) : List Int)).bind fun y215 => (impl_Exploration_wayOut.l1 k2 (y215.set (((rd_T37 l0_0 x16_2).f1) : Int).toNat (mn (rd y215 ((rd_T37 l0_0 x16_2).f1)) (wrap64 ((rd y215 ((rd_T37 l0_0 x16_2).f0)) + ((rd_T37 l0_0 x16_2).f2))))) x11_1 l0_0 (l0_0.length : Int) (wrap64 (x16_2 + 1)) l0_0 l0_1 l0_2 a0_3 a0_4)) else (none)) else (none)) else (impl_Exploration_wayOut.l1 k2 x4_2 x11_1 l0_0 (l0_0.length : Int) (wrap64 (x16_2 + 1)) l0_0 l0_1 l0_2 a0_3 a0_4)) = some (r1, r2) := by rw [← hbq23] at H; exact H
               have Nbq23 := Aside0.mk hbq23; clear hbq23
               by_cases c24 : bq23 = true
               ·
                subst c24
                have H1 : (if ((rd_T37 l0_0 x16_2).f0) < (x4_2.length : Int) then (if ((rd_T37 l0_0 x16_2).f1) < (x4_2.length : Int) then ((some (x4_2.set (((rd_T37 l0_0 x16_2).f0) : Int).toNat (mn (rd x4_2 ((rd_T37 l0_0 x16_2).f0)) (wrap64 ((rd x4_2 ((rd_T37 l0_0 x16_2).f1)) + ((rd_T37 l0_0 x16_2).f2)))) : List Int)).bind fun y215 => (impl_Exploration_wayOut.l1 k2 (y215.set (((rd_T37 l0_0 x16_2).f1) : Int).toNat (mn (rd y215 ((rd_T37 l0_0 x16_2).f1)) (wrap64 ((rd y215 ((rd_T37 l0_0 x16_2).f0)) + ((rd_T37 l0_0 x16_2).f2))))) x11_1 l0_0 (l0_0.length : Int) (wrap64 (x16_2 + 1)) l0_0 l0_1 l0_2 a0_3 a0_4)) else (none)) else (none)) = some (r1, r2) := by rw [if_pos rfl] at H; exact H
                clear H; have H := H1; clear H1
                by_cases c25 : ((rd_T37 l0_0 x16_2).f0) < (x4_2.length : Int)
                ·
                 rw [if_pos c25] at H
                 have c25b0 : decide (((rd_T37 l0_0 x16_2).f0) < (x4_2.length : Int)) = true := decide_eq_true c25; clear c25
                 by_cases c26 : ((rd_T37 l0_0 x16_2).f1) < (x4_2.length : Int)
                 ·
                  rw [if_pos c26] at H
                  have c26b0 : decide (((rd_T37 l0_0 x16_2).f1) < (x4_2.length : Int)) = true := decide_eq_true c26; clear c26
                  obtain ⟨ji27, hji27⟩ : ∃ j_ : Int, (mn (rd x4_2 ((rd_T37 l0_0 x16_2).f0)) (wrap64 ((rd x4_2 ((rd_T37 l0_0 x16_2).f1)) + ((rd_T37 l0_0 x16_2).f2)))) = j_ := ⟨_, rfl⟩
                  replace H : ((some (x4_2.set (((rd_T37 l0_0 x16_2).f0) : Int).toNat (ji27) : List Int)).bind fun y215 => (impl_Exploration_wayOut.l1 k2 (y215.set (((rd_T37 l0_0 x16_2).f1) : Int).toNat (mn (rd y215 ((rd_T37 l0_0 x16_2).f1)) (wrap64 ((rd y215 ((rd_T37 l0_0 x16_2).f0)) + ((rd_T37 l0_0 x16_2).f2))))) x11_1 l0_0 (l0_0.length : Int) (wrap64 (x16_2 + 1)) l0_0 l0_1 l0_2 a0_3 a0_4)) = some (r1, r2) := by first | (rw [hji27] at H; exact H) | (simp only [hji27] at H ⊢; exact H)
                  have hji27_ : (if (wrap64 ((rd x4_2 ((rd_T37 l0_0 x16_2).f1)) + ((rd_T37 l0_0 x16_2).f2))) < (rd x4_2 ((rd_T37 l0_0 x16_2).f0)) then (wrap64 ((rd x4_2 ((rd_T37 l0_0 x16_2).f1)) + ((rd_T37 l0_0 x16_2).f2))) else (rd x4_2 ((rd_T37 l0_0 x16_2).f0))) = ji27 := hji27
                  obtain ⟨y215, hy215⟩ : ∃ y_ : List Int, y_ = (x4_2.set (((rd_T37 l0_0 x16_2).f0) : Int).toNat (ji27)) := ⟨_, rfl⟩
                  replace H : (impl_Exploration_wayOut.l1 k2 (y215.set (((rd_T37 l0_0 x16_2).f1) : Int).toNat (mn (rd y215 ((rd_T37 l0_0 x16_2).f1)) (wrap64 ((rd y215 ((rd_T37 l0_0 x16_2).f0)) + ((rd_T37 l0_0 x16_2).f2))))) x11_1 l0_0 (l0_0.length : Int) (wrap64 (x16_2 + 1)) l0_0 l0_1 l0_2 a0_3 a0_4) = some (r1, r2) := by first | (rw [hy215]; with_reducible exact H) | (have H2_ := (Option.bind_some _ _).symm.trans H; rw [hy215]; with_reducible exact H2_) | (have H2_ := (Option.bind_some _ _).symm.trans H; with_reducible exact H2_) | with_reducible exact H | (rw [hy215]; exact H) | exact H
                  have Ny215 := Aside0.mk hy215; clear hy215
                  obtain ⟨ji29, hji29⟩ : ∃ j_ : Int, (mn (rd y215 ((rd_T37 l0_0 x16_2).f1)) (wrap64 ((rd y215 ((rd_T37 l0_0 x16_2).f0)) + ((rd_T37 l0_0 x16_2).f2)))) = j_ := ⟨_, rfl⟩
                  replace H : (impl_Exploration_wayOut.l1 k2 (y215.set (((rd_T37 l0_0 x16_2).f1) : Int).toNat (ji29)) x11_1 l0_0 (l0_0.length : Int) (wrap64 (x16_2 + 1)) l0_0 l0_1 l0_2 a0_3 a0_4) = some (r1, r2) := by first | (rw [hji29] at H; exact H) | (simp only [hji29] at H ⊢; exact H)
                  have hji29_ : (if (wrap64 ((rd y215 ((rd_T37 l0_0 x16_2).f0)) + ((rd_T37 l0_0 x16_2).f2))) < (rd y215 ((rd_T37 l0_0 x16_2).f1)) then (wrap64 ((rd y215 ((rd_T37 l0_0 x16_2).f0)) + ((rd_T37 l0_0 x16_2).f2))) else (rd y215 ((rd_T37 l0_0 x16_2).f1))) = ji29 := hji29
                  obtain ⟨y218, hy218⟩ : ∃ y_ : List Int, y_ = (y215.set (((rd_T37 l0_0 x16_2).f1) : Int).toNat (ji29)) := ⟨_, rfl⟩
                  replace H : (impl_Exploration_wayOut.l1 k2 y218 x11_1 l0_0 (l0_0.length : Int) (wrap64 (x16_2 + 1)) l0_0 l0_1 l0_2 a0_3 a0_4) = some (r1, r2) := by first | (rw [hy218]; with_reducible exact H) | (have H2_ := (Option.bind_some _ _).symm.trans H; rw [hy218]; with_reducible exact H2_) | (have H2_ := (Option.bind_some _ _).symm.trans H; with_reducible exact H2_) | with_reducible exact H | (rw [hy218]; exact H) | exact H
                  have Ny218 := Aside0.mk hy218; clear hy218; have H' := Aside0.mk H; clear H; have p209 : 0 ≤ (x16_2 : Int) := dt_; have q209 : x16_2 < (l0_0.length : Int) := dt_; obtain ⟨ad209, e209, hx209_0, hx209_1, hx209_2, hx209_3, hx209_4⟩ := at_T37 HR0_0.out x16_2 p209 q209
                  cases e209
                  replace hx209_0 := bc_ HB.out hx209_0; replace hx209_1 := bc_ HB.out hx209_1; replace hx209_2 := bc_ HB.out hx209_2; replace hx209_3 := bc_ HB.out hx209_3; replace hx209_4 := bc_ HB.out hx209_4; replace p209 := eq_true p209; replace q209 := eq_true q209
                  try go_wp2_with (first | ((with_reducible refine gate_dst (N := 6) rfl ?_); refine box_event ?hg (N := 6) ?hd (cs := #[.int .i64 0, .int .i64 0, .int .i64 0, .int .i64 0, .int .i64 0]) (t := 37) ?hr ?_; (case hd => rfl); (case hg => rfl); (case hr => first | (go_simp; done) | (go_simp; rfl)); intro gb210 hg w31 hbox hb; replace HO_4 := Aside0.mk (Kd.R_below (kr_ HO_4.out) hb); have BK210 := Aside0.mk (hbox); have GW210 := Aside0.mk ((bz_ hg (lb1_ HB.out GE199.out))); have GE210 := Aside0.mk ((bz_ hg (lb1_ HB.out GE199.out))); replace HB := Aside0.mk (below_step (lb1_ HB.out GE199.out) hb); have NB199_210 := Aside0.mk (nl_ hg BK199.out); have NB210_199 := Aside0.mk (ng_ hg BK199.out); replace BK199 := Aside0.mk (bb_ (bk_ BK199.out) hb); clear hb hbox hg; have hnb32 := NB210_199.out; have hnc32 := NB199_210.out; obtain ⟨hcz33_0, hcz33_1, hcz33_2, hcz33_3, hcz33_4⟩ := cz5_ BK210.out; obtain ⟨hfz33_0, hfz33_1, hfz33_2, hfz33_3, hfz33_4⟩ := fz5_ BK210.out; obtain ⟨hcz34_0, hcz34_1, hcz34_2, hcz34_3, hcz34_4⟩ := cz5_ BK199.out; obtain ⟨hfz34_0, hfz34_1, hfz34_2, hfz34_3, hfz34_4⟩ := fz5_ BK199.out; have p211 : 0 ≤ (((rd_T37 l0_0 x16_2).f0) : Int) := dt_; have q211 : ((rd_T37 l0_0 x16_2).f0) < (l0_1.length : Int) := dt_; obtain ⟨ad211, e211, hx211_0⟩ := Kd.at_bool HR0_1.out ((rd_T37 l0_0 x16_2).f0) p211 q211; (try rw [← Nbq19.out] at hx211_0); (try rw [← Nbq23.out] at hx211_0); cases e211; have hn211_0 : ad211.block ≠ gb210 := Nat.ne_of_lt (Nat.lt_of_lt_of_le (by have := World.block_lt_of_cell? _ _ hx211_0; first | rwa [add_block] at this | exact this) GW210.out); have hn211_1 : ad211.block ≠ gb210 := Nat.ne_of_lt (Nat.lt_of_lt_of_le (by have := World.block_lt_of_cell? _ _ hx211_0; first | rwa [add_block] at this | exact this) GW210.out); have hn211_2 : ad211.block ≠ gb210 := Nat.ne_of_lt (Nat.lt_of_lt_of_le (by have := World.block_lt_of_cell? _ _ hx211_0; first | rwa [add_block] at this | exact this) GW210.out); have hn211_3 : ad211.block ≠ gb210 := Nat.ne_of_lt (Nat.lt_of_lt_of_le (by have := World.block_lt_of_cell? _ _ hx211_0; first | rwa [add_block] at this | exact this) GW210.out); have hn211_4 : ad211.block ≠ gb210 := Nat.ne_of_lt (Nat.lt_of_lt_of_le (by have := World.block_lt_of_cell? _ _ hx211_0; first | rwa [add_block] at this | exact this) GW210.out); replace hx211_0 := bc_ HB.out hx211_0; replace hx211_0 := (cell_far (p := ⟨gb210, 0, none⟩) (by first | (rw [add_block]; exact hn211_0) | (show (Addr.add _ _).block ≠ _; rw [add_block]; exact hn211_0) | exact hn211_0) (.int .i64 ((rd_T37 l0_0 x16_2).f0))).trans hx211_0; replace hx211_0 := (cell_far (p := ⟨gb210, 1, none⟩) (by first | (rw [add_block]; exact hn211_1) | (show (Addr.add _ _).block ≠ _; rw [add_block]; exact hn211_1) | exact hn211_1) (.int .i64 ((rd_T37 l0_0 x16_2).f1))).trans hx211_0; replace hx211_0 := (cell_far (p := ⟨gb210, 2, none⟩) (by first | (rw [add_block]; exact hn211_2) | (show (Addr.add _ _).block ≠ _; rw [add_block]; exact hn211_2) | exact hn211_2) (.int .i64 ((rd_T37 l0_0 x16_2).f2))).trans hx211_0; replace hx211_0 := (cell_far (p := ⟨gb210, 3, none⟩) (by first | (rw [add_block]; exact hn211_3) | (show (Addr.add _ _).block ≠ _; rw [add_block]; exact hn211_3) | exact hn211_3) (.int .i64 ((rd_T37 l0_0 x16_2).f3))).trans hx211_0; replace hx211_0 := (cell_far (p := ⟨gb210, 4, none⟩) (by first | (rw [add_block]; exact hn211_4) | (show (Addr.add _ _).block ≠ _; rw [add_block]; exact hn211_4) | exact hn211_4) (.int .i64 ((rd_T37 l0_0 x16_2).f4))).trans hx211_0; clear hn211_0; clear hn211_1; clear hn211_2; clear hn211_3; clear hn211_4; replace p211 := eq_true p211; replace q211 := eq_true q211; have p212 : 0 ≤ (((rd_T37 l0_0 x16_2).f1) : Int) := dt_; have q212 : ((rd_T37 l0_0 x16_2).f1) < (l0_1.length : Int) := dt_; obtain ⟨ad212, e212, hx212_0⟩ := Kd.at_bool HR0_1.out ((rd_T37 l0_0 x16_2).f1) p212 q212; (try rw [← Nbq19.out] at hx212_0); (try rw [← Nbq23.out] at hx212_0); obtain rfl : ad211 = ad212 := (by injection e212); have hn212_0 : ad211.block ≠ gb210 := Nat.ne_of_lt (Nat.lt_of_lt_of_le (by have := World.block_lt_of_cell? _ _ hx212_0; first | rwa [add_block] at this | exact this) GW210.out); have hn212_1 : ad211.block ≠ gb210 := Nat.ne_of_lt (Nat.lt_of_lt_of_le (by have := World.block_lt_of_cell? _ _ hx212_0; first | rwa [add_block] at this | exact this) GW210.out); have hn212_2 : ad211.block ≠ gb210 := Nat.ne_of_lt (Nat.lt_of_lt_of_le (by have := World.block_lt_of_cell? _ _ hx212_0; first | rwa [add_block] at this | exact this) GW210.out); have hn212_3 : ad211.block ≠ gb210 := Nat.ne_of_lt (Nat.lt_of_lt_of_le (by have := World.block_lt_of_cell? _ _ hx212_0; first | rwa [add_block] at this | exact this) GW210.out); have hn212_4 : ad211.block ≠ gb210 := Nat.ne_of_lt (Nat.lt_of_lt_of_le (by have := World.block_lt_of_cell? _ _ hx212_0; first | rwa [add_block] at this | exact this) GW210.out); replace hx212_0 := bc_ HB.out hx212_0; replace hx212_0 := (cell_far (p := ⟨gb210, 0, none⟩) (by first | (rw [add_block]; exact hn212_0) | (show (Addr.add _ _).block ≠ _; rw [add_block]; exact hn212_0) | exact hn212_0) (.int .i64 ((rd_T37 l0_0 x16_2).f0))).trans hx212_0; replace hx212_0 := (cell_far (p := ⟨gb210, 1, none⟩) (by first | (rw [add_block]; exact hn212_1) | (show (Addr.add _ _).block ≠ _; rw [add_block]; exact hn212_1) | exact hn212_1) (.int .i64 ((rd_T37 l0_0 x16_2).f1))).trans hx212_0; replace hx212_0 := (cell_far (p := ⟨gb210, 2, none⟩) (by first | (rw [add_block]; exact hn212_2) | (show (Addr.add _ _).block ≠ _; rw [add_block]; exact hn212_2) | exact hn212_2) (.int .i64 ((rd_T37 l0_0 x16_2).f2))).trans hx212_0; replace hx212_0 := (cell_far (p := ⟨gb210, 3, none⟩) (by first | (rw [add_block]; exact hn212_3) | (show (Addr.add _ _).block ≠ _; rw [add_block]; exact hn212_3) | exact hn212_3) (.int .i64 ((rd_T37 l0_0 x16_2).f3))).trans hx212_0; replace hx212_0 := (cell_far (p := ⟨gb210, 4, none⟩) (by first | (rw [add_block]; exact hn212_4) | (show (Addr.add _ _).block ≠ _; rw [add_block]; exact hn212_4) | exact hn212_4) (.int .i64 ((rd_T37 l0_0 x16_2).f4))).trans hx212_0; clear hn212_0; clear hn212_1; clear hn212_2; clear hn212_3; clear hn212_4; replace p212 := eq_true p212; replace q212 := eq_true q212))
                  have n0_ : Aside0 (Kd.R (Kd.int .i64) 3 (((((w31.setCell ⟨gb210, 0, none⟩ (.int .i64 ((rd_T37 l0_0 x16_2).f0))).setCell ⟨gb210, 1, none⟩ (.int .i64 ((rd_T37 l0_0 x16_2).f1))).setCell ⟨gb210, 2, none⟩ (.int .i64 ((rd_T37 l0_0 x16_2).f2))).setCell ⟨gb210, 3, none⟩ (.int .i64 ((rd_T37 l0_0 x16_2).f3))).setCell ⟨gb210, 4, none⟩ (.int .i64 ((rd_T37 l0_0 x16_2).f4))) w.heap.size (fun _ => True) (.slice (some ⟨go4, 0, none⟩) x4_2.length co4) x4_2) := ⟨Kd.R_mono (r5_ HO_4.out BK210.out (by decide) _ _ _ _ _) (fun _ hk => trivial)⟩
                  have n1_ : Aside0 ((((((w31.setCell ⟨gb210, 0, none⟩ (.int .i64 ((rd_T37 l0_0 x16_2).f0))).setCell ⟨gb210, 1, none⟩ (.int .i64 ((rd_T37 l0_0 x16_2).f1))).setCell ⟨gb210, 2, none⟩ (.int .i64 ((rd_T37 l0_0 x16_2).f2))).setCell ⟨gb210, 3, none⟩ (.int .i64 ((rd_T37 l0_0 x16_2).f3))).setCell ⟨gb210, 4, none⟩ (.int .i64 ((rd_T37 l0_0 x16_2).f4))).heap[gb199]? = some (.cells #[.slice (some ad209) l0_0.length c0_0, .slice (some ad211) l0_1.length c0_1, .slice A0_2 l0_2.length c0_2, .int .i64 a0_3, .int .i64 a0_4] 30 (0, 0))) := ⟨by exact (f5_ BK199.out NB199_210.out _ _ _ _ _)⟩
                  have n2_ : Aside0 ((((((w31.setCell ⟨gb210, 0, none⟩ (.int .i64 ((rd_T37 l0_0 x16_2).f0))).setCell ⟨gb210, 1, none⟩ (.int .i64 ((rd_T37 l0_0 x16_2).f1))).setCell ⟨gb210, 2, none⟩ (.int .i64 ((rd_T37 l0_0 x16_2).f2))).setCell ⟨gb210, 3, none⟩ (.int .i64 ((rd_T37 l0_0 x16_2).f3))).setCell ⟨gb210, 4, none⟩ (.int .i64 ((rd_T37 l0_0 x16_2).f4))).heap[gb210]? = some (.cells #[.int .i64 ((rd_T37 l0_0 x16_2).f0), .int .i64 ((rd_T37 l0_0 x16_2).f1), .int .i64 ((rd_T37 l0_0 x16_2).f2), .int .i64 ((rd_T37 l0_0 x16_2).f3), .int .i64 ((rd_T37 l0_0 x16_2).f4)] 37 (0, 0))) := ⟨by exact (p5_ BK210.out _ _ _ _ _)⟩
                  have n3_ : Aside0 (Below w.heap.size w (((((w31.setCell ⟨gb210, 0, none⟩ (.int .i64 ((rd_T37 l0_0 x16_2).f0))).setCell ⟨gb210, 1, none⟩ (.int .i64 ((rd_T37 l0_0 x16_2).f1))).setCell ⟨gb210, 2, none⟩ (.int .i64 ((rd_T37 l0_0 x16_2).f2))).setCell ⟨gb210, 3, none⟩ (.int .i64 ((rd_T37 l0_0 x16_2).f3))).setCell ⟨gb210, 4, none⟩ (.int .i64 ((rd_T37 l0_0 x16_2).f4)))) := ⟨lb2_ HB.out GE199.out GE210.out⟩
                  (try clear HO_4); (try clear BK199); (try clear BK210); (try clear HB); generalize (((((w31.setCell ⟨gb210, 0, none⟩ (.int .i64 ((rd_T37 l0_0 x16_2).f0))).setCell ⟨gb210, 1, none⟩ (.int .i64 ((rd_T37 l0_0 x16_2).f1))).setCell ⟨gb210, 2, none⟩ (.int .i64 ((rd_T37 l0_0 x16_2).f2))).setCell ⟨gb210, 3, none⟩ (.int .i64 ((rd_T37 l0_0 x16_2).f3))).setCell ⟨gb210, 4, none⟩ (.int .i64 ((rd_T37 l0_0 x16_2).f4))) = w35 at n0_ n1_ n2_ n3_ ⊢; have HO_4 := n0_; have BK199 := n1_; have BK210 := n2_; have HB := n3_; clear n0_ n1_ n2_ n3_; replace HO_4 := Aside0.mk (Kd.R_drew HO_4.out); replace BK199 := Aside0.mk (blk_drew BK199.out); replace BK210 := Aside0.mk (blk_drew BK210.out); replace HB := Aside0.mk (below_drew1 HB.out); have p213 : 0 ≤ (((rd_T37 l0_0 x16_2).f0) : Int) := dt_; have q213 : ((rd_T37 l0_0 x16_2).f0) < (x4_2.length : Int) := dt_; obtain ⟨ad213, e213, hx213_0⟩ := Kd.at_int (Kd.R_reads' HO_4.out).2.2 ((rd_T37 l0_0 x16_2).f0) p213 q213
                  obtain rfl : (⟨go4, 0, none⟩ : Addr) = ad213 := (by injection e213)
                  (first | simp only [add_plain] at hx213_0 | simp only [add_at] at hx213_0 | simp only [Addr.add, Nat.zero_add] at hx213_0 | skip)
                  replace p213 := eq_true p213; replace q213 := eq_true q213; have p214 : 0 ≤ (((rd_T37 l0_0 x16_2).f1) : Int) := dt_; have q214 : ((rd_T37 l0_0 x16_2).f1) < (x4_2.length : Int) := dt_; obtain ⟨ad214, e214, hx214_0⟩ := Kd.at_int (Kd.R_reads' HO_4.out).2.2 ((rd_T37 l0_0 x16_2).f1) p214 q214
                  obtain rfl : (⟨go4, 0, none⟩ : Addr) = ad214 := (by injection e214)
                  (first | simp only [add_plain] at hx214_0 | simp only [add_at] at hx214_0 | simp only [Addr.add, Nat.zero_add] at hx214_0 | skip)
                  replace p214 := eq_true p214; replace q214 := eq_true q214; have p28 : 0 ≤ (((rd_T37 l0_0 x16_2).f0) : Int) := dt_; have q28 : (((rd_T37 l0_0 x16_2).f0) : Int) < ((x4_2.length : Int) : Int) := dt_; obtain ⟨hx28_0, hf28_0⟩ := Kd.R_celln 0 HO_4.out (((rd_T37 l0_0 x16_2).f0) : Int) p28 q28; replace p28 := eq_true p28; replace q28 := eq_true q28; have HP37 := Kd.R_putn HO_4.out (((rd_T37 l0_0 x16_2).f0) : Int) ji27
                  rw [← Ny215.out] at HP37
                  have HQ37 := Aside0.mk HP37; clear HP37; refine start_ (n := 19) (S := fun w' => w'.cell? ⟨gb210, 0, none⟩ = some (.int .i64 ((rd_T37 l0_0 x16_2).f0)) ∧ w'.cell? ⟨gb210, 1, none⟩ = some (.int .i64 ((rd_T37 l0_0 x16_2).f1)) ∧ w'.cell? ⟨gb210, 2, none⟩ = some (.int .i64 ((rd_T37 l0_0 x16_2).f2)) ∧ w'.cell? ⟨gb210, 3, none⟩ = some (.int .i64 ((rd_T37 l0_0 x16_2).f3)) ∧ w'.cell? ⟨gb210, 4, none⟩ = some (.int .i64 ((rd_T37 l0_0 x16_2).f4)) ∧ w'.cell? ⟨go4, (((rd_T37 l0_0 x16_2).f0)).toNat, none⟩ = some (.int .i64 (rd x4_2 ((rd_T37 l0_0 x16_2).f0))) ∧ w'.cell? ⟨go4, (((rd_T37 l0_0 x16_2).f1)).toNat, none⟩ = some (.int .i64 (rd x4_2 ((rd_T37 l0_0 x16_2).f1)))) (ds := [18]) impl_Exploration_wayOut.mk0 (by kernel_rfl) rfl rfl ⟨(blk_cell BK210.out 0).trans rfl, (blk_cell BK210.out 1).trans rfl, (blk_cell BK210.out 2).trans rfl, (blk_cell BK210.out 3).trans rfl, (blk_cell BK210.out 4).trans rfl, hx213_0, hx214_0⟩ (fun hHeld => ?_); refine with_tabW impl_Exploration_wayOut.tab9 impl_Exploration_wayOut.bits9 (fun HT_ HW_ => ?_); generalize w35.drew = w36 at HO_4 BK199 BK210 HB HQ37 hf28_0 hx213_0 hx214_0 hx28_0 hHeld ⊢; refine pz_ HT_ 0 (some 34) impl_Exploration_wayOut.mk1 ?_; refine pz_ HT_ 1 (some 35) impl_Exploration_wayOut.mk2 ?_; refine pz_ HT_ 3 (some 37) impl_Exploration_wayOut.mk3 ?_; refine pz_ HT_ 4 (some 38) impl_Exploration_wayOut.mk4 ?_; refine pz_ HT_ 8 (some 42) impl_Exploration_wayOut.mk5 ?_; refine pz_ HT_ 9 (some 43) impl_Exploration_wayOut.mk6 ?_; refine pz_ HT_ 13 (some 47) impl_Exploration_wayOut.mk7 ?_; refine tk_ HT_ HW_ hHeld 2 (some 36) impl_Exploration_wayOut.mk8 ?_; refine tk_ HT_ HW_ hHeld 5 (some 39) impl_Exploration_wayOut.mk9 ?_; refine pz_ HT_ 6 (some 40) impl_Exploration_wayOut.mk10 ?_; refine tk_ HT_ HW_ hHeld 7 (some 41) impl_Exploration_wayOut.mk11 ?_; refine tk_ HT_ HW_ hHeld 10 (some 44) impl_Exploration_wayOut.mk12 ?_; refine pz_ HT_ 11 (some 45) impl_Exploration_wayOut.mk13 ?_; refine tk_ HT_ HW_ hHeld 12 (some 46) impl_Exploration_wayOut.mk14 ?_; refine tk_ HT_ HW_ hHeld 14 (some 48) impl_Exploration_wayOut.mk15 ?_; refine pz_ HT_ 15 (some 49) impl_Exploration_wayOut.mk16 ?_; refine pz_ HT_ 16 (some 50) impl_Exploration_wayOut.mk17 ?_; refine pz_ HT_ 17 (some 51) impl_Exploration_wayOut.mk18 ?_; refine last_ (i := 18) (N := none) impl_Exploration_wayOut.mk19 rfl rfl (one_of HT_.out (by kernel_rfl)) (by decide) (fun K hK => ?_); refine skip_ (w1 := ?_) (by rfl) rfl ?_ ?_; rotate_left
                  ·
                   go_simp; rfl
                  refine hK.out _ _ ?_; clear hK K; refine done_ (done_of HT_.out (by kernel_rfl)) ?_
                  try go_wp2
                  have n0_ : Aside0 (Kd.R (Kd.int .i64) 3 (w36.setCell ⟨go4, (((rd_T37 l0_0 x16_2).f0) : Int).toNat, none⟩ (.int .i64 ji27)) w.heap.size (fun _ => True) (.slice (some ⟨go4, 0, none⟩) x4_2.length co4) y215) := ⟨kr_ HQ37.out⟩
                  have n1_ : Aside0 ((w36.setCell ⟨go4, (((rd_T37 l0_0 x16_2).f0) : Int).toNat, none⟩ (.int .i64 ji27)).heap[gb199]? = some (.cells #[.slice (some ad209) l0_0.length c0_0, .slice (some ad211) l0_1.length c0_1, .slice A0_2 l0_2.length c0_2, .int .i64 a0_3, .int .i64 a0_4] 30 (0, 0))) := ⟨by (with_reducible repeat (first | refine blk_drewN ?_ _ | refine blk_drew ?_ | refine blk_alloc ?_ _)); refine blk_far ?_ (by have h_ := Kd.R_ne HO_4.out BK199.out (by decide); intro e_; exact h_ (by rw [e_]; rfl)) _; (with_reducible repeat (first | refine blk_drewN ?_ _ | refine blk_drew ?_ | refine blk_alloc ?_ _)); exact BK199.out⟩
                  have n2_ : Aside0 ((w36.setCell ⟨go4, (((rd_T37 l0_0 x16_2).f0) : Int).toNat, none⟩ (.int .i64 ji27)).heap[gb210]? = some (.cells #[.int .i64 ((rd_T37 l0_0 x16_2).f0), .int .i64 ((rd_T37 l0_0 x16_2).f1), .int .i64 ((rd_T37 l0_0 x16_2).f2), .int .i64 ((rd_T37 l0_0 x16_2).f3), .int .i64 ((rd_T37 l0_0 x16_2).f4)] 37 (0, 0))) := ⟨by (with_reducible repeat (first | refine blk_drewN ?_ _ | refine blk_drew ?_ | refine blk_alloc ?_ _)); refine blk_far ?_ (by have h_ := Kd.R_ne HO_4.out BK210.out (by decide); intro e_; exact h_ (by rw [e_]; rfl)) _; (with_reducible repeat (first | refine blk_drewN ?_ _ | refine blk_drew ?_ | refine blk_alloc ?_ _)); exact BK210.out⟩
                  have n3_ : Aside0 (Below w.heap.size w (w36.setCell ⟨go4, (((rd_T37 l0_0 x16_2).f0) : Int).toNat, none⟩ (.int .i64 ji27))) := ⟨lb3_ HB.out GB4.out GE199.out GE210.out⟩
                  (try clear HO_4); (try clear BK199); (try clear BK210); (try clear HB); generalize (w36.setCell ⟨go4, (((rd_T37 l0_0 x16_2).f0) : Int).toNat, none⟩ (.int .i64 ji27)) = w38 at n0_ n1_ n2_ n3_ ⊢; have HO_4 := n0_; have BK199 := n1_; have BK210 := n2_; have HB := n3_; clear n0_ n1_ n2_ n3_; replace HO_4 := Aside0.mk (Kd.R_drew HO_4.out); replace BK199 := Aside0.mk (blk_drew BK199.out); replace BK210 := Aside0.mk (blk_drew BK210.out); replace HB := Aside0.mk (below_drew1 HB.out); have p216 : 0 ≤ (((rd_T37 l0_0 x16_2).f1) : Int) := dt_
                  have q216 : ((rd_T37 l0_0 x16_2).f1) < (y215.length : Int) := (by have h_ : (((rd_T37 l0_0 x16_2).f1) : Int) < ((x4_2.length : Int) : Int) := dt_; first | (have e_ := (Kd.R_reads' HO_4.out).1; omega) | simpa only [Ny215.out, List.length_set] using h_)
                  have ql216 : ((((rd_T37 l0_0 x16_2).f1) : Int) < ((x4_2.length : Int) : Int)) = True := eq_true (dt_); obtain ⟨ad216, e216, hx216_0⟩ := Kd.at_int (Kd.R_reads' HO_4.out).2.2 ((rd_T37 l0_0 x16_2).f1) p216 q216
                  obtain rfl : (⟨go4, 0, none⟩ : Addr) = ad216 := (by injection e216)
                  (first | simp only [add_plain] at hx216_0 | simp only [add_at] at hx216_0 | simp only [Addr.add, Nat.zero_add] at hx216_0 | skip)
                  replace p216 := eq_true p216; replace q216 := eq_true q216; have p217 : 0 ≤ (((rd_T37 l0_0 x16_2).f0) : Int) := dt_
                  have q217 : ((rd_T37 l0_0 x16_2).f0) < (y215.length : Int) := (by have h_ : (((rd_T37 l0_0 x16_2).f0) : Int) < ((x4_2.length : Int) : Int) := dt_; first | (have e_ := (Kd.R_reads' HO_4.out).1; omega) | simpa only [Ny215.out, List.length_set] using h_)
                  have ql217 : ((((rd_T37 l0_0 x16_2).f0) : Int) < ((x4_2.length : Int) : Int)) = True := eq_true (dt_); obtain ⟨ad217, e217, hx217_0⟩ := Kd.at_int (Kd.R_reads' HO_4.out).2.2 ((rd_T37 l0_0 x16_2).f0) p217 q217
                  obtain rfl : (⟨go4, 0, none⟩ : Addr) = ad217 := (by injection e217)
                  (first | simp only [add_plain] at hx217_0 | simp only [add_at] at hx217_0 | simp only [Addr.add, Nat.zero_add] at hx217_0 | skip)
                  replace p217 := eq_true p217; replace q217 := eq_true q217; have p30 : 0 ≤ (((rd_T37 l0_0 x16_2).f1) : Int) := dt_; have q30 : (((rd_T37 l0_0 x16_2).f1) : Int) < ((x4_2.length : Int) : Int) := dt_; obtain ⟨hx30_0, hf30_0⟩ := Kd.R_celln 0 HO_4.out (((rd_T37 l0_0 x16_2).f1) : Int) p30 q30; replace p30 := eq_true p30; replace q30 := eq_true q30; have HP40 := Kd.R_putn HO_4.out (((rd_T37 l0_0 x16_2).f1) : Int) ji29
                  rw [← Ny218.out] at HP40
                  have HQ40 := Aside0.mk HP40; clear HP40; refine start_ (n := 19) (S := fun w' => w'.cell? ⟨gb210, 0, none⟩ = some (.int .i64 ((rd_T37 l0_0 x16_2).f0)) ∧ w'.cell? ⟨gb210, 1, none⟩ = some (.int .i64 ((rd_T37 l0_0 x16_2).f1)) ∧ w'.cell? ⟨gb210, 2, none⟩ = some (.int .i64 ((rd_T37 l0_0 x16_2).f2)) ∧ w'.cell? ⟨gb210, 3, none⟩ = some (.int .i64 ((rd_T37 l0_0 x16_2).f3)) ∧ w'.cell? ⟨gb210, 4, none⟩ = some (.int .i64 ((rd_T37 l0_0 x16_2).f4)) ∧ w'.cell? ⟨go4, (((rd_T37 l0_0 x16_2).f1)).toNat, none⟩ = some (.int .i64 (rd y215 ((rd_T37 l0_0 x16_2).f1))) ∧ w'.cell? ⟨go4, (((rd_T37 l0_0 x16_2).f0)).toNat, none⟩ = some (.int .i64 (rd y215 ((rd_T37 l0_0 x16_2).f0)))) (ds := [18]) impl_Exploration_wayOut.mk0 (by kernel_rfl) rfl rfl ⟨(blk_cell BK210.out 0).trans rfl, (blk_cell BK210.out 1).trans rfl, (blk_cell BK210.out 2).trans rfl, (blk_cell BK210.out 3).trans rfl, (blk_cell BK210.out 4).trans rfl, hx216_0, hx217_0⟩ (fun hHeld => ?_); refine with_tabW impl_Exploration_wayOut.tab10 impl_Exploration_wayOut.bits10 (fun HT_ HW_ => ?_); generalize w38.drew = w39 at HO_4 BK199 BK210 HB HQ37 HQ40 hf30_0 hx216_0 hx217_0 hx30_0 hHeld ⊢; refine pz_ HT_ 0 (some 52) impl_Exploration_wayOut.mk1 ?_; refine pz_ HT_ 1 (some 53) impl_Exploration_wayOut.mk2 ?_; refine pz_ HT_ 3 (some 55) impl_Exploration_wayOut.mk3 ?_; refine pz_ HT_ 4 (some 56) impl_Exploration_wayOut.mk4 ?_; refine pz_ HT_ 8 (some 60) impl_Exploration_wayOut.mk5 ?_; refine pz_ HT_ 9 (some 61) impl_Exploration_wayOut.mk6 ?_; refine pz_ HT_ 13 (some 65) impl_Exploration_wayOut.mk7 ?_; refine tk_ HT_ HW_ hHeld 2 (some 54) impl_Exploration_wayOut.mk8 ?_; refine tk_ HT_ HW_ hHeld 5 (some 57) impl_Exploration_wayOut.mk9 ?_; refine pz_ HT_ 6 (some 58) impl_Exploration_wayOut.mk10 ?_; refine tk_ HT_ HW_ hHeld 7 (some 59) impl_Exploration_wayOut.mk11 ?_; refine tk_ HT_ HW_ hHeld 10 (some 62) impl_Exploration_wayOut.mk12 ?_; refine pz_ HT_ 11 (some 63) impl_Exploration_wayOut.mk13 ?_; refine tk_ HT_ HW_ hHeld 12 (some 64) impl_Exploration_wayOut.mk14 ?_; refine tk_ HT_ HW_ hHeld 14 (some 66) impl_Exploration_wayOut.mk15 ?_; refine pz_ HT_ 15 (some 67) impl_Exploration_wayOut.mk16 ?_; refine pz_ HT_ 16 (some 68) impl_Exploration_wayOut.mk17 ?_; refine pz_ HT_ 17 (some 69) impl_Exploration_wayOut.mk18 ?_; refine last_ (i := 18) (N := none) impl_Exploration_wayOut.mk19 rfl rfl (one_of HT_.out (by kernel_rfl)) (by decide) (fun K hK => ?_); refine skip_ (w1 := ?_) (by rfl) rfl ?_ ?_; rotate_left
                  ·
                   go_simp; rfl
                  refine hK.out _ _ ?_; clear hK K; refine done_ (done_of HT_.out (by kernel_rfl)) ?_
                  try go_wp2
                  (try simp only [← hl4_2])
                  go_roundg k2
                  case measure => have := HK1.out; have := HK2.out; omega
                  case rel => exact ⟨(y218), (wrap64 (x16_2 + 1)), (by first | rfl | (simp; done) | (simp [*]; done)), H', ⟨by have := HK1.out; have := HK2.out; omega⟩, ⟨by (try simp only [hl4_1]); (try simp only [hl4_2]); (with_reducible repeat (first | apply Kd.R_alloc | apply Kd.R_drewN | apply Kd.R_drew)); exact HQ40.out⟩, ⟨by (try simp only [hl4_1]); (try simp only [hl4_2]); (with_reducible repeat (first | refine blk_drewN ?_ _ | refine blk_drew ?_ | refine blk_alloc ?_ _)); refine blk_far ?_ (by have h_ := Kd.R_ne HO_4.out BK199.out (by decide); intro e_; exact h_ (by rw [e_]; rfl)) _; (with_reducible repeat (first | refine blk_drewN ?_ _ | refine blk_drew ?_ | refine blk_alloc ?_ _)); exact BK199.out⟩, ⟨lb3_ HB.out GB4.out GE199.out GE210.out⟩⟩
                 ·
                  rw [if_neg c26] at H
                  exact absurd H (by simp)
                ·
                 rw [if_neg c25] at H
                 exact absurd H (by simp)
               ·
                replace c24 := Bool.eq_false_iff.mpr c24; subst c24
                have H1 : (impl_Exploration_wayOut.l1 k2 x4_2 x11_1 l0_0 (l0_0.length : Int) (wrap64 (x16_2 + 1)) l0_0 l0_1 l0_2 a0_3 a0_4) = some (r1, r2) := by rw [if_neg (show ¬ (false = true) by decide)] at H; exact H
                clear H; have H := H1; clear H1; have H' := Aside0.mk H; clear H; have p209 : 0 ≤ (x16_2 : Int) := dt_; have q209 : x16_2 < (l0_0.length : Int) := dt_; obtain ⟨ad209, e209, hx209_0, hx209_1, hx209_2, hx209_3, hx209_4⟩ := at_T37 HR0_0.out x16_2 p209 q209
                cases e209
                replace hx209_0 := bc_ HB.out hx209_0; replace hx209_1 := bc_ HB.out hx209_1; replace hx209_2 := bc_ HB.out hx209_2; replace hx209_3 := bc_ HB.out hx209_3; replace hx209_4 := bc_ HB.out hx209_4; replace p209 := eq_true p209; replace q209 := eq_true q209
                go_wp2_with (first | ((with_reducible refine gate_dst (N := 6) rfl ?_); refine box_event ?hg (N := 6) ?hd (cs := #[.int .i64 0, .int .i64 0, .int .i64 0, .int .i64 0, .int .i64 0]) (t := 37) ?hr ?_; (case hd => rfl); (case hg => rfl); (case hr => first | (go_simp; done) | (go_simp; rfl)); intro gb210 hg w41 hbox hb; replace HO_4 := Aside0.mk (Kd.R_below (kr_ HO_4.out) hb); have BK210 := Aside0.mk (hbox); have GW210 := Aside0.mk ((bz_ hg (lb1_ HB.out GE199.out))); have GE210 := Aside0.mk ((bz_ hg (lb1_ HB.out GE199.out))); replace HB := Aside0.mk (below_step (lb1_ HB.out GE199.out) hb); have NB199_210 := Aside0.mk (nl_ hg BK199.out); have NB210_199 := Aside0.mk (ng_ hg BK199.out); replace BK199 := Aside0.mk (bb_ (bk_ BK199.out) hb); clear hb hbox hg; have hnb42 := NB210_199.out; have hnc42 := NB199_210.out; obtain ⟨hcz43_0, hcz43_1, hcz43_2, hcz43_3, hcz43_4⟩ := cz5_ BK210.out; obtain ⟨hfz43_0, hfz43_1, hfz43_2, hfz43_3, hfz43_4⟩ := fz5_ BK210.out; obtain ⟨hcz44_0, hcz44_1, hcz44_2, hcz44_3, hcz44_4⟩ := cz5_ BK199.out; obtain ⟨hfz44_0, hfz44_1, hfz44_2, hfz44_3, hfz44_4⟩ := fz5_ BK199.out; have p211 : 0 ≤ (((rd_T37 l0_0 x16_2).f0) : Int) := dt_; have q211 : ((rd_T37 l0_0 x16_2).f0) < (l0_1.length : Int) := dt_; obtain ⟨ad211, e211, hx211_0⟩ := Kd.at_bool HR0_1.out ((rd_T37 l0_0 x16_2).f0) p211 q211; (try rw [← Nbq19.out] at hx211_0); (try rw [← Nbq23.out] at hx211_0); cases e211; have hn211_0 : ad211.block ≠ gb210 := Nat.ne_of_lt (Nat.lt_of_lt_of_le (by have := World.block_lt_of_cell? _ _ hx211_0; first | rwa [add_block] at this | exact this) GW210.out); have hn211_1 : ad211.block ≠ gb210 := Nat.ne_of_lt (Nat.lt_of_lt_of_le (by have := World.block_lt_of_cell? _ _ hx211_0; first | rwa [add_block] at this | exact this) GW210.out); have hn211_2 : ad211.block ≠ gb210 := Nat.ne_of_lt (Nat.lt_of_lt_of_le (by have := World.block_lt_of_cell? _ _ hx211_0; first | rwa [add_block] at this | exact this) GW210.out); have hn211_3 : ad211.block ≠ gb210 := Nat.ne_of_lt (Nat.lt_of_lt_of_le (by have := World.block_lt_of_cell? _ _ hx211_0; first | rwa [add_block] at this | exact this) GW210.out); have hn211_4 : ad211.block ≠ gb210 := Nat.ne_of_lt (Nat.lt_of_lt_of_le (by have := World.block_lt_of_cell? _ _ hx211_0; first | rwa [add_block] at this | exact this) GW210.out); replace hx211_0 := bc_ HB.out hx211_0; replace hx211_0 := (cell_far (p := ⟨gb210, 0, none⟩) (by first | (rw [add_block]; exact hn211_0) | (show (Addr.add _ _).block ≠ _; rw [add_block]; exact hn211_0) | exact hn211_0) (.int .i64 ((rd_T37 l0_0 x16_2).f0))).trans hx211_0; replace hx211_0 := (cell_far (p := ⟨gb210, 1, none⟩) (by first | (rw [add_block]; exact hn211_1) | (show (Addr.add _ _).block ≠ _; rw [add_block]; exact hn211_1) | exact hn211_1) (.int .i64 ((rd_T37 l0_0 x16_2).f1))).trans hx211_0; replace hx211_0 := (cell_far (p := ⟨gb210, 2, none⟩) (by first | (rw [add_block]; exact hn211_2) | (show (Addr.add _ _).block ≠ _; rw [add_block]; exact hn211_2) | exact hn211_2) (.int .i64 ((rd_T37 l0_0 x16_2).f2))).trans hx211_0; replace hx211_0 := (cell_far (p := ⟨gb210, 3, none⟩) (by first | (rw [add_block]; exact hn211_3) | (show (Addr.add _ _).block ≠ _; rw [add_block]; exact hn211_3) | exact hn211_3) (.int .i64 ((rd_T37 l0_0 x16_2).f3))).trans hx211_0; replace hx211_0 := (cell_far (p := ⟨gb210, 4, none⟩) (by first | (rw [add_block]; exact hn211_4) | (show (Addr.add _ _).block ≠ _; rw [add_block]; exact hn211_4) | exact hn211_4) (.int .i64 ((rd_T37 l0_0 x16_2).f4))).trans hx211_0; clear hn211_0; clear hn211_1; clear hn211_2; clear hn211_3; clear hn211_4; replace p211 := eq_true p211; replace q211 := eq_true q211; have p212 : 0 ≤ (((rd_T37 l0_0 x16_2).f1) : Int) := dt_; have q212 : ((rd_T37 l0_0 x16_2).f1) < (l0_1.length : Int) := dt_; obtain ⟨ad212, e212, hx212_0⟩ := Kd.at_bool HR0_1.out ((rd_T37 l0_0 x16_2).f1) p212 q212; (try rw [← Nbq19.out] at hx212_0); (try rw [← Nbq23.out] at hx212_0); obtain rfl : ad211 = ad212 := (by injection e212); have hn212_0 : ad211.block ≠ gb210 := Nat.ne_of_lt (Nat.lt_of_lt_of_le (by have := World.block_lt_of_cell? _ _ hx212_0; first | rwa [add_block] at this | exact this) GW210.out); have hn212_1 : ad211.block ≠ gb210 := Nat.ne_of_lt (Nat.lt_of_lt_of_le (by have := World.block_lt_of_cell? _ _ hx212_0; first | rwa [add_block] at this | exact this) GW210.out); have hn212_2 : ad211.block ≠ gb210 := Nat.ne_of_lt (Nat.lt_of_lt_of_le (by have := World.block_lt_of_cell? _ _ hx212_0; first | rwa [add_block] at this | exact this) GW210.out); have hn212_3 : ad211.block ≠ gb210 := Nat.ne_of_lt (Nat.lt_of_lt_of_le (by have := World.block_lt_of_cell? _ _ hx212_0; first | rwa [add_block] at this | exact this) GW210.out); have hn212_4 : ad211.block ≠ gb210 := Nat.ne_of_lt (Nat.lt_of_lt_of_le (by have := World.block_lt_of_cell? _ _ hx212_0; first | rwa [add_block] at this | exact this) GW210.out); replace hx212_0 := bc_ HB.out hx212_0; replace hx212_0 := (cell_far (p := ⟨gb210, 0, none⟩) (by first | (rw [add_block]; exact hn212_0) | (show (Addr.add _ _).block ≠ _; rw [add_block]; exact hn212_0) | exact hn212_0) (.int .i64 ((rd_T37 l0_0 x16_2).f0))).trans hx212_0; replace hx212_0 := (cell_far (p := ⟨gb210, 1, none⟩) (by first | (rw [add_block]; exact hn212_1) | (show (Addr.add _ _).block ≠ _; rw [add_block]; exact hn212_1) | exact hn212_1) (.int .i64 ((rd_T37 l0_0 x16_2).f1))).trans hx212_0; replace hx212_0 := (cell_far (p := ⟨gb210, 2, none⟩) (by first | (rw [add_block]; exact hn212_2) | (show (Addr.add _ _).block ≠ _; rw [add_block]; exact hn212_2) | exact hn212_2) (.int .i64 ((rd_T37 l0_0 x16_2).f2))).trans hx212_0; replace hx212_0 := (cell_far (p := ⟨gb210, 3, none⟩) (by first | (rw [add_block]; exact hn212_3) | (show (Addr.add _ _).block ≠ _; rw [add_block]; exact hn212_3) | exact hn212_3) (.int .i64 ((rd_T37 l0_0 x16_2).f3))).trans hx212_0; replace hx212_0 := (cell_far (p := ⟨gb210, 4, none⟩) (by first | (rw [add_block]; exact hn212_4) | (show (Addr.add _ _).block ≠ _; rw [add_block]; exact hn212_4) | exact hn212_4) (.int .i64 ((rd_T37 l0_0 x16_2).f4))).trans hx212_0; clear hn212_0; clear hn212_1; clear hn212_2; clear hn212_3; clear hn212_4; replace p212 := eq_true p212; replace q212 := eq_true q212))
                (try simp only [← hl4_2])
                go_roundg k2
                case measure => have := HK1.out; have := HK2.out; omega
                case rel => exact ⟨(x4_2), (wrap64 (x16_2 + 1)), (by first | rfl | (simp; done) | (simp [*]; done)), H', ⟨by have := HK1.out; have := HK2.out; omega⟩, ⟨by (try simp only [hl4_1]); (try simp only [hl4_2]); (with_reducible repeat (first | apply Kd.R_alloc | apply Kd.R_drewN | apply Kd.R_drew)); exact Kd.R_mono (Kd.R_far (p := ⟨gb210, 4, none⟩) (Kd.R_far (p := ⟨gb210, 3, none⟩) (Kd.R_far (p := ⟨gb210, 2, none⟩) (Kd.R_far (p := ⟨gb210, 1, none⟩) (Kd.R_far (p := ⟨gb210, 0, none⟩) (Kd.R_types HO_4.out BK210.out (by decide)) (fun _ hk => hk.2) (.int .i64 ((rd_T37 l0_0 x16_2).f0))) (fun _ hk => hk.2) (.int .i64 ((rd_T37 l0_0 x16_2).f1))) (fun _ hk => hk.2) (.int .i64 ((rd_T37 l0_0 x16_2).f2))) (fun _ hk => hk.2) (.int .i64 ((rd_T37 l0_0 x16_2).f3))) (fun _ hk => hk.2) (.int .i64 ((rd_T37 l0_0 x16_2).f4))) (fun _ hk => trivial)⟩, ⟨by (try simp only [hl4_1]); (try simp only [hl4_2]); (with_reducible repeat (first | refine blk_drewN ?_ _ | refine blk_drew ?_ | refine blk_alloc ?_ _)); refine blk_far ?_ NB199_210.out _; (with_reducible repeat (first | refine blk_drewN ?_ _ | refine blk_drew ?_ | refine blk_alloc ?_ _)); refine blk_far ?_ NB199_210.out _; (with_reducible repeat (first | refine blk_drewN ?_ _ | refine blk_drew ?_ | refine blk_alloc ?_ _)); refine blk_far ?_ NB199_210.out _; (with_reducible repeat (first | refine blk_drewN ?_ _ | refine blk_drew ?_ | refine blk_alloc ?_ _)); refine blk_far ?_ NB199_210.out _; (with_reducible repeat (first | refine blk_drewN ?_ _ | refine blk_drew ?_ | refine blk_alloc ?_ _)); refine blk_far ?_ NB199_210.out _; (with_reducible repeat (first | refine blk_drewN ?_ _ | refine blk_drew ?_ | refine blk_alloc ?_ _)); exact BK199.out⟩, ⟨lb2_ HB.out GE199.out GE210.out⟩⟩
              ·
               rw [if_neg c22] at H
               exact absurd H (by simp)
             ·
              rw [if_neg c21] at H
              exact absurd H (by simp)
            ·
             replace c20 := Bool.eq_false_iff.mpr c20; subst c20
             have H1 : (impl_Exploration_wayOut.l1 k2 x4_2 x11_1 l0_0 (l0_0.length : Int) (wrap64 (x16_2 + 1)) l0_0 l0_1 l0_2 a0_3 a0_4) = some (r1, r2) := by rw [if_neg (show ¬ (false = true) by decide)] at H; exact H
             clear H; have H := H1; clear H1; have H' := Aside0.mk H; clear H; have p209 : 0 ≤ (x16_2 : Int) := dt_; have q209 : x16_2 < (l0_0.length : Int) := dt_; obtain ⟨ad209, e209, hx209_0, hx209_1, hx209_2, hx209_3, hx209_4⟩ := at_T37 HR0_0.out x16_2 p209 q209
             cases e209
             replace hx209_0 := bc_ HB.out hx209_0; replace hx209_1 := bc_ HB.out hx209_1; replace hx209_2 := bc_ HB.out hx209_2; replace hx209_3 := bc_ HB.out hx209_3; replace hx209_4 := bc_ HB.out hx209_4; replace p209 := eq_true p209; replace q209 := eq_true q209
             go_wp2_with (first | ((with_reducible refine gate_dst (N := 6) rfl ?_); refine box_event ?hg (N := 6) ?hd (cs := #[.int .i64 0, .int .i64 0, .int .i64 0, .int .i64 0, .int .i64 0]) (t := 37) ?hr ?_; (case hd => rfl); (case hg => rfl); (case hr => first | (go_simp; done) | (go_simp; rfl)); intro gb210 hg w45 hbox hb; replace HO_4 := Aside0.mk (Kd.R_below (kr_ HO_4.out) hb); have BK210 := Aside0.mk (hbox); have GW210 := Aside0.mk ((bz_ hg (lb1_ HB.out GE199.out))); have GE210 := Aside0.mk ((bz_ hg (lb1_ HB.out GE199.out))); replace HB := Aside0.mk (below_step (lb1_ HB.out GE199.out) hb); have NB199_210 := Aside0.mk (nl_ hg BK199.out); have NB210_199 := Aside0.mk (ng_ hg BK199.out); replace BK199 := Aside0.mk (bb_ (bk_ BK199.out) hb); clear hb hbox hg; have hnb46 := NB210_199.out; have hnc46 := NB199_210.out; obtain ⟨hcz47_0, hcz47_1, hcz47_2, hcz47_3, hcz47_4⟩ := cz5_ BK210.out; obtain ⟨hfz47_0, hfz47_1, hfz47_2, hfz47_3, hfz47_4⟩ := fz5_ BK210.out; obtain ⟨hcz48_0, hcz48_1, hcz48_2, hcz48_3, hcz48_4⟩ := cz5_ BK199.out; obtain ⟨hfz48_0, hfz48_1, hfz48_2, hfz48_3, hfz48_4⟩ := fz5_ BK199.out; have p211 : 0 ≤ (((rd_T37 l0_0 x16_2).f0) : Int) := dt_; have q211 : ((rd_T37 l0_0 x16_2).f0) < (l0_1.length : Int) := dt_; obtain ⟨ad211, e211, hx211_0⟩ := Kd.at_bool HR0_1.out ((rd_T37 l0_0 x16_2).f0) p211 q211; (try rw [← Nbq19.out] at hx211_0); cases e211; have hn211_0 : ad211.block ≠ gb210 := Nat.ne_of_lt (Nat.lt_of_lt_of_le (by have := World.block_lt_of_cell? _ _ hx211_0; first | rwa [add_block] at this | exact this) GW210.out); have hn211_1 : ad211.block ≠ gb210 := Nat.ne_of_lt (Nat.lt_of_lt_of_le (by have := World.block_lt_of_cell? _ _ hx211_0; first | rwa [add_block] at this | exact this) GW210.out); have hn211_2 : ad211.block ≠ gb210 := Nat.ne_of_lt (Nat.lt_of_lt_of_le (by have := World.block_lt_of_cell? _ _ hx211_0; first | rwa [add_block] at this | exact this) GW210.out); have hn211_3 : ad211.block ≠ gb210 := Nat.ne_of_lt (Nat.lt_of_lt_of_le (by have := World.block_lt_of_cell? _ _ hx211_0; first | rwa [add_block] at this | exact this) GW210.out); have hn211_4 : ad211.block ≠ gb210 := Nat.ne_of_lt (Nat.lt_of_lt_of_le (by have := World.block_lt_of_cell? _ _ hx211_0; first | rwa [add_block] at this | exact this) GW210.out); replace hx211_0 := bc_ HB.out hx211_0; replace hx211_0 := (cell_far (p := ⟨gb210, 0, none⟩) (by first | (rw [add_block]; exact hn211_0) | (show (Addr.add _ _).block ≠ _; rw [add_block]; exact hn211_0) | exact hn211_0) (.int .i64 ((rd_T37 l0_0 x16_2).f0))).trans hx211_0; replace hx211_0 := (cell_far (p := ⟨gb210, 1, none⟩) (by first | (rw [add_block]; exact hn211_1) | (show (Addr.add _ _).block ≠ _; rw [add_block]; exact hn211_1) | exact hn211_1) (.int .i64 ((rd_T37 l0_0 x16_2).f1))).trans hx211_0; replace hx211_0 := (cell_far (p := ⟨gb210, 2, none⟩) (by first | (rw [add_block]; exact hn211_2) | (show (Addr.add _ _).block ≠ _; rw [add_block]; exact hn211_2) | exact hn211_2) (.int .i64 ((rd_T37 l0_0 x16_2).f2))).trans hx211_0; replace hx211_0 := (cell_far (p := ⟨gb210, 3, none⟩) (by first | (rw [add_block]; exact hn211_3) | (show (Addr.add _ _).block ≠ _; rw [add_block]; exact hn211_3) | exact hn211_3) (.int .i64 ((rd_T37 l0_0 x16_2).f3))).trans hx211_0; replace hx211_0 := (cell_far (p := ⟨gb210, 4, none⟩) (by first | (rw [add_block]; exact hn211_4) | (show (Addr.add _ _).block ≠ _; rw [add_block]; exact hn211_4) | exact hn211_4) (.int .i64 ((rd_T37 l0_0 x16_2).f4))).trans hx211_0; clear hn211_0; clear hn211_1; clear hn211_2; clear hn211_3; clear hn211_4; replace p211 := eq_true p211; replace q211 := eq_true q211))
             (try simp only [← hl4_2])
             go_roundg k2
             case measure => have := HK1.out; have := HK2.out; omega
             case rel => exact ⟨(x4_2), (wrap64 (x16_2 + 1)), (by first | rfl | (simp; done) | (simp [*]; done)), H', ⟨by have := HK1.out; have := HK2.out; omega⟩, ⟨by (try simp only [hl4_1]); (try simp only [hl4_2]); (with_reducible repeat (first | apply Kd.R_alloc | apply Kd.R_drewN | apply Kd.R_drew)); exact Kd.R_mono (Kd.R_far (p := ⟨gb210, 4, none⟩) (Kd.R_far (p := ⟨gb210, 3, none⟩) (Kd.R_far (p := ⟨gb210, 2, none⟩) (Kd.R_far (p := ⟨gb210, 1, none⟩) (Kd.R_far (p := ⟨gb210, 0, none⟩) (Kd.R_types HO_4.out BK210.out (by decide)) (fun _ hk => hk.2) (.int .i64 ((rd_T37 l0_0 x16_2).f0))) (fun _ hk => hk.2) (.int .i64 ((rd_T37 l0_0 x16_2).f1))) (fun _ hk => hk.2) (.int .i64 ((rd_T37 l0_0 x16_2).f2))) (fun _ hk => hk.2) (.int .i64 ((rd_T37 l0_0 x16_2).f3))) (fun _ hk => hk.2) (.int .i64 ((rd_T37 l0_0 x16_2).f4))) (fun _ hk => trivial)⟩, ⟨by (try simp only [hl4_1]); (try simp only [hl4_2]); (with_reducible repeat (first | refine blk_drewN ?_ _ | refine blk_drew ?_ | refine blk_alloc ?_ _)); refine blk_far ?_ NB199_210.out _; (with_reducible repeat (first | refine blk_drewN ?_ _ | refine blk_drew ?_ | refine blk_alloc ?_ _)); refine blk_far ?_ NB199_210.out _; (with_reducible repeat (first | refine blk_drewN ?_ _ | refine blk_drew ?_ | refine blk_alloc ?_ _)); refine blk_far ?_ NB199_210.out _; (with_reducible repeat (first | refine blk_drewN ?_ _ | refine blk_drew ?_ | refine blk_alloc ?_ _)); refine blk_far ?_ NB199_210.out _; (with_reducible repeat (first | refine blk_drewN ?_ _ | refine blk_drew ?_ | refine blk_alloc ?_ _)); refine blk_far ?_ NB199_210.out _; (with_reducible repeat (first | refine blk_drewN ?_ _ | refine blk_drew ?_ | refine blk_alloc ?_ _)); exact BK199.out⟩, ⟨lb2_ HB.out GE199.out GE210.out⟩⟩
           ·
            rw [if_neg c18] at H
            exact absurd H (by simp)
          ·
           rw [if_neg c17] at H
           exact absurd H (by simp)
         ·
          rw [if_neg c16] at H
          exact absurd H (by simp)
        ·
         rw [if_neg c15] at H
         exact absurd H (by simp)
       ·
        rw [if_neg c14] at H
        have c14b0 : decide (x16_2 < (l0_0.length : Int)) = false := decide_eq_false c14; clear c14; have H' := Aside0.mk H; clear H
        go_wp2
        (try simp only [← hl4_1, ← hl4_2])
        go_roundg k2
        case measure => have := HK1.out; have := HK2.out; omega
        case rel => exact ⟨(x4_2), (wrap64 (x11_1 + 1)), (by first | rfl | (simp; done) | (simp [*]; done)), H', ⟨by have := HK1.out; have := HK2.out; omega⟩, ⟨by (try simp only [hl4_1]); (try simp only [hl4_2]); (with_reducible repeat (first | apply Kd.R_alloc | apply Kd.R_drewN | apply Kd.R_drew)); exact HO_4.out⟩, ⟨by (try simp only [hl4_1]); (try simp only [hl4_2]); (with_reducible repeat (first | refine blk_drewN ?_ _ | refine blk_drew ?_ | refine blk_alloc ?_ _)); exact BK199.out⟩, ⟨lb1_ HB.out GE199.out⟩⟩
    ·
     rw [if_neg c12] at H
     have c12b0 : decide (x11_1 < 8) = false := decide_eq_false c12
     clear c12
     by_cases c49 : 0 ≤ a0_3
     ·
      rw [if_pos c49] at H
      have c49b0 : decide (0 ≤ a0_3) = true := decide_eq_true c49
      clear c49
      by_cases c50 : a0_3 < (x4_1.length : Int)
      ·
       rw [if_pos c50] at H
       have c50b0 : decide (a0_3 < (x4_1.length : Int)) = true := decide_eq_true c50
       clear c50
       simp only [Option.some.injEq, Prod.mk.injEq] at H
       obtain ⟨rfl, rfl⟩ := H
       try go_wp2
       replace HO_4 := Aside0.mk (Kd.R_drew HO_4.out)
       replace BK199 := Aside0.mk (blk_drew BK199.out)
       replace HB := Aside0.mk (below_drew1 HB.out)
       have p207 : 0 ≤ (a0_3 : Int) := dt_
       have q207 : a0_3 < (x4_1.length : Int) := dt_
       obtain ⟨ad207, e207, hx207_0⟩ := Kd.at_int (Kd.R_reads' HO_4.out).2.2 a0_3 p207 q207
       obtain rfl : (⟨go4, 0, none⟩ : Addr) = ad207 := (by injection e207)
       (first | simp only [add_plain] at hx207_0 | simp only [add_at] at hx207_0 | simp only [Addr.add, Nat.zero_add] at hx207_0 | skip)
       replace p207 := eq_true p207
       replace q207 := eq_true q207
       have p208 : 0 ≤ (a0_3 : Int) := dt_
       have q208 : a0_3 < (x4_1.length : Int) := dt_
       obtain ⟨ad208, e208, hx208_0⟩ := Kd.at_int (Kd.R_reads' HO_4.out).2.2 a0_3 p208 q208
       obtain rfl : (⟨go4, 0, none⟩ : Addr) = ad208 := (by injection e208)
       (first | simp only [add_plain] at hx208_0 | simp only [add_at] at hx208_0 | simp only [Addr.add, Nat.zero_add] at hx208_0 | skip)
       replace p208 := eq_true p208
       replace q208 := eq_true q208
       refine start_ (n := 13) (S := fun w' => w'.cell? ⟨gb199, 0, none⟩ = some (.slice A0_0 l0_0.length c0_0) ∧ w'.cell? ⟨gb199, 1, none⟩ = some (.slice A0_1 l0_1.length c0_1) ∧ w'.cell? ⟨gb199, 2, none⟩ = some (.slice A0_2 l0_2.length c0_2) ∧ w'.cell? ⟨gb199, 3, none⟩ = some (.int .i64 a0_3) ∧ w'.cell? ⟨gb199, 4, none⟩ = some (.int .i64 a0_4) ∧ w'.cell? ⟨go4, (a0_3).toNat, none⟩ = some (.int .i64 (rd x4_1 a0_3)) ∧ w'.cell? ⟨go4, (a0_3).toNat, none⟩ = some (.int .i64 (rd x4_1 a0_3))) (ds := []) impl_Exploration_wayOut.mk20 (by kernel_rfl) rfl rfl ⟨(blk_cell BK199.out 0).trans rfl, (blk_cell BK199.out 1).trans rfl, (blk_cell BK199.out 2).trans rfl, (blk_cell BK199.out 3).trans rfl, (blk_cell BK199.out 4).trans rfl, hx207_0, hx208_0⟩ (fun hHeld => ?_); refine with_tabW impl_Exploration_wayOut.tab13 impl_Exploration_wayOut.bits13 (fun HT_ HW_ => ?_)
       generalize wr.drew = w51 at HO_4 BK199 HB hx207_0 hx208_0 hHeld ⊢
       refine pz_ HT_ 0 (some 72) impl_Exploration_wayOut.mk21 ?_
       refine pz_ HT_ 1 (some 73) impl_Exploration_wayOut.mk22 ?_
       refine pz_ HT_ 5 (some 77) impl_Exploration_wayOut.mk23 ?_
       refine pz_ HT_ 6 (some 78) impl_Exploration_wayOut.mk24 ?_
       refine tk_ HT_ HW_ hHeld 2 (some 74) impl_Exploration_wayOut.mk25 ?_
       refine pz_ HT_ 3 (some 75) impl_Exploration_wayOut.mk26 ?_
       refine tk_ HT_ HW_ hHeld 4 (some 76) impl_Exploration_wayOut.mk27 ?_
       refine pz_ HT_ 11 (some 2) impl_Exploration_wayOut.mk28 ?_
       refine tk_ HT_ HW_ hHeld 7 (some 79) impl_Exploration_wayOut.mk29 ?_
       refine pz_ HT_ 8 (some 80) impl_Exploration_wayOut.mk30 ?_
       refine tk_ HT_ HW_ hHeld 9 (some 81) impl_Exploration_wayOut.mk31 ?_
       refine pz_ HT_ 10 (some 82) impl_Exploration_wayOut.mk32 ?_
       refine pz_ HT_ 12 (some 3) impl_Exploration_wayOut.mk33 ?_
       refine done_ (done_of HT_.out (by kernel_rfl)) ?_
       try go_wp2
       go_ret2
       exact ⟨rr_, lb1_ HB.out GE199.out⟩
      ·
       rw [if_neg c50] at H
       exact absurd H (by simp)
     ·
      rw [if_neg c49] at H
      exact absurd H (by simp)
 ·
  rw [if_neg c3] at H
  exact absurd H (by simp)
end Go.Proofs.Ythmjimboajmhmaa.Pr

