/-
What is proved: parts of the law FnExactIsValidConsole: what the functions that it reaches compute, and the plain law.
Conditions: those of each theorem.
-/
import Derived.ArgAppend
import Derived.Below
import Derived.BigQuiet
import Derived.Deep.AppendLies
import Derived.Deep.CutBlock
import Derived.Deep.DeepCutAuto
import Derived.Deep.Draws
import Derived.Deep.LoopGhost
import Derived.Deep.OwnRows
import Derived.Deep.QuietTactic
import Derived.Deep.RegionHeld3
import Derived.Deep.RegionLaw
import Derived.KernelRfl
import Derived.Laws.BitsLemmas
import Derived.Laws.BytesArg
import Derived.Laws.CopyOwn
import Derived.Laws.Cover1
import Derived.Laws.IdiomCopy
import Derived.Laws.IdiomStrings
import Derived.Laws.MakeOwn
import Derived.Laws.OwnMore
import Derived.Laws.Rows
import Derived.Laws.Slices
import Derived.Lib.AppendStr
import Derived.Lib.ConvBytes
import Derived.Maps.AppendAt
import Derived.OrdersHeld
import Derived.OwnWalk
import Derived.RowKit
import Derived.RowKit3
import Derived.Shelf.Abstract
import Derived.Shelf.LaysM
import Derived.Shelf.Strconv.Itoa3
import Derived.Shelf.Strings.Builder1
import Derived.Shelf.Strings.Search2
import Derived.StillTailTactics
import Derived.Tactics
import Derived.Test.YtckigdechhmegaaDoorProg
import Derived.WalkKit
import Derived.WideLaws
import Derived.Test.YtckigdechhmegaaDoorCFnExactIsValidConsole0
namespace Go.Proofs
open Go.Shelf
def Tryd.laysM171_ren : Go.Shelf.Ren := ⟨fun | 171 => 43 | 243 => 56 | 246 => 64 | 283 => 74 | 284 => 75 | 285 => 76 | 286 => 77 | 129 => 86 | 317 => 85 | 318 => 87 | 319 => 88 | 320 => 89 | 337 => 93 | 338 => 94 | n => n, fun | 3 => 3 | 9 => 9 | 2 => 2 | 4 => 4 | 171 => 117 | 0 => 0 | 53 => 111 | 37 => 56 | 5 => 5 | 173 => 120 | 212 => 129 | 51 => 108 | 20 => 20 | 213 => 130 | 46 => 100 | 232 => 136 | 233 => 137 | n => n, fun | 17 => 0 | 18 => 2 | 19 => 3 | n => n⟩
theorem Tryd.laysM171 : Go.Proofs.LaysM.n171 Tryd.prog Tryd.laysM171_ren := {
 mixed := by kernel_rfl
 f129 := Tryd.func86.trans (congrArg some (by kernel_rfl))
 f171 := Tryd.func43.trans (congrArg some (by kernel_rfl))
 f243 := Tryd.func56.trans (congrArg some (by kernel_rfl))
 f246 := Tryd.func64.trans (congrArg some (by kernel_rfl))
 f283 := Tryd.func74.trans (congrArg some (by kernel_rfl))
 f284 := Tryd.func75.trans (congrArg some (by kernel_rfl))
 f285 := Tryd.func76.trans (congrArg some (by kernel_rfl))
 f286 := Tryd.func77.trans (congrArg some (by kernel_rfl))
 f317 := Tryd.func85.trans (congrArg some (by kernel_rfl))
 f318 := Tryd.func87.trans (congrArg some (by kernel_rfl))
 f319 := Tryd.func88.trans (congrArg some (by kernel_rfl))
 f320 := Tryd.func89.trans (congrArg some (by kernel_rfl))
 f337 := Tryd.func93.trans (congrArg some (by kernel_rfl))
 f338 := Tryd.func94.trans (congrArg some (by kernel_rfl))
 t0 := Tryd.underlying0
 a0 := Tryd.isAgg0
 z0 := Tryd.sizeOf0
 v0 := Tryd.zeroValue0
 t2 := Tryd.underlying2
 a2 := Tryd.isAgg2
 z2 := Tryd.sizeOf2
 v2 := Tryd.zeroValue2
 t3 := Tryd.underlying3
 a3 := Tryd.isAgg3
 z3 := Tryd.sizeOf3
 v3 := Tryd.zeroValue3
 t4 := Tryd.underlying4
 a4 := Tryd.isAgg4
 z4 := Tryd.sizeOf4
 v4 := Tryd.zeroValue4
 t5 := Tryd.underlying5
 a5 := Tryd.isAgg5
 z5 := Tryd.sizeOf5
 v5 := Tryd.zeroValue5
 t9 := Tryd.underlying9
 a9 := Tryd.isAgg9
 z9 := Tryd.sizeOf9
 v9 := Tryd.zeroValue9
 t20 := Tryd.underlying20
 a20 := Tryd.isAgg20
 z20 := Tryd.sizeOf20
 v20 := Tryd.zeroValue20
 t37 := Tryd.underlying56
 a37 := Tryd.isAgg56
 z37 := Tryd.sizeOf56
 v37 := Tryd.zeroValue56
 t46 := Tryd.underlying100
 a46 := Tryd.isAgg100
 z46 := Tryd.sizeOf100
 v46 := Tryd.zeroValue100
 t51 := Tryd.underlying108
 a51 := Tryd.isAgg108
 z51 := Tryd.sizeOf108
 v51 := Tryd.zeroValue108
 t53 := Tryd.underlying111
 a53 := Tryd.isAgg111
 z53 := Tryd.sizeOf111
 v53 := Tryd.zeroValue111
 t171 := Tryd.underlying117
 a171 := Tryd.isAgg117
 z171 := Tryd.sizeOf117
 v171 := Tryd.zeroValue117
 t173 := Tryd.underlying120
 a173 := Tryd.isAgg120
 z173 := Tryd.sizeOf120
 v173 := Tryd.zeroValue120
 t212 := Tryd.underlying129
 a212 := Tryd.isAgg129
 z212 := Tryd.sizeOf129
 v212 := Tryd.zeroValue129
 t213 := Tryd.underlying130
 a213 := Tryd.isAgg130
 z213 := Tryd.sizeOf130
 t232 := Tryd.underlying136
 a232 := Tryd.isAgg136
 z232 := Tryd.sizeOf136
 v232 := Tryd.zeroValue136
 t233 := Tryd.underlying137
 a233 := Tryd.isAgg137
 z233 := Tryd.sizeOf137
 v233 := Tryd.zeroValue137
 g17 := by kernel_rfl
 g18 := by kernel_rfl
 g19 := by kernel_rfl
 i0 := by kernel_rfl
 i2 := by kernel_rfl
 i3 := by kernel_rfl
 i4 := by kernel_rfl
 i5 := by kernel_rfl
 i9 := by kernel_rfl
 i20 := by kernel_rfl
 i37 := by kernel_rfl
 i46 := by kernel_rfl
 i51 := by kernel_rfl
 i53 := by kernel_rfl
 i171 := by kernel_rfl
 i173 := by kernel_rfl
 i212 := by kernel_rfl
 i232 := by kernel_rfl
 i233 := by kernel_rfl
 m17 := by kernel_rfl
 m18 := by kernel_rfl
 m19 := by kernel_rfl }
open Go.RowKit Go.Sort Go.Lib in
theorem Tryd.strconv_Itoa (n : Int) (h0 : -9223372036854775808 ≤ n) (h1 : n ≤ 9223372036854775807) (w : World) (htab : Lib.TabIs Tryd.prog w "internal/strconv.uint64pow10" .u64 Lib.pow10Tab) :
  Calls Tryd.prog 43 #[.int .i64 n] w fun e w' => e = .returned (.string ⟨(Lib.itoa n).toArray⟩) ∧ ∃ k os, w' = grow (w.drewN k) os := Any.strconv_Itoa Tryd.laysM171 n h0 h1 w htab
def Tryd.lays219_ren : Go.Shelf.Ren := ⟨fun | 219 => 91 | 217 => 95 | 225 => 96 | 224 => 97 | 267 => 98 | 266 => 100 | 314 => 101 | n => n, fun | 9 => 9 | 3 => 3 | 4 => 4 | 5 => 5 | 46 => 100 | 146 => 109 | 51 => 108 | n => n, fun | 1 => 1 | n => n⟩
theorem Tryd.lays219 : Go.Proofs.Lays.n219 Tryd.prog Tryd.lays219_ren := {
 mixed := by kernel_rfl
 f217 := Tryd.func95.trans (congrArg some (by kernel_rfl))
 f219 := Tryd.func91.trans (congrArg some (by kernel_rfl))
 f224 := Tryd.func97.trans (congrArg some (by kernel_rfl))
 f225 := Tryd.func96.trans (congrArg some (by kernel_rfl))
 f266 := Tryd.func100.trans (congrArg some (by kernel_rfl))
 f267 := Tryd.func98.trans (congrArg some (by kernel_rfl))
 f314 := Tryd.func101.trans (congrArg some (by kernel_rfl))
 t3 := Tryd.underlying3
 a3 := Tryd.isAgg3
 z3 := Tryd.sizeOf3
 v3 := Tryd.zeroValue3
 t4 := Tryd.underlying4
 a4 := Tryd.isAgg4
 z4 := Tryd.sizeOf4
 v4 := Tryd.zeroValue4
 t5 := Tryd.underlying5
 a5 := Tryd.isAgg5
 z5 := Tryd.sizeOf5
 v5 := Tryd.zeroValue5
 t9 := Tryd.underlying9
 a9 := Tryd.isAgg9
 z9 := Tryd.sizeOf9
 v9 := Tryd.zeroValue9
 t46 := Tryd.underlying100
 a46 := Tryd.isAgg100
 z46 := Tryd.sizeOf100
 v46 := Tryd.zeroValue100
 t51 := Tryd.underlying108
 a51 := Tryd.isAgg108
 z51 := Tryd.sizeOf108
 v51 := Tryd.zeroValue108
 t146 := Tryd.underlying109
 a146 := Tryd.isAgg109
 z146 := Tryd.sizeOf109
 v146 := Tryd.zeroValue109
 g1 := by kernel_rfl }
open Go.RowKit Go.Lib in
theorem Tryd.stringslite_Index_one (s : ByteArray) (c : UInt8) (w : World) :
  Calls Tryd.prog 91 #[.string s, .string ⟨#[c]⟩] w fun e w' => e = .returned (.int .i64 (Lib.indexByte s.data.toList c)) ∧ w' = w := Any.stringslite_Index_one Tryd.lays219 s c w
end Go.Proofs

namespace Go.Proofs.YtckigdechhmegaaDoor.Pr
open Go.RowKit Go.Proofs.YtckigdechhmegaaDoorW.PrintWords Go.Proofs.YtckigdechhmegaaDoorW.PrintLast Go.Proofs.YtckigdechhmegaaDoorW.PrintMore
attribute [local go_sem] max2_int min2_int max_two min_two max_three min_three max_four min_four   -- for this text's walks alone
set_option linter.unusedVariables false
set_option linter.unusedSimpArgs false
def errW : Option Int → Value
 | none => .nilIface
 | some c => .iface 0 (.int .i64 c)
theorem errW_none : errW none = .nilIface := rfl
theorem errW_some (c : Int) : errW (some c) = .iface 0 (.int .i64 c) := rfl
theorem info3 : (Tryd.prog.info? 3).map (fun i => (i.zero, i.size, i.bytes)) = some (some (.int .i64 0), 1, 8) := by kernel_rfl
theorem info4 : (Tryd.prog.info? 4).map (fun i => (i.zero, i.size, i.bytes)) = some (some (.bool false), 1, 1) := by kernel_rfl
theorem info9 : (Tryd.prog.info? 9).map (fun i => (i.zero, i.size, i.bytes)) = some (some (.string ⟨#[]⟩), 1, 16) := by kernel_rfl
theorem info53 : (Tryd.prog.info? 53).map (fun i => (i.zero, i.size, i.bytes)) = some (some (.agg #[(.int .i64 0), (.int .i64 0), (.int .i64 0), (.int .i64 0), (.int .i64 0)]), 5, 40) := by kernel_rfl
theorem info97 : (Tryd.prog.info? 97).map (fun i => (i.zero, i.size, i.bytes)) = some (some (.agg #[(.string ⟨#[]⟩), (.string ⟨#[]⟩)]), 2, 32) := by kernel_rfl
structure S84 where
 f0 : Int
 f1 : Int
 f2 : Int
 f3 : Int
 f4 : Int
def z84 : S84 := ⟨(0 : Int), (0 : Int), (0 : Int), (0 : Int), (0 : Int)⟩
def k84 : Kd S84 := Kd.iso (Kd.pair (Kd.int .i64) (Kd.pair (Kd.int .i64) (Kd.pair (Kd.int .i64) (Kd.pair (Kd.int .i64) (Kd.int .i64))))) (fun x : S84 => (x.f0, x.f1, x.f2, x.f3, x.f4))
theorem k84_open {w : World} {x : S84} {cs : List Value} (h : k84.K w x cs) : cs = [.int .i64 x.f0, .int .i64 x.f1, .int .i64 x.f2, .int .i64 x.f3, .int .i64 x.f4] := by
 obtain ⟨_, _, rfl, rfl, ⟨_, _, rfl, rfl, ⟨_, _, rfl, rfl, ⟨_, _, rfl, rfl, rfl⟩⟩⟩⟩ := h
 exact rfl
def rd_T84 (xs : List S84) (i : Int) : S84 := xs.getD i.toNat z84
theorem at_T84 {w : World} {A : Option Addr} {n : Nat} {xs : List S84} (h : Kd.C k84 w A n xs) (i : Int) (h0 : 0 ≤ i) (h1 : i < n) : ∃ ad , A = some ad ∧ w.cell? (ad.add (i.toNat * 5)) = some (.int .i64 (rd_T84 xs i).f0) ∧ w.cell? ⟨(ad.add (i.toNat * 5)).block, (ad.add (i.toNat * 5)).off + 1, none⟩ = some (.int .i64 (rd_T84 xs i).f1) ∧ w.cell? ⟨(ad.add (i.toNat * 5)).block, (ad.add (i.toNat * 5)).off + 2, none⟩ = some (.int .i64 (rd_T84 xs i).f2) ∧ w.cell? ⟨(ad.add (i.toNat * 5)).block, (ad.add (i.toNat * 5)).off + 3, none⟩ = some (.int .i64 (rd_T84 xs i).f3) ∧ w.cell? ⟨(ad.add (i.toNat * 5)).block, (ad.add (i.toNat * 5)).off + 4, none⟩ = some (.int .i64 (rd_T84 xs i).f4) := by
 obtain ⟨ad, c, e, _, hK, hc0⟩ := Kd.C_get h z84 i h0 h1
 have hc : ∀ j u, c[j]? = some u → w.cell? (ad.add (i.toNat * 5 + j)) = some u := hc0
 obtain rfl := k84_open hK
 exact ⟨ad, e, hc 0 _ rfl, by rw [← add_field _ _ 1 (by omega)]; exact hc 1 _ rfl, by rw [← add_field _ _ 2 (by omega)]; exact hc 2 _ rfl, by rw [← add_field _ _ 3 (by omega)]; exact hc 3 _ rfl, by rw [← add_field _ _ 4 (by omega)]; exact hc 4 _ rfl⟩
structure S53 where
 f0 : Int
 f1 : Int
 f2 : Int
 f3 : Int
 f4 : Int
def z53 : S53 := ⟨(0 : Int), (0 : Int), (0 : Int), (0 : Int), (0 : Int)⟩
def k53 : Kd S53 := Kd.iso (Kd.pair (Kd.int .i64) (Kd.pair (Kd.int .i64) (Kd.pair (Kd.int .i64) (Kd.pair (Kd.int .i64) (Kd.int .i64))))) (fun x : S53 => (x.f0, x.f1, x.f2, x.f3, x.f4))
theorem k53_open {w : World} {x : S53} {cs : List Value} (h : k53.K w x cs) : cs = [.int .i64 x.f0, .int .i64 x.f1, .int .i64 x.f2, .int .i64 x.f3, .int .i64 x.f4] := by
 obtain ⟨_, _, rfl, rfl, ⟨_, _, rfl, rfl, ⟨_, _, rfl, rfl, ⟨_, _, rfl, rfl, rfl⟩⟩⟩⟩ := h
 exact rfl
theorem k53_openM {w : World} {base : Nat} {ok : Nat → Prop} {x : S53} {cs : List Value} (h : k53.M w base ok x cs) : cs = [.int .i64 x.f0, .int .i64 x.f1, .int .i64 x.f2, .int .i64 x.f3, .int .i64 x.f4] := by
 obtain ⟨_, _, rfl, rfl, ⟨_, _, rfl, rfl, ⟨_, _, rfl, rfl, ⟨_, _, rfl, rfl, rfl⟩⟩⟩⟩ := h
 exact rfl
theorem k53_mkM (w : World) (base : Nat) (ok : Nat → Prop) (x : S53)  : k53.M w base ok x [.int .i64 x.f0, .int .i64 x.f1, .int .i64 x.f2, .int .i64 x.f3, .int .i64 x.f4] := ⟨[.int .i64 x.f0], [.int .i64 x.f1, .int .i64 x.f2, .int .i64 x.f3, .int .i64 x.f4], rfl, rfl, ⟨[.int .i64 x.f1], [.int .i64 x.f2, .int .i64 x.f3, .int .i64 x.f4], rfl, rfl, ⟨[.int .i64 x.f2], [.int .i64 x.f3, .int .i64 x.f4], rfl, rfl, ⟨[.int .i64 x.f3], [.int .i64 x.f4], rfl, rfl, rfl⟩⟩⟩⟩
def rd_T53 (xs : List S53) (i : Int) : S53 := xs.getD i.toNat z53
theorem at_T53 {w : World} {A : Option Addr} {n : Nat} {xs : List S53} (h : Kd.C k53 w A n xs) (i : Int) (h0 : 0 ≤ i) (h1 : i < n) : ∃ ad , A = some ad ∧ w.cell? (ad.add (i.toNat * 5)) = some (.int .i64 (rd_T53 xs i).f0) ∧ w.cell? ⟨(ad.add (i.toNat * 5)).block, (ad.add (i.toNat * 5)).off + 1, none⟩ = some (.int .i64 (rd_T53 xs i).f1) ∧ w.cell? ⟨(ad.add (i.toNat * 5)).block, (ad.add (i.toNat * 5)).off + 2, none⟩ = some (.int .i64 (rd_T53 xs i).f2) ∧ w.cell? ⟨(ad.add (i.toNat * 5)).block, (ad.add (i.toNat * 5)).off + 3, none⟩ = some (.int .i64 (rd_T53 xs i).f3) ∧ w.cell? ⟨(ad.add (i.toNat * 5)).block, (ad.add (i.toNat * 5)).off + 4, none⟩ = some (.int .i64 (rd_T53 xs i).f4) := by
 obtain ⟨ad, c, e, _, hK, hc0⟩ := Kd.C_get h z53 i h0 h1
 have hc : ∀ j u, c[j]? = some u → w.cell? (ad.add (i.toNat * 5 + j)) = some u := hc0
 obtain rfl := k53_open hK
 exact ⟨ad, e, hc 0 _ rfl, by rw [← add_field _ _ 1 (by omega)]; exact hc 1 _ rfl, by rw [← add_field _ _ 2 (by omega)]; exact hc 2 _ rfl, by rw [← add_field _ _ 3 (by omega)]; exact hc 3 _ rfl, by rw [← add_field _ _ 4 (by omega)]; exact hc 4 _ rfl⟩
structure S97 where
 f0 : ByteArray
 f1 : ByteArray
def k97 : Kd S97 := Kd.iso (Kd.pair Kd.string Kd.string) (fun x : S97 => (x.f0, x.f1))
theorem k97_mkM (w : World) (base : Nat) (ok : Nat → Prop) (x : S97)  : k97.M w base ok x [.string x.f0, .string x.f1] := ⟨[.string x.f0], [.string x.f1], rfl, rfl, rfl⟩
structure S34 where
 f0 : (List S53)
 f1 : (List Bool)
 f2 : (List Bool)
 f3 : Int
 f4 : Int
def z34 : S34 := ⟨([] : List S53), ([] : List Bool), ([] : List Bool), (0 : Int), (0 : Int)⟩
structure S35 where
 f0 : ByteArray
 f1 : ByteArray
 f2 : Int
def z35 : S35 := ⟨(⟨#[]⟩ : ByteArray), (⟨#[]⟩ : ByteArray), (0 : Int)⟩
structure S37 where
 f0 : S34
 f1 : S35
def z37 : S37 := ⟨z34, z35⟩
def laws_szLegS.f (l0 : List (S84)) (a1 : Int) : Option (Int) := if (wrap64 (a1 - (l0.length : Int))) < 0 then (some (-1)) else (some (wrap64 (a1 - (l0.length : Int))))
set_option maxHeartbeats 8000000 in
set_option maxRecDepth 100000 in
theorem laws_szLegS.calls (A0 : Option Addr) (c0 : Nat) (l0 : List (S84)) (a1 : Int) (r : Int) (w : World) (hr0 : Kd.C k84 w A0 l0.length l0) (hc0 : l0.length ≤ c0) (h : laws_szLegS.f l0 a1 = some r) :
  Calls Tryd.prog 29 #[.slice A0 l0.length c0, .int .i64 a1] w fun e w' => e = .returned (.int .i64 r) ∧ Drawn0 w w' := by
 have HR0 := Aside0.mk hr0
 have HC0 := Aside0.mk hc0
 clear hr0 hc0
 have H : (if (wrap64 (a1 - (l0.length : Int))) < 0 then (some (-1)) else (some (wrap64 (a1 - (l0.length : Int))))) = some r := h
 clear h
 by_cases c3 : (wrap64 (a1 - (l0.length : Int))) < 0
 ·
  rw [if_pos c3] at H
  have c3b0 : decide ((wrap64 (a1 - (l0.length : Int))) < 0) = true := decide_eq_true c3
  clear c3
  obtain rfl := Option.some.inj H
  go_enter Tryd.func29, Tryd.ntmps29
  go_wp2
  go_ret
  exact ⟨by first | rfl | (simp; done) | (simp [*]; done), by repeat (first | exact Drawn0.refl _ | apply Drawn0.step)⟩
 ·
  rw [if_neg c3] at H
  have c3b0 : decide ((wrap64 (a1 - (l0.length : Int))) < 0) = false := decide_eq_false c3
  clear c3
  obtain rfl := Option.some.inj H
  go_enter Tryd.func29, Tryd.ntmps29
  go_wp2
  go_ret
  exact ⟨by first | rfl | (simp; done) | (simp [*]; done), by repeat (first | exact Drawn0.refl _ | apply Drawn0.step)⟩
def laws_szBoolS.f (l0 : List Bool) (a1 : Int) : Option (Int) := if (wrap64 (a1 - (l0.length : Int))) < 0 then (some (-1)) else (some (wrap64 (a1 - (l0.length : Int))))
set_option maxHeartbeats 8000000 in
set_option maxRecDepth 100000 in
theorem laws_szBoolS.calls (A0 : Option Addr) (c0 : Nat) (l0 : List Bool) (a1 : Int) (r : Int) (w : World) (hr0 : Kd.C Kd.bool w A0 l0.length l0) (hc0 : l0.length ≤ c0) (h : laws_szBoolS.f l0 a1 = some r) :
  Calls Tryd.prog 30 #[.slice A0 l0.length c0, .int .i64 a1] w fun e w' => e = .returned (.int .i64 r) ∧ Drawn0 w w' := by
 have HR0 := Aside0.mk hr0
 have HC0 := Aside0.mk hc0
 clear hr0 hc0
 have H : (if (wrap64 (a1 - (l0.length : Int))) < 0 then (some (-1)) else (some (wrap64 (a1 - (l0.length : Int))))) = some r := h
 clear h
 by_cases c3 : (wrap64 (a1 - (l0.length : Int))) < 0
 ·
  rw [if_pos c3] at H
  have c3b0 : decide ((wrap64 (a1 - (l0.length : Int))) < 0) = true := decide_eq_true c3
  clear c3
  obtain rfl := Option.some.inj H
  go_enter Tryd.func30, Tryd.ntmps30
  go_wp2
  go_ret
  exact ⟨by first | rfl | (simp; done) | (simp [*]; done), by repeat (first | exact Drawn0.refl _ | apply Drawn0.step)⟩
 ·
  rw [if_neg c3] at H
  have c3b0 : decide ((wrap64 (a1 - (l0.length : Int))) < 0) = false := decide_eq_false c3
  clear c3
  obtain rfl := Option.some.inj H
  go_enter Tryd.func30, Tryd.ntmps30
  go_wp2
  go_ret
  exact ⟨by first | rfl | (simp; done) | (simp [*]; done), by repeat (first | exact Drawn0.refl _ | apply Drawn0.step)⟩
end Go.Proofs.YtckigdechhmegaaDoor.Pr

namespace Go.Proofs.YtckigdechhmegaaDoor.Pr
open Go.RowKit Go.Proofs.YtckigdechhmegaaDoorW.PrintWords Go.Proofs.YtckigdechhmegaaDoorW.PrintLast Go.Proofs.YtckigdechhmegaaDoorW.PrintMore
set_option linter.unusedVariables false
set_option linter.unusedSimpArgs false
section
variable {P : Program} {md : Region.Mode} {ops : Array Oper} {Q : Exit → Act → World → Prop} {S : World → Prop} {ds : List Nat} {T : Bool × List (List Nat × List Nat)}
theorem pz_ {fuel : Nat} {l : Array Bool} {a : Act} {w : World} {oi : Oper} {v : Value} {a' : Act} (HT : Aside0 (rtab md ops = T)) (i : Nat) (N : Option Tmp) (l' : Array Bool) (h : wpAnyLast P md ops Q S ds fuel l' a' w)
  (hi : ops[i]? = some oi := by exact rfl) (hN : oi.dst = N := by exact rfl) (hc : anyT T l.toList l'.toList i = true := by kernel_rfl) (hQ : ∀ c a w, Q (.panic c) (a.put oi.dst v) w → Q (.panic c) a w := by exact fun _ _ _ h => h)
  (hy : Yields P ops oi v a := by exact Or.inl ⟨by rfl, by intro w'; go_simp; with_reducible rfl⟩) (ha : a.put N v = a' := by simp only [Act.put, List.setIfInBounds_toArray, List.set_cons_zero, List.set_cons_succ, i64_w, i32_w]; rfl) :
  wpAnyLast P md ops Q S ds (fuel + 1) l a w := pure_ l' hi hN (any_of HT.out hc) hQ hy ha h
theorem ga_ {rest : List Oper} {oi : Oper} {a : Act} {w : World} {f : FuncId} {fn : Func} {ar : Array Operand} {ts : Array TypeId} (N : Option Tmp) (hf : P.funcs[f]? = some fn) (args : Array Value) (h : Calls P f args w fun e w' => ∃ v, e = .returned v ∧ wpList P ops Q rest (a.put N v) w')
  (hd : oi.dst = N := by exact rfl) (hg : oi.guard = none := by exact rfl) (hname : (fn.name == "runtime.NumGoroutine") = false := by kernel_rfl) (hb : fn.body.isSome = true := by exact rfl) (hop : oi.op = .call { callee := .value (.func f), args := ar, argTypes := ts } := by exact rfl)
  (hargs : ar.map a.eval = args := by (try simp only [List.map_toArray, List.map_cons, List.map_nil]); first | done | rfl | (simp only [List.length_drop, List.length_take]; rfl)) : wpList P ops Q (oi :: rest) a w := goesL_ N hd hg hf hname hb args hop hargs h
end
theorem lb0_ {n : Nat} {w w0 w1 : World} (HB : Below n w w0) (h : Below n w w0 → Below n w w1 := by intro HB_; repeat (first | (with_reducible first | exact HB_ | apply below_alloc | apply pw_below_drewN | apply below_drew1) | exact HB_)) : Below n w w1 := h HB
theorem lb1_ {n : Nat} {w w0 w1 : World} {A : Prop} (HB : Below n w w0) (G : A) (h : Below n w w0 → A → Below n w w1 := by intro HB_ G_; repeat (first | (with_reducible first | exact HB_ | apply below_alloc | apply pw_below_drewN | apply below_drew1 | refine below_set ?_ G_) | exact HB_)) : Below n w w1 := h HB G
theorem lb2_ {n : Nat} {w w0 w1 : World} {A B : Prop} (HB : Below n w w0) (G : A) (H : B) (h : Below n w w0 → A → B → Below n w w1 := by intro HB_ G_ H_; repeat (first | (with_reducible first | exact HB_ | apply below_alloc | apply pw_below_drewN | apply below_drew1 | refine below_set ?_ G_ | refine below_set ?_ H_) | exact HB_)) : Below n w w1 := h HB G H
theorem rr_ {α : Sort _} {a b : α} (h : a = b := by first | rfl | (simp [errW_none, errW_some] <;> rfl) | (simp [*, errW_none, errW_some] <;> rfl)) : a = b := h
theorem kr_ {α : Type} {d : Kd α} {e base : Nat} {w w1 : World} {ok : Nat → Prop} {v : Value} {xs : List α} (h : d.R e w base ok v xs) (hh : d.R e w base ok v xs → d.R e w1 base ok v xs := by intro h_; (with_reducible repeat (first | apply Kd.R_alloc | apply Kd.R_drewN | apply Kd.R_drew)); exact h_) : d.R e w1 base ok v xs := hh h
theorem kc_ {α : Type} {d : Kd α} {w w1 : World} {A : Option Addr} {n : Nat} {xs : List α} (h : d.C w A n xs) (hh : d.C w A n xs → d.C w1 A n xs := by intro h_; repeat (first | exact h_ | (with_reducible refine Kd.C_alloc ?_ _) | (with_reducible refine Kd.C_drewN ?_ _) | (with_reducible refine Kd.C_drew ?_))) : d.C w1 A n xs := hh h
theorem bk_ {w w1 : World} {g : Nat} {o : Obj} (h : w.heap[g]? = some o) (hh : w.heap[g]? = some o → w1.heap[g]? = some o := by intro h_; (with_reducible repeat (first | refine blk_drewN ?_ _ | refine blk_drew ?_ | refine blk_alloc ?_ _)); exact h_) : w1.heap[g]? = some o := hh h
theorem dt_ {p : Prop} [inst : Decidable p] (h : decide p = true := by first | (with_reducible assumption) | assumption) : p := of_decide_eq_true h
theorem bc_ {w w0 : World} {a : Addr} {v : Value} (hb : Below w.heap.size w w0) (h : w.cell? a = some v) : w0.cell? a = some v := (hb.cell (World.block_lt_of_cell? w _ h)).trans h
section
variable {P : Program} {md : Region.Mode} {ops : Array Oper} {Q : Exit → Act → World → Prop} {S : World → Prop} {ds : List Nat}
theorem na_ {fuel : Nat} {l : Array Bool} {a a' : Act} {w : World} (h : wpAnyLast P md ops Q S ds fuel l a' w) (ha : a = a' := by show Act.put _ (some _) _ = _; simp only [Act.put, List.setIfInBounds_toArray, List.set_cons_zero, List.set_cons_succ, i64_w, i32_w]; rfl) : wpAnyLast P md ops Q S ds fuel l a w := norm_ ha h
end
theorem bz_ {w W : World} {g : Nat} (hg : g = W.heap.size) (h : Below w.heap.size w W) : w.heap.size ≤ g := by rw [hg]; exact h.size
theorem lb3_ {n : Nat} {w w0 w1 : World} {A B C : Prop} (HB : Below n w w0) (G : A) (H : B) (I : C) (h : Below n w w0 → A → B → C → Below n w w1 := by intro HB_ G_ H_ I_; repeat (first | (with_reducible first | exact HB_ | apply below_alloc | apply pw_below_drewN | apply below_drew1 | refine below_set ?_ G_ | refine below_set ?_ H_ | refine below_set ?_ I_) | exact HB_)) : Below n w w1 := h HB G H I
theorem krm_ {α : Type} {d : Kd α} {e base : Nat} {w w1 : World} {ok ok' : Nat → Prop} {v : Value} {xs : List α} (h : d.R e w base ok v xs) (hm : ∀ k, ok k → ok' k) (hh : d.R e w base ok v xs → d.R e w1 base ok v xs := by intro h_; (with_reducible repeat (first | apply Kd.R_alloc | apply Kd.R_drewN | apply Kd.R_drew)); exact h_) : d.R e w1 base ok' v xs := Kd.R_mono (hh h) hm
theorem bb_ {w1 w2 : World} {g : Nat} {o : Obj} (h : w1.heap[g]? = some o) (hb : Below w1.heap.size w1 w2) : w2.heap[g]? = some o := blk_below h hb
theorem ry_ {α : Type} {d : Kd α} {e base : Nat} {w : World} {ok : Nat → Prop} {v : Value} {xs ys : List α} (he : ys = xs) (h : d.R e w base ok v xs) : d.R e w base ok v ys := by rw [he]; exact h
section
variable {P : Program} {ops : Array Oper} {Q : Exit → Act → World → Prop}
theorem gs_ {oi : Oper} {N : Option Tmp} {a : Act} {w : World} {K : Act → World → Prop} {f : FuncId} {fn : Func} {ar : Array Operand} {ts : Array TypeId} (hf : P.funcs[f]? = some fn) (args : Array Value) (h : Calls P f args w fun e w' => ∃ v, e = .returned v ∧ K (a.put N v) w')
  (hname : (fn.name == "runtime.NumGoroutine") = false := by kernel_rfl) (hb : fn.body.isSome = true := by exact rfl) (hw : Region.wanted oi (yielded ops a.tmps) = true := by rfl) (hN : oi.dst = N := by exact rfl) (hop : oi.op = .call { callee := .value (.func f), args := ar, argTypes := ts } := by exact rfl)
  (hargs : ar.map a.eval = args := by (try simp only [List.map_toArray, List.map_cons, List.map_nil]); first | done | rfl | (simp only [List.length_drop, List.length_take]; rfl)) : if Region.wanted oi (yielded ops a.tmps) = true then Oper.wp P oi a w K Q else K (a.put N undef) w := goes_ hf hname hb args hw hN hop hargs h
end
theorem cz2_ {w : World} {g : Nat} {t : TypeId} {a0 a1 : Value} (h : w.heap[g]? = some (.cells #[a0, a1] t (0, 0))) : w.cell? ⟨g, 0, none⟩ = some a0 ∧ w.cell? ⟨g, 1, none⟩ = some a1 := ⟨(blk_cell h 0).trans rfl, (blk_cell h 1).trans rfl⟩
theorem fz2_ {w : World} {g : Nat} {t : TypeId} {a0 a1 : Value} (h : w.heap[g]? = some (.cells #[a0, a1] t (0, 0))) : w.frozen? ⟨g, 0, none⟩ = false ∧ w.frozen? ⟨g, 1, none⟩ = false := ⟨blk_frozen h 0, blk_frozen h 1⟩
theorem cz3_ {w : World} {g : Nat} {t : TypeId} {a0 a1 a2 : Value} (h : w.heap[g]? = some (.cells #[a0, a1, a2] t (0, 0))) : w.cell? ⟨g, 0, none⟩ = some a0 ∧ w.cell? ⟨g, 1, none⟩ = some a1 ∧ w.cell? ⟨g, 2, none⟩ = some a2 := ⟨(blk_cell h 0).trans rfl, (blk_cell h 1).trans rfl, (blk_cell h 2).trans rfl⟩
theorem fz3_ {w : World} {g : Nat} {t : TypeId} {a0 a1 a2 : Value} (h : w.heap[g]? = some (.cells #[a0, a1, a2] t (0, 0))) : w.frozen? ⟨g, 0, none⟩ = false ∧ w.frozen? ⟨g, 1, none⟩ = false ∧ w.frozen? ⟨g, 2, none⟩ = false := ⟨blk_frozen h 0, blk_frozen h 1, blk_frozen h 2⟩
theorem cz5_ {w : World} {g : Nat} {t : TypeId} {a0 a1 a2 a3 a4 : Value} (h : w.heap[g]? = some (.cells #[a0, a1, a2, a3, a4] t (0, 0))) : w.cell? ⟨g, 0, none⟩ = some a0 ∧ w.cell? ⟨g, 1, none⟩ = some a1 ∧ w.cell? ⟨g, 2, none⟩ = some a2 ∧ w.cell? ⟨g, 3, none⟩ = some a3 ∧ w.cell? ⟨g, 4, none⟩ = some a4 := ⟨(blk_cell h 0).trans rfl, (blk_cell h 1).trans rfl, (blk_cell h 2).trans rfl, (blk_cell h 3).trans rfl, (blk_cell h 4).trans rfl⟩
theorem fz5_ {w : World} {g : Nat} {t : TypeId} {a0 a1 a2 a3 a4 : Value} (h : w.heap[g]? = some (.cells #[a0, a1, a2, a3, a4] t (0, 0))) : w.frozen? ⟨g, 0, none⟩ = false ∧ w.frozen? ⟨g, 1, none⟩ = false ∧ w.frozen? ⟨g, 2, none⟩ = false ∧ w.frozen? ⟨g, 3, none⟩ = false ∧ w.frozen? ⟨g, 4, none⟩ = false := ⟨blk_frozen h 0, blk_frozen h 1, blk_frozen h 2, blk_frozen h 3, blk_frozen h 4⟩
theorem cz8_ {w : World} {g : Nat} {t : TypeId} {a0 a1 a2 a3 a4 a5 a6 a7 : Value} (h : w.heap[g]? = some (.cells #[a0, a1, a2, a3, a4, a5, a6, a7] t (0, 0))) : w.cell? ⟨g, 0, none⟩ = some a0 ∧ w.cell? ⟨g, 1, none⟩ = some a1 ∧ w.cell? ⟨g, 2, none⟩ = some a2 ∧ w.cell? ⟨g, 3, none⟩ = some a3 ∧ w.cell? ⟨g, 4, none⟩ = some a4 ∧ w.cell? ⟨g, 5, none⟩ = some a5 ∧ w.cell? ⟨g, 6, none⟩ = some a6 ∧ w.cell? ⟨g, 7, none⟩ = some a7 := ⟨(blk_cell h 0).trans rfl, (blk_cell h 1).trans rfl, (blk_cell h 2).trans rfl, (blk_cell h 3).trans rfl, (blk_cell h 4).trans rfl, (blk_cell h 5).trans rfl, (blk_cell h 6).trans rfl, (blk_cell h 7).trans rfl⟩
theorem fz8_ {w : World} {g : Nat} {t : TypeId} {a0 a1 a2 a3 a4 a5 a6 a7 : Value} (h : w.heap[g]? = some (.cells #[a0, a1, a2, a3, a4, a5, a6, a7] t (0, 0))) : w.frozen? ⟨g, 0, none⟩ = false ∧ w.frozen? ⟨g, 1, none⟩ = false ∧ w.frozen? ⟨g, 2, none⟩ = false ∧ w.frozen? ⟨g, 3, none⟩ = false ∧ w.frozen? ⟨g, 4, none⟩ = false ∧ w.frozen? ⟨g, 5, none⟩ = false ∧ w.frozen? ⟨g, 6, none⟩ = false ∧ w.frozen? ⟨g, 7, none⟩ = false := ⟨blk_frozen h 0, blk_frozen h 1, blk_frozen h 2, blk_frozen h 3, blk_frozen h 4, blk_frozen h 5, blk_frozen h 6, blk_frozen h 7⟩
end Go.Proofs.YtckigdechhmegaaDoor.Pr

namespace Go.Proofs.YtckigdechhmegaaDoor.Pr
open Go.RowKit Go.Proofs.YtckigdechhmegaaDoorW.PrintWords Go.Proofs.YtckigdechhmegaaDoorW.PrintLast Go.Proofs.YtckigdechhmegaaDoorW.PrintMore
attribute [local go_sem] max2_int min2_int max_two min_two max_three min_three max_four min_four   -- for this text's walks alone
set_option linter.unusedVariables false
set_option linter.unusedSimpArgs false
def laws_szExploration.f (l0_0 : List (S84)) (l0_1 : List Bool) (l0_2 : List Bool) (a0_3 : Int) (a0_4 : Int) (a1 : Int) : Option (Int) := (laws_szLegS.f l0_0 a1).bind fun t102 => (if t102 < 0 then (some (-1)) else ((laws_szBoolS.f l0_1 t102).bind fun t103 => (if t103 < 0 then (some (-1)) else ((laws_szBoolS.f l0_2 t103).bind fun t104 => (if t104 < 0 then (some (-1)) else (some t104))))))
set_option maxHeartbeats 8000000 in
set_option maxRecDepth 100000 in
theorem laws_szExploration.calls (A0_0 : Option Addr) (c0_0 : Nat) (l0_0 : List (S84)) (A0_1 : Option Addr) (c0_1 : Nat) (l0_1 : List Bool) (A0_2 : Option Addr) (c0_2 : Nat) (l0_2 : List Bool) (a0_3 : Int) (a0_4 : Int) (a1 : Int) (r : Int) (w : World) (hr0_0 : Kd.C k84 w A0_0 l0_0.length l0_0) (hc0_0 : l0_0.length ≤ c0_0) (hr0_1 : Kd.C Kd.bool w A0_1 l0_1.length l0_1) (hc0_1 : l0_1.length ≤ c0_1) (hr0_2 : Kd.C Kd.bool w A0_2 l0_2.length l0_2) (hc0_2 : l0_2.length ≤ c0_2) (h : laws_szExploration.f l0_0 l0_1 l0_2 a0_3 a0_4 a1 = some r) :
  Calls Tryd.prog 12 #[.agg #[.slice A0_0 l0_0.length c0_0, .slice A0_1 l0_1.length c0_1, .slice A0_2 l0_2.length c0_2, .int .i64 a0_3, .int .i64 a0_4], .int .i64 a1] w fun e w' => e = .returned (.int .i64 r) ∧ Below w.heap.size w w' := by
 have hu25 := Tryd.underlying25
 have HR0_0 := Aside0.mk hr0_0
 have HC0_0 := Aside0.mk hc0_0
 clear hr0_0 hc0_0
 have HR0_1 := Aside0.mk hr0_1
 have HC0_1 := Aside0.mk hc0_1
 clear hr0_1 hc0_1
 have HR0_2 := Aside0.mk hr0_2
 have HC0_2 := Aside0.mk hc0_2
 clear hr0_2 hc0_2
 have HB := Aside0.mk (Below.refl w.heap.size w)
 have H : ((laws_szLegS.f l0_0 a1).bind fun t102 => (if t102 < 0 then (some (-1)) else ((laws_szBoolS.f l0_1 t102).bind fun t103 => (if t103 < 0 then (some (-1)) else ((laws_szBoolS.f l0_2 t103).bind fun t104 => (if t104 < 0 then (some (-1)) else (some t104))))))) = some r := h
 clear h
 replace H := Option.bind_eq_some_iff.mp H
 obtain ⟨t102, A30, H⟩ := H
 replace H : (if t102 < 0 then (some (-1)) else ((laws_szBoolS.f l0_1 t102).bind fun t103 => (if t103 < 0 then (some (-1)) else ((laws_szBoolS.f l0_2 t103).bind fun t104 => (if t104 < 0 then (some (-1)) else (some t104)))))) = some r := H
 have A3 := Aside0.mk A30
 clear A30
 by_cases c4 : t102 < 0
 ·
  rw [if_pos c4] at H
  have c4b0 : decide (t102 < 0) = true := decide_eq_true c4
  clear c4
  obtain rfl := Option.some.inj H
  go_enter Tryd.func12, Tryd.ntmps12
  go_wp2_with (first | ((with_reducible refine gate_dst (N := 2) rfl ?_); refine box_event ?hg (N := 2) ?hd (cs := #[.slice A0_0 l0_0.length c0_0, .slice A0_1 l0_1.length c0_1, .slice A0_2 l0_2.length c0_2, .int .i64 a0_3, .int .i64 a0_4]) (t := 25) ?hr ?_; (case hd => rfl); (case hg => rfl); (case hr => first | (go_simp; done) | (go_simp; rfl)); intro gb101 hg w5 hbox hb; have BK101 := Aside0.mk (hbox); have GW101 := Aside0.mk ((bz_ hg (lb0_ HB.out))); have GE101 := Aside0.mk ((bz_ hg (lb0_ HB.out))); replace HB := Aside0.mk (below_step (lb0_ HB.out) hb); clear hb hbox hg; obtain ⟨hcz6_0, hcz6_1, hcz6_2, hcz6_3, hcz6_4⟩ := cz5_ BK101.out; obtain ⟨hfz6_0, hfz6_1, hfz6_2, hfz6_3, hfz6_4⟩ := fz5_ BK101.out) | ((with_reducible refine gate_callee (f := 29) rfl ?_); refine ga_ (some 8) Tryd.func29 #[.slice A0_0 l0_0.length c0_0, .int .i64 a1] ?_; (with_reducible refine (laws_szLegS.calls _ _ l0_0 a1 t102 _ ?side1 ?side2 A3.out).mono ?_); (case side1 => exact kc_ (Kd.C_below HR0_0.out HB.out)); (case side2 => exact HC0_0.out); rintro e w' ⟨rfl, ⟨nd, rfl⟩⟩; refine ⟨_, rfl, ?_⟩))
  go_ret
  exact ⟨rr_, lb1_ HB.out GE101.out⟩
 ·
  rw [if_neg c4] at H
  have c4b0 : decide (t102 < 0) = false := decide_eq_false c4
  clear c4
  replace H := Option.bind_eq_some_iff.mp H
  obtain ⟨t103, A70, H⟩ := H
  replace H : (if t103 < 0 then (some (-1)) else ((laws_szBoolS.f l0_2 t103).bind fun t104 => (if t104 < 0 then (some (-1)) else (some t104)))) = some r := H
  have A7 := Aside0.mk A70
  clear A70
  by_cases c8 : t103 < 0
  ·
   rw [if_pos c8] at H
   have c8b0 : decide (t103 < 0) = true := decide_eq_true c8
   clear c8
   obtain rfl := Option.some.inj H
   go_enter Tryd.func12, Tryd.ntmps12
   go_wp2_with (first | ((with_reducible refine gate_dst (N := 2) rfl ?_); refine box_event ?hg (N := 2) ?hd (cs := #[.slice A0_0 l0_0.length c0_0, .slice A0_1 l0_1.length c0_1, .slice A0_2 l0_2.length c0_2, .int .i64 a0_3, .int .i64 a0_4]) (t := 25) ?hr ?_; (case hd => rfl); (case hg => rfl); (case hr => first | (go_simp; done) | (go_simp; rfl)); intro gb101 hg w9 hbox hb; have BK101 := Aside0.mk (hbox); have GW101 := Aside0.mk ((bz_ hg (lb0_ HB.out))); have GE101 := Aside0.mk ((bz_ hg (lb0_ HB.out))); replace HB := Aside0.mk (below_step (lb0_ HB.out) hb); clear hb hbox hg; obtain ⟨hcz10_0, hcz10_1, hcz10_2, hcz10_3, hcz10_4⟩ := cz5_ BK101.out; obtain ⟨hfz10_0, hfz10_1, hfz10_2, hfz10_3, hfz10_4⟩ := fz5_ BK101.out) | ((with_reducible refine gate_callee (f := 29) rfl ?_); refine ga_ (some 8) Tryd.func29 #[.slice A0_0 l0_0.length c0_0, .int .i64 a1] ?_; (with_reducible refine (laws_szLegS.calls _ _ l0_0 a1 t102 _ ?side1 ?side2 A3.out).mono ?_); (case side1 => exact kc_ (Kd.C_below HR0_0.out HB.out)); (case side2 => exact HC0_0.out); rintro e w' ⟨rfl, ⟨nd, rfl⟩⟩; refine ⟨_, rfl, ?_⟩) | ((with_reducible refine gate_callee (f := 30) rfl ?_); refine ga_ (some 14) Tryd.func30 #[.slice A0_1 l0_1.length c0_1, .int .i64 t102] ?_; (with_reducible refine (laws_szBoolS.calls _ _ l0_1 t102 t103 _ ?side1 ?side2 A7.out).mono ?_); (case side1 => exact kc_ (Kd.C_below HR0_1.out (lb1_ HB.out GE101.out))); (case side2 => exact HC0_1.out); rintro e w' ⟨rfl, ⟨nd, rfl⟩⟩; refine ⟨_, rfl, ?_⟩))
   go_ret
   exact ⟨rr_, lb1_ HB.out GE101.out⟩
  ·
   rw [if_neg c8] at H
   have c8b0 : decide (t103 < 0) = false := decide_eq_false c8
   clear c8
   replace H := Option.bind_eq_some_iff.mp H
   obtain ⟨t104, A110, H⟩ := H
   replace H : (if t104 < 0 then (some (-1)) else (some t104)) = some r := H
   have A11 := Aside0.mk A110
   clear A110
   by_cases c12 : t104 < 0
   ·
    rw [if_pos c12] at H
    have c12b0 : decide (t104 < 0) = true := decide_eq_true c12
    clear c12
    obtain rfl := Option.some.inj H
    go_enter Tryd.func12, Tryd.ntmps12
    go_wp2_with (first | ((with_reducible refine gate_dst (N := 2) rfl ?_); refine box_event ?hg (N := 2) ?hd (cs := #[.slice A0_0 l0_0.length c0_0, .slice A0_1 l0_1.length c0_1, .slice A0_2 l0_2.length c0_2, .int .i64 a0_3, .int .i64 a0_4]) (t := 25) ?hr ?_; (case hd => rfl); (case hg => rfl); (case hr => first | (go_simp; done) | (go_simp; rfl)); intro gb101 hg w13 hbox hb; have BK101 := Aside0.mk (hbox); have GW101 := Aside0.mk ((bz_ hg (lb0_ HB.out))); have GE101 := Aside0.mk ((bz_ hg (lb0_ HB.out))); replace HB := Aside0.mk (below_step (lb0_ HB.out) hb); clear hb hbox hg; obtain ⟨hcz14_0, hcz14_1, hcz14_2, hcz14_3, hcz14_4⟩ := cz5_ BK101.out; obtain ⟨hfz14_0, hfz14_1, hfz14_2, hfz14_3, hfz14_4⟩ := fz5_ BK101.out) | ((with_reducible refine gate_callee (f := 29) rfl ?_); refine ga_ (some 8) Tryd.func29 #[.slice A0_0 l0_0.length c0_0, .int .i64 a1] ?_; (with_reducible refine (laws_szLegS.calls _ _ l0_0 a1 t102 _ ?side1 ?side2 A3.out).mono ?_); (case side1 => exact kc_ (Kd.C_below HR0_0.out HB.out)); (case side2 => exact HC0_0.out); rintro e w' ⟨rfl, ⟨nd, rfl⟩⟩; refine ⟨_, rfl, ?_⟩) | ((with_reducible refine gate_callee (f := 30) rfl ?_); refine ga_ (some 14) Tryd.func30 #[.slice A0_1 l0_1.length c0_1, .int .i64 t102] ?_; (with_reducible refine (laws_szBoolS.calls _ _ l0_1 t102 t103 _ ?side1 ?side2 A7.out).mono ?_); (case side1 => exact kc_ (Kd.C_below HR0_1.out (lb1_ HB.out GE101.out))); (case side2 => exact HC0_1.out); rintro e w' ⟨rfl, ⟨nd, rfl⟩⟩; refine ⟨_, rfl, ?_⟩) | ((with_reducible refine gate_callee (f := 30) rfl ?_); refine ga_ (some 20) Tryd.func30 #[.slice A0_2 l0_2.length c0_2, .int .i64 t103] ?_; (with_reducible refine (laws_szBoolS.calls _ _ l0_2 t103 t104 _ ?side1 ?side2 A11.out).mono ?_); (case side1 => exact kc_ (Kd.C_below HR0_2.out (lb1_ HB.out GE101.out))); (case side2 => exact HC0_2.out); rintro e w' ⟨rfl, ⟨nd, rfl⟩⟩; refine ⟨_, rfl, ?_⟩))
    go_ret
    exact ⟨rr_, lb1_ HB.out GE101.out⟩
   ·
    rw [if_neg c12] at H
    have c12b0 : decide (t104 < 0) = false := decide_eq_false c12
    clear c12
    obtain rfl := Option.some.inj H
    go_enter Tryd.func12, Tryd.ntmps12
    go_wp2_with (first | ((with_reducible refine gate_dst (N := 2) rfl ?_); refine box_event ?hg (N := 2) ?hd (cs := #[.slice A0_0 l0_0.length c0_0, .slice A0_1 l0_1.length c0_1, .slice A0_2 l0_2.length c0_2, .int .i64 a0_3, .int .i64 a0_4]) (t := 25) ?hr ?_; (case hd => rfl); (case hg => rfl); (case hr => first | (go_simp; done) | (go_simp; rfl)); intro gb101 hg w15 hbox hb; have BK101 := Aside0.mk (hbox); have GW101 := Aside0.mk ((bz_ hg (lb0_ HB.out))); have GE101 := Aside0.mk ((bz_ hg (lb0_ HB.out))); replace HB := Aside0.mk (below_step (lb0_ HB.out) hb); clear hb hbox hg; obtain ⟨hcz16_0, hcz16_1, hcz16_2, hcz16_3, hcz16_4⟩ := cz5_ BK101.out; obtain ⟨hfz16_0, hfz16_1, hfz16_2, hfz16_3, hfz16_4⟩ := fz5_ BK101.out) | ((with_reducible refine gate_callee (f := 29) rfl ?_); refine ga_ (some 8) Tryd.func29 #[.slice A0_0 l0_0.length c0_0, .int .i64 a1] ?_; (with_reducible refine (laws_szLegS.calls _ _ l0_0 a1 t102 _ ?side1 ?side2 A3.out).mono ?_); (case side1 => exact kc_ (Kd.C_below HR0_0.out HB.out)); (case side2 => exact HC0_0.out); rintro e w' ⟨rfl, ⟨nd, rfl⟩⟩; refine ⟨_, rfl, ?_⟩) | ((with_reducible refine gate_callee (f := 30) rfl ?_); refine ga_ (some 14) Tryd.func30 #[.slice A0_1 l0_1.length c0_1, .int .i64 t102] ?_; (with_reducible refine (laws_szBoolS.calls _ _ l0_1 t102 t103 _ ?side1 ?side2 A7.out).mono ?_); (case side1 => exact kc_ (Kd.C_below HR0_1.out (lb1_ HB.out GE101.out))); (case side2 => exact HC0_1.out); rintro e w' ⟨rfl, ⟨nd, rfl⟩⟩; refine ⟨_, rfl, ?_⟩) | ((with_reducible refine gate_callee (f := 30) rfl ?_); refine ga_ (some 20) Tryd.func30 #[.slice A0_2 l0_2.length c0_2, .int .i64 t103] ?_; (with_reducible refine (laws_szBoolS.calls _ _ l0_2 t103 t104 _ ?side1 ?side2 A11.out).mono ?_); (case side1 => exact kc_ (Kd.C_below HR0_2.out (lb1_ HB.out GE101.out))); (case side2 => exact HC0_2.out); rintro e w' ⟨rfl, ⟨nd, rfl⟩⟩; refine ⟨_, rfl, ?_⟩))
    go_ret
    exact ⟨rr_, lb1_ HB.out GE101.out⟩
def laws_szLog.f (a0_0 : ByteArray) (a0_1 : ByteArray) (a0_2 : Int) (a1 : Int) : Option (Int) := if (wrap64 (a1 - (a0_0.size : Int))) < 0 then (some (-1)) else (if (wrap64 ((wrap64 (a1 - (a0_0.size : Int))) - (a0_1.size : Int))) < 0 then (some (-1)) else (some (wrap64 ((wrap64 (a1 - (a0_0.size : Int))) - (a0_1.size : Int)))))
set_option maxHeartbeats 8000000 in
set_option maxRecDepth 100000 in
theorem laws_szLog.calls (a0_0 : ByteArray) (a0_1 : ByteArray) (a0_2 : Int) (a1 : Int) (r : Int) (w : World) (h : laws_szLog.f a0_0 a0_1 a0_2 a1 = some r) :
  Calls Tryd.prog 13 #[.agg #[.string a0_0, .string a0_1, .int .i64 a0_2], .int .i64 a1] w fun e w' => e = .returned (.int .i64 r) ∧ Below w.heap.size w w' := by
 have hu27 := Tryd.underlying27
 have HB := Aside0.mk (Below.refl w.heap.size w)
 have H : (if (wrap64 (a1 - (a0_0.size : Int))) < 0 then (some (-1)) else (if (wrap64 ((wrap64 (a1 - (a0_0.size : Int))) - (a0_1.size : Int))) < 0 then (some (-1)) else (some (wrap64 ((wrap64 (a1 - (a0_0.size : Int))) - (a0_1.size : Int)))))) = some r := h
 clear h
 by_cases c3 : (wrap64 (a1 - (a0_0.size : Int))) < 0
 ·
  rw [if_pos c3] at H
  have c3b0 : decide ((wrap64 (a1 - (a0_0.size : Int))) < 0) = true := decide_eq_true c3
  clear c3
  obtain rfl := Option.some.inj H
  go_enter Tryd.func13, Tryd.ntmps13
  go_wp2_with (first | ((with_reducible refine gate_dst (N := 2) rfl ?_); refine box_event ?hg (N := 2) ?hd (cs := #[.string a0_0, .string a0_1, .int .i64 a0_2]) (t := 27) ?hr ?_; (case hd => rfl); (case hg => rfl); (case hr => first | (go_simp; done) | (go_simp; rfl)); intro gb105 hg w4 hbox hb; have BK105 := Aside0.mk (hbox); have GW105 := Aside0.mk ((bz_ hg (lb0_ HB.out))); have GE105 := Aside0.mk ((bz_ hg (lb0_ HB.out))); replace HB := Aside0.mk (below_step (lb0_ HB.out) hb); clear hb hbox hg; obtain ⟨hcz5_0, hcz5_1, hcz5_2⟩ := cz3_ BK105.out; obtain ⟨hfz5_0, hfz5_1, hfz5_2⟩ := fz3_ BK105.out))
  go_ret
  exact ⟨rr_, lb1_ HB.out GE105.out⟩
 ·
  rw [if_neg c3] at H
  have c3b0 : decide ((wrap64 (a1 - (a0_0.size : Int))) < 0) = false := decide_eq_false c3
  clear c3
  by_cases c6 : (wrap64 ((wrap64 (a1 - (a0_0.size : Int))) - (a0_1.size : Int))) < 0
  ·
   rw [if_pos c6] at H
   have c6b0 : decide ((wrap64 ((wrap64 (a1 - (a0_0.size : Int))) - (a0_1.size : Int))) < 0) = true := decide_eq_true c6
   clear c6
   obtain rfl := Option.some.inj H
   go_enter Tryd.func13, Tryd.ntmps13
   go_wp2_with (first | ((with_reducible refine gate_dst (N := 2) rfl ?_); refine box_event ?hg (N := 2) ?hd (cs := #[.string a0_0, .string a0_1, .int .i64 a0_2]) (t := 27) ?hr ?_; (case hd => rfl); (case hg => rfl); (case hr => first | (go_simp; done) | (go_simp; rfl)); intro gb105 hg w7 hbox hb; have BK105 := Aside0.mk (hbox); have GW105 := Aside0.mk ((bz_ hg (lb0_ HB.out))); have GE105 := Aside0.mk ((bz_ hg (lb0_ HB.out))); replace HB := Aside0.mk (below_step (lb0_ HB.out) hb); clear hb hbox hg; obtain ⟨hcz8_0, hcz8_1, hcz8_2⟩ := cz3_ BK105.out; obtain ⟨hfz8_0, hfz8_1, hfz8_2⟩ := fz3_ BK105.out))
   go_ret
   exact ⟨rr_, lb1_ HB.out GE105.out⟩
  ·
   rw [if_neg c6] at H
   have c6b0 : decide ((wrap64 ((wrap64 (a1 - (a0_0.size : Int))) - (a0_1.size : Int))) < 0) = false := decide_eq_false c6
   clear c6
   obtain rfl := Option.some.inj H
   go_enter Tryd.func13, Tryd.ntmps13
   go_wp2_with (first | ((with_reducible refine gate_dst (N := 2) rfl ?_); refine box_event ?hg (N := 2) ?hd (cs := #[.string a0_0, .string a0_1, .int .i64 a0_2]) (t := 27) ?hr ?_; (case hd => rfl); (case hg => rfl); (case hr => first | (go_simp; done) | (go_simp; rfl)); intro gb105 hg w9 hbox hb; have BK105 := Aside0.mk (hbox); have GW105 := Aside0.mk ((bz_ hg (lb0_ HB.out))); have GE105 := Aside0.mk ((bz_ hg (lb0_ HB.out))); replace HB := Aside0.mk (below_step (lb0_ HB.out) hb); clear hb hbox hg; obtain ⟨hcz10_0, hcz10_1, hcz10_2⟩ := cz3_ BK105.out; obtain ⟨hfz10_0, hfz10_1, hfz10_2⟩ := fz3_ BK105.out))
   go_ret
   exact ⟨rr_, lb1_ HB.out GE105.out⟩
def laws_szConsole.f (l0_0 : List (S84)) (l0_1 : List Bool) (l0_2 : List Bool) (a0_3 : Int) (a0_4 : Int) (a0_5 : ByteArray) (a0_6 : ByteArray) (a0_7 : Int) (a1 : Int) : Option (Int) := (laws_szExploration.f l0_0 l0_1 l0_2 a0_3 a0_4 a1).bind fun t107 => (if t107 < 0 then (some (-1)) else ((laws_szLog.f a0_5 a0_6 a0_7 t107).bind fun t108 => (if t108 < 0 then (some (-1)) else (some t108))))
set_option maxHeartbeats 8000000 in
set_option maxRecDepth 100000 in
theorem laws_szConsole.calls (A0_0 : Option Addr) (c0_0 : Nat) (l0_0 : List (S84)) (A0_1 : Option Addr) (c0_1 : Nat) (l0_1 : List Bool) (A0_2 : Option Addr) (c0_2 : Nat) (l0_2 : List Bool) (a0_3 : Int) (a0_4 : Int) (a0_5 : ByteArray) (a0_6 : ByteArray) (a0_7 : Int) (a1 : Int) (r : Int) (w : World) (hr0_0 : Kd.C k84 w A0_0 l0_0.length l0_0) (hc0_0 : l0_0.length ≤ c0_0) (hr0_1 : Kd.C Kd.bool w A0_1 l0_1.length l0_1) (hc0_1 : l0_1.length ≤ c0_1) (hr0_2 : Kd.C Kd.bool w A0_2 l0_2.length l0_2) (hc0_2 : l0_2.length ≤ c0_2) (h : laws_szConsole.f l0_0 l0_1 l0_2 a0_3 a0_4 a0_5 a0_6 a0_7 a1 = some r) :
  Calls Tryd.prog 5 #[.agg #[.slice A0_0 l0_0.length c0_0, .slice A0_1 l0_1.length c0_1, .slice A0_2 l0_2.length c0_2, .int .i64 a0_3, .int .i64 a0_4, .string a0_5, .string a0_6, .int .i64 a0_7], .int .i64 a1] w fun e w' => e = .returned (.int .i64 r) ∧ Below w.heap.size w w' := by
 have hu29 := Tryd.underlying29
 have hu25 := Tryd.underlying25
 have hu27 := Tryd.underlying27
 have HR0_0 := Aside0.mk hr0_0
 have HC0_0 := Aside0.mk hc0_0
 clear hr0_0 hc0_0
 have HR0_1 := Aside0.mk hr0_1
 have HC0_1 := Aside0.mk hc0_1
 clear hr0_1 hc0_1
 have HR0_2 := Aside0.mk hr0_2
 have HC0_2 := Aside0.mk hc0_2
 clear hr0_2 hc0_2
 have HB := Aside0.mk (Below.refl w.heap.size w)
 have H : ((laws_szExploration.f l0_0 l0_1 l0_2 a0_3 a0_4 a1).bind fun t107 => (if t107 < 0 then (some (-1)) else ((laws_szLog.f a0_5 a0_6 a0_7 t107).bind fun t108 => (if t108 < 0 then (some (-1)) else (some t108))))) = some r := h
 clear h
 replace H := Option.bind_eq_some_iff.mp H
 obtain ⟨t107, A30, H⟩ := H
 replace H : (if t107 < 0 then (some (-1)) else ((laws_szLog.f a0_5 a0_6 a0_7 t107).bind fun t108 => (if t108 < 0 then (some (-1)) else (some t108)))) = some r := H
 have A3 := Aside0.mk A30
 clear A30
 by_cases c4 : t107 < 0
 ·
  rw [if_pos c4] at H
  have c4b0 : decide (t107 < 0) = true := decide_eq_true c4
  clear c4
  obtain rfl := Option.some.inj H
  go_enter Tryd.func5, Tryd.ntmps5
  go_wp2_with (first | ((with_reducible refine gate_dst (N := 2) rfl ?_); refine box_event ?hg (N := 2) ?hd (cs := #[.slice A0_0 l0_0.length c0_0, .slice A0_1 l0_1.length c0_1, .slice A0_2 l0_2.length c0_2, .int .i64 a0_3, .int .i64 a0_4, .string a0_5, .string a0_6, .int .i64 a0_7]) (t := 29) ?hr ?_; (case hd => rfl); (case hg => rfl); (case hr => first | (go_simp; done) | (go_simp; rfl)); intro gb106 hg w5 hbox hb; have BK106 := Aside0.mk (hbox); have GW106 := Aside0.mk ((bz_ hg (lb0_ HB.out))); have GE106 := Aside0.mk ((bz_ hg (lb0_ HB.out))); replace HB := Aside0.mk (below_step (lb0_ HB.out) hb); clear hb hbox hg; obtain ⟨hcz6_0, hcz6_1, hcz6_2, hcz6_3, hcz6_4, hcz6_5, hcz6_6, hcz6_7⟩ := cz8_ BK106.out; obtain ⟨hfz6_0, hfz6_1, hfz6_2, hfz6_3, hfz6_4, hfz6_5, hfz6_6, hfz6_7⟩ := fz8_ BK106.out) | ((with_reducible refine gate_callee (f := 12) rfl ?_); refine ga_ (some 8) Tryd.func12 #[.agg #[.slice A0_0 l0_0.length c0_0, .slice A0_1 l0_1.length c0_1, .slice A0_2 l0_2.length c0_2, .int .i64 a0_3, .int .i64 a0_4], .int .i64 a1] ?_; (with_reducible refine (laws_szExploration.calls _ _ l0_0 _ _ l0_1 _ _ l0_2 a0_3 a0_4 a1 t107 _ ?side1 ?side2 ?side3 ?side4 ?side5 ?side6 A3.out).mono ?_); (case side1 => exact kc_ (Kd.C_below HR0_0.out HB.out)); (case side2 => exact HC0_0.out); (case side3 => exact kc_ (Kd.C_below HR0_1.out HB.out)); (case side4 => exact HC0_1.out); (case side5 => exact kc_ (Kd.C_below HR0_2.out HB.out)); (case side6 => exact HC0_2.out); rintro e w7 ⟨rfl, hb⟩; refine ⟨_, rfl, ?_⟩; replace BK106 := Aside0.mk (bb_ (bk_ BK106.out) hb); replace HB := Aside0.mk (below_step (lb1_ HB.out GE106.out) hb); (try clear hb); (try clear hb2); (try clear hk); (try clear hi)))
  go_ret
  exact ⟨rr_, lb1_ HB.out GE106.out⟩
 ·
  rw [if_neg c4] at H
  have c4b0 : decide (t107 < 0) = false := decide_eq_false c4
  clear c4
  replace H := Option.bind_eq_some_iff.mp H
  obtain ⟨t108, A80, H⟩ := H
  replace H : (if t108 < 0 then (some (-1)) else (some t108)) = some r := H
  have A8 := Aside0.mk A80
  clear A80
  by_cases c9 : t108 < 0
  ·
   rw [if_pos c9] at H
   have c9b0 : decide (t108 < 0) = true := decide_eq_true c9
   clear c9
   obtain rfl := Option.some.inj H
   go_enter Tryd.func5, Tryd.ntmps5
   go_wp2_with (first | ((with_reducible refine gate_dst (N := 2) rfl ?_); refine box_event ?hg (N := 2) ?hd (cs := #[.slice A0_0 l0_0.length c0_0, .slice A0_1 l0_1.length c0_1, .slice A0_2 l0_2.length c0_2, .int .i64 a0_3, .int .i64 a0_4, .string a0_5, .string a0_6, .int .i64 a0_7]) (t := 29) ?hr ?_; (case hd => rfl); (case hg => rfl); (case hr => first | (go_simp; done) | (go_simp; rfl)); intro gb106 hg w10 hbox hb; have BK106 := Aside0.mk (hbox); have GW106 := Aside0.mk ((bz_ hg (lb0_ HB.out))); have GE106 := Aside0.mk ((bz_ hg (lb0_ HB.out))); replace HB := Aside0.mk (below_step (lb0_ HB.out) hb); clear hb hbox hg; obtain ⟨hcz11_0, hcz11_1, hcz11_2, hcz11_3, hcz11_4, hcz11_5, hcz11_6, hcz11_7⟩ := cz8_ BK106.out; obtain ⟨hfz11_0, hfz11_1, hfz11_2, hfz11_3, hfz11_4, hfz11_5, hfz11_6, hfz11_7⟩ := fz8_ BK106.out) | ((with_reducible refine gate_callee (f := 12) rfl ?_); refine ga_ (some 8) Tryd.func12 #[.agg #[.slice A0_0 l0_0.length c0_0, .slice A0_1 l0_1.length c0_1, .slice A0_2 l0_2.length c0_2, .int .i64 a0_3, .int .i64 a0_4], .int .i64 a1] ?_; (with_reducible refine (laws_szExploration.calls _ _ l0_0 _ _ l0_1 _ _ l0_2 a0_3 a0_4 a1 t107 _ ?side1 ?side2 ?side3 ?side4 ?side5 ?side6 A3.out).mono ?_); (case side1 => exact kc_ (Kd.C_below HR0_0.out HB.out)); (case side2 => exact HC0_0.out); (case side3 => exact kc_ (Kd.C_below HR0_1.out HB.out)); (case side4 => exact HC0_1.out); (case side5 => exact kc_ (Kd.C_below HR0_2.out HB.out)); (case side6 => exact HC0_2.out); rintro e w12 ⟨rfl, hb⟩; refine ⟨_, rfl, ?_⟩; replace BK106 := Aside0.mk (bb_ (bk_ BK106.out) hb); replace HB := Aside0.mk (below_step (lb1_ HB.out GE106.out) hb); (try clear hb); (try clear hb2); (try clear hk); (try clear hi); obtain ⟨hcz13_0, hcz13_1, hcz13_2, hcz13_3, hcz13_4, hcz13_5, hcz13_6, hcz13_7⟩ := cz8_ BK106.out; obtain ⟨hfz13_0, hfz13_1, hfz13_2, hfz13_3, hfz13_4, hfz13_5, hfz13_6, hfz13_7⟩ := fz8_ BK106.out) | ((with_reducible refine gate_callee (f := 13) rfl ?_); refine ga_ (some 14) Tryd.func13 #[.agg #[.string a0_5, .string a0_6, .int .i64 a0_7], .int .i64 t107] ?_; (with_reducible refine (laws_szLog.calls a0_5 a0_6 a0_7 t107 t108 _ A8.out).mono ?_); rintro e w14 ⟨rfl, hb⟩; refine ⟨_, rfl, ?_⟩; replace BK106 := Aside0.mk (bb_ (bk_ BK106.out) hb); replace HB := Aside0.mk (below_step (lb1_ HB.out GE106.out) hb); (try clear hb); (try clear hb2); (try clear hk); (try clear hi)))
   go_ret
   exact ⟨rr_, lb1_ HB.out GE106.out⟩
  ·
   rw [if_neg c9] at H
   have c9b0 : decide (t108 < 0) = false := decide_eq_false c9
   clear c9
   obtain rfl := Option.some.inj H
   go_enter Tryd.func5, Tryd.ntmps5
   go_wp2_with (first | ((with_reducible refine gate_dst (N := 2) rfl ?_); refine box_event ?hg (N := 2) ?hd (cs := #[.slice A0_0 l0_0.length c0_0, .slice A0_1 l0_1.length c0_1, .slice A0_2 l0_2.length c0_2, .int .i64 a0_3, .int .i64 a0_4, .string a0_5, .string a0_6, .int .i64 a0_7]) (t := 29) ?hr ?_; (case hd => rfl); (case hg => rfl); (case hr => first | (go_simp; done) | (go_simp; rfl)); intro gb106 hg w15 hbox hb; have BK106 := Aside0.mk (hbox); have GW106 := Aside0.mk ((bz_ hg (lb0_ HB.out))); have GE106 := Aside0.mk ((bz_ hg (lb0_ HB.out))); replace HB := Aside0.mk (below_step (lb0_ HB.out) hb); clear hb hbox hg; obtain ⟨hcz16_0, hcz16_1, hcz16_2, hcz16_3, hcz16_4, hcz16_5, hcz16_6, hcz16_7⟩ := cz8_ BK106.out; obtain ⟨hfz16_0, hfz16_1, hfz16_2, hfz16_3, hfz16_4, hfz16_5, hfz16_6, hfz16_7⟩ := fz8_ BK106.out) | ((with_reducible refine gate_callee (f := 12) rfl ?_); refine ga_ (some 8) Tryd.func12 #[.agg #[.slice A0_0 l0_0.length c0_0, .slice A0_1 l0_1.length c0_1, .slice A0_2 l0_2.length c0_2, .int .i64 a0_3, .int .i64 a0_4], .int .i64 a1] ?_; (with_reducible refine (laws_szExploration.calls _ _ l0_0 _ _ l0_1 _ _ l0_2 a0_3 a0_4 a1 t107 _ ?side1 ?side2 ?side3 ?side4 ?side5 ?side6 A3.out).mono ?_); (case side1 => exact kc_ (Kd.C_below HR0_0.out HB.out)); (case side2 => exact HC0_0.out); (case side3 => exact kc_ (Kd.C_below HR0_1.out HB.out)); (case side4 => exact HC0_1.out); (case side5 => exact kc_ (Kd.C_below HR0_2.out HB.out)); (case side6 => exact HC0_2.out); rintro e w17 ⟨rfl, hb⟩; refine ⟨_, rfl, ?_⟩; replace BK106 := Aside0.mk (bb_ (bk_ BK106.out) hb); replace HB := Aside0.mk (below_step (lb1_ HB.out GE106.out) hb); (try clear hb); (try clear hb2); (try clear hk); (try clear hi); obtain ⟨hcz18_0, hcz18_1, hcz18_2, hcz18_3, hcz18_4, hcz18_5, hcz18_6, hcz18_7⟩ := cz8_ BK106.out; obtain ⟨hfz18_0, hfz18_1, hfz18_2, hfz18_3, hfz18_4, hfz18_5, hfz18_6, hfz18_7⟩ := fz8_ BK106.out) | ((with_reducible refine gate_callee (f := 13) rfl ?_); refine ga_ (some 14) Tryd.func13 #[.agg #[.string a0_5, .string a0_6, .int .i64 a0_7], .int .i64 t107] ?_; (with_reducible refine (laws_szLog.calls a0_5 a0_6 a0_7 t107 t108 _ A8.out).mono ?_); rintro e w19 ⟨rfl, hb⟩; refine ⟨_, rfl, ?_⟩; replace BK106 := Aside0.mk (bb_ (bk_ BK106.out) hb); replace HB := Aside0.mk (below_step (lb1_ HB.out GE106.out) hb); (try clear hb); (try clear hb2); (try clear hk); (try clear hi)))
   go_ret
   exact ⟨rr_, lb1_ HB.out GE106.out⟩
def spec_l1In.f (a0 : Int) (a1 : Int) (a2 : Int) : Option (Bool) := if a0 ≥ a1 then (some (decide (a0 ≤ a2))) else (some false)
set_option maxHeartbeats 8000000 in
set_option maxRecDepth 100000 in
theorem spec_l1In.calls (a0 : Int) (a1 : Int) (a2 : Int) (r : Bool) (w : World) (h : spec_l1In.f a0 a1 a2 = some r) :
  Calls Tryd.prog 46 #[.int .i64 a0, .int .i64 a1, .int .i64 a2] w fun e w' => e = .returned (.bool r) ∧ Drawn0 w w' := by
 have H : (if a0 ≥ a1 then (some (decide (a0 ≤ a2))) else (some false)) = some r := h
 clear h
 by_cases c4 : a0 ≥ a1
 ·
  rw [if_pos c4] at H
  have c4b0 : decide (a1 ≤ a0) = true := decide_eq_true c4
  clear c4
  obtain rfl := Option.some.inj H
  go_enter Tryd.func46, Tryd.ntmps46
  go_wp2
  go_ret
  exact ⟨by first | rfl | (simp; done) | (simp [*]; done), by repeat (first | exact Drawn0.refl _ | apply Drawn0.step)⟩
 ·
  rw [if_neg c4] at H
  have c4b0 : decide (a1 ≤ a0) = false := decide_eq_false c4
  clear c4
  obtain rfl := Option.some.inj H
  go_enter Tryd.func46, Tryd.ntmps46
  go_wp2
  go_ret
  exact ⟨by first | rfl | (simp; done) | (simp [*]; done), by repeat (first | exact Drawn0.refl _ | apply Drawn0.step)⟩
def spec_l4Station.f (a0 : Int) : Option (Bool) := (spec_l1In.f a0 0 7).bind fun t109 => (some t109)
set_option maxHeartbeats 8000000 in
set_option maxRecDepth 100000 in
theorem spec_l4Station.calls (a0 : Int) (r : Bool) (w : World) (h : spec_l4Station.f a0 = some r) :
  Calls Tryd.prog 45 #[.int .i64 a0] w fun e w' => e = .returned (.bool r) ∧ Drawn0 w w' := by
 have H : ((spec_l1In.f a0 0 7).bind fun t109 => (some t109)) = some r := h
 clear h
 replace H := Option.bind_eq_some_iff.mp H
 obtain ⟨t109, A20, H⟩ := H
 replace H : (some t109) = some r := H
 have A2 := Aside0.mk A20
 clear A20
 obtain rfl := Option.some.inj H
 go_enter Tryd.func45, Tryd.ntmps45
 go_wp2_with (first | ((with_reducible refine gate_callee (f := 46) rfl ?_); refine ga_ (some 4) Tryd.func46 #[.int .i64 a0, .int .i64 0, .int .i64 7] ?_; (with_reducible refine (spec_l1In.calls a0 0 7 t109 _ A2.out).mono ?_); rintro e w' ⟨rfl, ⟨nd, rfl⟩⟩; refine ⟨_, rfl, ?_⟩))
 go_ret
 exact ⟨by first | rfl | (simp; done) | (simp [*]; done), by repeat (first | exact Drawn0.refl _ | apply Drawn0.step)⟩
def spec_l2Bearing.f (a0 : Int) : Option (Bool) := (spec_l1In.f a0 0 359).bind fun t110 => (some t110)
set_option maxHeartbeats 8000000 in
set_option maxRecDepth 100000 in
theorem spec_l2Bearing.calls (a0 : Int) (r : Bool) (w : World) (h : spec_l2Bearing.f a0 = some r) :
  Calls Tryd.prog 65 #[.int .i64 a0] w fun e w' => e = .returned (.bool r) ∧ Drawn0 w w' := by
 have H : ((spec_l1In.f a0 0 359).bind fun t110 => (some t110)) = some r := h
 clear h
 replace H := Option.bind_eq_some_iff.mp H
 obtain ⟨t110, A20, H⟩ := H
 replace H : (some t110) = some r := H
 have A2 := Aside0.mk A20
 clear A20
 obtain rfl := Option.some.inj H
 go_enter Tryd.func65, Tryd.ntmps65
 go_wp2_with (first | ((with_reducible refine gate_callee (f := 46) rfl ?_); refine ga_ (some 4) Tryd.func46 #[.int .i64 a0, .int .i64 0, .int .i64 359] ?_; (with_reducible refine (spec_l1In.calls a0 0 359 t110 _ A2.out).mono ?_); rintro e w' ⟨rfl, ⟨nd, rfl⟩⟩; refine ⟨_, rfl, ?_⟩))
 go_ret
 exact ⟨by first | rfl | (simp; done) | (simp [*]; done), by repeat (first | exact Drawn0.refl _ | apply Drawn0.step)⟩
def spec_l4Leg.f (a0_0 : Int) (a0_1 : Int) (a0_2 : Int) (a0_3 : Int) (a0_4 : Int) : Option (Bool) := (spec_l4Station.f a0_0).bind fun t112 => (if t112 = true then ((spec_l4Station.f a0_1).bind fun t113 => (if t113 = true then (if a0_0 = a0_1 then (some false) else ((spec_l1In.f a0_2 1 500).bind fun t114 => (if t114 = true then ((spec_l2Bearing.f a0_3).bind fun t115 => (if t115 = true then ((spec_l1In.f a0_4 (-90) 90).bind fun t116 => (some t116)) else (some false))) else (some false)))) else (some false))) else (some false))
set_option maxHeartbeats 8000000 in
set_option maxRecDepth 100000 in
theorem spec_l4Leg.calls (a0_0 : Int) (a0_1 : Int) (a0_2 : Int) (a0_3 : Int) (a0_4 : Int) (r : Bool) (w : World) (h : spec_l4Leg.f a0_0 a0_1 a0_2 a0_3 a0_4 = some r) :
  Calls Tryd.prog 57 #[.agg #[.int .i64 a0_0, .int .i64 a0_1, .int .i64 a0_2, .int .i64 a0_3, .int .i64 a0_4]] w fun e w' => e = .returned (.bool r) ∧ Below w.heap.size w w' := by
 have hu53 := Tryd.underlying53
 have HB := Aside0.mk (Below.refl w.heap.size w)
 have H : ((spec_l4Station.f a0_0).bind fun t112 => (if t112 = true then ((spec_l4Station.f a0_1).bind fun t113 => (if t113 = true then (if a0_0 = a0_1 then (some false) else ((spec_l1In.f a0_2 1 500).bind fun t114 => (if t114 = true then ((spec_l2Bearing.f a0_3).bind fun t115 => (if t115 = true then ((spec_l1In.f a0_4 (-90) 90).bind fun t116 => (some t116)) else (some false))) else (some false)))) else (some false))) else (some false))) = some r := h
 clear h
 replace H := Option.bind_eq_some_iff.mp H
 obtain ⟨t112, A20, H⟩ := H
 replace H : (if t112 = true then ((spec_l4Station.f a0_1).bind fun t113 => (if t113 = true then (if a0_0 = a0_1 then (some false) else ((spec_l1In.f a0_2 1 500).bind fun t114 => (if t114 = true then ((spec_l2Bearing.f a0_3).bind fun t115 => (if t115 = true then ((spec_l1In.f a0_4 (-90) 90).bind fun t116 => (some t116)) else (some false))) else (some false)))) else (some false))) else (some false)) = some r := H
 have A2 := Aside0.mk A20
 clear A20
 by_cases c3 : t112 = true
 ·
  subst c3
  have H1 : ((spec_l4Station.f a0_1).bind fun t113 => (if t113 = true then (if a0_0 = a0_1 then (some false) else ((spec_l1In.f a0_2 1 500).bind fun t114 => (if t114 = true then ((spec_l2Bearing.f a0_3).bind fun t115 => (if t115 = true then ((spec_l1In.f a0_4 (-90) 90).bind fun t116 => (some t116)) else (some false))) else (some false)))) else (some false))) = some r := by rw [if_pos rfl] at H; exact H
  clear H
  have H := H1
  clear H1
  replace H := Option.bind_eq_some_iff.mp H
  obtain ⟨t113, A40, H⟩ := H
  replace H : (if t113 = true then (if a0_0 = a0_1 then (some false) else ((spec_l1In.f a0_2 1 500).bind fun t114 => (if t114 = true then ((spec_l2Bearing.f a0_3).bind fun t115 => (if t115 = true then ((spec_l1In.f a0_4 (-90) 90).bind fun t116 => (some t116)) else (some false))) else (some false)))) else (some false)) = some r := H
  have A4 := Aside0.mk A40
  clear A40
  by_cases c5 : t113 = true
  ·
   subst c5
   have H1 : (if a0_0 = a0_1 then (some false) else ((spec_l1In.f a0_2 1 500).bind fun t114 => (if t114 = true then ((spec_l2Bearing.f a0_3).bind fun t115 => (if t115 = true then ((spec_l1In.f a0_4 (-90) 90).bind fun t116 => (some t116)) else (some false))) else (some false)))) = some r := by rw [if_pos rfl] at H; exact H
   clear H
   have H := H1
   clear H1
   by_cases c6 : a0_0 = a0_1
   ·
    rw [if_pos c6] at H
    have c6b0 : (a0_0 == a0_1) = true := beq_iff_eq.mpr c6
    have c6b1 : (a0_0 != a0_1) = false := bne_eq_false_iff_eq.mpr c6
    clear c6
    obtain rfl := Option.some.inj H
    go_enter Tryd.func57, Tryd.ntmps57
    go_wp2_with (first | ((with_reducible refine gate_dst (N := 1) rfl ?_); refine box_event ?hg (N := 1) ?hd (cs := #[.int .i64 a0_0, .int .i64 a0_1, .int .i64 a0_2, .int .i64 a0_3, .int .i64 a0_4]) (t := 53) ?hr ?_; (case hd => rfl); (case hg => rfl); (case hr => first | (go_simp; done) | (go_simp; rfl)); intro gb111 hg w7 hbox hb; have BK111 := Aside0.mk (hbox); have GW111 := Aside0.mk ((bz_ hg (lb0_ HB.out))); have GE111 := Aside0.mk ((bz_ hg (lb0_ HB.out))); replace HB := Aside0.mk (below_step (lb0_ HB.out) hb); clear hb hbox hg; obtain ⟨hcz8_0, hcz8_1, hcz8_2, hcz8_3, hcz8_4⟩ := cz5_ BK111.out; obtain ⟨hfz8_0, hfz8_1, hfz8_2, hfz8_3, hfz8_4⟩ := fz5_ BK111.out) | ((with_reducible refine gate_callee (f := 45) rfl ?_); refine ga_ (some 5) Tryd.func45 #[.int .i64 a0_0] ?_; (with_reducible refine (spec_l4Station.calls a0_0 true _ A2.out).mono ?_); rintro e w' ⟨rfl, ⟨nd, rfl⟩⟩; refine ⟨_, rfl, ?_⟩) | (go_at_call 45; (with_reducible refine (spec_l4Station.calls a0_1 true _ A4.out).mono ?_); rintro e w' ⟨rfl, ⟨nd, rfl⟩⟩))
    go_ret
    exact ⟨rr_, lb1_ HB.out GE111.out⟩
   ·
    rw [if_neg c6] at H
    have c6b0 : (a0_0 == a0_1) = false := beq_eq_false_iff_ne.mpr c6
    have c6b1 : (a0_0 != a0_1) = true := bne_iff_ne.mpr c6
    replace H := Option.bind_eq_some_iff.mp H
    obtain ⟨t114, A90, H⟩ := H
    replace H : (if t114 = true then ((spec_l2Bearing.f a0_3).bind fun t115 => (if t115 = true then ((spec_l1In.f a0_4 (-90) 90).bind fun t116 => (some t116)) else (some false))) else (some false)) = some r := H
    have A9 := Aside0.mk A90
    clear A90
    by_cases c10 : t114 = true
    ·
     subst c10
     have H1 : ((spec_l2Bearing.f a0_3).bind fun t115 => (if t115 = true then ((spec_l1In.f a0_4 (-90) 90).bind fun t116 => (some t116)) else (some false))) = some r := by rw [if_pos rfl] at H; exact H
     clear H
     have H := H1
     clear H1
     replace H := Option.bind_eq_some_iff.mp H
     obtain ⟨t115, A110, H⟩ := H
     replace H : (if t115 = true then ((spec_l1In.f a0_4 (-90) 90).bind fun t116 => (some t116)) else (some false)) = some r := H
     have A11 := Aside0.mk A110
     clear A110
     by_cases c12 : t115 = true
     ·
      subst c12
      have H1 : ((spec_l1In.f a0_4 (-90) 90).bind fun t116 => (some t116)) = some r := by rw [if_pos rfl] at H; exact H
      clear H
      have H := H1
      clear H1
      replace H := Option.bind_eq_some_iff.mp H
      obtain ⟨t116, A130, H⟩ := H
      replace H : (some t116) = some r := H
      have A13 := Aside0.mk A130
      clear A130
      obtain rfl := Option.some.inj H
      go_enter Tryd.func57, Tryd.ntmps57
      go_wp2_with (first | ((with_reducible refine gate_dst (N := 1) rfl ?_); refine box_event ?hg (N := 1) ?hd (cs := #[.int .i64 a0_0, .int .i64 a0_1, .int .i64 a0_2, .int .i64 a0_3, .int .i64 a0_4]) (t := 53) ?hr ?_; (case hd => rfl); (case hg => rfl); (case hr => first | (go_simp; done) | (go_simp; rfl)); intro gb111 hg w14 hbox hb; have BK111 := Aside0.mk (hbox); have GW111 := Aside0.mk ((bz_ hg (lb0_ HB.out))); have GE111 := Aside0.mk ((bz_ hg (lb0_ HB.out))); replace HB := Aside0.mk (below_step (lb0_ HB.out) hb); clear hb hbox hg; obtain ⟨hcz15_0, hcz15_1, hcz15_2, hcz15_3, hcz15_4⟩ := cz5_ BK111.out; obtain ⟨hfz15_0, hfz15_1, hfz15_2, hfz15_3, hfz15_4⟩ := fz5_ BK111.out) | ((with_reducible refine gate_callee (f := 45) rfl ?_); refine ga_ (some 5) Tryd.func45 #[.int .i64 a0_0] ?_; (with_reducible refine (spec_l4Station.calls a0_0 true _ A2.out).mono ?_); rintro e w' ⟨rfl, ⟨nd, rfl⟩⟩; refine ⟨_, rfl, ?_⟩) | (go_at_call 45; (with_reducible refine (spec_l4Station.calls a0_1 true _ A4.out).mono ?_); rintro e w' ⟨rfl, ⟨nd, rfl⟩⟩) | (go_at_call 46; (with_reducible refine (spec_l1In.calls a0_2 1 500 true _ A9.out).mono ?_); rintro e w' ⟨rfl, ⟨nd, rfl⟩⟩) | (go_at_call 65; (with_reducible refine (spec_l2Bearing.calls a0_3 true _ A11.out).mono ?_); rintro e w' ⟨rfl, ⟨nd, rfl⟩⟩) | (go_at_call 46; (with_reducible refine (spec_l1In.calls a0_4 (-90) 90 t116 _ A13.out).mono ?_); rintro e w' ⟨rfl, ⟨nd, rfl⟩⟩))
      go_ret
      exact ⟨rr_, lb1_ HB.out GE111.out⟩
     ·
      replace c12 := Bool.eq_false_iff.mpr c12
      subst c12
      have H1 : (some false) = some r := by rw [if_neg (show ¬ (false = true) by decide)] at H; exact H
      clear H
      have H := H1
      clear H1
      obtain rfl := Option.some.inj H
      go_enter Tryd.func57, Tryd.ntmps57
      go_wp2_with (first | ((with_reducible refine gate_dst (N := 1) rfl ?_); refine box_event ?hg (N := 1) ?hd (cs := #[.int .i64 a0_0, .int .i64 a0_1, .int .i64 a0_2, .int .i64 a0_3, .int .i64 a0_4]) (t := 53) ?hr ?_; (case hd => rfl); (case hg => rfl); (case hr => first | (go_simp; done) | (go_simp; rfl)); intro gb111 hg w16 hbox hb; have BK111 := Aside0.mk (hbox); have GW111 := Aside0.mk ((bz_ hg (lb0_ HB.out))); have GE111 := Aside0.mk ((bz_ hg (lb0_ HB.out))); replace HB := Aside0.mk (below_step (lb0_ HB.out) hb); clear hb hbox hg; obtain ⟨hcz17_0, hcz17_1, hcz17_2, hcz17_3, hcz17_4⟩ := cz5_ BK111.out; obtain ⟨hfz17_0, hfz17_1, hfz17_2, hfz17_3, hfz17_4⟩ := fz5_ BK111.out) | ((with_reducible refine gate_callee (f := 45) rfl ?_); refine ga_ (some 5) Tryd.func45 #[.int .i64 a0_0] ?_; (with_reducible refine (spec_l4Station.calls a0_0 true _ A2.out).mono ?_); rintro e w' ⟨rfl, ⟨nd, rfl⟩⟩; refine ⟨_, rfl, ?_⟩) | (go_at_call 45; (with_reducible refine (spec_l4Station.calls a0_1 true _ A4.out).mono ?_); rintro e w' ⟨rfl, ⟨nd, rfl⟩⟩) | (go_at_call 46; (with_reducible refine (spec_l1In.calls a0_2 1 500 true _ A9.out).mono ?_); rintro e w' ⟨rfl, ⟨nd, rfl⟩⟩) | (go_at_call 65; (with_reducible refine (spec_l2Bearing.calls a0_3 false _ A11.out).mono ?_); rintro e w' ⟨rfl, ⟨nd, rfl⟩⟩))
      go_ret
      exact ⟨rr_, lb1_ HB.out GE111.out⟩
    ·
     replace c10 := Bool.eq_false_iff.mpr c10
     subst c10
     have H1 : (some false) = some r := by rw [if_neg (show ¬ (false = true) by decide)] at H; exact H
     clear H
     have H := H1
     clear H1
     obtain rfl := Option.some.inj H
     go_enter Tryd.func57, Tryd.ntmps57
     go_wp2_with (first | ((with_reducible refine gate_dst (N := 1) rfl ?_); refine box_event ?hg (N := 1) ?hd (cs := #[.int .i64 a0_0, .int .i64 a0_1, .int .i64 a0_2, .int .i64 a0_3, .int .i64 a0_4]) (t := 53) ?hr ?_; (case hd => rfl); (case hg => rfl); (case hr => first | (go_simp; done) | (go_simp; rfl)); intro gb111 hg w18 hbox hb; have BK111 := Aside0.mk (hbox); have GW111 := Aside0.mk ((bz_ hg (lb0_ HB.out))); have GE111 := Aside0.mk ((bz_ hg (lb0_ HB.out))); replace HB := Aside0.mk (below_step (lb0_ HB.out) hb); clear hb hbox hg; obtain ⟨hcz19_0, hcz19_1, hcz19_2, hcz19_3, hcz19_4⟩ := cz5_ BK111.out; obtain ⟨hfz19_0, hfz19_1, hfz19_2, hfz19_3, hfz19_4⟩ := fz5_ BK111.out) | ((with_reducible refine gate_callee (f := 45) rfl ?_); refine ga_ (some 5) Tryd.func45 #[.int .i64 a0_0] ?_; (with_reducible refine (spec_l4Station.calls a0_0 true _ A2.out).mono ?_); rintro e w' ⟨rfl, ⟨nd, rfl⟩⟩; refine ⟨_, rfl, ?_⟩) | (go_at_call 45; (with_reducible refine (spec_l4Station.calls a0_1 true _ A4.out).mono ?_); rintro e w' ⟨rfl, ⟨nd, rfl⟩⟩) | (go_at_call 46; (with_reducible refine (spec_l1In.calls a0_2 1 500 false _ A9.out).mono ?_); rintro e w' ⟨rfl, ⟨nd, rfl⟩⟩))
     go_ret
     exact ⟨rr_, lb1_ HB.out GE111.out⟩
  ·
   replace c5 := Bool.eq_false_iff.mpr c5
   subst c5
   have H1 : (some false) = some r := by rw [if_neg (show ¬ (false = true) by decide)] at H; exact H
   clear H
   have H := H1
   clear H1
   obtain rfl := Option.some.inj H
   go_enter Tryd.func57, Tryd.ntmps57
   go_wp2_with (first | ((with_reducible refine gate_dst (N := 1) rfl ?_); refine box_event ?hg (N := 1) ?hd (cs := #[.int .i64 a0_0, .int .i64 a0_1, .int .i64 a0_2, .int .i64 a0_3, .int .i64 a0_4]) (t := 53) ?hr ?_; (case hd => rfl); (case hg => rfl); (case hr => first | (go_simp; done) | (go_simp; rfl)); intro gb111 hg w20 hbox hb; have BK111 := Aside0.mk (hbox); have GW111 := Aside0.mk ((bz_ hg (lb0_ HB.out))); have GE111 := Aside0.mk ((bz_ hg (lb0_ HB.out))); replace HB := Aside0.mk (below_step (lb0_ HB.out) hb); clear hb hbox hg; obtain ⟨hcz21_0, hcz21_1, hcz21_2, hcz21_3, hcz21_4⟩ := cz5_ BK111.out; obtain ⟨hfz21_0, hfz21_1, hfz21_2, hfz21_3, hfz21_4⟩ := fz5_ BK111.out) | ((with_reducible refine gate_callee (f := 45) rfl ?_); refine ga_ (some 5) Tryd.func45 #[.int .i64 a0_0] ?_; (with_reducible refine (spec_l4Station.calls a0_0 true _ A2.out).mono ?_); rintro e w' ⟨rfl, ⟨nd, rfl⟩⟩; refine ⟨_, rfl, ?_⟩) | (go_at_call 45; (with_reducible refine (spec_l4Station.calls a0_1 false _ A4.out).mono ?_); rintro e w' ⟨rfl, ⟨nd, rfl⟩⟩))
   go_ret
   exact ⟨rr_, lb1_ HB.out GE111.out⟩
 ·
  replace c3 := Bool.eq_false_iff.mpr c3
  subst c3
  have H1 : (some false) = some r := by rw [if_neg (show ¬ (false = true) by decide)] at H; exact H
  clear H
  have H := H1
  clear H1
  obtain rfl := Option.some.inj H
  go_enter Tryd.func57, Tryd.ntmps57
  go_wp2_with (first | ((with_reducible refine gate_dst (N := 1) rfl ?_); refine box_event ?hg (N := 1) ?hd (cs := #[.int .i64 a0_0, .int .i64 a0_1, .int .i64 a0_2, .int .i64 a0_3, .int .i64 a0_4]) (t := 53) ?hr ?_; (case hd => rfl); (case hg => rfl); (case hr => first | (go_simp; done) | (go_simp; rfl)); intro gb111 hg w22 hbox hb; have BK111 := Aside0.mk (hbox); have GW111 := Aside0.mk ((bz_ hg (lb0_ HB.out))); have GE111 := Aside0.mk ((bz_ hg (lb0_ HB.out))); replace HB := Aside0.mk (below_step (lb0_ HB.out) hb); clear hb hbox hg; obtain ⟨hcz23_0, hcz23_1, hcz23_2, hcz23_3, hcz23_4⟩ := cz5_ BK111.out; obtain ⟨hfz23_0, hfz23_1, hfz23_2, hfz23_3, hfz23_4⟩ := fz5_ BK111.out) | ((with_reducible refine gate_callee (f := 45) rfl ?_); refine ga_ (some 5) Tryd.func45 #[.int .i64 a0_0] ?_; (with_reducible refine (spec_l4Station.calls a0_0 false _ A2.out).mono ?_); rintro e w' ⟨rfl, ⟨nd, rfl⟩⟩; refine ⟨_, rfl, ?_⟩))
  go_ret
  exact ⟨rr_, lb1_ HB.out GE111.out⟩
def spec_l4Legs.l0 : Nat → List (S53) → Int → Option (Bool)
 | 0, _, _ => none
 | k + 1, x0, x3 => if x3 < (x0.length : Int) then (if 0 ≤ x3 then ((spec_l4Leg.f ((rd_T53 x0 x3).f0) ((rd_T53 x0 x3).f1) ((rd_T53 x0 x3).f2) ((rd_T53 x0 x3).f3) ((rd_T53 x0 x3).f4)).bind fun t118 => (if t118 = true then (spec_l4Legs.l0 k x0 (wrap64 (x3 + 1))) else (some false))) else (none)) else (some (decide ((x0.length : Int) ≤ 12)))
def spec_l4Legs.f (k : Nat) (l0 : List (S53)) : Option (Bool) := spec_l4Legs.l0 k l0 0
set_option maxHeartbeats 8000000 in
set_option maxRecDepth 100000 in
theorem spec_l4Legs.calls (k : Nat) (A0 : Option Addr) (c0 : Nat) (l0 : List (S53)) (r : Bool) (w : World) (hr0 : Kd.C k53 w A0 l0.length l0) (hc0 : l0.length ≤ c0) (h : spec_l4Legs.f k l0 = some r) :
  Calls Tryd.prog 44 #[.slice A0 l0.length c0] w fun e w' => e = .returned (.bool r) ∧ Below w.heap.size w w' := by
 have hu53 := Tryd.underlying53
 have HR0 := Aside0.mk hr0
 have HC0 := Aside0.mk hc0
 clear hr0 hc0
 have HB := Aside0.mk (Below.refl w.heap.size w)
 have H : (spec_l4Legs.l0 k l0 0) = some r := h
 clear h
 have H' := Aside0.mk H
 clear H
 go_enter Tryd.func44, Tryd.ntmps44
 go_wp2
 go_loopg [3] k (fun kq v3 w' => ∃ (x3_1 : Int), v3 = .int .i64 x3_1 ∧ Aside0 (spec_l4Legs.l0 kq l0 x3_1 = some r) ∧ Aside0 (kq ≤ k) ∧ Aside0 (Below w.heap.size w w'))
 case atStart => exact ⟨(0), (by first | rfl | (simp; done) | (simp [*]; done)), H', ⟨Nat.le_refl _⟩, ⟨lb0_ HB.out⟩⟩
 case round =>
  clear H'
  obtain ⟨x3_1, rfl, HA, HK1, HB⟩ := hrel
  cases gk with
  | zero => exact absurd HA.out (by simp [spec_l4Legs.l0])
  | succ k1 =>
   have H := HA.out
   clear HA
   simp only [spec_l4Legs.l0] at H
   by_cases c2 : x3_1 < (l0.length : Int)
   ·
    rw [if_pos c2] at H
    have c2b0 : decide (x3_1 < (l0.length : Int)) = true := decide_eq_true c2
    clear c2
    by_cases c3 : 0 ≤ x3_1
    ·
     rw [if_pos c3] at H
     have c3b0 : decide (0 ≤ x3_1) = true := decide_eq_true c3
     clear c3
     replace H := Option.bind_eq_some_iff.mp H
     obtain ⟨t118, A40, H⟩ := H
     replace H : (if t118 = true then (spec_l4Legs.l0 k1 l0 (wrap64 (x3_1 + 1))) else (some false)) = some r := H
     have A4 := Aside0.mk A40
     clear A40
     by_cases c5 : t118 = true
     ·
      subst c5
      have H1 : (spec_l4Legs.l0 k1 l0 (wrap64 (x3_1 + 1))) = some r := by rw [if_pos rfl] at H; exact H
      clear H
      have H := H1
      clear H1
      have H' := Aside0.mk H
      clear H
      have p117 : 0 ≤ (x3_1 : Int) := dt_
      have q117 : x3_1 < (l0.length : Int) := dt_
      obtain ⟨ad117, e117, hx117_0, hx117_1, hx117_2, hx117_3, hx117_4⟩ := at_T53 HR0.out x3_1 p117 q117
      cases e117
      replace hx117_0 := bc_ HB.out hx117_0
      replace hx117_1 := bc_ HB.out hx117_1
      replace hx117_2 := bc_ HB.out hx117_2
      replace hx117_3 := bc_ HB.out hx117_3
      replace hx117_4 := bc_ HB.out hx117_4
      replace p117 := eq_true p117
      replace q117 := eq_true q117
      go_wp2_with (first | ((with_reducible refine gate_callee (f := 57) rfl ?_); refine ga_ (some 14) Tryd.func57 #[.agg #[.int .i64 ((rd_T53 l0 x3_1).f0), .int .i64 ((rd_T53 l0 x3_1).f1), .int .i64 ((rd_T53 l0 x3_1).f2), .int .i64 ((rd_T53 l0 x3_1).f3), .int .i64 ((rd_T53 l0 x3_1).f4)]] ?_; (with_reducible refine (spec_l4Leg.calls ((rd_T53 l0 x3_1).f0) ((rd_T53 l0 x3_1).f1) ((rd_T53 l0 x3_1).f2) ((rd_T53 l0 x3_1).f3) ((rd_T53 l0 x3_1).f4) true _ A4.out).mono ?_); rintro e w6 ⟨rfl, hb⟩; refine ⟨_, rfl, ?_⟩; replace HB := Aside0.mk (below_step (lb0_ HB.out) hb); (try clear hb); (try clear hb2); (try clear hk); (try clear hi)))
      go_roundg k1
      case measure => have := HK1.out; omega
      case rel => exact ⟨(wrap64 (x3_1 + 1)), (by first | rfl | (simp; done) | (simp [*]; done)), H', ⟨by have := HK1.out; omega⟩, ⟨lb0_ HB.out⟩⟩
     ·
      replace c5 := Bool.eq_false_iff.mpr c5
      subst c5
      have H1 : (some false) = some r := by rw [if_neg (show ¬ (false = true) by decide)] at H; exact H
      clear H
      have H := H1
      clear H1
      obtain rfl := Option.some.inj H
      have p117 : 0 ≤ (x3_1 : Int) := dt_
      have q117 : x3_1 < (l0.length : Int) := dt_
      obtain ⟨ad117, e117, hx117_0, hx117_1, hx117_2, hx117_3, hx117_4⟩ := at_T53 HR0.out x3_1 p117 q117
      cases e117
      replace hx117_0 := bc_ HB.out hx117_0
      replace hx117_1 := bc_ HB.out hx117_1
      replace hx117_2 := bc_ HB.out hx117_2
      replace hx117_3 := bc_ HB.out hx117_3
      replace hx117_4 := bc_ HB.out hx117_4
      replace p117 := eq_true p117
      replace q117 := eq_true q117
      go_wp2_with (first | ((with_reducible refine gate_callee (f := 57) rfl ?_); refine ga_ (some 14) Tryd.func57 #[.agg #[.int .i64 ((rd_T53 l0 x3_1).f0), .int .i64 ((rd_T53 l0 x3_1).f1), .int .i64 ((rd_T53 l0 x3_1).f2), .int .i64 ((rd_T53 l0 x3_1).f3), .int .i64 ((rd_T53 l0 x3_1).f4)]] ?_; (with_reducible refine (spec_l4Leg.calls ((rd_T53 l0 x3_1).f0) ((rd_T53 l0 x3_1).f1) ((rd_T53 l0 x3_1).f2) ((rd_T53 l0 x3_1).f3) ((rd_T53 l0 x3_1).f4) false _ A4.out).mono ?_); rintro e w7 ⟨rfl, hb⟩; refine ⟨_, rfl, ?_⟩; replace HB := Aside0.mk (below_step (lb0_ HB.out) hb); (try clear hb); (try clear hb2); (try clear hk); (try clear hi)))
      go_ret
      exact ⟨rr_, lb0_ HB.out⟩
    ·
     rw [if_neg c3] at H
     exact absurd H (by simp)
   ·
    rw [if_neg c2] at H
    have c2b0 : decide (x3_1 < (l0.length : Int)) = false := decide_eq_false c2
    clear c2
    obtain rfl := Option.some.inj H
    go_wp2
    go_ret
    exact ⟨rr_, lb0_ HB.out⟩
mutual
def spec_l25Out.l0 : Nat → List (S53) → List Bool → Int → List Int → Int → Option (Int)
 | 0, _, _, _, _, _ => none
 | k + 1, x0, x1, x2, x7, x8 => if x8 < 8 then (if x7.length < 17592186044416 then (spec_l25Out.l0 k x0 x1 x2 (x7 ++ [(-1)]) (wrap64 (x8 + 1))) else (none)) else (if 0 < (x7.length : Int) then (spec_l25Out.l1 k x0 x1 x2 (x7.set (0 : Int).toNat 0) true) else (none))
def spec_l25Out.l1 : Nat → List (S53) → List Bool → Int → List Int → Bool → Option (Int)
 | 0, _, _, _, _, _ => none
 | k + 1, x0, x1, x2, x7, x9 => if x9 = true then (spec_l25Out.l2 k x0 x1 x2 x7 false 0) else (if 0 ≤ x2 then (if x2 < (x7.length : Int) then (some (rd x7 x2)) else (none)) else (none))
def spec_l25Out.l2 : Nat → List (S53) → List Bool → Int → List Int → Bool → Int → Option (Int)
 | 0, _, _, _, _, _, _ => none
 | k + 1, x0, x1, x2, x7, x9, x10 => if x10 < (x0.length : Int) then (if 0 ≤ x10 then (if 0 ≤ ((rd_T53 x0 x10).f0) then (if ((rd_T53 x0 x10).f0) < (x1.length : Int) then (if (rdOf false x1 ((rd_T53 x0 x10).f0) = true) then (if 0 ≤ ((rd_T53 x0 x10).f1) then (if ((rd_T53 x0 x10).f1) < (x1.length : Int) then (spec_l25Out.j3 k x0 x1 x2 x7 x9 x10 ((rd_T53 x0 x10).f0) ((rd_T53 x0 x10).f1) (!(rdOf false x1 ((rd_T53 x0 x10).f1)))) else (none)) else (none)) else (spec_l25Out.j3 k x0 x1 x2 x7 x9 x10 ((rd_T53 x0 x10).f0) ((rd_T53 x0 x10).f1) true)) else (none)) else (none)) else (none)) else (spec_l25Out.l1 k x0 x1 x2 x7 x9)
def spec_l25Out.j3 : Nat → List (S53) → List Bool → Int → List Int → Bool → Int → Int → Int → Bool → Option (Int)
 | 0, _, _, _, _, _, _, _, _, _ => none
 | k + 1, x0, x1, x2, x7, x9, x10, x11, x12, x53 => if x53 = true then (spec_l25Out.l2 k x0 x1 x2 x7 x9 (wrap64 (x10 + 1))) else (if 0 ≤ x11 then (if x11 < (x7.length : Int) then (if 0 ≤ x10 then (if x10 < (x0.length : Int) then (if (rd x7 x11) ≥ 0 then (if 0 ≤ x12 then (if x12 < (x7.length : Int) then (if (rd x7 x12) < 0 then (spec_l25Out.j4 k x0 x1 x2 x7 x9 x10 x11 x12 (wrap64 ((rd x7 x11) + ((rd_T53 x0 x10).f2))) true) else (spec_l25Out.j4 k x0 x1 x2 x7 x9 x10 x11 x12 (wrap64 ((rd x7 x11) + ((rd_T53 x0 x10).f2))) (decide ((wrap64 ((rd x7 x11) + ((rd_T53 x0 x10).f2))) < (rd x7 x12))))) else (none)) else (none)) else (spec_l25Out.j4 k x0 x1 x2 x7 x9 x10 x11 x12 (wrap64 ((rd x7 x11) + ((rd_T53 x0 x10).f2))) false)) else (none)) else (none)) else (none)) else (none))
def spec_l25Out.j4 : Nat → List (S53) → List Bool → Int → List Int → Bool → Int → Int → Int → Int → Bool → Option (Int)
 | 0, _, _, _, _, _, _, _, _, _, _ => none
 | k + 1, x0, x1, x2, x7, x9, x10, x11, x12, x13, x83 => if x83 = true then (if 0 ≤ x12 then (if x12 < (x7.length : Int) then ((some (x7.set (x12 : Int).toNat x13 : List Int)).bind fun y136 => (if 0 ≤ x10 then (if x10 < (x0.length : Int) then (if (rd y136 x12) ≥ 0 then (if 0 ≤ x11 then (if x11 < (x7.length : Int) then (if (rd y136 x11) < 0 then (spec_l25Out.l2 k x0 x1 x2 (y136.set (x11 : Int).toNat (wrap64 ((rd y136 x12) + ((rd_T53 x0 x10).f2)))) true (wrap64 (x10 + 1))) else (if (wrap64 ((rd y136 x12) + ((rd_T53 x0 x10).f2))) < (rd y136 x11) then (spec_l25Out.l2 k x0 x1 x2 (y136.set (x11 : Int).toNat (wrap64 ((rd y136 x12) + ((rd_T53 x0 x10).f2)))) true (wrap64 (x10 + 1))) else (spec_l25Out.l2 k x0 x1 x2 y136 true (wrap64 (x10 + 1))))) else (none)) else (none)) else (spec_l25Out.l2 k x0 x1 x2 y136 true (wrap64 (x10 + 1)))) else (none)) else (none))) else (none)) else (none)) else (if 0 ≤ x12 then (if x12 < (x7.length : Int) then (if 0 ≤ x10 then (if x10 < (x0.length : Int) then (if (rd x7 x12) ≥ 0 then (if 0 ≤ x11 then (if x11 < (x7.length : Int) then (if (rd x7 x11) < 0 then (spec_l25Out.l2 k x0 x1 x2 (x7.set (x11 : Int).toNat (wrap64 ((rd x7 x12) + ((rd_T53 x0 x10).f2)))) true (wrap64 (x10 + 1))) else (if (wrap64 ((rd x7 x12) + ((rd_T53 x0 x10).f2))) < (rd x7 x11) then (spec_l25Out.l2 k x0 x1 x2 (x7.set (x11 : Int).toNat (wrap64 ((rd x7 x12) + ((rd_T53 x0 x10).f2)))) true (wrap64 (x10 + 1))) else (spec_l25Out.l2 k x0 x1 x2 x7 x9 (wrap64 (x10 + 1))))) else (none)) else (none)) else (spec_l25Out.l2 k x0 x1 x2 x7 x9 (wrap64 (x10 + 1)))) else (none)) else (none)) else (none)) else (none))
end
def spec_l25Out.f (k : Nat) (l0 : List (S53)) (l1 : List Bool) (a2 : Int) : Option (Int) := spec_l25Out.l0 k l0 l1 a2 (([] : List Int)) 0
set_option maxHeartbeats 8000000 in
set_option maxRecDepth 100000 in
theorem spec_l25Out.calls (k : Nat) (A0 : Option Addr) (c0 : Nat) (l0 : List (S53)) (A1 : Option Addr) (c1 : Nat) (l1 : List Bool) (a2 : Int) (r : Int) (w : World) (hr0 : Kd.C k53 w A0 l0.length l0) (hc0 : l0.length ≤ c0) (hr1 : Kd.C Kd.bool w A1 l1.length l1) (hc1 : l1.length ≤ c1) (h : spec_l25Out.f k l0 l1 a2 = some r) :
  Calls Tryd.prog 47 #[.slice A0 l0.length c0, .slice A1 l1.length c1, .int .i64 a2] w fun e w' => e = .returned (.int .i64 r) ∧ Below w.heap.size w w' := by
 have HR0 := Aside0.mk hr0
 have HC0 := Aside0.mk hc0
 clear hr0 hc0
 have HR1 := Aside0.mk hr1
 have HC1 := Aside0.mk hc1
 clear hr1 hc1
 have HB := Aside0.mk (Below.refl w.heap.size w)
 have H : (spec_l25Out.l0 k l0 l1 a2 (([] : List Int)) 0) = some r := h
 clear h
 obtain ⟨y119, hy119⟩ : ∃ y_ : List Int, y_ = (([] : List Int)) := ⟨_, rfl⟩
 replace H : (spec_l25Out.l0 k l0 l1 a2 y119 0) = some r := by first | (rw [hy119]; with_reducible exact H) | (have H2_ := (Option.bind_some _ _).symm.trans H; rw [hy119]; with_reducible exact H2_) | (have H2_ := (Option.bind_some _ _).symm.trans H; with_reducible exact H2_) | with_reducible exact H | (rw [hy119]; exact H) | exact H
 have Ny119 := Aside0.mk hy119
 clear hy119
 have H' := Aside0.mk H
 clear H
 go_enter Tryd.func47, Tryd.ntmps47
 go_wp2_with (first | ((with_reducible refine gate_dst (N := 15) rfl ?_); refine Kd.R_lit (Kd.int .i64) _ 3 ?hg (N := 15) ?hd (xs := ([] : List Int)) (inner := []) (ok := fun _ => True) (okp := fun _ => True) ?hr ?hp (fun _ hk => hk) trivial (Below.refl _ _) (Nat.le_refl _) (by simp) ?_; (case hd => rfl); (case hg => rfl); (case hr => first | (go_simp; done) | (go_simp; rfl)); (case hp => exact (Reps.none _ _)); intro v120 w4 ho5 hb hg_ hnew_; clear hg_ hnew_; replace ho5 := ry_ Ny119.out ho5; have HO121 := Aside0.mk (Kd.R_lower ho5 (below_size (lb0_ HB.out))); replace HB := Aside0.mk (below_step (lb0_ HB.out) hb); clear hb ho5))
 repeat (go_quiet (first | ((with_reducible refine gate_dst (N := 15) rfl ?_); refine Kd.R_lit (Kd.int .i64) _ 3 ?hg (N := 15) ?hd (xs := ([] : List Int)) (inner := []) (ok := fun _ => True) (okp := fun _ => True) ?hr ?hp (fun _ hk => hk) trivial (Below.refl _ _) (Nat.le_refl _) (by simp) ?_; (case hd => rfl); (case hg => rfl); (case hr => first | (go_simp; done) | (go_simp; rfl)); (case hp => exact (Reps.none _ _)); intro v120 w4 ho5 hb hg_ hnew_; clear hg_ hnew_; replace ho5 := ry_ Ny119.out ho5; have HO121 := Aside0.mk (Kd.R_lower ho5 (below_size (lb0_ HB.out))); replace HB := Aside0.mk (below_step (lb0_ HB.out) hb); clear hb ho5)); try go_wp2_with (first | ((with_reducible refine gate_dst (N := 15) rfl ?_); refine Kd.R_lit (Kd.int .i64) _ 3 ?hg (N := 15) ?hd (xs := ([] : List Int)) (inner := []) (ok := fun _ => True) (okp := fun _ => True) ?hr ?hp (fun _ hk => hk) trivial (Below.refl _ _) (Nat.le_refl _) (by simp) ?_; (case hd => rfl); (case hg => rfl); (case hr => first | (go_simp; done) | (go_simp; rfl)); (case hp => exact (Reps.none _ _)); intro v120 w4 ho5 hb hg_ hnew_; clear hg_ hnew_; replace ho5 := ry_ Ny119.out ho5; have HO121 := Aside0.mk (Kd.R_lower ho5 (below_size (lb0_ HB.out))); replace HB := Aside0.mk (below_step (lb0_ HB.out) hb); clear hb ho5)))
 go_loopg [7, 8] k (fun kq v7 v8 w' => ∃ (x7_1 : List Int) (x8_1 : Int), v8 = .int .i64 x8_1 ∧ Aside0 (spec_l25Out.l0 kq l0 l1 a2 x7_1 x8_1 = some r) ∧ Aside0 (kq ≤ k) ∧ Aside0 (Kd.R (Kd.int .i64) 3 w' w.heap.size (fun _ => True) v7 x7_1) ∧ Aside0 (Below w.heap.size w w'))
 case atStart => exact ⟨(y119), (0), (by first | rfl | (simp; done) | (simp [*]; done)), H', ⟨Nat.le_refl _⟩, ⟨kr_ HO121.out⟩, ⟨lb0_ HB.out⟩⟩
 case round =>
  clear H'
  try clear c1
  try clear p2
  try clear c4
  obtain ⟨x7_1, x8_1, rfl, HA, HK1, HO_7, HB⟩ := hrel
  cases gk with
  | zero => exact absurd HA.out (by simp [spec_l25Out.l0])
  | succ k1 =>
   have H := HA.out
   clear HA
   simp only [spec_l25Out.l0] at H
   by_cases c6 : x8_1 < 8
   ·
    rw [if_pos c6] at H
    have c6b0 : decide (x8_1 < 8) = true := decide_eq_true c6
    clear c6
    by_cases c7 : x7_1.length < 17592186044416
    ·
     rw [if_pos c7] at H
     have LMc7 := Aside0.mk c7
     clear c7
     obtain ⟨y122, hy122⟩ : ∃ y_ : List Int, y_ = (x7_1 ++ [(-1)]) := ⟨_, rfl⟩
     replace H : (spec_l25Out.l0 k1 l0 l1 a2 y122 (wrap64 (x8_1 + 1))) = some r := by first | (rw [hy122]; with_reducible exact H) | (have H2_ := (Option.bind_some _ _).symm.trans H; rw [hy122]; with_reducible exact H2_) | (have H2_ := (Option.bind_some _ _).symm.trans H; with_reducible exact H2_) | with_reducible exact H | (rw [hy122]; exact H) | exact H
     have Ny122 := Aside0.mk hy122
     clear hy122
     have H' := Aside0.mk H
     clear H
     go_wp2_with (first | ((with_reducible refine gate_builtin (b := .append) (xs := #[.tmp 20, .tmp 21]) rfl ?_); at_builtin; refine Kd.R_append (Kd.int .i64) (w0 := w) w.heap.size rfl (.tmp 20) (.tmp 21) 86 3 (.int .i64 0) 8 rfl Tryd.underlying86 info3 rfl (by decide) (by omega) u7 x7_1 (-1) [.int .i64 (-1)] (fun _ => True) (fun _ => False) rfl rfl ?aP (fun _ hk => hk.elim) ?aF ?aO ?aB ?aS ?aL ?_; (case aP => exact rfl); (case aB => exact (lb0_ HB.out)); (case aF => exact (fun _ _ => trivial)); (case aO => exact (kr_ HO_7.out)); (case aS => exact (below_size (lb0_ HB.out))); (case aL => have := LMc7.out; omega); intro v123 w8 ho hb hg hat; rw [← Ny122.out] at ho; replace HB := Aside0.mk (hb); have HO124 := Aside0.mk (ho); clear HO_7; clear ho hb hg hat))
     repeat (go_quiet (first | ((with_reducible refine gate_builtin (b := .append) (xs := #[.tmp 20, .tmp 21]) rfl ?_); at_builtin; refine Kd.R_append (Kd.int .i64) (w0 := w) w.heap.size rfl (.tmp 20) (.tmp 21) 86 3 (.int .i64 0) 8 rfl Tryd.underlying86 info3 rfl (by decide) (by omega) u7 x7_1 (-1) [.int .i64 (-1)] (fun _ => True) (fun _ => False) rfl rfl ?aP (fun _ hk => hk.elim) ?aF ?aO ?aB ?aS ?aL ?_; (case aP => exact rfl); (case aB => exact (lb0_ HB.out)); (case aF => exact (fun _ _ => trivial)); (case aO => exact (kr_ HO_7.out)); (case aS => exact (below_size (lb0_ HB.out))); (case aL => have := LMc7.out; omega); intro v123 w8 ho hb hg hat; rw [← Ny122.out] at ho; replace HB := Aside0.mk (hb); have HO124 := Aside0.mk (ho); clear HO_7; clear ho hb hg hat)); try go_wp2_with (first | ((with_reducible refine gate_builtin (b := .append) (xs := #[.tmp 20, .tmp 21]) rfl ?_); at_builtin; refine Kd.R_append (Kd.int .i64) (w0 := w) w.heap.size rfl (.tmp 20) (.tmp 21) 86 3 (.int .i64 0) 8 rfl Tryd.underlying86 info3 rfl (by decide) (by omega) u7 x7_1 (-1) [.int .i64 (-1)] (fun _ => True) (fun _ => False) rfl rfl ?aP (fun _ hk => hk.elim) ?aF ?aO ?aB ?aS ?aL ?_; (case aP => exact rfl); (case aB => exact (lb0_ HB.out)); (case aF => exact (fun _ _ => trivial)); (case aO => exact (kr_ HO_7.out)); (case aS => exact (below_size (lb0_ HB.out))); (case aL => have := LMc7.out; omega); intro v123 w8 ho hb hg hat; rw [← Ny122.out] at ho; replace HB := Aside0.mk (hb); have HO124 := Aside0.mk (ho); clear HO_7; clear ho hb hg hat)))
     go_roundg k1
     case measure => have := HK1.out; omega
     case rel => exact ⟨(y122), (wrap64 (x8_1 + 1)), (by first | rfl | (simp; done) | (simp [*]; done)), H', ⟨by have := HK1.out; omega⟩, ⟨kr_ HO124.out⟩, ⟨lb0_ HB.out⟩⟩
    ·
     rw [if_neg c7] at H
     exact absurd H (by simp)
   ·
    rw [if_neg c6] at H
    have c6b0 : decide (x8_1 < 8) = false := decide_eq_false c6
    clear c6
    by_cases c9 : 0 < (x7_1.length : Int)
    ·
     rw [if_pos c9] at H
     have c9b0 : decide (0 < (x7_1.length : Int)) = true := decide_eq_true c9
     have c9b1 : decide (0 < x7_1.length) = true := decide_eq_true (by omega)
     clear c9
     obtain ⟨y125, hy125⟩ : ∃ y_ : List Int, y_ = (x7_1.set (0 : Int).toNat 0) := ⟨_, rfl⟩
     replace H : (spec_l25Out.l1 k1 l0 l1 a2 y125 true) = some r := by first | (rw [hy125]; with_reducible exact H) | (have H2_ := (Option.bind_some _ _).symm.trans H; rw [hy125]; with_reducible exact H2_) | (have H2_ := (Option.bind_some _ _).symm.trans H; with_reducible exact H2_) | with_reducible exact H | (rw [hy125]; exact H) | exact H
     have Ny125 := Aside0.mk hy125
     clear hy125
     have H' := Aside0.mk H
     clear H
     have p10 : 0 ≤ (0 : Int) := (by omega)
     have q10 : (0 : Int) < ((x7_1.length : Int) : Int) := dt_
     have qi10 : (0 < x7_1.length) = True := eq_true (by omega)
     obtain ⟨go10, co10, eo10, gb10, gl10, cl10, HG10⟩ := Kd.R_form HO_7.out (by omega)
     (first | cases eo10 | (injection eo10 with ea_ en_ ec_; (first | subst ea_ | (injection ea_ with ea_; subst ea_)); subst ec_; clear en_))
     have GB10 := Aside0.mk gb10
     have GG10 := Aside0.mk HG10
     clear gb10 gl10 HG10
     obtain ⟨hx10_0, hf10_0⟩ := Kd.R_celln 0 HO_7.out (0 : Int) p10 q10
     (try rw [show ((0 : Int)).toNat = 0 from rfl] at hx10_0)
     (try simp only [Nat.reduceMul, Nat.zero_mul, Nat.zero_add, Nat.reduceAdd] at hx10_0)
     (try rw [show ((0 : Int)).toNat = 0 from rfl] at hf10_0)
     (try simp only [Nat.reduceMul, Nat.zero_mul, Nat.zero_add, Nat.reduceAdd] at hf10_0)
     replace p10 := eq_true p10
     replace q10 := eq_true q10
     have HP11 := Kd.R_putg HO_7.out (0 : Int) 0
     go_wp2_with (first | ((with_reducible refine gate_store (t := 3) (p := 24) rfl ?_); (try (rw [drewN_self wr]; generalize hq_ : World.drewN wr _ = wr; replace HO_7 := Aside0.mk (Kd.R_at hq_ HO_7.out); replace HB := Aside0.mk (below_at hq_ HB.out); clear hq_; (try (have HP11 := Kd.R_putg HO_7.out (0 : Int) 0)))); refine store_event (t := 3) (p := 24) (v := ?vo_w12) (w1 := (wr.setCell ⟨go10, (0 : Int).toNat, none⟩ (.int .i64 0))) ?hg ?ho ?hn ?hr ?_; (case ho => rfl); (case hg => rfl); (case hn => rfl); (case hr => first | (go_simp; done) | (go_simp; rfl)); intro w12 hw; have hg : wr.grownBy w12 (some go10) := (by rw [hw]; exact HP11.2); have hp_ : Kd.R (Kd.int .i64) 3 w12 w.heap.size (fun _ => True) (.slice (some ⟨go10, 0, none⟩) x7_1.length co10) y125 := (by rw [hw, Ny125.out]; exact HP11.1); clear HP11; replace HO_7 := Aside0.mk (hp_); replace HB := Aside0.mk ((by rw [hw]; exact below_set (HB.out) GB10.out : Below w.heap.size w w12)); clear hg hw hp_))
     repeat (go_quiet (first | ((with_reducible refine gate_store (t := 3) (p := 24) rfl ?_); (try (rw [drewN_self wr]; generalize hq_ : World.drewN wr _ = wr; replace HO_7 := Aside0.mk (Kd.R_at hq_ HO_7.out); replace HB := Aside0.mk (below_at hq_ HB.out); clear hq_; (try (have HP11 := Kd.R_putg HO_7.out (0 : Int) 0)))); refine store_event (t := 3) (p := 24) (v := ?vo_w12) (w1 := (wr.setCell ⟨go10, (0 : Int).toNat, none⟩ (.int .i64 0))) ?hg ?ho ?hn ?hr ?_; (case ho => rfl); (case hg => rfl); (case hn => rfl); (case hr => first | (go_simp; done) | (go_simp; rfl)); intro w12 hw; have hg : wr.grownBy w12 (some go10) := (by rw [hw]; exact HP11.2); have hp_ : Kd.R (Kd.int .i64) 3 w12 w.heap.size (fun _ => True) (.slice (some ⟨go10, 0, none⟩) x7_1.length co10) y125 := (by rw [hw, Ny125.out]; exact HP11.1); clear HP11; replace HO_7 := Aside0.mk (hp_); replace HB := Aside0.mk ((by rw [hw]; exact below_set (HB.out) GB10.out : Below w.heap.size w w12)); clear hg hw hp_)); try go_wp2_with (first | ((with_reducible refine gate_store (t := 3) (p := 24) rfl ?_); (try (rw [drewN_self wr]; generalize hq_ : World.drewN wr _ = wr; replace HO_7 := Aside0.mk (Kd.R_at hq_ HO_7.out); replace HB := Aside0.mk (below_at hq_ HB.out); clear hq_; (try (have HP11 := Kd.R_putg HO_7.out (0 : Int) 0)))); refine store_event (t := 3) (p := 24) (v := ?vo_w12) (w1 := (wr.setCell ⟨go10, (0 : Int).toNat, none⟩ (.int .i64 0))) ?hg ?ho ?hn ?hr ?_; (case ho => rfl); (case hg => rfl); (case hn => rfl); (case hr => first | (go_simp; done) | (go_simp; rfl)); intro w12 hw; have hg : wr.grownBy w12 (some go10) := (by rw [hw]; exact HP11.2); have hp_ : Kd.R (Kd.int .i64) 3 w12 w.heap.size (fun _ => True) (.slice (some ⟨go10, 0, none⟩) x7_1.length co10) y125 := (by rw [hw, Ny125.out]; exact HP11.1); clear HP11; replace HO_7 := Aside0.mk (hp_); replace HB := Aside0.mk ((by rw [hw]; exact below_set (HB.out) GB10.out : Below w.heap.size w w12)); clear hg hw hp_)))
     go_loopg [9] k1 (fun kq v9 w' => ∃ (x7_2 : List Int) (x9_2 : Bool), v9 = .bool x9_2 ∧ Aside0 (spec_l25Out.l1 kq l0 l1 a2 x7_2 x9_2 = some r) ∧ Aside0 (kq ≤ k1) ∧ Aside0 (Kd.R (Kd.int .i64) 3 w' w.heap.size (fun _ => True) (.slice (some ⟨go10, 0, none⟩) x7_1.length co10) x7_2) ∧ Aside0 (Below w.heap.size w w'))
     case atStart => exact ⟨(y125), (true), (by first | rfl | (simp; done) | (simp [*]; done)), H', ⟨Nat.le_refl _⟩, ⟨kr_ HO_7.out⟩, ⟨lb0_ HB.out⟩⟩
     case round =>
      clear H'
      try clear c1
      try clear p1
      try clear q1
      try clear hx1
      try clear qi1
      try clear p2
      try clear c4
      try clear c6
      try clear c6b0
      try clear p6
      try clear c7
      try clear c9
      try clear c9b0
      try clear c9b1
      try clear p10
      try clear q10
      try clear hx10
      try clear qi10
      try clear hf10
      try clear hx10_0
      try clear p10
      try clear p2
      try clear q10
      obtain ⟨x7_2, x9_2, rfl, HA, HK2, HO_7, HB⟩ := hrel
      have hl7_2 := (Kd.R_reads' HO_7.out).1
      rw [hl7_2] at HO_7
      (try simp only [hl7_2])
      cases gk with
      | zero => exact absurd HA.out (by simp [spec_l25Out.l1])
      | succ k2 =>
       have H := HA.out
       clear HA
       simp only [spec_l25Out.l1] at H
       by_cases c13 : x9_2 = true
       ·
        subst c13
        have H1 : (spec_l25Out.l2 k2 l0 l1 a2 x7_2 false 0) = some r := by rw [if_pos rfl] at H; exact H
        clear H; have H := H1; clear H1; have H' := Aside0.mk H; clear H
        go_wp2
        repeat (go_quiet (fail); try go_wp2)
        go_loopg [9, 10] k2 (fun kq v9 v10 w' => ∃ (x7_3 : List Int) (x9_3 : Bool) (x10_3 : Int), v9 = .bool x9_3 ∧ v10 = .int .i64 x10_3 ∧ Aside0 (spec_l25Out.l2 kq l0 l1 a2 x7_3 x9_3 x10_3 = some r) ∧ Aside0 (kq ≤ k2) ∧ Aside0 (Kd.R (Kd.int .i64) 3 w' w.heap.size (fun _ => True) (.slice (some ⟨go10, 0, none⟩) x7_2.length co10) x7_3) ∧ Aside0 (Below w.heap.size w w'))
        case atStart => exact ⟨(x7_2), (false), (0), (by first | rfl | (simp; done) | (simp [*]; done)), (by first | rfl | (simp; done) | (simp [*]; done)), H', ⟨Nat.le_refl _⟩, ⟨by (try simp only [hl7_2]); (with_reducible repeat (first | apply Kd.R_alloc | apply Kd.R_drewN | apply Kd.R_drew)); exact HO_7.out⟩, ⟨lb0_ HB.out⟩⟩
        case round =>
         clear H'
         try clear c1
         try clear p1
         try clear q1
         try clear hx1
         try clear qi1
         try clear p2
         try clear c4
         try clear c6
         try clear c6b0
         try clear p6
         try clear c7
         try clear c9
         try clear c9b0
         try clear c9b1
         try clear p10
         try clear q10
         try clear hx10
         try clear qi10
         try clear hf10
         try clear c13
         try clear hx10_0
         try clear p1
         try clear p10
         try clear p2
         try clear p6
         try clear q1
         try clear q10
         obtain ⟨x7_3, x9_3, x10_3, rfl, rfl, HA, HK3, HO_7, HB⟩ := hrel; have hl7_3 := (Kd.R_reads' HO_7.out).1
         rw [hl7_3] at HO_7
         (try simp only [hl7_3])
         cases gk with
         | zero => exact absurd HA.out (by simp [spec_l25Out.l2])
         | succ k3 =>
          have H := HA.out; clear HA; simp only [spec_l25Out.l2] at H
          by_cases c14 : x10_3 < (l0.length : Int)
          ·
           rw [if_pos c14] at H
           have c14b0 : decide (x10_3 < (l0.length : Int)) = true := decide_eq_true c14; clear c14
           by_cases c15 : 0 ≤ x10_3
           ·
            rw [if_pos c15] at H
            have c15b0 : decide (0 ≤ x10_3) = true := decide_eq_true c15; clear c15; have HC16 := Aside0.mk H; clear H; have p127 : 0 ≤ (x10_3 : Int) := dt_; have q127 : x10_3 < (l0.length : Int) := dt_; obtain ⟨ad127, e127, hx127_0, hx127_1, hx127_2, hx127_3, hx127_4⟩ := at_T53 HR0.out x10_3 p127 q127
            cases e127
            replace hx127_0 := bc_ HB.out hx127_0; replace hx127_1 := bc_ HB.out hx127_1; replace hx127_2 := bc_ HB.out hx127_2; replace hx127_3 := bc_ HB.out hx127_3; replace hx127_4 := bc_ HB.out hx127_4; replace p127 := eq_true p127; replace q127 := eq_true q127; have p128 : 0 ≤ (x10_3 : Int) := dt_; have q128 : x10_3 < (l0.length : Int) := dt_; obtain ⟨ad128, e128, hx128_0, hx128_1, hx128_2, hx128_3, hx128_4⟩ := at_T53 HR0.out x10_3 p128 q128
            obtain rfl : ad127 = ad128 := (by injection e128)
            replace hx128_0 := bc_ HB.out hx128_0; replace hx128_1 := bc_ HB.out hx128_1; replace hx128_2 := bc_ HB.out hx128_2; replace hx128_3 := bc_ HB.out hx128_3; replace hx128_4 := bc_ HB.out hx128_4; replace p128 := eq_true p128; replace q128 := eq_true q128
            go_upto_region 14 with (fail)
            repeat (go_quiet (fail); go_upto_region 14 with (fail))
            go_cut [53] (fun v53 wc => ∃ (kq : Nat) (x53_15 : Bool), v53 = .bool x53_15 ∧ Aside0 (spec_l25Out.j3 kq l0 l1 a2 x7_3 x9_3 x10_3 ((rd_T53 l0 x10_3).f0) ((rd_T53 l0 x10_3).f1) x53_15 = some r) ∧ Aside0 (kq ≤ k3) ∧ Aside0 (Kd.R (Kd.int .i64) 3 wc w.heap.size (fun _ => True) (.slice (some ⟨go10, 0, none⟩) x7_3.length co10) x7_3) ∧ Aside0 (Below w.heap.size w wc))
            case first =>
             have H := HC16.out; clear HC16
             by_cases c17 : 0 ≤ ((rd_T53 l0 x10_3).f0)
             ·
              rw [if_pos c17] at H
              have c17b0 : decide (0 ≤ ((rd_T53 l0 x10_3).f0)) = true := decide_eq_true c17; clear c17
              (first | rw [c17b0] | (simp only [i64_w, i32_w]; rw [c17b0]) | skip)
              by_cases c18 : ((rd_T53 l0 x10_3).f0) < (l1.length : Int)
              ·
               rw [if_pos c18] at H
               have c18b0 : decide (((rd_T53 l0 x10_3).f0) < (l1.length : Int)) = true := decide_eq_true c18; clear c18
               obtain ⟨bq19, hbq19⟩ : ∃ b_ : Bool, b_ = (rdOf false l1 ((rd_T53 l0 x10_3).f0)) := ⟨_, rfl⟩
               replace H : (if (bq19 = true) then (if 0 ≤ ((rd_T53 l0 x10_3).f1) then (if ((rd_T53 l0 x10_3).f1) < (l1.length : Int) then (spec_l25Out.j3 k3 l0 l1 a2 x7_3 x9_3 x10_3 ((rd_T53 l0 x10_3).f0) ((rd_T53 l0 x10_3).f1) (!(rdOf false l1 ((rd_T53 l0 x10_3).f1)))) else (none)) else (none)) else (spec_l25Out.j3 k3 l0 l1 a2 x7_3 x9_3 x10_3 ((rd_T53 l0 x10_3).f0) ((rd_T53 l0 x10_3).f1) true)) = some r := by rw [← hbq19] at H; exact H
               have Nbq19 := Aside0.mk hbq19; clear hbq19
               by_cases c20 : (bq19 = true)
               ·
                subst c20
                have H1 : (if 0 ≤ ((rd_T53 l0 x10_3).f1) then (if ((rd_T53 l0 x10_3).f1) < (l1.length : Int) then (spec_l25Out.j3 k3 l0 l1 a2 x7_3 x9_3 x10_3 ((rd_T53 l0 x10_3).f0) ((rd_T53 l0 x10_3).f1) (!(rdOf false l1 ((rd_T53 l0 x10_3).f1)))) else (none)) else (none)) = some r := by rw [if_pos rfl] at H; exact H
                clear H; have H := H1; clear H1
                by_cases c21 : 0 ≤ ((rd_T53 l0 x10_3).f1)
                ·
                 rw [if_pos c21] at H
                 have c21b0 : decide (0 ≤ ((rd_T53 l0 x10_3).f1)) = true := decide_eq_true c21; clear c21
                 by_cases c22 : ((rd_T53 l0 x10_3).f1) < (l1.length : Int)
                 ·
                  rw [if_pos c22] at H
                  have c22b0 : decide (((rd_T53 l0 x10_3).f1) < (l1.length : Int)) = true := decide_eq_true c22; clear c22; have H' := Aside0.mk H; clear H; have p129 : 0 ≤ (((rd_T53 l0 x10_3).f0) : Int) := dt_; have q129 : ((rd_T53 l0 x10_3).f0) < (l1.length : Int) := dt_; obtain ⟨ad129, e129, hx129_0⟩ := Kd.at_bool HR1.out ((rd_T53 l0 x10_3).f0) p129 q129; (try rw [← Nbq19.out] at hx129_0)
                  cases e129
                  replace hx129_0 := bc_ HB.out hx129_0; replace p129 := eq_true p129; replace q129 := eq_true q129; have p130 : 0 ≤ (((rd_T53 l0 x10_3).f1) : Int) := dt_; have q130 : ((rd_T53 l0 x10_3).f1) < (l1.length : Int) := dt_; obtain ⟨ad130, e130, hx130_0⟩ := Kd.at_bool HR1.out ((rd_T53 l0 x10_3).f1) p130 q130; (try rw [← Nbq19.out] at hx130_0)
                  obtain rfl : ad129 = ad130 := (by injection e130)
                  replace hx130_0 := bc_ HB.out hx130_0; replace p130 := eq_true p130; replace q130 := eq_true q130
                  go_wp2
                  repeat (go_quiet (fail); try go_wp2)
                  go_meet
                  case rel => exact ⟨_, (!(rdOf false l1 ((rd_T53 l0 x10_3).f1))), (by first | rfl | (simp; done) | (simp [*]; done)), H', ⟨by have := HK1.out; have := HK2.out; have := HK3.out; first | omega | exact Nat.le_refl _⟩, ⟨by (try simp only [hl7_2]); (try simp only [hl7_3]); (with_reducible repeat (first | apply Kd.R_alloc | apply Kd.R_drewN | apply Kd.R_drew)); exact HO_7.out⟩, ⟨lb0_ HB.out⟩⟩
                 ·
                  rw [if_neg c22] at H
                  exact absurd H (by simp)
                ·
                 rw [if_neg c21] at H
                 exact absurd H (by simp)
               ·
                replace c20 := Bool.eq_false_iff.mpr c20; subst c20
                have H1 : (spec_l25Out.j3 k3 l0 l1 a2 x7_3 x9_3 x10_3 ((rd_T53 l0 x10_3).f0) ((rd_T53 l0 x10_3).f1) true) = some r := by rw [if_neg (show ¬ (false = true) by decide)] at H; exact H
                clear H; have H := H1; clear H1; have H' := Aside0.mk H; clear H; have p129 : 0 ≤ (((rd_T53 l0 x10_3).f0) : Int) := dt_; have q129 : ((rd_T53 l0 x10_3).f0) < (l1.length : Int) := dt_; obtain ⟨ad129, e129, hx129_0⟩ := Kd.at_bool HR1.out ((rd_T53 l0 x10_3).f0) p129 q129; (try rw [← Nbq19.out] at hx129_0)
                cases e129
                replace hx129_0 := bc_ HB.out hx129_0; replace p129 := eq_true p129; replace q129 := eq_true q129
                go_wp2
                repeat (go_quiet (fail); try go_wp2)
                go_meet
                case rel => exact ⟨_, (true), (by first | rfl | (simp; done) | (simp [*]; done)), H', ⟨by have := HK1.out; have := HK2.out; have := HK3.out; first | omega | exact Nat.le_refl _⟩, ⟨by (try simp only [hl7_2]); (try simp only [hl7_3]); (with_reducible repeat (first | apply Kd.R_alloc | apply Kd.R_drewN | apply Kd.R_drew)); exact HO_7.out⟩, ⟨lb0_ HB.out⟩⟩
              ·
               rw [if_neg c18] at H
               exact absurd H (by simp)
             ·
              rw [if_neg c17] at H
              exact absurd H (by simp)
            case rest =>
             clear HC16
             try clear c1
             try clear p1
             try clear q1
             try clear hx1
             try clear qi1
             try clear c2
             try clear p2
             try clear c4
             try clear c6
             try clear c6b0
             try clear p6
             try clear c7
             try clear c9
             try clear c9b0
             try clear c9b1
             try clear p10
             try clear q10
             try clear hx10
             try clear qi10
             try clear hf10
             try clear p12
             try clear q12
             try clear hx12
             try clear c13
             try clear p13
             try clear q13
             try clear hx13
             try clear c14
             try clear c14b0
             try clear c15
             try clear c15b0
             try clear c17
             try clear c17b0
             try clear c18
             try clear c18b0
             try clear q19
             try clear c20
             try clear c21
             try clear c21b0
             try clear c22
             try clear c22b0
             try clear hx10_0
             try clear hx127_0
             try clear hx127_1
             try clear hx127_2
             try clear hx127_3
             try clear hx127_4
             try clear hx128_0
             try clear hx128_1
             try clear hx128_2
             try clear hx128_3
             try clear hx128_4
             try clear hx129_0
             try clear hx130_0
             try clear p1
             try clear p10
             try clear p127
             try clear p128
             try clear p129
             try clear p130
             try clear p2
             try clear p6
             try clear q1
             try clear q10
             try clear q127
             try clear q128
             try clear q129
             try clear q130
             obtain ⟨kq, x53_15, rfl, HA, HJ15, HO_7, HB⟩ := hcut
             cases kq with
             | zero => exact absurd HA.out (by simp [spec_l25Out.j3])
             | succ kj15 =>
              have H := HA.out; clear HA; simp only [spec_l25Out.j3] at H
              by_cases c23 : x53_15 = true
              ·
               subst c23
               have H1 : (spec_l25Out.l2 kj15 l0 l1 a2 x7_3 x9_3 (wrap64 (x10_3 + 1))) = some r := by rw [if_pos rfl] at H; exact H
               clear H; have H := H1; clear H1; have H' := Aside0.mk H; clear H
               go_wp2
               repeat (go_quiet (fail); try go_wp2)
               (try simp only [← hl7_3])
               go_roundg kj15
               case measure => have := HK1.out; have := HK2.out; have := HK3.out; have := HJ15.out; omega
               case rel => exact ⟨(x7_3), (x9_3), (wrap64 (x10_3 + 1)), (by first | rfl | (simp; done) | (simp [*]; done)), (by first | rfl | (simp; done) | (simp [*]; done)), H', ⟨by have := HK1.out; have := HK2.out; have := HK3.out; have := HJ15.out; omega⟩, ⟨by (try simp only [hl7_2]); (try simp only [hl7_3]); (with_reducible repeat (first | apply Kd.R_alloc | apply Kd.R_drewN | apply Kd.R_drew)); exact HO_7.out⟩, ⟨lb0_ HB.out⟩⟩
              ·
               replace c23 := Bool.eq_false_iff.mpr c23; subst c23
               have H1 : (if 0 ≤ ((rd_T53 l0 x10_3).f0) then (if ((rd_T53 l0 x10_3).f0) < (x7_3.length : Int) then (if 0 ≤ x10_3 then (if x10_3 < (l0.length : Int) then (if (rd x7_3 ((rd_T53 l0 x10_3).f0)) ≥ 0 then (if 0 ≤ ((rd_T53 l0 x10_3).f1) then (if ((rd_T53 l0 x10_3).f1) < (x7_3.length : Int) then (if (rd x7_3 ((rd_T53 l0 x10_3).f1)) < 0 then (spec_l25Out.j4 kj15 l0 l1 a2 x7_3 x9_3 x10_3 ((rd_T53 l0 x10_3).f0) ((rd_T53 l0 x10_3).f1) (wrap64 ((rd x7_3 ((rd_T53 l0 x10_3).f0)) + ((rd_T53 l0 x10_3).f2))) true) else (spec_l25Out.j4 kj15 l0 l1 a2 x7_3 x9_3 x10_3 ((rd_T53 l0 x10_3).f0) ((rd_T53 l0 x10_3).f1) (wrap64 ((rd x7_3 ((rd_T53 l0 x10_3).f0)) + ((rd_T53 l0 x10_3).f2))) (decide ((wrap64 ((rd x7_3 ((rd_T53 l0 x10_3).f0)) + ((rd_T53 l0 x10_3).f2))) < (rd x7_3 ((rd_T53 l0 x10_3).f1)))))) else (none)) else (none)) else (spec_l25Out.j4 kj15 l0 l1 a2 x7_3 x9_3 x10_3 ((rd_T53 l0 x10_3).f0) ((rd_T53 l0 x10_3).f1) (wrap64 ((rd x7_3 ((rd_T53 l0 x10_3).f0)) + ((rd_T53 l0 x10_3).f2))) false)) else (none)) else (none)) else (none)) else (none)) = some r := by rw [if_neg (show ¬ (false = true) by decide)] at H; exact H
               clear H; have H := H1; clear H1
               by_cases c24 : 0 ≤ ((rd_T53 l0 x10_3).f0)
               ·
                rw [if_pos c24] at H
                have c24b0 : decide (0 ≤ ((rd_T53 l0 x10_3).f0)) = true := decide_eq_true c24; clear c24
                by_cases c25 : ((rd_T53 l0 x10_3).f0) < (x7_3.length : Int)
                ·
                 rw [if_pos c25] at H
                 have c25b0 : decide (((rd_T53 l0 x10_3).f0) < (x7_3.length : Int)) = true := decide_eq_true c25; clear c25
                 by_cases c26 : 0 ≤ x10_3
                 ·
                  rw [if_pos c26] at H
                  have c26b0 : decide (0 ≤ x10_3) = true := decide_eq_true c26; clear c26
                  by_cases c27 : x10_3 < (l0.length : Int)
                  ·
                   rw [if_pos c27] at H
                   have c27b0 : decide (x10_3 < (l0.length : Int)) = true := decide_eq_true c27; clear c27; have HC28 := Aside0.mk H; clear H; have p131 : 0 ≤ (((rd_T53 l0 x10_3).f0) : Int) := dt_; have q131 : ((rd_T53 l0 x10_3).f0) < (x7_3.length : Int) := dt_; obtain ⟨ad131, e131, hx131_0⟩ := Kd.at_int (Kd.R_reads' HO_7.out).2.2 ((rd_T53 l0 x10_3).f0) p131 q131
                   obtain rfl : (⟨go10, 0, none⟩ : Addr) = ad131 := (by injection e131)
                   (first | simp only [add_plain] at hx131_0 | simp only [add_at] at hx131_0 | simp only [Addr.add, Nat.zero_add] at hx131_0 | skip)
                   replace p131 := eq_true p131; replace q131 := eq_true q131; have p132 : 0 ≤ (x10_3 : Int) := dt_; have q132 : x10_3 < (l0.length : Int) := dt_; obtain ⟨ad132, e132, hx132_0, hx132_1, hx132_2, hx132_3, hx132_4⟩ := at_T53 HR0.out x10_3 p132 q132
                   obtain rfl : ad127 = ad132 := (by injection e132)
                   replace hx132_0 := bc_ HB.out hx132_0; replace hx132_1 := bc_ HB.out hx132_1; replace hx132_2 := bc_ HB.out hx132_2; replace hx132_3 := bc_ HB.out hx132_3; replace hx132_4 := bc_ HB.out hx132_4; replace p132 := eq_true p132; replace q132 := eq_true q132
                   go_upto_region 16 with (fail)
                   repeat (go_quiet (fail); go_upto_region 16 with (fail))
                   go_cut [83] (fun v83 wc => ∃ (kq : Nat) (x83_27 : Bool), v83 = .bool x83_27 ∧ Aside0 (spec_l25Out.j4 kq l0 l1 a2 x7_3 x9_3 x10_3 ((rd_T53 l0 x10_3).f0) ((rd_T53 l0 x10_3).f1) (wrap64 ((rd x7_3 ((rd_T53 l0 x10_3).f0)) + ((rd_T53 l0 x10_3).f2))) x83_27 = some r) ∧ Aside0 (kq ≤ kj15) ∧ Aside0 (Kd.R (Kd.int .i64) 3 wc w.heap.size (fun _ => True) (.slice (some ⟨go10, 0, none⟩) x7_3.length co10) x7_3) ∧ Aside0 (Below w.heap.size w wc))
                   case first =>
                    have H := HC28.out; clear HC28
                    by_cases c29 : (rd x7_3 ((rd_T53 l0 x10_3).f0)) ≥ 0
                    ·
                     rw [if_pos c29] at H
                     have c29b0 : decide (0 ≤ (rd x7_3 ((rd_T53 l0 x10_3).f0))) = true := decide_eq_true c29; clear c29
                     (first | rw [c29b0] | (simp only [i64_w, i32_w]; rw [c29b0]) | skip)
                     by_cases c30 : 0 ≤ ((rd_T53 l0 x10_3).f1)
                     ·
                      rw [if_pos c30] at H
                      have c30b0 : decide (0 ≤ ((rd_T53 l0 x10_3).f1)) = true := decide_eq_true c30; clear c30
                      by_cases c31 : ((rd_T53 l0 x10_3).f1) < (x7_3.length : Int)
                      ·
                       rw [if_pos c31] at H
                       have c31b0 : decide (((rd_T53 l0 x10_3).f1) < (x7_3.length : Int)) = true := decide_eq_true c31; clear c31
                       by_cases c32 : (rd x7_3 ((rd_T53 l0 x10_3).f1)) < 0
                       ·
                        rw [if_pos c32] at H
                        have c32b0 : decide ((rd x7_3 ((rd_T53 l0 x10_3).f1)) < 0) = true := decide_eq_true c32; clear c32; have H' := Aside0.mk H; clear H; have p133 : 0 ≤ (((rd_T53 l0 x10_3).f0) : Int) := dt_; have q133 : ((rd_T53 l0 x10_3).f0) < (x7_3.length : Int) := dt_; obtain ⟨ad133, e133, hx133_0⟩ := Kd.at_int (Kd.R_reads' HO_7.out).2.2 ((rd_T53 l0 x10_3).f0) p133 q133
                        obtain rfl : (⟨go10, 0, none⟩ : Addr) = ad133 := (by injection e133)
                        (first | simp only [add_plain] at hx133_0 | simp only [add_at] at hx133_0 | simp only [Addr.add, Nat.zero_add] at hx133_0 | skip)
                        replace p133 := eq_true p133; replace q133 := eq_true q133; have p134 : 0 ≤ (((rd_T53 l0 x10_3).f1) : Int) := dt_; have q134 : ((rd_T53 l0 x10_3).f1) < (x7_3.length : Int) := dt_; obtain ⟨ad134, e134, hx134_0⟩ := Kd.at_int (Kd.R_reads' HO_7.out).2.2 ((rd_T53 l0 x10_3).f1) p134 q134
                        obtain rfl : (⟨go10, 0, none⟩ : Addr) = ad134 := (by injection e134)
                        (first | simp only [add_plain] at hx134_0 | simp only [add_at] at hx134_0 | simp only [Addr.add, Nat.zero_add] at hx134_0 | skip)
                        replace p134 := eq_true p134; replace q134 := eq_true q134
                        go_wp2
                        repeat (go_quiet (fail); try go_wp2)
                        go_meet
                        case rel => exact ⟨_, (true), (by first | rfl | (simp; done) | (simp [*]; done)), H', ⟨by have := HK1.out; have := HK2.out; have := HK3.out; have := HJ15.out; first | omega | exact Nat.le_refl _⟩, ⟨by (try simp only [hl7_2]); (try simp only [hl7_3]); (with_reducible repeat (first | apply Kd.R_alloc | apply Kd.R_drewN | apply Kd.R_drew)); exact HO_7.out⟩, ⟨lb0_ HB.out⟩⟩
                       ·
                        rw [if_neg c32] at H
                        have c32b0 : decide ((rd x7_3 ((rd_T53 l0 x10_3).f1)) < 0) = false := decide_eq_false c32; clear c32; have H' := Aside0.mk H; clear H; have p133 : 0 ≤ (((rd_T53 l0 x10_3).f0) : Int) := dt_; have q133 : ((rd_T53 l0 x10_3).f0) < (x7_3.length : Int) := dt_; obtain ⟨ad133, e133, hx133_0⟩ := Kd.at_int (Kd.R_reads' HO_7.out).2.2 ((rd_T53 l0 x10_3).f0) p133 q133
                        obtain rfl : (⟨go10, 0, none⟩ : Addr) = ad133 := (by injection e133)
                        (first | simp only [add_plain] at hx133_0 | simp only [add_at] at hx133_0 | simp only [Addr.add, Nat.zero_add] at hx133_0 | skip)
                        replace p133 := eq_true p133; replace q133 := eq_true q133; have p134 : 0 ≤ (((rd_T53 l0 x10_3).f1) : Int) := dt_; have q134 : ((rd_T53 l0 x10_3).f1) < (x7_3.length : Int) := dt_; obtain ⟨ad134, e134, hx134_0⟩ := Kd.at_int (Kd.R_reads' HO_7.out).2.2 ((rd_T53 l0 x10_3).f1) p134 q134
                        obtain rfl : (⟨go10, 0, none⟩ : Addr) = ad134 := (by injection e134)
                        (first | simp only [add_plain] at hx134_0 | simp only [add_at] at hx134_0 | simp only [Addr.add, Nat.zero_add] at hx134_0 | skip)
                        replace p134 := eq_true p134; replace q134 := eq_true q134; have p135 : 0 ≤ (((rd_T53 l0 x10_3).f1) : Int) := dt_; have q135 : ((rd_T53 l0 x10_3).f1) < (x7_3.length : Int) := dt_; obtain ⟨ad135, e135, hx135_0⟩ := Kd.at_int (Kd.R_reads' HO_7.out).2.2 ((rd_T53 l0 x10_3).f1) p135 q135
                        obtain rfl : (⟨go10, 0, none⟩ : Addr) = ad135 := (by injection e135)
                        (first | simp only [add_plain] at hx135_0 | simp only [add_at] at hx135_0 | simp only [Addr.add, Nat.zero_add] at hx135_0 | skip)
                        replace p135 := eq_true p135; replace q135 := eq_true q135
                        go_wp2
                        repeat (go_quiet (fail); try go_wp2)
                        go_meet
                        case rel => exact ⟨_, (decide ((wrap64 ((rd x7_3 ((rd_T53 l0 x10_3).f0)) + ((rd_T53 l0 x10_3).f2))) < (rd x7_3 ((rd_T53 l0 x10_3).f1)))), (by first | rfl | (simp; done) | (simp [*]; done)), H', ⟨by have := HK1.out; have := HK2.out; have := HK3.out; have := HJ15.out; first | omega | exact Nat.le_refl _⟩, ⟨by (try simp only [hl7_2]); (try simp only [hl7_3]); (with_reducible repeat (first | apply Kd.R_alloc | apply Kd.R_drewN | apply Kd.R_drew)); exact HO_7.out⟩, ⟨lb0_ HB.out⟩⟩
                      ·
                       rw [if_neg c31] at H
                       exact absurd H (by simp)
                     ·
                      rw [if_neg c30] at H
                      exact absurd H (by simp)
                    ·
                     rw [if_neg c29] at H
                     have c29b0 : decide (0 ≤ (rd x7_3 ((rd_T53 l0 x10_3).f0))) = false := decide_eq_false c29; clear c29
                     (first | rw [c29b0] | (simp only [i64_w, i32_w]; rw [c29b0]) | skip)
                     have H' := Aside0.mk H; clear H; have p133 : 0 ≤ (((rd_T53 l0 x10_3).f0) : Int) := dt_; have q133 : ((rd_T53 l0 x10_3).f0) < (x7_3.length : Int) := dt_; obtain ⟨ad133, e133, hx133_0⟩ := Kd.at_int (Kd.R_reads' HO_7.out).2.2 ((rd_T53 l0 x10_3).f0) p133 q133
                     obtain rfl : (⟨go10, 0, none⟩ : Addr) = ad133 := (by injection e133)
                     (first | simp only [add_plain] at hx133_0 | simp only [add_at] at hx133_0 | simp only [Addr.add, Nat.zero_add] at hx133_0 | skip)
                     replace p133 := eq_true p133; replace q133 := eq_true q133
                     go_wp2
                     repeat (go_quiet (fail); try go_wp2)
                     go_meet
                     case rel => exact ⟨_, (false), (by first | rfl | (simp; done) | (simp [*]; done)), H', ⟨by have := HK1.out; have := HK2.out; have := HK3.out; have := HJ15.out; first | omega | exact Nat.le_refl _⟩, ⟨by (try simp only [hl7_2]); (try simp only [hl7_3]); (with_reducible repeat (first | apply Kd.R_alloc | apply Kd.R_drewN | apply Kd.R_drew)); exact HO_7.out⟩, ⟨lb0_ HB.out⟩⟩
                   case rest =>
                    clear HC28
                    try clear c1
                    try clear p1
                    try clear q1
                    try clear hx1
                    try clear qi1
                    try clear c2
                    try clear p2
                    try clear c3
                    try clear c4
                    try clear c6
                    try clear c6b0
                    try clear p6
                    try clear c7
                    try clear c9
                    try clear c9b0
                    try clear c9b1
                    try clear p10
                    try clear q10
                    try clear hx10
                    try clear qi10
                    try clear hf10
                    try clear p12
                    try clear q12
                    try clear hx12
                    try clear c13
                    try clear p13
                    try clear q13
                    try clear hx13
                    try clear c14
                    try clear c14b0
                    try clear c15
                    try clear c15b0
                    try clear c17
                    try clear c17b0
                    try clear c18
                    try clear c18b0
                    try clear q19
                    try clear c20
                    try clear c21
                    try clear c21b0
                    try clear c22
                    try clear c22b0
                    try clear c23
                    try clear c24
                    try clear c24b0
                    try clear c25
                    try clear c25b0
                    try clear c26
                    try clear c26b0
                    try clear c27
                    try clear c27b0
                    try clear c29
                    try clear c29b0
                    try clear c30
                    try clear c30b0
                    try clear c31
                    try clear c31b0
                    try clear c32
                    try clear c32b0
                    try clear hx10_0
                    try clear hx127_0
                    try clear hx127_1
                    try clear hx127_2
                    try clear hx127_3
                    try clear hx127_4
                    try clear hx128_0
                    try clear hx128_1
                    try clear hx128_2
                    try clear hx128_3
                    try clear hx128_4
                    try clear hx129_0
                    try clear hx130_0
                    try clear hx131_0
                    try clear hx132_0
                    try clear hx132_1
                    try clear hx132_2
                    try clear hx132_3
                    try clear hx132_4
                    try clear hx133_0
                    try clear hx134_0
                    try clear hx135_0
                    try clear p1
                    try clear p10
                    try clear p12
                    try clear p127
                    try clear p128
                    try clear p129
                    try clear p13
                    try clear p130
                    try clear p131
                    try clear p132
                    try clear p133
                    try clear p134
                    try clear p135
                    try clear p2
                    try clear p6
                    try clear q1
                    try clear q10
                    try clear q12
                    try clear q127
                    try clear q128
                    try clear q129
                    try clear q13
                    try clear q130
                    try clear q131
                    try clear q132
                    try clear q133
                    try clear q134
                    try clear q135
                    try clear q19
                    obtain ⟨kq, x83_27, rfl, HA, HJ27, HO_7, HB⟩ := hcut
                    cases kq with
                    | zero => exact absurd HA.out (by simp [spec_l25Out.j4])
                    | succ kj27 =>
                     have H := HA.out; clear HA; simp only [spec_l25Out.j4] at H
                     by_cases c33 : x83_27 = true
                     ·
                      subst c33
                      have H1 : (if 0 ≤ ((rd_T53 l0 x10_3).f1) then (if ((rd_T53 l0 x10_3).f1) < (x7_3.length : Int) then ((some (x7_3.set (((rd_T53 l0 x10_3).f1) : Int).toNat (wrap64 ((rd x7_3 ((rd_T53 l0 x10_3).f0)) + ((rd_T53 l0 x10_3).f2))) : List Int)).bind fun y136 => (if 0 ≤ x10_3 then (if x10_3 < (l0.length : Int) then (if (rd y136 ((rd_T53 l0 x10_3).f1)) ≥ 0 then (if 0 ≤ ((rd_T53 l0 x10_3).f0) then (if ((rd_T53 l0 x10_3).f0) < (x7_3.length : Int) then (if (rd y136 ((rd_T53 l0 x10_3).f0)) < 0 then (spec_l25Out.l2 kj27 l0 l1 a2 (y136.set (((rd_T53 l0 x10_3).f0) : Int).toNat (wrap64 ((rd y136 ((rd_T53 l0 x10_3).f1)) + ((rd_T53 l0 x10_3).f2)))) true (wrap64 (x10_3 + 1))) else (if (wrap64 ((rd y136 ((rd_T53 l0 x10_3).f1)) + ((rd_T53 l0 x10_3).f2))) < (rd y136 ((rd_T53 l0 x10_3).f0)) then (spec_l25Out.l2 kj27 l0 l1 a2 (y136.set (((rd_T53 l0 x10_3).f0) : Int).toNat (wrap64 ((rd y136 ((rd_T53 l0 x10_3).f1)) + ((rd_T53 l0 x10_3).f2)))) true (wrap64 (x10_3 + 1))) else (spec_l25Out.l2 kj27 l0 l1 a2 y136 true (wrap64 (x10_3 + 1))))) else (none)) else (none)) else (spec_l25Out.l2 kj27 l0 l1 a2 y136 true (wrap64 (x10_3 + 1)))) else (none)) else (none))) else (none)) else (none)) = some r := by rw [if_pos rfl] at H; exact H
                      clear H; have H := H1; clear H1
                      by_cases c34 : 0 ≤ ((rd_T53 l0 x10_3).f1)
                      ·
                       rw [if_pos c34] at H
                       have c34b0 : decide (0 ≤ ((rd_T53 l0 x10_3).f1)) = true := decide_eq_true c34; clear c34
                       by_cases c35 : ((rd_T53 l0 x10_3).f1) < (x7_3.length : Int)
                       ·
                        rw [if_pos c35] at H
                        have c35b0 : decide (((rd_T53 l0 x10_3).f1) < (x7_3.length : Int)) = true := decide_eq_true c35; clear c35
                        obtain ⟨y136, hy136⟩ : ∃ y_ : List Int, y_ = (x7_3.set (((rd_T53 l0 x10_3).f1) : Int).toNat (wrap64 ((rd x7_3 ((rd_T53 l0 x10_3).f0)) + ((rd_T53 l0 x10_3).f2)))) := ⟨_, rfl⟩
                        replace H : (if 0 ≤ x10_3 then (if x10_3 < (l0.length : Int) then (if (rd y136 ((rd_T53 l0 x10_3).f1)) ≥ 0 then (if 0 ≤ ((rd_T53 l0 x10_3).f0) then (if ((rd_T53 l0 x10_3).f0) < (x7_3.length : Int) then (if (rd y136 ((rd_T53 l0 x10_3).f0)) < 0 then (spec_l25Out.l2 kj27 l0 l1 a2 (y136.set (((rd_T53 l0 x10_3).f0) : Int).toNat (wrap64 ((rd y136 ((rd_T53 l0 x10_3).f1)) + ((rd_T53 l0 x10_3).f2)))) true (wrap64 (x10_3 + 1))) else (if (wrap64 ((rd y136 ((rd_T53 l0 x10_3).f1)) + ((rd_T53 l0 x10_3).f2))) < (rd y136 ((rd_T53 l0 x10_3).f0)) then (spec_l25Out.l2 kj27 l0 l1 a2 (y136.set (((rd_T53 l0 x10_3).f0) : Int).toNat (wrap64 ((rd y136 ((rd_T53 l0 x10_3).f1)) + ((rd_T53 l0 x10_3).f2)))) true (wrap64 (x10_3 + 1))) else (spec_l25Out.l2 kj27 l0 l1 a2 y136 true (wrap64 (x10_3 + 1))))) else (none)) else (none)) else (spec_l25Out.l2 kj27 l0 l1 a2 y136 true (wrap64 (x10_3 + 1)))) else (none)) else (none)) = some r := by first | (rw [hy136]; with_reducible exact H) | (have H2_ := (Option.bind_some _ _).symm.trans H; rw [hy136]; with_reducible exact H2_) | (have H2_ := (Option.bind_some _ _).symm.trans H; with_reducible exact H2_) | with_reducible exact H | (rw [hy136]; exact H) | exact H
                        have Ny136 := Aside0.mk hy136; clear hy136
                        by_cases c37 : 0 ≤ x10_3
                        ·
                         rw [if_pos c37] at H
                         have c37b0 : decide (0 ≤ x10_3) = true := decide_eq_true c37; clear c37
                         by_cases c38 : x10_3 < (l0.length : Int)
                         ·
                          rw [if_pos c38] at H
                          have c38b0 : decide (x10_3 < (l0.length : Int)) = true := decide_eq_true c38; clear c38
                          by_cases c39 : (rd y136 ((rd_T53 l0 x10_3).f1)) ≥ 0
                          ·
                           rw [if_pos c39] at H
                           have c39b0 : decide (0 ≤ (rd y136 ((rd_T53 l0 x10_3).f1))) = true := decide_eq_true c39; clear c39
                           by_cases c40 : 0 ≤ ((rd_T53 l0 x10_3).f0)
                           ·
                            rw [if_pos c40] at H
                            have c40b0 : decide (0 ≤ ((rd_T53 l0 x10_3).f0)) = true := decide_eq_true c40; clear c40
                            by_cases c41 : ((rd_T53 l0 x10_3).f0) < (x7_3.length : Int)
                            ·
                             rw [if_pos c41] at H
                             have c41b0 : decide (((rd_T53 l0 x10_3).f0) < (x7_3.length : Int)) = true := decide_eq_true c41; clear c41
                             by_cases c42 : (rd y136 ((rd_T53 l0 x10_3).f0)) < 0
                             ·
                              rw [if_pos c42] at H
                              have c42b0 : decide ((rd y136 ((rd_T53 l0 x10_3).f0)) < 0) = true := decide_eq_true c42; clear c42
                              obtain ⟨y141, hy141⟩ : ∃ y_ : List Int, y_ = (y136.set (((rd_T53 l0 x10_3).f0) : Int).toNat (wrap64 ((rd y136 ((rd_T53 l0 x10_3).f1)) + ((rd_T53 l0 x10_3).f2)))) := ⟨_, rfl⟩
                              replace H : (spec_l25Out.l2 kj27 l0 l1 a2 y141 true (wrap64 (x10_3 + 1))) = some r := by first | (rw [hy141]; with_reducible exact H) | (have H2_ := (Option.bind_some _ _).symm.trans H; rw [hy141]; with_reducible exact H2_) | (have H2_ := (Option.bind_some _ _).symm.trans H; with_reducible exact H2_) | with_reducible exact H | (rw [hy141]; exact H) | exact H
                              have Ny141 := Aside0.mk hy141; clear hy141; have H' := Aside0.mk H; clear H; have p36 : 0 ≤ (((rd_T53 l0 x10_3).f1) : Int) := dt_; have q36 : (((rd_T53 l0 x10_3).f1) : Int) < ((x7_3.length : Int) : Int) := dt_; obtain ⟨hx36_0, hf36_0⟩ := Kd.R_celln 0 HO_7.out (((rd_T53 l0 x10_3).f1) : Int) p36 q36; replace p36 := eq_true p36; replace q36 := eq_true q36; have HP44 := Kd.R_putg HO_7.out (((rd_T53 l0 x10_3).f1) : Int) (wrap64 ((rd x7_3 ((rd_T53 l0 x10_3).f0)) + ((rd_T53 l0 x10_3).f2)))
                              go_wp2_with (first | ((with_reducible refine gate_store (t := 3) (p := 87) rfl ?_); (try (rw [drewN_self wc]; generalize hq_ : World.drewN wc _ = wc; replace HO_7 := Aside0.mk (Kd.R_at hq_ HO_7.out); replace HB := Aside0.mk (below_at hq_ HB.out); clear hq_; (try (have HP44 := Kd.R_putg HO_7.out (((rd_T53 l0 x10_3).f1) : Int) (wrap64 ((rd x7_3 ((rd_T53 l0 x10_3).f0)) + ((rd_T53 l0 x10_3).f2))))))); refine store_event (t := 3) (p := 87) (v := ?vo_w45) (w1 := (wc.setCell ⟨go10, (((rd_T53 l0 x10_3).f1) : Int).toNat, none⟩ (.int .i64 (wrap64 ((rd x7_3 ((rd_T53 l0 x10_3).f0)) + ((rd_T53 l0 x10_3).f2)))))) ?hg ?ho ?hn ?hr ?_; (case ho => rfl); (case hg => rfl); (case hn => rfl); (case hr => first | (go_simp; done) | (go_simp; rfl)); intro w45 hw; have hg : wc.grownBy w45 (some go10) := (by rw [hw]; exact HP44.2); have hp_ : Kd.R (Kd.int .i64) 3 w45 w.heap.size (fun _ => True) (.slice (some ⟨go10, 0, none⟩) x7_3.length co10) y136 := (by rw [hw, Ny136.out]; exact HP44.1); clear HP44; replace HO_7 := Aside0.mk (hp_); replace HB := Aside0.mk ((by rw [hw]; exact below_set (HB.out) GB10.out : Below w.heap.size w w45)); clear hg hw hp_; have p137 : 0 ≤ (((rd_T53 l0 x10_3).f1) : Int) := dt_; have q137 : ((rd_T53 l0 x10_3).f1) < (y136.length : Int) := (by have h_ : (((rd_T53 l0 x10_3).f1) : Int) < ((x7_3.length : Int) : Int) := dt_; first | (have e_ := (Kd.R_reads' HO_7.out).1; omega) | simpa only [Ny136.out, List.length_set] using h_); have ql137 : ((((rd_T53 l0 x10_3).f1) : Int) < ((x7_3.length : Int) : Int)) = True := eq_true (dt_); obtain ⟨ad137, e137, hx137_0⟩ := Kd.at_int (Kd.R_reads' HO_7.out).2.2 ((rd_T53 l0 x10_3).f1) p137 q137; obtain rfl : (⟨go10, 0, none⟩ : Addr) = ad137 := (by injection e137); (first | simp only [add_plain] at hx137_0 | simp only [add_at] at hx137_0 | simp only [Addr.add, Nat.zero_add] at hx137_0 | skip); replace p137 := eq_true p137; replace q137 := eq_true q137; have p138 : 0 ≤ (x10_3 : Int) := dt_; have q138 : x10_3 < (l0.length : Int) := dt_; obtain ⟨ad138, e138, hx138_0, hx138_1, hx138_2, hx138_3, hx138_4⟩ := at_T53 HR0.out x10_3 p138 q138; obtain rfl : ad127 = ad138 := (by injection e138); replace hx138_0 := bc_ HB.out hx138_0; replace hx138_1 := bc_ HB.out hx138_1; replace hx138_2 := bc_ HB.out hx138_2; replace hx138_3 := bc_ HB.out hx138_3; replace hx138_4 := bc_ HB.out hx138_4; replace p138 := eq_true p138; replace q138 := eq_true q138; have p139 : 0 ≤ (((rd_T53 l0 x10_3).f1) : Int) := dt_; have q139 : ((rd_T53 l0 x10_3).f1) < (y136.length : Int) := (by have h_ : (((rd_T53 l0 x10_3).f1) : Int) < ((x7_3.length : Int) : Int) := dt_; first | (have e_ := (Kd.R_reads' HO_7.out).1; omega) | simpa only [Ny136.out, List.length_set] using h_); have ql139 : ((((rd_T53 l0 x10_3).f1) : Int) < ((x7_3.length : Int) : Int)) = True := eq_true (dt_); obtain ⟨ad139, e139, hx139_0⟩ := Kd.at_int (Kd.R_reads' HO_7.out).2.2 ((rd_T53 l0 x10_3).f1) p139 q139; obtain rfl : (⟨go10, 0, none⟩ : Addr) = ad139 := (by injection e139); (first | simp only [add_plain] at hx139_0 | simp only [add_at] at hx139_0 | simp only [Addr.add, Nat.zero_add] at hx139_0 | skip); replace p139 := eq_true p139; replace q139 := eq_true q139; have p140 : 0 ≤ (((rd_T53 l0 x10_3).f0) : Int) := dt_; have q140 : ((rd_T53 l0 x10_3).f0) < (y136.length : Int) := (by have h_ : (((rd_T53 l0 x10_3).f0) : Int) < ((x7_3.length : Int) : Int) := dt_; first | (have e_ := (Kd.R_reads' HO_7.out).1; omega) | simpa only [Ny136.out, List.length_set] using h_); have ql140 : ((((rd_T53 l0 x10_3).f0) : Int) < ((x7_3.length : Int) : Int)) = True := eq_true (dt_); obtain ⟨ad140, e140, hx140_0⟩ := Kd.at_int (Kd.R_reads' HO_7.out).2.2 ((rd_T53 l0 x10_3).f0) p140 q140; obtain rfl : (⟨go10, 0, none⟩ : Addr) = ad140 := (by injection e140); (first | simp only [add_plain] at hx140_0 | simp only [add_at] at hx140_0 | simp only [Addr.add, Nat.zero_add] at hx140_0 | skip); replace p140 := eq_true p140; replace q140 := eq_true q140; have p43 : 0 ≤ (((rd_T53 l0 x10_3).f0) : Int) := dt_; have q43 : (((rd_T53 l0 x10_3).f0) : Int) < ((x7_3.length : Int) : Int) := dt_; obtain ⟨hx43_0, hf43_0⟩ := Kd.R_celln 0 HO_7.out (((rd_T53 l0 x10_3).f0) : Int) p43 q43; replace p43 := eq_true p43; replace q43 := eq_true q43; obtain ⟨hy46_, hz46_⟩ := Kd.R_celln 0 HO_7.out (((rd_T53 l0 x10_3).f0) : Int) (dt_) (dt_); have HP46 := Kd.R_putg HO_7.out (((rd_T53 l0 x10_3).f0) : Int) (wrap64 ((rd y136 ((rd_T53 l0 x10_3).f1)) + ((rd_T53 l0 x10_3).f2)))) | ((with_reducible refine gate_store (t := 3) (p := 121) rfl ?_); (try (rw [drewN_self w45]; generalize hq_ : World.drewN w45 _ = w45; replace HO_7 := Aside0.mk (Kd.R_at hq_ HO_7.out); replace HB := Aside0.mk (below_at hq_ HB.out); clear hq_; (try (obtain ⟨hy46_, hz46_⟩ := Kd.R_celln 0 HO_7.out (((rd_T53 l0 x10_3).f0) : Int) (dt_) (dt_))); (try (have HP46 := Kd.R_putg HO_7.out (((rd_T53 l0 x10_3).f0) : Int) (wrap64 ((rd y136 ((rd_T53 l0 x10_3).f1)) + ((rd_T53 l0 x10_3).f2))))))); refine store_event (t := 3) (p := 121) (v := ?vo_w47) (w1 := (w45.setCell ⟨go10, (((rd_T53 l0 x10_3).f0) : Int).toNat, none⟩ (.int .i64 (wrap64 ((rd y136 ((rd_T53 l0 x10_3).f1)) + ((rd_T53 l0 x10_3).f2)))))) ?hg ?ho ?hn ?hr ?_; (case ho => rfl); (case hg => rfl); (case hn => rfl); (case hr => first | (go_simp; done) | (go_simp; rfl)); intro w47 hw; have hg : w45.grownBy w47 (some go10) := (by rw [hw]; exact HP46.2); have hp_ : Kd.R (Kd.int .i64) 3 w47 w.heap.size (fun _ => True) (.slice (some ⟨go10, 0, none⟩) x7_3.length co10) y141 := (by rw [hw, Ny141.out]; exact HP46.1); clear HP46; replace HO_7 := Aside0.mk (hp_); replace HB := Aside0.mk ((by rw [hw]; exact below_set (HB.out) GB10.out : Below w.heap.size w w47)); clear hg hw hp_))
                              repeat (go_quiet (first | ((with_reducible refine gate_store (t := 3) (p := 87) rfl ?_); (try (rw [drewN_self wc]; generalize hq_ : World.drewN wc _ = wc; replace HO_7 := Aside0.mk (Kd.R_at hq_ HO_7.out); replace HB := Aside0.mk (below_at hq_ HB.out); clear hq_; (try (have HP44 := Kd.R_putg HO_7.out (((rd_T53 l0 x10_3).f1) : Int) (wrap64 ((rd x7_3 ((rd_T53 l0 x10_3).f0)) + ((rd_T53 l0 x10_3).f2))))))); refine store_event (t := 3) (p := 87) (v := ?vo_w45) (w1 := (wc.setCell ⟨go10, (((rd_T53 l0 x10_3).f1) : Int).toNat, none⟩ (.int .i64 (wrap64 ((rd x7_3 ((rd_T53 l0 x10_3).f0)) + ((rd_T53 l0 x10_3).f2)))))) ?hg ?ho ?hn ?hr ?_; (case ho => rfl); (case hg => rfl); (case hn => rfl); (case hr => first | (go_simp; done) | (go_simp; rfl)); intro w45 hw; have hg : wc.grownBy w45 (some go10) := (by rw [hw]; exact HP44.2); have hp_ : Kd.R (Kd.int .i64) 3 w45 w.heap.size (fun _ => True) (.slice (some ⟨go10, 0, none⟩) x7_3.length co10) y136 := (by rw [hw, Ny136.out]; exact HP44.1); clear HP44; replace HO_7 := Aside0.mk (hp_); replace HB := Aside0.mk ((by rw [hw]; exact below_set (HB.out) GB10.out : Below w.heap.size w w45)); clear hg hw hp_; have p137 : 0 ≤ (((rd_T53 l0 x10_3).f1) : Int) := dt_; have q137 : ((rd_T53 l0 x10_3).f1) < (y136.length : Int) := (by have h_ : (((rd_T53 l0 x10_3).f1) : Int) < ((x7_3.length : Int) : Int) := dt_; first | (have e_ := (Kd.R_reads' HO_7.out).1; omega) | simpa only [Ny136.out, List.length_set] using h_); have ql137 : ((((rd_T53 l0 x10_3).f1) : Int) < ((x7_3.length : Int) : Int)) = True := eq_true (dt_); obtain ⟨ad137, e137, hx137_0⟩ := Kd.at_int (Kd.R_reads' HO_7.out).2.2 ((rd_T53 l0 x10_3).f1) p137 q137; obtain rfl : (⟨go10, 0, none⟩ : Addr) = ad137 := (by injection e137); (first | simp only [add_plain] at hx137_0 | simp only [add_at] at hx137_0 | simp only [Addr.add, Nat.zero_add] at hx137_0 | skip); replace p137 := eq_true p137; replace q137 := eq_true q137; have p138 : 0 ≤ (x10_3 : Int) := dt_; have q138 : x10_3 < (l0.length : Int) := dt_; obtain ⟨ad138, e138, hx138_0, hx138_1, hx138_2, hx138_3, hx138_4⟩ := at_T53 HR0.out x10_3 p138 q138; obtain rfl : ad127 = ad138 := (by injection e138); replace hx138_0 := bc_ HB.out hx138_0; replace hx138_1 := bc_ HB.out hx138_1; replace hx138_2 := bc_ HB.out hx138_2; replace hx138_3 := bc_ HB.out hx138_3; replace hx138_4 := bc_ HB.out hx138_4; replace p138 := eq_true p138; replace q138 := eq_true q138; have p139 : 0 ≤ (((rd_T53 l0 x10_3).f1) : Int) := dt_; have q139 : ((rd_T53 l0 x10_3).f1) < (y136.length : Int) := (by have h_ : (((rd_T53 l0 x10_3).f1) : Int) < ((x7_3.length : Int) : Int) := dt_; first | (have e_ := (Kd.R_reads' HO_7.out).1; omega) | simpa only [Ny136.out, List.length_set] using h_); have ql139 : ((((rd_T53 l0 x10_3).f1) : Int) < ((x7_3.length : Int) : Int)) = True := eq_true (dt_); obtain ⟨ad139, e139, hx139_0⟩ := Kd.at_int (Kd.R_reads' HO_7.out).2.2 ((rd_T53 l0 x10_3).f1) p139 q139; obtain rfl : (⟨go10, 0, none⟩ : Addr) = ad139 := (by injection e139); (first | simp only [add_plain] at hx139_0 | simp only [add_at] at hx139_0 | simp only [Addr.add, Nat.zero_add] at hx139_0 | skip); replace p139 := eq_true p139; replace q139 := eq_true q139; have p140 : 0 ≤ (((rd_T53 l0 x10_3).f0) : Int) := dt_; have q140 : ((rd_T53 l0 x10_3).f0) < (y136.length : Int) := (by have h_ : (((rd_T53 l0 x10_3).f0) : Int) < ((x7_3.length : Int) : Int) := dt_; first | (have e_ := (Kd.R_reads' HO_7.out).1; omega) | simpa only [Ny136.out, List.length_set] using h_); have ql140 : ((((rd_T53 l0 x10_3).f0) : Int) < ((x7_3.length : Int) : Int)) = True := eq_true (dt_); obtain ⟨ad140, e140, hx140_0⟩ := Kd.at_int (Kd.R_reads' HO_7.out).2.2 ((rd_T53 l0 x10_3).f0) p140 q140; obtain rfl : (⟨go10, 0, none⟩ : Addr) = ad140 := (by injection e140); (first | simp only [add_plain] at hx140_0 | simp only [add_at] at hx140_0 | simp only [Addr.add, Nat.zero_add] at hx140_0 | skip); replace p140 := eq_true p140; replace q140 := eq_true q140; have p43 : 0 ≤ (((rd_T53 l0 x10_3).f0) : Int) := dt_; have q43 : (((rd_T53 l0 x10_3).f0) : Int) < ((x7_3.length : Int) : Int) := dt_; obtain ⟨hx43_0, hf43_0⟩ := Kd.R_celln 0 HO_7.out (((rd_T53 l0 x10_3).f0) : Int) p43 q43; replace p43 := eq_true p43; replace q43 := eq_true q43; obtain ⟨hy46_, hz46_⟩ := Kd.R_celln 0 HO_7.out (((rd_T53 l0 x10_3).f0) : Int) (dt_) (dt_); have HP46 := Kd.R_putg HO_7.out (((rd_T53 l0 x10_3).f0) : Int) (wrap64 ((rd y136 ((rd_T53 l0 x10_3).f1)) + ((rd_T53 l0 x10_3).f2)))) | ((with_reducible refine gate_store (t := 3) (p := 121) rfl ?_); (try (rw [drewN_self w45]; generalize hq_ : World.drewN w45 _ = w45; replace HO_7 := Aside0.mk (Kd.R_at hq_ HO_7.out); replace HB := Aside0.mk (below_at hq_ HB.out); clear hq_; (try (obtain ⟨hy46_, hz46_⟩ := Kd.R_celln 0 HO_7.out (((rd_T53 l0 x10_3).f0) : Int) (dt_) (dt_))); (try (have HP46 := Kd.R_putg HO_7.out (((rd_T53 l0 x10_3).f0) : Int) (wrap64 ((rd y136 ((rd_T53 l0 x10_3).f1)) + ((rd_T53 l0 x10_3).f2))))))); refine store_event (t := 3) (p := 121) (v := ?vo_w47) (w1 := (w45.setCell ⟨go10, (((rd_T53 l0 x10_3).f0) : Int).toNat, none⟩ (.int .i64 (wrap64 ((rd y136 ((rd_T53 l0 x10_3).f1)) + ((rd_T53 l0 x10_3).f2)))))) ?hg ?ho ?hn ?hr ?_; (case ho => rfl); (case hg => rfl); (case hn => rfl); (case hr => first | (go_simp; done) | (go_simp; rfl)); intro w47 hw; have hg : w45.grownBy w47 (some go10) := (by rw [hw]; exact HP46.2); have hp_ : Kd.R (Kd.int .i64) 3 w47 w.heap.size (fun _ => True) (.slice (some ⟨go10, 0, none⟩) x7_3.length co10) y141 := (by rw [hw, Ny141.out]; exact HP46.1); clear HP46; replace HO_7 := Aside0.mk (hp_); replace HB := Aside0.mk ((by rw [hw]; exact below_set (HB.out) GB10.out : Below w.heap.size w w47)); clear hg hw hp_)); try go_wp2_with (first | ((with_reducible refine gate_store (t := 3) (p := 87) rfl ?_); (try (rw [drewN_self wc]; generalize hq_ : World.drewN wc _ = wc; replace HO_7 := Aside0.mk (Kd.R_at hq_ HO_7.out); replace HB := Aside0.mk (below_at hq_ HB.out); clear hq_; (try (have HP44 := Kd.R_putg HO_7.out (((rd_T53 l0 x10_3).f1) : Int) (wrap64 ((rd x7_3 ((rd_T53 l0 x10_3).f0)) + ((rd_T53 l0 x10_3).f2))))))); refine store_event (t := 3) (p := 87) (v := ?vo_w45) (w1 := (wc.setCell ⟨go10, (((rd_T53 l0 x10_3).f1) : Int).toNat, none⟩ (.int .i64 (wrap64 ((rd x7_3 ((rd_T53 l0 x10_3).f0)) + ((rd_T53 l0 x10_3).f2)))))) ?hg ?ho ?hn ?hr ?_; (case ho => rfl); (case hg => rfl); (case hn => rfl); (case hr => first | (go_simp; done) | (go_simp; rfl)); intro w45 hw; have hg : wc.grownBy w45 (some go10) := (by rw [hw]; exact HP44.2); have hp_ : Kd.R (Kd.int .i64) 3 w45 w.heap.size (fun _ => True) (.slice (some ⟨go10, 0, none⟩) x7_3.length co10) y136 := (by rw [hw, Ny136.out]; exact HP44.1); clear HP44; replace HO_7 := Aside0.mk (hp_); replace HB := Aside0.mk ((by rw [hw]; exact below_set (HB.out) GB10.out : Below w.heap.size w w45)); clear hg hw hp_; have p137 : 0 ≤ (((rd_T53 l0 x10_3).f1) : Int) := dt_; have q137 : ((rd_T53 l0 x10_3).f1) < (y136.length : Int) := (by have h_ : (((rd_T53 l0 x10_3).f1) : Int) < ((x7_3.length : Int) : Int) := dt_; first | (have e_ := (Kd.R_reads' HO_7.out).1; omega) | simpa only [Ny136.out, List.length_set] using h_); have ql137 : ((((rd_T53 l0 x10_3).f1) : Int) < ((x7_3.length : Int) : Int)) = True := eq_true (dt_); obtain ⟨ad137, e137, hx137_0⟩ := Kd.at_int (Kd.R_reads' HO_7.out).2.2 ((rd_T53 l0 x10_3).f1) p137 q137; obtain rfl : (⟨go10, 0, none⟩ : Addr) = ad137 := (by injection e137); (first | simp only [add_plain] at hx137_0 | simp only [add_at] at hx137_0 | simp only [Addr.add, Nat.zero_add] at hx137_0 | skip); replace p137 := eq_true p137; replace q137 := eq_true q137; have p138 : 0 ≤ (x10_3 : Int) := dt_; have q138 : x10_3 < (l0.length : Int) := dt_; obtain ⟨ad138, e138, hx138_0, hx138_1, hx138_2, hx138_3, hx138_4⟩ := at_T53 HR0.out x10_3 p138 q138; obtain rfl : ad127 = ad138 := (by injection e138); replace hx138_0 := bc_ HB.out hx138_0; replace hx138_1 := bc_ HB.out hx138_1; replace hx138_2 := bc_ HB.out hx138_2; replace hx138_3 := bc_ HB.out hx138_3; replace hx138_4 := bc_ HB.out hx138_4; replace p138 := eq_true p138; replace q138 := eq_true q138; have p139 : 0 ≤ (((rd_T53 l0 x10_3).f1) : Int) := dt_; have q139 : ((rd_T53 l0 x10_3).f1) < (y136.length : Int) := (by have h_ : (((rd_T53 l0 x10_3).f1) : Int) < ((x7_3.length : Int) : Int) := dt_; first | (have e_ := (Kd.R_reads' HO_7.out).1; omega) | simpa only [Ny136.out, List.length_set] using h_); have ql139 : ((((rd_T53 l0 x10_3).f1) : Int) < ((x7_3.length : Int) : Int)) = True := eq_true (dt_); obtain ⟨ad139, e139, hx139_0⟩ := Kd.at_int (Kd.R_reads' HO_7.out).2.2 ((rd_T53 l0 x10_3).f1) p139 q139; obtain rfl : (⟨go10, 0, none⟩ : Addr) = ad139 := (by injection e139); (first | simp only [add_plain] at hx139_0 | simp only [add_at] at hx139_0 | simp only [Addr.add, Nat.zero_add] at hx139_0 | skip); replace p139 := eq_true p139; replace q139 := eq_true q139; have p140 : 0 ≤ (((rd_T53 l0 x10_3).f0) : Int) := dt_; have q140 : ((rd_T53 l0 x10_3).f0) < (y136.length : Int) := (by have h_ : (((rd_T53 l0 x10_3).f0) : Int) < ((x7_3.length : Int) : Int) := dt_; first | (have e_ := (Kd.R_reads' HO_7.out).1; omega) | simpa only [Ny136.out, List.length_set] using h_); have ql140 : ((((rd_T53 l0 x10_3).f0) : Int) < ((x7_3.length : Int) : Int)) = True := eq_true (dt_); obtain ⟨ad140, e140, hx140_0⟩ := Kd.at_int (Kd.R_reads' HO_7.out).2.2 ((rd_T53 l0 x10_3).f0) p140 q140; obtain rfl : (⟨go10, 0, none⟩ : Addr) = ad140 := (by injection e140); (first | simp only [add_plain] at hx140_0 | simp only [add_at] at hx140_0 | simp only [Addr.add, Nat.zero_add] at hx140_0 | skip); replace p140 := eq_true p140; replace q140 := eq_true q140; have p43 : 0 ≤ (((rd_T53 l0 x10_3).f0) : Int) := dt_; have q43 : (((rd_T53 l0 x10_3).f0) : Int) < ((x7_3.length : Int) : Int) := dt_; obtain ⟨hx43_0, hf43_0⟩ := Kd.R_celln 0 HO_7.out (((rd_T53 l0 x10_3).f0) : Int) p43 q43; replace p43 := eq_true p43; replace q43 := eq_true q43; obtain ⟨hy46_, hz46_⟩ := Kd.R_celln 0 HO_7.out (((rd_T53 l0 x10_3).f0) : Int) (dt_) (dt_); have HP46 := Kd.R_putg HO_7.out (((rd_T53 l0 x10_3).f0) : Int) (wrap64 ((rd y136 ((rd_T53 l0 x10_3).f1)) + ((rd_T53 l0 x10_3).f2)))) | ((with_reducible refine gate_store (t := 3) (p := 121) rfl ?_); (try (rw [drewN_self w45]; generalize hq_ : World.drewN w45 _ = w45; replace HO_7 := Aside0.mk (Kd.R_at hq_ HO_7.out); replace HB := Aside0.mk (below_at hq_ HB.out); clear hq_; (try (obtain ⟨hy46_, hz46_⟩ := Kd.R_celln 0 HO_7.out (((rd_T53 l0 x10_3).f0) : Int) (dt_) (dt_))); (try (have HP46 := Kd.R_putg HO_7.out (((rd_T53 l0 x10_3).f0) : Int) (wrap64 ((rd y136 ((rd_T53 l0 x10_3).f1)) + ((rd_T53 l0 x10_3).f2))))))); refine store_event (t := 3) (p := 121) (v := ?vo_w47) (w1 := (w45.setCell ⟨go10, (((rd_T53 l0 x10_3).f0) : Int).toNat, none⟩ (.int .i64 (wrap64 ((rd y136 ((rd_T53 l0 x10_3).f1)) + ((rd_T53 l0 x10_3).f2)))))) ?hg ?ho ?hn ?hr ?_; (case ho => rfl); (case hg => rfl); (case hn => rfl); (case hr => first | (go_simp; done) | (go_simp; rfl)); intro w47 hw; have hg : w45.grownBy w47 (some go10) := (by rw [hw]; exact HP46.2); have hp_ : Kd.R (Kd.int .i64) 3 w47 w.heap.size (fun _ => True) (.slice (some ⟨go10, 0, none⟩) x7_3.length co10) y141 := (by rw [hw, Ny141.out]; exact HP46.1); clear HP46; replace HO_7 := Aside0.mk (hp_); replace HB := Aside0.mk ((by rw [hw]; exact below_set (HB.out) GB10.out : Below w.heap.size w w47)); clear hg hw hp_)))
                              (try simp only [← hl7_3])
                              go_roundg kj27
                              case measure => have := HK1.out; have := HK2.out; have := HK3.out; have := HJ15.out; have := HJ27.out; omega
                              case rel => exact ⟨(y141), (true), (wrap64 (x10_3 + 1)), (by first | rfl | (simp; done) | (simp [*]; done)), (by first | rfl | (simp; done) | (simp [*]; done)), H', ⟨by have := HK1.out; have := HK2.out; have := HK3.out; have := HJ15.out; have := HJ27.out; omega⟩, ⟨by (try simp only [hl7_2]); (try simp only [hl7_3]); (with_reducible repeat (first | apply Kd.R_alloc | apply Kd.R_drewN | apply Kd.R_drew)); first | exact HO_7.out | (rw [Ny141.out]; exact (Kd.R_putg (Kd.R_drewN HO_7.out _) _ _).1) | (rw [Ny141.out]; exact (Kd.R_putg HO_7.out _ _).1)⟩, ⟨by repeat (first | (with_reducible first | exact HB.out | apply below_alloc | apply pw_below_drewN | apply below_drew1) | exact HB.out | (first | exact below_set (pw_below_drewN HB.out _) GB10.out | exact below_set HB.out GB10.out))⟩⟩
                             ·
                              rw [if_neg c42] at H
                              have c42b0 : decide ((rd y136 ((rd_T53 l0 x10_3).f0)) < 0) = false := decide_eq_false c42; clear c42
                              by_cases c48 : (wrap64 ((rd y136 ((rd_T53 l0 x10_3).f1)) + ((rd_T53 l0 x10_3).f2))) < (rd y136 ((rd_T53 l0 x10_3).f0))
                              ·
                               rw [if_pos c48] at H
                               have c48b0 : decide ((wrap64 ((rd y136 ((rd_T53 l0 x10_3).f1)) + ((rd_T53 l0 x10_3).f2))) < (rd y136 ((rd_T53 l0 x10_3).f0))) = true := decide_eq_true c48; clear c48
                               obtain ⟨y143, hy143⟩ : ∃ y_ : List Int, y_ = (y136.set (((rd_T53 l0 x10_3).f0) : Int).toNat (wrap64 ((rd y136 ((rd_T53 l0 x10_3).f1)) + ((rd_T53 l0 x10_3).f2)))) := ⟨_, rfl⟩
                               replace H : (spec_l25Out.l2 kj27 l0 l1 a2 y143 true (wrap64 (x10_3 + 1))) = some r := by first | (rw [hy143]; with_reducible exact H) | (have H2_ := (Option.bind_some _ _).symm.trans H; rw [hy143]; with_reducible exact H2_) | (have H2_ := (Option.bind_some _ _).symm.trans H; with_reducible exact H2_) | with_reducible exact H | (rw [hy143]; exact H) | exact H
                               have Ny143 := Aside0.mk hy143; clear hy143; have H' := Aside0.mk H; clear H; have p36 : 0 ≤ (((rd_T53 l0 x10_3).f1) : Int) := dt_; have q36 : (((rd_T53 l0 x10_3).f1) : Int) < ((x7_3.length : Int) : Int) := dt_; obtain ⟨hx36_0, hf36_0⟩ := Kd.R_celln 0 HO_7.out (((rd_T53 l0 x10_3).f1) : Int) p36 q36; replace p36 := eq_true p36; replace q36 := eq_true q36; have HP50 := Kd.R_putg HO_7.out (((rd_T53 l0 x10_3).f1) : Int) (wrap64 ((rd x7_3 ((rd_T53 l0 x10_3).f0)) + ((rd_T53 l0 x10_3).f2)))
                               go_wp2_with (first | ((with_reducible refine gate_store (t := 3) (p := 87) rfl ?_); (try (rw [drewN_self wc]; generalize hq_ : World.drewN wc _ = wc; replace HO_7 := Aside0.mk (Kd.R_at hq_ HO_7.out); replace HB := Aside0.mk (below_at hq_ HB.out); clear hq_; (try (have HP50 := Kd.R_putg HO_7.out (((rd_T53 l0 x10_3).f1) : Int) (wrap64 ((rd x7_3 ((rd_T53 l0 x10_3).f0)) + ((rd_T53 l0 x10_3).f2))))))); refine store_event (t := 3) (p := 87) (v := ?vo_w51) (w1 := (wc.setCell ⟨go10, (((rd_T53 l0 x10_3).f1) : Int).toNat, none⟩ (.int .i64 (wrap64 ((rd x7_3 ((rd_T53 l0 x10_3).f0)) + ((rd_T53 l0 x10_3).f2)))))) ?hg ?ho ?hn ?hr ?_; (case ho => rfl); (case hg => rfl); (case hn => rfl); (case hr => first | (go_simp; done) | (go_simp; rfl)); intro w51 hw; have hg : wc.grownBy w51 (some go10) := (by rw [hw]; exact HP50.2); have hp_ : Kd.R (Kd.int .i64) 3 w51 w.heap.size (fun _ => True) (.slice (some ⟨go10, 0, none⟩) x7_3.length co10) y136 := (by rw [hw, Ny136.out]; exact HP50.1); clear HP50; replace HO_7 := Aside0.mk (hp_); replace HB := Aside0.mk ((by rw [hw]; exact below_set (HB.out) GB10.out : Below w.heap.size w w51)); clear hg hw hp_; have p137 : 0 ≤ (((rd_T53 l0 x10_3).f1) : Int) := dt_; have q137 : ((rd_T53 l0 x10_3).f1) < (y136.length : Int) := (by have h_ : (((rd_T53 l0 x10_3).f1) : Int) < ((x7_3.length : Int) : Int) := dt_; first | (have e_ := (Kd.R_reads' HO_7.out).1; omega) | simpa only [Ny136.out, List.length_set] using h_); have ql137 : ((((rd_T53 l0 x10_3).f1) : Int) < ((x7_3.length : Int) : Int)) = True := eq_true (dt_); obtain ⟨ad137, e137, hx137_0⟩ := Kd.at_int (Kd.R_reads' HO_7.out).2.2 ((rd_T53 l0 x10_3).f1) p137 q137; obtain rfl : (⟨go10, 0, none⟩ : Addr) = ad137 := (by injection e137); (first | simp only [add_plain] at hx137_0 | simp only [add_at] at hx137_0 | simp only [Addr.add, Nat.zero_add] at hx137_0 | skip); replace p137 := eq_true p137; replace q137 := eq_true q137; have p138 : 0 ≤ (x10_3 : Int) := dt_; have q138 : x10_3 < (l0.length : Int) := dt_; obtain ⟨ad138, e138, hx138_0, hx138_1, hx138_2, hx138_3, hx138_4⟩ := at_T53 HR0.out x10_3 p138 q138; obtain rfl : ad127 = ad138 := (by injection e138); replace hx138_0 := bc_ HB.out hx138_0; replace hx138_1 := bc_ HB.out hx138_1; replace hx138_2 := bc_ HB.out hx138_2; replace hx138_3 := bc_ HB.out hx138_3; replace hx138_4 := bc_ HB.out hx138_4; replace p138 := eq_true p138; replace q138 := eq_true q138; have p139 : 0 ≤ (((rd_T53 l0 x10_3).f1) : Int) := dt_; have q139 : ((rd_T53 l0 x10_3).f1) < (y136.length : Int) := (by have h_ : (((rd_T53 l0 x10_3).f1) : Int) < ((x7_3.length : Int) : Int) := dt_; first | (have e_ := (Kd.R_reads' HO_7.out).1; omega) | simpa only [Ny136.out, List.length_set] using h_); have ql139 : ((((rd_T53 l0 x10_3).f1) : Int) < ((x7_3.length : Int) : Int)) = True := eq_true (dt_); obtain ⟨ad139, e139, hx139_0⟩ := Kd.at_int (Kd.R_reads' HO_7.out).2.2 ((rd_T53 l0 x10_3).f1) p139 q139; obtain rfl : (⟨go10, 0, none⟩ : Addr) = ad139 := (by injection e139); (first | simp only [add_plain] at hx139_0 | simp only [add_at] at hx139_0 | simp only [Addr.add, Nat.zero_add] at hx139_0 | skip); replace p139 := eq_true p139; replace q139 := eq_true q139; have p140 : 0 ≤ (((rd_T53 l0 x10_3).f0) : Int) := dt_; have q140 : ((rd_T53 l0 x10_3).f0) < (y136.length : Int) := (by have h_ : (((rd_T53 l0 x10_3).f0) : Int) < ((x7_3.length : Int) : Int) := dt_; first | (have e_ := (Kd.R_reads' HO_7.out).1; omega) | simpa only [Ny136.out, List.length_set] using h_); have ql140 : ((((rd_T53 l0 x10_3).f0) : Int) < ((x7_3.length : Int) : Int)) = True := eq_true (dt_); obtain ⟨ad140, e140, hx140_0⟩ := Kd.at_int (Kd.R_reads' HO_7.out).2.2 ((rd_T53 l0 x10_3).f0) p140 q140; obtain rfl : (⟨go10, 0, none⟩ : Addr) = ad140 := (by injection e140); (first | simp only [add_plain] at hx140_0 | simp only [add_at] at hx140_0 | simp only [Addr.add, Nat.zero_add] at hx140_0 | skip); replace p140 := eq_true p140; replace q140 := eq_true q140; have p142 : 0 ≤ (((rd_T53 l0 x10_3).f0) : Int) := dt_; have q142 : ((rd_T53 l0 x10_3).f0) < (y136.length : Int) := (by have h_ : (((rd_T53 l0 x10_3).f0) : Int) < ((x7_3.length : Int) : Int) := dt_; first | (have e_ := (Kd.R_reads' HO_7.out).1; omega) | simpa only [Ny136.out, List.length_set] using h_); have ql142 : ((((rd_T53 l0 x10_3).f0) : Int) < ((x7_3.length : Int) : Int)) = True := eq_true (dt_); obtain ⟨ad142, e142, hx142_0⟩ := Kd.at_int (Kd.R_reads' HO_7.out).2.2 ((rd_T53 l0 x10_3).f0) p142 q142; obtain rfl : (⟨go10, 0, none⟩ : Addr) = ad142 := (by injection e142); (first | simp only [add_plain] at hx142_0 | simp only [add_at] at hx142_0 | simp only [Addr.add, Nat.zero_add] at hx142_0 | skip); replace p142 := eq_true p142; replace q142 := eq_true q142; have p49 : 0 ≤ (((rd_T53 l0 x10_3).f0) : Int) := dt_; have q49 : (((rd_T53 l0 x10_3).f0) : Int) < ((x7_3.length : Int) : Int) := dt_; obtain ⟨hx49_0, hf49_0⟩ := Kd.R_celln 0 HO_7.out (((rd_T53 l0 x10_3).f0) : Int) p49 q49; replace p49 := eq_true p49; replace q49 := eq_true q49; obtain ⟨hy52_, hz52_⟩ := Kd.R_celln 0 HO_7.out (((rd_T53 l0 x10_3).f0) : Int) (dt_) (dt_); have HP52 := Kd.R_putg HO_7.out (((rd_T53 l0 x10_3).f0) : Int) (wrap64 ((rd y136 ((rd_T53 l0 x10_3).f1)) + ((rd_T53 l0 x10_3).f2)))) | ((with_reducible refine gate_store (t := 3) (p := 121) rfl ?_); (try (rw [drewN_self w51]; generalize hq_ : World.drewN w51 _ = w51; replace HO_7 := Aside0.mk (Kd.R_at hq_ HO_7.out); replace HB := Aside0.mk (below_at hq_ HB.out); clear hq_; (try (obtain ⟨hy52_, hz52_⟩ := Kd.R_celln 0 HO_7.out (((rd_T53 l0 x10_3).f0) : Int) (dt_) (dt_))); (try (have HP52 := Kd.R_putg HO_7.out (((rd_T53 l0 x10_3).f0) : Int) (wrap64 ((rd y136 ((rd_T53 l0 x10_3).f1)) + ((rd_T53 l0 x10_3).f2))))))); refine store_event (t := 3) (p := 121) (v := ?vo_w53) (w1 := (w51.setCell ⟨go10, (((rd_T53 l0 x10_3).f0) : Int).toNat, none⟩ (.int .i64 (wrap64 ((rd y136 ((rd_T53 l0 x10_3).f1)) + ((rd_T53 l0 x10_3).f2)))))) ?hg ?ho ?hn ?hr ?_; (case ho => rfl); (case hg => rfl); (case hn => rfl); (case hr => first | (go_simp; done) | (go_simp; rfl)); intro w53 hw; have hg : w51.grownBy w53 (some go10) := (by rw [hw]; exact HP52.2); have hp_ : Kd.R (Kd.int .i64) 3 w53 w.heap.size (fun _ => True) (.slice (some ⟨go10, 0, none⟩) x7_3.length co10) y143 := (by rw [hw, Ny143.out]; exact HP52.1); clear HP52; replace HO_7 := Aside0.mk (hp_); replace HB := Aside0.mk ((by rw [hw]; exact below_set (HB.out) GB10.out : Below w.heap.size w w53)); clear hg hw hp_))
                               repeat (go_quiet (first | ((with_reducible refine gate_store (t := 3) (p := 87) rfl ?_); (try (rw [drewN_self wc]; generalize hq_ : World.drewN wc _ = wc; replace HO_7 := Aside0.mk (Kd.R_at hq_ HO_7.out); replace HB := Aside0.mk (below_at hq_ HB.out); clear hq_; (try (have HP50 := Kd.R_putg HO_7.out (((rd_T53 l0 x10_3).f1) : Int) (wrap64 ((rd x7_3 ((rd_T53 l0 x10_3).f0)) + ((rd_T53 l0 x10_3).f2))))))); refine store_event (t := 3) (p := 87) (v := ?vo_w51) (w1 := (wc.setCell ⟨go10, (((rd_T53 l0 x10_3).f1) : Int).toNat, none⟩ (.int .i64 (wrap64 ((rd x7_3 ((rd_T53 l0 x10_3).f0)) + ((rd_T53 l0 x10_3).f2)))))) ?hg ?ho ?hn ?hr ?_; (case ho => rfl); (case hg => rfl); (case hn => rfl); (case hr => first | (go_simp; done) | (go_simp; rfl)); intro w51 hw; have hg : wc.grownBy w51 (some go10) := (by rw [hw]; exact HP50.2); have hp_ : Kd.R (Kd.int .i64) 3 w51 w.heap.size (fun _ => True) (.slice (some ⟨go10, 0, none⟩) x7_3.length co10) y136 := (by rw [hw, Ny136.out]; exact HP50.1); clear HP50; replace HO_7 := Aside0.mk (hp_); replace HB := Aside0.mk ((by rw [hw]; exact below_set (HB.out) GB10.out : Below w.heap.size w w51)); clear hg hw hp_; have p137 : 0 ≤ (((rd_T53 l0 x10_3).f1) : Int) := dt_; have q137 : ((rd_T53 l0 x10_3).f1) < (y136.length : Int) := (by have h_ : (((rd_T53 l0 x10_3).f1) : Int) < ((x7_3.length : Int) : Int) := dt_; first | (have e_ := (Kd.R_reads' HO_7.out).1; omega) | simpa only [Ny136.out, List.length_set] using h_); have ql137 : ((((rd_T53 l0 x10_3).f1) : Int) < ((x7_3.length : Int) : Int)) = True := eq_true (dt_); obtain ⟨ad137, e137, hx137_0⟩ := Kd.at_int (Kd.R_reads' HO_7.out).2.2 ((rd_T53 l0 x10_3).f1) p137 q137; obtain rfl : (⟨go10, 0, none⟩ : Addr) = ad137 := (by injection e137); (first | simp only [add_plain] at hx137_0 | simp only [add_at] at hx137_0 | simp only [Addr.add, Nat.zero_add] at hx137_0 | skip); replace p137 := eq_true p137; replace q137 := eq_true q137; have p138 : 0 ≤ (x10_3 : Int) := dt_; have q138 : x10_3 < (l0.length : Int) := dt_; obtain ⟨ad138, e138, hx138_0, hx138_1, hx138_2, hx138_3, hx138_4⟩ := at_T53 HR0.out x10_3 p138 q138; obtain rfl : ad127 = ad138 := (by injection e138); replace hx138_0 := bc_ HB.out hx138_0; replace hx138_1 := bc_ HB.out hx138_1; replace hx138_2 := bc_ HB.out hx138_2; replace hx138_3 := bc_ HB.out hx138_3; replace hx138_4 := bc_ HB.out hx138_4; replace p138 := eq_true p138; replace q138 := eq_true q138; have p139 : 0 ≤ (((rd_T53 l0 x10_3).f1) : Int) := dt_; have q139 : ((rd_T53 l0 x10_3).f1) < (y136.length : Int) := (by have h_ : (((rd_T53 l0 x10_3).f1) : Int) < ((x7_3.length : Int) : Int) := dt_; first | (have e_ := (Kd.R_reads' HO_7.out).1; omega) | simpa only [Ny136.out, List.length_set] using h_); have ql139 : ((((rd_T53 l0 x10_3).f1) : Int) < ((x7_3.length : Int) : Int)) = True := eq_true (dt_); obtain ⟨ad139, e139, hx139_0⟩ := Kd.at_int (Kd.R_reads' HO_7.out).2.2 ((rd_T53 l0 x10_3).f1) p139 q139; obtain rfl : (⟨go10, 0, none⟩ : Addr) = ad139 := (by injection e139); (first | simp only [add_plain] at hx139_0 | simp only [add_at] at hx139_0 | simp only [Addr.add, Nat.zero_add] at hx139_0 | skip); replace p139 := eq_true p139; replace q139 := eq_true q139; have p140 : 0 ≤ (((rd_T53 l0 x10_3).f0) : Int) := dt_; have q140 : ((rd_T53 l0 x10_3).f0) < (y136.length : Int) := (by have h_ : (((rd_T53 l0 x10_3).f0) : Int) < ((x7_3.length : Int) : Int) := dt_; first | (have e_ := (Kd.R_reads' HO_7.out).1; omega) | simpa only [Ny136.out, List.length_set] using h_); have ql140 : ((((rd_T53 l0 x10_3).f0) : Int) < ((x7_3.length : Int) : Int)) = True := eq_true (dt_); obtain ⟨ad140, e140, hx140_0⟩ := Kd.at_int (Kd.R_reads' HO_7.out).2.2 ((rd_T53 l0 x10_3).f0) p140 q140; obtain rfl : (⟨go10, 0, none⟩ : Addr) = ad140 := (by injection e140); (first | simp only [add_plain] at hx140_0 | simp only [add_at] at hx140_0 | simp only [Addr.add, Nat.zero_add] at hx140_0 | skip); replace p140 := eq_true p140; replace q140 := eq_true q140; have p142 : 0 ≤ (((rd_T53 l0 x10_3).f0) : Int) := dt_; have q142 : ((rd_T53 l0 x10_3).f0) < (y136.length : Int) := (by have h_ : (((rd_T53 l0 x10_3).f0) : Int) < ((x7_3.length : Int) : Int) := dt_; first | (have e_ := (Kd.R_reads' HO_7.out).1; omega) | simpa only [Ny136.out, List.length_set] using h_); have ql142 : ((((rd_T53 l0 x10_3).f0) : Int) < ((x7_3.length : Int) : Int)) = True := eq_true (dt_); obtain ⟨ad142, e142, hx142_0⟩ := Kd.at_int (Kd.R_reads' HO_7.out).2.2 ((rd_T53 l0 x10_3).f0) p142 q142; obtain rfl : (⟨go10, 0, none⟩ : Addr) = ad142 := (by injection e142); (first | simp only [add_plain] at hx142_0 | simp only [add_at] at hx142_0 | simp only [Addr.add, Nat.zero_add] at hx142_0 | skip); replace p142 := eq_true p142; replace q142 := eq_true q142; have p49 : 0 ≤ (((rd_T53 l0 x10_3).f0) : Int) := dt_; have q49 : (((rd_T53 l0 x10_3).f0) : Int) < ((x7_3.length : Int) : Int) := dt_; obtain ⟨hx49_0, hf49_0⟩ := Kd.R_celln 0 HO_7.out (((rd_T53 l0 x10_3).f0) : Int) p49 q49; replace p49 := eq_true p49; replace q49 := eq_true q49; obtain ⟨hy52_, hz52_⟩ := Kd.R_celln 0 HO_7.out (((rd_T53 l0 x10_3).f0) : Int) (dt_) (dt_); have HP52 := Kd.R_putg HO_7.out (((rd_T53 l0 x10_3).f0) : Int) (wrap64 ((rd y136 ((rd_T53 l0 x10_3).f1)) + ((rd_T53 l0 x10_3).f2)))) | ((with_reducible refine gate_store (t := 3) (p := 121) rfl ?_); (try (rw [drewN_self w51]; generalize hq_ : World.drewN w51 _ = w51; replace HO_7 := Aside0.mk (Kd.R_at hq_ HO_7.out); replace HB := Aside0.mk (below_at hq_ HB.out); clear hq_; (try (obtain ⟨hy52_, hz52_⟩ := Kd.R_celln 0 HO_7.out (((rd_T53 l0 x10_3).f0) : Int) (dt_) (dt_))); (try (have HP52 := Kd.R_putg HO_7.out (((rd_T53 l0 x10_3).f0) : Int) (wrap64 ((rd y136 ((rd_T53 l0 x10_3).f1)) + ((rd_T53 l0 x10_3).f2))))))); refine store_event (t := 3) (p := 121) (v := ?vo_w53) (w1 := (w51.setCell ⟨go10, (((rd_T53 l0 x10_3).f0) : Int).toNat, none⟩ (.int .i64 (wrap64 ((rd y136 ((rd_T53 l0 x10_3).f1)) + ((rd_T53 l0 x10_3).f2)))))) ?hg ?ho ?hn ?hr ?_; (case ho => rfl); (case hg => rfl); (case hn => rfl); (case hr => first | (go_simp; done) | (go_simp; rfl)); intro w53 hw; have hg : w51.grownBy w53 (some go10) := (by rw [hw]; exact HP52.2); have hp_ : Kd.R (Kd.int .i64) 3 w53 w.heap.size (fun _ => True) (.slice (some ⟨go10, 0, none⟩) x7_3.length co10) y143 := (by rw [hw, Ny143.out]; exact HP52.1); clear HP52; replace HO_7 := Aside0.mk (hp_); replace HB := Aside0.mk ((by rw [hw]; exact below_set (HB.out) GB10.out : Below w.heap.size w w53)); clear hg hw hp_)); try go_wp2_with (first | ((with_reducible refine gate_store (t := 3) (p := 87) rfl ?_); (try (rw [drewN_self wc]; generalize hq_ : World.drewN wc _ = wc; replace HO_7 := Aside0.mk (Kd.R_at hq_ HO_7.out); replace HB := Aside0.mk (below_at hq_ HB.out); clear hq_; (try (have HP50 := Kd.R_putg HO_7.out (((rd_T53 l0 x10_3).f1) : Int) (wrap64 ((rd x7_3 ((rd_T53 l0 x10_3).f0)) + ((rd_T53 l0 x10_3).f2))))))); refine store_event (t := 3) (p := 87) (v := ?vo_w51) (w1 := (wc.setCell ⟨go10, (((rd_T53 l0 x10_3).f1) : Int).toNat, none⟩ (.int .i64 (wrap64 ((rd x7_3 ((rd_T53 l0 x10_3).f0)) + ((rd_T53 l0 x10_3).f2)))))) ?hg ?ho ?hn ?hr ?_; (case ho => rfl); (case hg => rfl); (case hn => rfl); (case hr => first | (go_simp; done) | (go_simp; rfl)); intro w51 hw; have hg : wc.grownBy w51 (some go10) := (by rw [hw]; exact HP50.2); have hp_ : Kd.R (Kd.int .i64) 3 w51 w.heap.size (fun _ => True) (.slice (some ⟨go10, 0, none⟩) x7_3.length co10) y136 := (by rw [hw, Ny136.out]; exact HP50.1); clear HP50; replace HO_7 := Aside0.mk (hp_); replace HB := Aside0.mk ((by rw [hw]; exact below_set (HB.out) GB10.out : Below w.heap.size w w51)); clear hg hw hp_; have p137 : 0 ≤ (((rd_T53 l0 x10_3).f1) : Int) := dt_; have q137 : ((rd_T53 l0 x10_3).f1) < (y136.length : Int) := (by have h_ : (((rd_T53 l0 x10_3).f1) : Int) < ((x7_3.length : Int) : Int) := dt_; first | (have e_ := (Kd.R_reads' HO_7.out).1; omega) | simpa only [Ny136.out, List.length_set] using h_); have ql137 : ((((rd_T53 l0 x10_3).f1) : Int) < ((x7_3.length : Int) : Int)) = True := eq_true (dt_); obtain ⟨ad137, e137, hx137_0⟩ := Kd.at_int (Kd.R_reads' HO_7.out).2.2 ((rd_T53 l0 x10_3).f1) p137 q137; obtain rfl : (⟨go10, 0, none⟩ : Addr) = ad137 := (by injection e137); (first | simp only [add_plain] at hx137_0 | simp only [add_at] at hx137_0 | simp only [Addr.add, Nat.zero_add] at hx137_0 | skip); replace p137 := eq_true p137; replace q137 := eq_true q137; have p138 : 0 ≤ (x10_3 : Int) := dt_; have q138 : x10_3 < (l0.length : Int) := dt_; obtain ⟨ad138, e138, hx138_0, hx138_1, hx138_2, hx138_3, hx138_4⟩ := at_T53 HR0.out x10_3 p138 q138; obtain rfl : ad127 = ad138 := (by injection e138); replace hx138_0 := bc_ HB.out hx138_0; replace hx138_1 := bc_ HB.out hx138_1; replace hx138_2 := bc_ HB.out hx138_2; replace hx138_3 := bc_ HB.out hx138_3; replace hx138_4 := bc_ HB.out hx138_4; replace p138 := eq_true p138; replace q138 := eq_true q138; have p139 : 0 ≤ (((rd_T53 l0 x10_3).f1) : Int) := dt_; have q139 : ((rd_T53 l0 x10_3).f1) < (y136.length : Int) := (by have h_ : (((rd_T53 l0 x10_3).f1) : Int) < ((x7_3.length : Int) : Int) := dt_; first | (have e_ := (Kd.R_reads' HO_7.out).1; omega) | simpa only [Ny136.out, List.length_set] using h_); have ql139 : ((((rd_T53 l0 x10_3).f1) : Int) < ((x7_3.length : Int) : Int)) = True := eq_true (dt_); obtain ⟨ad139, e139, hx139_0⟩ := Kd.at_int (Kd.R_reads' HO_7.out).2.2 ((rd_T53 l0 x10_3).f1) p139 q139; obtain rfl : (⟨go10, 0, none⟩ : Addr) = ad139 := (by injection e139); (first | simp only [add_plain] at hx139_0 | simp only [add_at] at hx139_0 | simp only [Addr.add, Nat.zero_add] at hx139_0 | skip); replace p139 := eq_true p139; replace q139 := eq_true q139; have p140 : 0 ≤ (((rd_T53 l0 x10_3).f0) : Int) := dt_; have q140 : ((rd_T53 l0 x10_3).f0) < (y136.length : Int) := (by have h_ : (((rd_T53 l0 x10_3).f0) : Int) < ((x7_3.length : Int) : Int) := dt_; first | (have e_ := (Kd.R_reads' HO_7.out).1; omega) | simpa only [Ny136.out, List.length_set] using h_); have ql140 : ((((rd_T53 l0 x10_3).f0) : Int) < ((x7_3.length : Int) : Int)) = True := eq_true (dt_); obtain ⟨ad140, e140, hx140_0⟩ := Kd.at_int (Kd.R_reads' HO_7.out).2.2 ((rd_T53 l0 x10_3).f0) p140 q140; obtain rfl : (⟨go10, 0, none⟩ : Addr) = ad140 := (by injection e140); (first | simp only [add_plain] at hx140_0 | simp only [add_at] at hx140_0 | simp only [Addr.add, Nat.zero_add] at hx140_0 | skip); replace p140 := eq_true p140; replace q140 := eq_true q140; have p142 : 0 ≤ (((rd_T53 l0 x10_3).f0) : Int) := dt_; have q142 : ((rd_T53 l0 x10_3).f0) < (y136.length : Int) := (by have h_ : (((rd_T53 l0 x10_3).f0) : Int) < ((x7_3.length : Int) : Int) := dt_; first | (have e_ := (Kd.R_reads' HO_7.out).1; omega) | simpa only [Ny136.out, List.length_set] using h_); have ql142 : ((((rd_T53 l0 x10_3).f0) : Int) < ((x7_3.length : Int) : Int)) = True := eq_true (dt_); obtain ⟨ad142, e142, hx142_0⟩ := Kd.at_int (Kd.R_reads' HO_7.out).2.2 ((rd_T53 l0 x10_3).f0) p142 q142; obtain rfl : (⟨go10, 0, none⟩ : Addr) = ad142 := (by injection e142); (first | simp only [add_plain] at hx142_0 | simp only [add_at] at hx142_0 | simp only [Addr.add, Nat.zero_add] at hx142_0 | skip); replace p142 := eq_true p142; replace q142 := eq_true q142; have p49 : 0 ≤ (((rd_T53 l0 x10_3).f0) : Int) := dt_; have q49 : (((rd_T53 l0 x10_3).f0) : Int) < ((x7_3.length : Int) : Int) := dt_; obtain ⟨hx49_0, hf49_0⟩ := Kd.R_celln 0 HO_7.out (((rd_T53 l0 x10_3).f0) : Int) p49 q49; replace p49 := eq_true p49; replace q49 := eq_true q49; obtain ⟨hy52_, hz52_⟩ := Kd.R_celln 0 HO_7.out (((rd_T53 l0 x10_3).f0) : Int) (dt_) (dt_); have HP52 := Kd.R_putg HO_7.out (((rd_T53 l0 x10_3).f0) : Int) (wrap64 ((rd y136 ((rd_T53 l0 x10_3).f1)) + ((rd_T53 l0 x10_3).f2)))) | ((with_reducible refine gate_store (t := 3) (p := 121) rfl ?_); (try (rw [drewN_self w51]; generalize hq_ : World.drewN w51 _ = w51; replace HO_7 := Aside0.mk (Kd.R_at hq_ HO_7.out); replace HB := Aside0.mk (below_at hq_ HB.out); clear hq_; (try (obtain ⟨hy52_, hz52_⟩ := Kd.R_celln 0 HO_7.out (((rd_T53 l0 x10_3).f0) : Int) (dt_) (dt_))); (try (have HP52 := Kd.R_putg HO_7.out (((rd_T53 l0 x10_3).f0) : Int) (wrap64 ((rd y136 ((rd_T53 l0 x10_3).f1)) + ((rd_T53 l0 x10_3).f2))))))); refine store_event (t := 3) (p := 121) (v := ?vo_w53) (w1 := (w51.setCell ⟨go10, (((rd_T53 l0 x10_3).f0) : Int).toNat, none⟩ (.int .i64 (wrap64 ((rd y136 ((rd_T53 l0 x10_3).f1)) + ((rd_T53 l0 x10_3).f2)))))) ?hg ?ho ?hn ?hr ?_; (case ho => rfl); (case hg => rfl); (case hn => rfl); (case hr => first | (go_simp; done) | (go_simp; rfl)); intro w53 hw; have hg : w51.grownBy w53 (some go10) := (by rw [hw]; exact HP52.2); have hp_ : Kd.R (Kd.int .i64) 3 w53 w.heap.size (fun _ => True) (.slice (some ⟨go10, 0, none⟩) x7_3.length co10) y143 := (by rw [hw, Ny143.out]; exact HP52.1); clear HP52; replace HO_7 := Aside0.mk (hp_); replace HB := Aside0.mk ((by rw [hw]; exact below_set (HB.out) GB10.out : Below w.heap.size w w53)); clear hg hw hp_)))
                               (try simp only [← hl7_3])
                               go_roundg kj27
                               case measure => have := HK1.out; have := HK2.out; have := HK3.out; have := HJ15.out; have := HJ27.out; omega
                               case rel => exact ⟨(y143), (true), (wrap64 (x10_3 + 1)), (by first | rfl | (simp; done) | (simp [*]; done)), (by first | rfl | (simp; done) | (simp [*]; done)), H', ⟨by have := HK1.out; have := HK2.out; have := HK3.out; have := HJ15.out; have := HJ27.out; omega⟩, ⟨by (try simp only [hl7_2]); (try simp only [hl7_3]); (with_reducible repeat (first | apply Kd.R_alloc | apply Kd.R_drewN | apply Kd.R_drew)); first | exact HO_7.out | (rw [Ny143.out]; exact (Kd.R_putg (Kd.R_drewN HO_7.out _) _ _).1) | (rw [Ny143.out]; exact (Kd.R_putg HO_7.out _ _).1)⟩, ⟨by repeat (first | (with_reducible first | exact HB.out | apply below_alloc | apply pw_below_drewN | apply below_drew1) | exact HB.out | (first | exact below_set (pw_below_drewN HB.out _) GB10.out | exact below_set HB.out GB10.out))⟩⟩
                              ·
                               rw [if_neg c48] at H
                               have c48b0 : decide ((wrap64 ((rd y136 ((rd_T53 l0 x10_3).f1)) + ((rd_T53 l0 x10_3).f2))) < (rd y136 ((rd_T53 l0 x10_3).f0))) = false := decide_eq_false c48; clear c48; have H' := Aside0.mk H; clear H; have p36 : 0 ≤ (((rd_T53 l0 x10_3).f1) : Int) := dt_; have q36 : (((rd_T53 l0 x10_3).f1) : Int) < ((x7_3.length : Int) : Int) := dt_; obtain ⟨hx36_0, hf36_0⟩ := Kd.R_celln 0 HO_7.out (((rd_T53 l0 x10_3).f1) : Int) p36 q36; replace p36 := eq_true p36; replace q36 := eq_true q36; have HP54 := Kd.R_putg HO_7.out (((rd_T53 l0 x10_3).f1) : Int) (wrap64 ((rd x7_3 ((rd_T53 l0 x10_3).f0)) + ((rd_T53 l0 x10_3).f2)))
                               go_wp2_with (first | ((with_reducible refine gate_store (t := 3) (p := 87) rfl ?_); (try (rw [drewN_self wc]; generalize hq_ : World.drewN wc _ = wc; replace HO_7 := Aside0.mk (Kd.R_at hq_ HO_7.out); replace HB := Aside0.mk (below_at hq_ HB.out); clear hq_; (try (have HP54 := Kd.R_putg HO_7.out (((rd_T53 l0 x10_3).f1) : Int) (wrap64 ((rd x7_3 ((rd_T53 l0 x10_3).f0)) + ((rd_T53 l0 x10_3).f2))))))); refine store_event (t := 3) (p := 87) (v := ?vo_w55) (w1 := (wc.setCell ⟨go10, (((rd_T53 l0 x10_3).f1) : Int).toNat, none⟩ (.int .i64 (wrap64 ((rd x7_3 ((rd_T53 l0 x10_3).f0)) + ((rd_T53 l0 x10_3).f2)))))) ?hg ?ho ?hn ?hr ?_; (case ho => rfl); (case hg => rfl); (case hn => rfl); (case hr => first | (go_simp; done) | (go_simp; rfl)); intro w55 hw; have hg : wc.grownBy w55 (some go10) := (by rw [hw]; exact HP54.2); have hp_ : Kd.R (Kd.int .i64) 3 w55 w.heap.size (fun _ => True) (.slice (some ⟨go10, 0, none⟩) x7_3.length co10) y136 := (by rw [hw, Ny136.out]; exact HP54.1); clear HP54; replace HO_7 := Aside0.mk (hp_); replace HB := Aside0.mk ((by rw [hw]; exact below_set (HB.out) GB10.out : Below w.heap.size w w55)); clear hg hw hp_; have p137 : 0 ≤ (((rd_T53 l0 x10_3).f1) : Int) := dt_; have q137 : ((rd_T53 l0 x10_3).f1) < (y136.length : Int) := (by have h_ : (((rd_T53 l0 x10_3).f1) : Int) < ((x7_3.length : Int) : Int) := dt_; first | (have e_ := (Kd.R_reads' HO_7.out).1; omega) | simpa only [Ny136.out, List.length_set] using h_); have ql137 : ((((rd_T53 l0 x10_3).f1) : Int) < ((x7_3.length : Int) : Int)) = True := eq_true (dt_); obtain ⟨ad137, e137, hx137_0⟩ := Kd.at_int (Kd.R_reads' HO_7.out).2.2 ((rd_T53 l0 x10_3).f1) p137 q137; obtain rfl : (⟨go10, 0, none⟩ : Addr) = ad137 := (by injection e137); (first | simp only [add_plain] at hx137_0 | simp only [add_at] at hx137_0 | simp only [Addr.add, Nat.zero_add] at hx137_0 | skip); replace p137 := eq_true p137; replace q137 := eq_true q137; have p138 : 0 ≤ (x10_3 : Int) := dt_; have q138 : x10_3 < (l0.length : Int) := dt_; obtain ⟨ad138, e138, hx138_0, hx138_1, hx138_2, hx138_3, hx138_4⟩ := at_T53 HR0.out x10_3 p138 q138; obtain rfl : ad127 = ad138 := (by injection e138); replace hx138_0 := bc_ HB.out hx138_0; replace hx138_1 := bc_ HB.out hx138_1; replace hx138_2 := bc_ HB.out hx138_2; replace hx138_3 := bc_ HB.out hx138_3; replace hx138_4 := bc_ HB.out hx138_4; replace p138 := eq_true p138; replace q138 := eq_true q138; have p139 : 0 ≤ (((rd_T53 l0 x10_3).f1) : Int) := dt_; have q139 : ((rd_T53 l0 x10_3).f1) < (y136.length : Int) := (by have h_ : (((rd_T53 l0 x10_3).f1) : Int) < ((x7_3.length : Int) : Int) := dt_; first | (have e_ := (Kd.R_reads' HO_7.out).1; omega) | simpa only [Ny136.out, List.length_set] using h_); have ql139 : ((((rd_T53 l0 x10_3).f1) : Int) < ((x7_3.length : Int) : Int)) = True := eq_true (dt_); obtain ⟨ad139, e139, hx139_0⟩ := Kd.at_int (Kd.R_reads' HO_7.out).2.2 ((rd_T53 l0 x10_3).f1) p139 q139; obtain rfl : (⟨go10, 0, none⟩ : Addr) = ad139 := (by injection e139); (first | simp only [add_plain] at hx139_0 | simp only [add_at] at hx139_0 | simp only [Addr.add, Nat.zero_add] at hx139_0 | skip); replace p139 := eq_true p139; replace q139 := eq_true q139; have p140 : 0 ≤ (((rd_T53 l0 x10_3).f0) : Int) := dt_; have q140 : ((rd_T53 l0 x10_3).f0) < (y136.length : Int) := (by have h_ : (((rd_T53 l0 x10_3).f0) : Int) < ((x7_3.length : Int) : Int) := dt_; first | (have e_ := (Kd.R_reads' HO_7.out).1; omega) | simpa only [Ny136.out, List.length_set] using h_); have ql140 : ((((rd_T53 l0 x10_3).f0) : Int) < ((x7_3.length : Int) : Int)) = True := eq_true (dt_); obtain ⟨ad140, e140, hx140_0⟩ := Kd.at_int (Kd.R_reads' HO_7.out).2.2 ((rd_T53 l0 x10_3).f0) p140 q140; obtain rfl : (⟨go10, 0, none⟩ : Addr) = ad140 := (by injection e140); (first | simp only [add_plain] at hx140_0 | simp only [add_at] at hx140_0 | simp only [Addr.add, Nat.zero_add] at hx140_0 | skip); replace p140 := eq_true p140; replace q140 := eq_true q140; have p142 : 0 ≤ (((rd_T53 l0 x10_3).f0) : Int) := dt_; have q142 : ((rd_T53 l0 x10_3).f0) < (y136.length : Int) := (by have h_ : (((rd_T53 l0 x10_3).f0) : Int) < ((x7_3.length : Int) : Int) := dt_; first | (have e_ := (Kd.R_reads' HO_7.out).1; omega) | simpa only [Ny136.out, List.length_set] using h_); have ql142 : ((((rd_T53 l0 x10_3).f0) : Int) < ((x7_3.length : Int) : Int)) = True := eq_true (dt_); obtain ⟨ad142, e142, hx142_0⟩ := Kd.at_int (Kd.R_reads' HO_7.out).2.2 ((rd_T53 l0 x10_3).f0) p142 q142; obtain rfl : (⟨go10, 0, none⟩ : Addr) = ad142 := (by injection e142); (first | simp only [add_plain] at hx142_0 | simp only [add_at] at hx142_0 | simp only [Addr.add, Nat.zero_add] at hx142_0 | skip); replace p142 := eq_true p142; replace q142 := eq_true q142))
                               repeat (go_quiet (first | ((with_reducible refine gate_store (t := 3) (p := 87) rfl ?_); (try (rw [drewN_self wc]; generalize hq_ : World.drewN wc _ = wc; replace HO_7 := Aside0.mk (Kd.R_at hq_ HO_7.out); replace HB := Aside0.mk (below_at hq_ HB.out); clear hq_; (try (have HP54 := Kd.R_putg HO_7.out (((rd_T53 l0 x10_3).f1) : Int) (wrap64 ((rd x7_3 ((rd_T53 l0 x10_3).f0)) + ((rd_T53 l0 x10_3).f2))))))); refine store_event (t := 3) (p := 87) (v := ?vo_w55) (w1 := (wc.setCell ⟨go10, (((rd_T53 l0 x10_3).f1) : Int).toNat, none⟩ (.int .i64 (wrap64 ((rd x7_3 ((rd_T53 l0 x10_3).f0)) + ((rd_T53 l0 x10_3).f2)))))) ?hg ?ho ?hn ?hr ?_; (case ho => rfl); (case hg => rfl); (case hn => rfl); (case hr => first | (go_simp; done) | (go_simp; rfl)); intro w55 hw; have hg : wc.grownBy w55 (some go10) := (by rw [hw]; exact HP54.2); have hp_ : Kd.R (Kd.int .i64) 3 w55 w.heap.size (fun _ => True) (.slice (some ⟨go10, 0, none⟩) x7_3.length co10) y136 := (by rw [hw, Ny136.out]; exact HP54.1); clear HP54; replace HO_7 := Aside0.mk (hp_); replace HB := Aside0.mk ((by rw [hw]; exact below_set (HB.out) GB10.out : Below w.heap.size w w55)); clear hg hw hp_; have p137 : 0 ≤ (((rd_T53 l0 x10_3).f1) : Int) := dt_; have q137 : ((rd_T53 l0 x10_3).f1) < (y136.length : Int) := (by have h_ : (((rd_T53 l0 x10_3).f1) : Int) < ((x7_3.length : Int) : Int) := dt_; first | (have e_ := (Kd.R_reads' HO_7.out).1; omega) | simpa only [Ny136.out, List.length_set] using h_); have ql137 : ((((rd_T53 l0 x10_3).f1) : Int) < ((x7_3.length : Int) : Int)) = True := eq_true (dt_); obtain ⟨ad137, e137, hx137_0⟩ := Kd.at_int (Kd.R_reads' HO_7.out).2.2 ((rd_T53 l0 x10_3).f1) p137 q137; obtain rfl : (⟨go10, 0, none⟩ : Addr) = ad137 := (by injection e137); (first | simp only [add_plain] at hx137_0 | simp only [add_at] at hx137_0 | simp only [Addr.add, Nat.zero_add] at hx137_0 | skip); replace p137 := eq_true p137; replace q137 := eq_true q137; have p138 : 0 ≤ (x10_3 : Int) := dt_; have q138 : x10_3 < (l0.length : Int) := dt_; obtain ⟨ad138, e138, hx138_0, hx138_1, hx138_2, hx138_3, hx138_4⟩ := at_T53 HR0.out x10_3 p138 q138; obtain rfl : ad127 = ad138 := (by injection e138); replace hx138_0 := bc_ HB.out hx138_0; replace hx138_1 := bc_ HB.out hx138_1; replace hx138_2 := bc_ HB.out hx138_2; replace hx138_3 := bc_ HB.out hx138_3; replace hx138_4 := bc_ HB.out hx138_4; replace p138 := eq_true p138; replace q138 := eq_true q138; have p139 : 0 ≤ (((rd_T53 l0 x10_3).f1) : Int) := dt_; have q139 : ((rd_T53 l0 x10_3).f1) < (y136.length : Int) := (by have h_ : (((rd_T53 l0 x10_3).f1) : Int) < ((x7_3.length : Int) : Int) := dt_; first | (have e_ := (Kd.R_reads' HO_7.out).1; omega) | simpa only [Ny136.out, List.length_set] using h_); have ql139 : ((((rd_T53 l0 x10_3).f1) : Int) < ((x7_3.length : Int) : Int)) = True := eq_true (dt_); obtain ⟨ad139, e139, hx139_0⟩ := Kd.at_int (Kd.R_reads' HO_7.out).2.2 ((rd_T53 l0 x10_3).f1) p139 q139; obtain rfl : (⟨go10, 0, none⟩ : Addr) = ad139 := (by injection e139); (first | simp only [add_plain] at hx139_0 | simp only [add_at] at hx139_0 | simp only [Addr.add, Nat.zero_add] at hx139_0 | skip); replace p139 := eq_true p139; replace q139 := eq_true q139; have p140 : 0 ≤ (((rd_T53 l0 x10_3).f0) : Int) := dt_; have q140 : ((rd_T53 l0 x10_3).f0) < (y136.length : Int) := (by have h_ : (((rd_T53 l0 x10_3).f0) : Int) < ((x7_3.length : Int) : Int) := dt_; first | (have e_ := (Kd.R_reads' HO_7.out).1; omega) | simpa only [Ny136.out, List.length_set] using h_); have ql140 : ((((rd_T53 l0 x10_3).f0) : Int) < ((x7_3.length : Int) : Int)) = True := eq_true (dt_); obtain ⟨ad140, e140, hx140_0⟩ := Kd.at_int (Kd.R_reads' HO_7.out).2.2 ((rd_T53 l0 x10_3).f0) p140 q140; obtain rfl : (⟨go10, 0, none⟩ : Addr) = ad140 := (by injection e140); (first | simp only [add_plain] at hx140_0 | simp only [add_at] at hx140_0 | simp only [Addr.add, Nat.zero_add] at hx140_0 | skip); replace p140 := eq_true p140; replace q140 := eq_true q140; have p142 : 0 ≤ (((rd_T53 l0 x10_3).f0) : Int) := dt_; have q142 : ((rd_T53 l0 x10_3).f0) < (y136.length : Int) := (by have h_ : (((rd_T53 l0 x10_3).f0) : Int) < ((x7_3.length : Int) : Int) := dt_; first | (have e_ := (Kd.R_reads' HO_7.out).1; omega) | simpa only [Ny136.out, List.length_set] using h_); have ql142 : ((((rd_T53 l0 x10_3).f0) : Int) < ((x7_3.length : Int) : Int)) = True := eq_true (dt_); obtain ⟨ad142, e142, hx142_0⟩ := Kd.at_int (Kd.R_reads' HO_7.out).2.2 ((rd_T53 l0 x10_3).f0) p142 q142; obtain rfl : (⟨go10, 0, none⟩ : Addr) = ad142 := (by injection e142); (first | simp only [add_plain] at hx142_0 | simp only [add_at] at hx142_0 | simp only [Addr.add, Nat.zero_add] at hx142_0 | skip); replace p142 := eq_true p142; replace q142 := eq_true q142)); try go_wp2_with (first | ((with_reducible refine gate_store (t := 3) (p := 87) rfl ?_); (try (rw [drewN_self wc]; generalize hq_ : World.drewN wc _ = wc; replace HO_7 := Aside0.mk (Kd.R_at hq_ HO_7.out); replace HB := Aside0.mk (below_at hq_ HB.out); clear hq_; (try (have HP54 := Kd.R_putg HO_7.out (((rd_T53 l0 x10_3).f1) : Int) (wrap64 ((rd x7_3 ((rd_T53 l0 x10_3).f0)) + ((rd_T53 l0 x10_3).f2))))))); refine store_event (t := 3) (p := 87) (v := ?vo_w55) (w1 := (wc.setCell ⟨go10, (((rd_T53 l0 x10_3).f1) : Int).toNat, none⟩ (.int .i64 (wrap64 ((rd x7_3 ((rd_T53 l0 x10_3).f0)) + ((rd_T53 l0 x10_3).f2)))))) ?hg ?ho ?hn ?hr ?_; (case ho => rfl); (case hg => rfl); (case hn => rfl); (case hr => first | (go_simp; done) | (go_simp; rfl)); intro w55 hw; have hg : wc.grownBy w55 (some go10) := (by rw [hw]; exact HP54.2); have hp_ : Kd.R (Kd.int .i64) 3 w55 w.heap.size (fun _ => True) (.slice (some ⟨go10, 0, none⟩) x7_3.length co10) y136 := (by rw [hw, Ny136.out]; exact HP54.1); clear HP54; replace HO_7 := Aside0.mk (hp_); replace HB := Aside0.mk ((by rw [hw]; exact below_set (HB.out) GB10.out : Below w.heap.size w w55)); clear hg hw hp_; have p137 : 0 ≤ (((rd_T53 l0 x10_3).f1) : Int) := dt_; have q137 : ((rd_T53 l0 x10_3).f1) < (y136.length : Int) := (by have h_ : (((rd_T53 l0 x10_3).f1) : Int) < ((x7_3.length : Int) : Int) := dt_; first | (have e_ := (Kd.R_reads' HO_7.out).1; omega) | simpa only [Ny136.out, List.length_set] using h_); have ql137 : ((((rd_T53 l0 x10_3).f1) : Int) < ((x7_3.length : Int) : Int)) = True := eq_true (dt_); obtain ⟨ad137, e137, hx137_0⟩ := Kd.at_int (Kd.R_reads' HO_7.out).2.2 ((rd_T53 l0 x10_3).f1) p137 q137; obtain rfl : (⟨go10, 0, none⟩ : Addr) = ad137 := (by injection e137); (first | simp only [add_plain] at hx137_0 | simp only [add_at] at hx137_0 | simp only [Addr.add, Nat.zero_add] at hx137_0 | skip); replace p137 := eq_true p137; replace q137 := eq_true q137; have p138 : 0 ≤ (x10_3 : Int) := dt_; have q138 : x10_3 < (l0.length : Int) := dt_; obtain ⟨ad138, e138, hx138_0, hx138_1, hx138_2, hx138_3, hx138_4⟩ := at_T53 HR0.out x10_3 p138 q138; obtain rfl : ad127 = ad138 := (by injection e138); replace hx138_0 := bc_ HB.out hx138_0; replace hx138_1 := bc_ HB.out hx138_1; replace hx138_2 := bc_ HB.out hx138_2; replace hx138_3 := bc_ HB.out hx138_3; replace hx138_4 := bc_ HB.out hx138_4; replace p138 := eq_true p138; replace q138 := eq_true q138; have p139 : 0 ≤ (((rd_T53 l0 x10_3).f1) : Int) := dt_; have q139 : ((rd_T53 l0 x10_3).f1) < (y136.length : Int) := (by have h_ : (((rd_T53 l0 x10_3).f1) : Int) < ((x7_3.length : Int) : Int) := dt_; first | (have e_ := (Kd.R_reads' HO_7.out).1; omega) | simpa only [Ny136.out, List.length_set] using h_); have ql139 : ((((rd_T53 l0 x10_3).f1) : Int) < ((x7_3.length : Int) : Int)) = True := eq_true (dt_); obtain ⟨ad139, e139, hx139_0⟩ := Kd.at_int (Kd.R_reads' HO_7.out).2.2 ((rd_T53 l0 x10_3).f1) p139 q139; obtain rfl : (⟨go10, 0, none⟩ : Addr) = ad139 := (by injection e139); (first | simp only [add_plain] at hx139_0 | simp only [add_at] at hx139_0 | simp only [Addr.add, Nat.zero_add] at hx139_0 | skip); replace p139 := eq_true p139; replace q139 := eq_true q139; have p140 : 0 ≤ (((rd_T53 l0 x10_3).f0) : Int) := dt_; have q140 : ((rd_T53 l0 x10_3).f0) < (y136.length : Int) := (by have h_ : (((rd_T53 l0 x10_3).f0) : Int) < ((x7_3.length : Int) : Int) := dt_; first | (have e_ := (Kd.R_reads' HO_7.out).1; omega) | simpa only [Ny136.out, List.length_set] using h_); have ql140 : ((((rd_T53 l0 x10_3).f0) : Int) < ((x7_3.length : Int) : Int)) = True := eq_true (dt_); obtain ⟨ad140, e140, hx140_0⟩ := Kd.at_int (Kd.R_reads' HO_7.out).2.2 ((rd_T53 l0 x10_3).f0) p140 q140; obtain rfl : (⟨go10, 0, none⟩ : Addr) = ad140 := (by injection e140); (first | simp only [add_plain] at hx140_0 | simp only [add_at] at hx140_0 | simp only [Addr.add, Nat.zero_add] at hx140_0 | skip); replace p140 := eq_true p140; replace q140 := eq_true q140; have p142 : 0 ≤ (((rd_T53 l0 x10_3).f0) : Int) := dt_; have q142 : ((rd_T53 l0 x10_3).f0) < (y136.length : Int) := (by have h_ : (((rd_T53 l0 x10_3).f0) : Int) < ((x7_3.length : Int) : Int) := dt_; first | (have e_ := (Kd.R_reads' HO_7.out).1; omega) | simpa only [Ny136.out, List.length_set] using h_); have ql142 : ((((rd_T53 l0 x10_3).f0) : Int) < ((x7_3.length : Int) : Int)) = True := eq_true (dt_); obtain ⟨ad142, e142, hx142_0⟩ := Kd.at_int (Kd.R_reads' HO_7.out).2.2 ((rd_T53 l0 x10_3).f0) p142 q142; obtain rfl : (⟨go10, 0, none⟩ : Addr) = ad142 := (by injection e142); (first | simp only [add_plain] at hx142_0 | simp only [add_at] at hx142_0 | simp only [Addr.add, Nat.zero_add] at hx142_0 | skip); replace p142 := eq_true p142; replace q142 := eq_true q142)))
                               (try simp only [← hl7_3])
                               go_roundg kj27
                               case measure => have := HK1.out; have := HK2.out; have := HK3.out; have := HJ15.out; have := HJ27.out; omega
                               case rel => exact ⟨(y136), (true), (wrap64 (x10_3 + 1)), (by first | rfl | (simp; done) | (simp [*]; done)), (by first | rfl | (simp; done) | (simp [*]; done)), H', ⟨by have := HK1.out; have := HK2.out; have := HK3.out; have := HJ15.out; have := HJ27.out; omega⟩, ⟨by (try simp only [hl7_2]); (try simp only [hl7_3]); (with_reducible repeat (first | apply Kd.R_alloc | apply Kd.R_drewN | apply Kd.R_drew)); first | exact HO_7.out | (rw [Ny136.out]; exact (Kd.R_putg (Kd.R_drewN HO_7.out _) _ _).1) | (rw [Ny136.out]; exact (Kd.R_putg HO_7.out _ _).1)⟩, ⟨by repeat (first | (with_reducible first | exact HB.out | apply below_alloc | apply pw_below_drewN | apply below_drew1) | exact HB.out | (first | exact below_set (pw_below_drewN HB.out _) GB10.out | exact below_set HB.out GB10.out))⟩⟩
                            ·
                             rw [if_neg c41] at H
                             exact absurd H (by simp)
                           ·
                            rw [if_neg c40] at H
                            exact absurd H (by simp)
                          ·
                           rw [if_neg c39] at H
                           have c39b0 : decide (0 ≤ (rd y136 ((rd_T53 l0 x10_3).f1))) = false := decide_eq_false c39; clear c39; have H' := Aside0.mk H; clear H; have p36 : 0 ≤ (((rd_T53 l0 x10_3).f1) : Int) := dt_; have q36 : (((rd_T53 l0 x10_3).f1) : Int) < ((x7_3.length : Int) : Int) := dt_; obtain ⟨hx36_0, hf36_0⟩ := Kd.R_celln 0 HO_7.out (((rd_T53 l0 x10_3).f1) : Int) p36 q36; replace p36 := eq_true p36; replace q36 := eq_true q36; have HP56 := Kd.R_putg HO_7.out (((rd_T53 l0 x10_3).f1) : Int) (wrap64 ((rd x7_3 ((rd_T53 l0 x10_3).f0)) + ((rd_T53 l0 x10_3).f2)))
                           go_wp2_with (first | ((with_reducible refine gate_store (t := 3) (p := 87) rfl ?_); (try (rw [drewN_self wc]; generalize hq_ : World.drewN wc _ = wc; replace HO_7 := Aside0.mk (Kd.R_at hq_ HO_7.out); replace HB := Aside0.mk (below_at hq_ HB.out); clear hq_; (try (have HP56 := Kd.R_putg HO_7.out (((rd_T53 l0 x10_3).f1) : Int) (wrap64 ((rd x7_3 ((rd_T53 l0 x10_3).f0)) + ((rd_T53 l0 x10_3).f2))))))); refine store_event (t := 3) (p := 87) (v := ?vo_w57) (w1 := (wc.setCell ⟨go10, (((rd_T53 l0 x10_3).f1) : Int).toNat, none⟩ (.int .i64 (wrap64 ((rd x7_3 ((rd_T53 l0 x10_3).f0)) + ((rd_T53 l0 x10_3).f2)))))) ?hg ?ho ?hn ?hr ?_; (case ho => rfl); (case hg => rfl); (case hn => rfl); (case hr => first | (go_simp; done) | (go_simp; rfl)); intro w57 hw; have hg : wc.grownBy w57 (some go10) := (by rw [hw]; exact HP56.2); have hp_ : Kd.R (Kd.int .i64) 3 w57 w.heap.size (fun _ => True) (.slice (some ⟨go10, 0, none⟩) x7_3.length co10) y136 := (by rw [hw, Ny136.out]; exact HP56.1); clear HP56; replace HO_7 := Aside0.mk (hp_); replace HB := Aside0.mk ((by rw [hw]; exact below_set (HB.out) GB10.out : Below w.heap.size w w57)); clear hg hw hp_; have p137 : 0 ≤ (((rd_T53 l0 x10_3).f1) : Int) := dt_; have q137 : ((rd_T53 l0 x10_3).f1) < (y136.length : Int) := (by have h_ : (((rd_T53 l0 x10_3).f1) : Int) < ((x7_3.length : Int) : Int) := dt_; first | (have e_ := (Kd.R_reads' HO_7.out).1; omega) | simpa only [Ny136.out, List.length_set] using h_); have ql137 : ((((rd_T53 l0 x10_3).f1) : Int) < ((x7_3.length : Int) : Int)) = True := eq_true (dt_); obtain ⟨ad137, e137, hx137_0⟩ := Kd.at_int (Kd.R_reads' HO_7.out).2.2 ((rd_T53 l0 x10_3).f1) p137 q137; obtain rfl : (⟨go10, 0, none⟩ : Addr) = ad137 := (by injection e137); (first | simp only [add_plain] at hx137_0 | simp only [add_at] at hx137_0 | simp only [Addr.add, Nat.zero_add] at hx137_0 | skip); replace p137 := eq_true p137; replace q137 := eq_true q137; have p138 : 0 ≤ (x10_3 : Int) := dt_; have q138 : x10_3 < (l0.length : Int) := dt_; obtain ⟨ad138, e138, hx138_0, hx138_1, hx138_2, hx138_3, hx138_4⟩ := at_T53 HR0.out x10_3 p138 q138; obtain rfl : ad127 = ad138 := (by injection e138); replace hx138_0 := bc_ HB.out hx138_0; replace hx138_1 := bc_ HB.out hx138_1; replace hx138_2 := bc_ HB.out hx138_2; replace hx138_3 := bc_ HB.out hx138_3; replace hx138_4 := bc_ HB.out hx138_4; replace p138 := eq_true p138; replace q138 := eq_true q138; have p139 : 0 ≤ (((rd_T53 l0 x10_3).f1) : Int) := dt_; have q139 : ((rd_T53 l0 x10_3).f1) < (y136.length : Int) := (by have h_ : (((rd_T53 l0 x10_3).f1) : Int) < ((x7_3.length : Int) : Int) := dt_; first | (have e_ := (Kd.R_reads' HO_7.out).1; omega) | simpa only [Ny136.out, List.length_set] using h_); have ql139 : ((((rd_T53 l0 x10_3).f1) : Int) < ((x7_3.length : Int) : Int)) = True := eq_true (dt_); obtain ⟨ad139, e139, hx139_0⟩ := Kd.at_int (Kd.R_reads' HO_7.out).2.2 ((rd_T53 l0 x10_3).f1) p139 q139; obtain rfl : (⟨go10, 0, none⟩ : Addr) = ad139 := (by injection e139); (first | simp only [add_plain] at hx139_0 | simp only [add_at] at hx139_0 | simp only [Addr.add, Nat.zero_add] at hx139_0 | skip); replace p139 := eq_true p139; replace q139 := eq_true q139))
                           repeat (go_quiet (first | ((with_reducible refine gate_store (t := 3) (p := 87) rfl ?_); (try (rw [drewN_self wc]; generalize hq_ : World.drewN wc _ = wc; replace HO_7 := Aside0.mk (Kd.R_at hq_ HO_7.out); replace HB := Aside0.mk (below_at hq_ HB.out); clear hq_; (try (have HP56 := Kd.R_putg HO_7.out (((rd_T53 l0 x10_3).f1) : Int) (wrap64 ((rd x7_3 ((rd_T53 l0 x10_3).f0)) + ((rd_T53 l0 x10_3).f2))))))); refine store_event (t := 3) (p := 87) (v := ?vo_w57) (w1 := (wc.setCell ⟨go10, (((rd_T53 l0 x10_3).f1) : Int).toNat, none⟩ (.int .i64 (wrap64 ((rd x7_3 ((rd_T53 l0 x10_3).f0)) + ((rd_T53 l0 x10_3).f2)))))) ?hg ?ho ?hn ?hr ?_; (case ho => rfl); (case hg => rfl); (case hn => rfl); (case hr => first | (go_simp; done) | (go_simp; rfl)); intro w57 hw; have hg : wc.grownBy w57 (some go10) := (by rw [hw]; exact HP56.2); have hp_ : Kd.R (Kd.int .i64) 3 w57 w.heap.size (fun _ => True) (.slice (some ⟨go10, 0, none⟩) x7_3.length co10) y136 := (by rw [hw, Ny136.out]; exact HP56.1); clear HP56; replace HO_7 := Aside0.mk (hp_); replace HB := Aside0.mk ((by rw [hw]; exact below_set (HB.out) GB10.out : Below w.heap.size w w57)); clear hg hw hp_; have p137 : 0 ≤ (((rd_T53 l0 x10_3).f1) : Int) := dt_; have q137 : ((rd_T53 l0 x10_3).f1) < (y136.length : Int) := (by have h_ : (((rd_T53 l0 x10_3).f1) : Int) < ((x7_3.length : Int) : Int) := dt_; first | (have e_ := (Kd.R_reads' HO_7.out).1; omega) | simpa only [Ny136.out, List.length_set] using h_); have ql137 : ((((rd_T53 l0 x10_3).f1) : Int) < ((x7_3.length : Int) : Int)) = True := eq_true (dt_); obtain ⟨ad137, e137, hx137_0⟩ := Kd.at_int (Kd.R_reads' HO_7.out).2.2 ((rd_T53 l0 x10_3).f1) p137 q137; obtain rfl : (⟨go10, 0, none⟩ : Addr) = ad137 := (by injection e137); (first | simp only [add_plain] at hx137_0 | simp only [add_at] at hx137_0 | simp only [Addr.add, Nat.zero_add] at hx137_0 | skip); replace p137 := eq_true p137; replace q137 := eq_true q137; have p138 : 0 ≤ (x10_3 : Int) := dt_; have q138 : x10_3 < (l0.length : Int) := dt_; obtain ⟨ad138, e138, hx138_0, hx138_1, hx138_2, hx138_3, hx138_4⟩ := at_T53 HR0.out x10_3 p138 q138; obtain rfl : ad127 = ad138 := (by injection e138); replace hx138_0 := bc_ HB.out hx138_0; replace hx138_1 := bc_ HB.out hx138_1; replace hx138_2 := bc_ HB.out hx138_2; replace hx138_3 := bc_ HB.out hx138_3; replace hx138_4 := bc_ HB.out hx138_4; replace p138 := eq_true p138; replace q138 := eq_true q138; have p139 : 0 ≤ (((rd_T53 l0 x10_3).f1) : Int) := dt_; have q139 : ((rd_T53 l0 x10_3).f1) < (y136.length : Int) := (by have h_ : (((rd_T53 l0 x10_3).f1) : Int) < ((x7_3.length : Int) : Int) := dt_; first | (have e_ := (Kd.R_reads' HO_7.out).1; omega) | simpa only [Ny136.out, List.length_set] using h_); have ql139 : ((((rd_T53 l0 x10_3).f1) : Int) < ((x7_3.length : Int) : Int)) = True := eq_true (dt_); obtain ⟨ad139, e139, hx139_0⟩ := Kd.at_int (Kd.R_reads' HO_7.out).2.2 ((rd_T53 l0 x10_3).f1) p139 q139; obtain rfl : (⟨go10, 0, none⟩ : Addr) = ad139 := (by injection e139); (first | simp only [add_plain] at hx139_0 | simp only [add_at] at hx139_0 | simp only [Addr.add, Nat.zero_add] at hx139_0 | skip); replace p139 := eq_true p139; replace q139 := eq_true q139)); try go_wp2_with (first | ((with_reducible refine gate_store (t := 3) (p := 87) rfl ?_); (try (rw [drewN_self wc]; generalize hq_ : World.drewN wc _ = wc; replace HO_7 := Aside0.mk (Kd.R_at hq_ HO_7.out); replace HB := Aside0.mk (below_at hq_ HB.out); clear hq_; (try (have HP56 := Kd.R_putg HO_7.out (((rd_T53 l0 x10_3).f1) : Int) (wrap64 ((rd x7_3 ((rd_T53 l0 x10_3).f0)) + ((rd_T53 l0 x10_3).f2))))))); refine store_event (t := 3) (p := 87) (v := ?vo_w57) (w1 := (wc.setCell ⟨go10, (((rd_T53 l0 x10_3).f1) : Int).toNat, none⟩ (.int .i64 (wrap64 ((rd x7_3 ((rd_T53 l0 x10_3).f0)) + ((rd_T53 l0 x10_3).f2)))))) ?hg ?ho ?hn ?hr ?_; (case ho => rfl); (case hg => rfl); (case hn => rfl); (case hr => first | (go_simp; done) | (go_simp; rfl)); intro w57 hw; have hg : wc.grownBy w57 (some go10) := (by rw [hw]; exact HP56.2); have hp_ : Kd.R (Kd.int .i64) 3 w57 w.heap.size (fun _ => True) (.slice (some ⟨go10, 0, none⟩) x7_3.length co10) y136 := (by rw [hw, Ny136.out]; exact HP56.1); clear HP56; replace HO_7 := Aside0.mk (hp_); replace HB := Aside0.mk ((by rw [hw]; exact below_set (HB.out) GB10.out : Below w.heap.size w w57)); clear hg hw hp_; have p137 : 0 ≤ (((rd_T53 l0 x10_3).f1) : Int) := dt_; have q137 : ((rd_T53 l0 x10_3).f1) < (y136.length : Int) := (by have h_ : (((rd_T53 l0 x10_3).f1) : Int) < ((x7_3.length : Int) : Int) := dt_; first | (have e_ := (Kd.R_reads' HO_7.out).1; omega) | simpa only [Ny136.out, List.length_set] using h_); have ql137 : ((((rd_T53 l0 x10_3).f1) : Int) < ((x7_3.length : Int) : Int)) = True := eq_true (dt_); obtain ⟨ad137, e137, hx137_0⟩ := Kd.at_int (Kd.R_reads' HO_7.out).2.2 ((rd_T53 l0 x10_3).f1) p137 q137; obtain rfl : (⟨go10, 0, none⟩ : Addr) = ad137 := (by injection e137); (first | simp only [add_plain] at hx137_0 | simp only [add_at] at hx137_0 | simp only [Addr.add, Nat.zero_add] at hx137_0 | skip); replace p137 := eq_true p137; replace q137 := eq_true q137; have p138 : 0 ≤ (x10_3 : Int) := dt_; have q138 : x10_3 < (l0.length : Int) := dt_; obtain ⟨ad138, e138, hx138_0, hx138_1, hx138_2, hx138_3, hx138_4⟩ := at_T53 HR0.out x10_3 p138 q138; obtain rfl : ad127 = ad138 := (by injection e138); replace hx138_0 := bc_ HB.out hx138_0; replace hx138_1 := bc_ HB.out hx138_1; replace hx138_2 := bc_ HB.out hx138_2; replace hx138_3 := bc_ HB.out hx138_3; replace hx138_4 := bc_ HB.out hx138_4; replace p138 := eq_true p138; replace q138 := eq_true q138; have p139 : 0 ≤ (((rd_T53 l0 x10_3).f1) : Int) := dt_; have q139 : ((rd_T53 l0 x10_3).f1) < (y136.length : Int) := (by have h_ : (((rd_T53 l0 x10_3).f1) : Int) < ((x7_3.length : Int) : Int) := dt_; first | (have e_ := (Kd.R_reads' HO_7.out).1; omega) | simpa only [Ny136.out, List.length_set] using h_); have ql139 : ((((rd_T53 l0 x10_3).f1) : Int) < ((x7_3.length : Int) : Int)) = True := eq_true (dt_); obtain ⟨ad139, e139, hx139_0⟩ := Kd.at_int (Kd.R_reads' HO_7.out).2.2 ((rd_T53 l0 x10_3).f1) p139 q139; obtain rfl : (⟨go10, 0, none⟩ : Addr) = ad139 := (by injection e139); (first | simp only [add_plain] at hx139_0 | simp only [add_at] at hx139_0 | simp only [Addr.add, Nat.zero_add] at hx139_0 | skip); replace p139 := eq_true p139; replace q139 := eq_true q139)))
                           (try simp only [← hl7_3])
                           go_roundg kj27
                           case measure => have := HK1.out; have := HK2.out; have := HK3.out; have := HJ15.out; have := HJ27.out; omega
                           case rel => exact ⟨(y136), (true), (wrap64 (x10_3 + 1)), (by first | rfl | (simp; done) | (simp [*]; done)), (by first | rfl | (simp; done) | (simp [*]; done)), H', ⟨by have := HK1.out; have := HK2.out; have := HK3.out; have := HJ15.out; have := HJ27.out; omega⟩, ⟨by (try simp only [hl7_2]); (try simp only [hl7_3]); (with_reducible repeat (first | apply Kd.R_alloc | apply Kd.R_drewN | apply Kd.R_drew)); first | exact HO_7.out | (rw [Ny136.out]; exact (Kd.R_putg (Kd.R_drewN HO_7.out _) _ _).1) | (rw [Ny136.out]; exact (Kd.R_putg HO_7.out _ _).1)⟩, ⟨by repeat (first | (with_reducible first | exact HB.out | apply below_alloc | apply pw_below_drewN | apply below_drew1) | exact HB.out | (first | exact below_set (pw_below_drewN HB.out _) GB10.out | exact below_set HB.out GB10.out))⟩⟩
                         ·
                          rw [if_neg c38] at H
                          exact absurd H (by simp)
                        ·
                         rw [if_neg c37] at H
                         exact absurd H (by simp)
                       ·
                        rw [if_neg c35] at H
                        exact absurd H (by simp)
                      ·
                       rw [if_neg c34] at H
                       exact absurd H (by simp)
                     ·
                      replace c33 := Bool.eq_false_iff.mpr c33; subst c33
                      have H1 : (if 0 ≤ ((rd_T53 l0 x10_3).f1) then (if ((rd_T53 l0 x10_3).f1) < (x7_3.length : Int) then (if 0 ≤ x10_3 then (if x10_3 < (l0.length : Int) then (if (rd x7_3 ((rd_T53 l0 x10_3).f1)) ≥ 0 then (if 0 ≤ ((rd_T53 l0 x10_3).f0) then (if ((rd_T53 l0 x10_3).f0) < (x7_3.length : Int) then (if (rd x7_3 ((rd_T53 l0 x10_3).f0)) < 0 then (spec_l25Out.l2 kj27 l0 l1 a2 (x7_3.set (((rd_T53 l0 x10_3).f0) : Int).toNat (wrap64 ((rd x7_3 ((rd_T53 l0 x10_3).f1)) + ((rd_T53 l0 x10_3).f2)))) true (wrap64 (x10_3 + 1))) else (if (wrap64 ((rd x7_3 ((rd_T53 l0 x10_3).f1)) + ((rd_T53 l0 x10_3).f2))) < (rd x7_3 ((rd_T53 l0 x10_3).f0)) then (spec_l25Out.l2 kj27 l0 l1 a2 (x7_3.set (((rd_T53 l0 x10_3).f0) : Int).toNat (wrap64 ((rd x7_3 ((rd_T53 l0 x10_3).f1)) + ((rd_T53 l0 x10_3).f2)))) true (wrap64 (x10_3 + 1))) else (spec_l25Out.l2 kj27 l0 l1 a2 x7_3 x9_3 (wrap64 (x10_3 + 1))))) else (none)) else (none)) else (spec_l25Out.l2 kj27 l0 l1 a2 x7_3 x9_3 (wrap64 (x10_3 + 1)))) else (none)) else (none)) else (none)) else (none)) = some r := by rw [if_neg (show ¬ (false = true) by decide)] at H; exact H
                      clear H; have H := H1; clear H1
                      by_cases c58 : 0 ≤ ((rd_T53 l0 x10_3).f1)
                      ·
                       rw [if_pos c58] at H
                       have c58b0 : decide (0 ≤ ((rd_T53 l0 x10_3).f1)) = true := decide_eq_true c58; clear c58
                       by_cases c59 : ((rd_T53 l0 x10_3).f1) < (x7_3.length : Int)
                       ·
                        rw [if_pos c59] at H
                        have c59b0 : decide (((rd_T53 l0 x10_3).f1) < (x7_3.length : Int)) = true := decide_eq_true c59; clear c59
                        by_cases c60 : 0 ≤ x10_3
                        ·
                         rw [if_pos c60] at H
                         have c60b0 : decide (0 ≤ x10_3) = true := decide_eq_true c60; clear c60
                         by_cases c61 : x10_3 < (l0.length : Int)
                         ·
                          rw [if_pos c61] at H
                          have c61b0 : decide (x10_3 < (l0.length : Int)) = true := decide_eq_true c61; clear c61
                          by_cases c62 : (rd x7_3 ((rd_T53 l0 x10_3).f1)) ≥ 0
                          ·
                           rw [if_pos c62] at H
                           have c62b0 : decide (0 ≤ (rd x7_3 ((rd_T53 l0 x10_3).f1))) = true := decide_eq_true c62; clear c62
                           by_cases c63 : 0 ≤ ((rd_T53 l0 x10_3).f0)
                           ·
                            rw [if_pos c63] at H
                            have c63b0 : decide (0 ≤ ((rd_T53 l0 x10_3).f0)) = true := decide_eq_true c63; clear c63
                            by_cases c64 : ((rd_T53 l0 x10_3).f0) < (x7_3.length : Int)
                            ·
                             rw [if_pos c64] at H
                             have c64b0 : decide (((rd_T53 l0 x10_3).f0) < (x7_3.length : Int)) = true := decide_eq_true c64; clear c64
                             by_cases c65 : (rd x7_3 ((rd_T53 l0 x10_3).f0)) < 0
                             ·
                              rw [if_pos c65] at H
                              have c65b0 : decide ((rd x7_3 ((rd_T53 l0 x10_3).f0)) < 0) = true := decide_eq_true c65; clear c65
                              obtain ⟨y148, hy148⟩ : ∃ y_ : List Int, y_ = (x7_3.set (((rd_T53 l0 x10_3).f0) : Int).toNat (wrap64 ((rd x7_3 ((rd_T53 l0 x10_3).f1)) + ((rd_T53 l0 x10_3).f2)))) := ⟨_, rfl⟩
                              replace H : (spec_l25Out.l2 kj27 l0 l1 a2 y148 true (wrap64 (x10_3 + 1))) = some r := by first | (rw [hy148]; with_reducible exact H) | (have H2_ := (Option.bind_some _ _).symm.trans H; rw [hy148]; with_reducible exact H2_) | (have H2_ := (Option.bind_some _ _).symm.trans H; with_reducible exact H2_) | with_reducible exact H | (rw [hy148]; exact H) | exact H
                              have Ny148 := Aside0.mk hy148; clear hy148; have H' := Aside0.mk H; clear H; have p144 : 0 ≤ (((rd_T53 l0 x10_3).f1) : Int) := dt_; have q144 : ((rd_T53 l0 x10_3).f1) < (x7_3.length : Int) := dt_; obtain ⟨ad144, e144, hx144_0⟩ := Kd.at_int (Kd.R_reads' HO_7.out).2.2 ((rd_T53 l0 x10_3).f1) p144 q144
                              obtain rfl : (⟨go10, 0, none⟩ : Addr) = ad144 := (by injection e144)
                              (first | simp only [add_plain] at hx144_0 | simp only [add_at] at hx144_0 | simp only [Addr.add, Nat.zero_add] at hx144_0 | skip)
                              replace p144 := eq_true p144; replace q144 := eq_true q144; have p145 : 0 ≤ (x10_3 : Int) := dt_; have q145 : x10_3 < (l0.length : Int) := dt_; obtain ⟨ad145, e145, hx145_0, hx145_1, hx145_2, hx145_3, hx145_4⟩ := at_T53 HR0.out x10_3 p145 q145
                              obtain rfl : ad127 = ad145 := (by injection e145)
                              replace hx145_0 := bc_ HB.out hx145_0; replace hx145_1 := bc_ HB.out hx145_1; replace hx145_2 := bc_ HB.out hx145_2; replace hx145_3 := bc_ HB.out hx145_3; replace hx145_4 := bc_ HB.out hx145_4; replace p145 := eq_true p145; replace q145 := eq_true q145; have p146 : 0 ≤ (((rd_T53 l0 x10_3).f1) : Int) := dt_; have q146 : ((rd_T53 l0 x10_3).f1) < (x7_3.length : Int) := dt_; obtain ⟨ad146, e146, hx146_0⟩ := Kd.at_int (Kd.R_reads' HO_7.out).2.2 ((rd_T53 l0 x10_3).f1) p146 q146
                              obtain rfl : (⟨go10, 0, none⟩ : Addr) = ad146 := (by injection e146)
                              (first | simp only [add_plain] at hx146_0 | simp only [add_at] at hx146_0 | simp only [Addr.add, Nat.zero_add] at hx146_0 | skip)
                              replace p146 := eq_true p146; replace q146 := eq_true q146; have p147 : 0 ≤ (((rd_T53 l0 x10_3).f0) : Int) := dt_; have q147 : ((rd_T53 l0 x10_3).f0) < (x7_3.length : Int) := dt_; obtain ⟨ad147, e147, hx147_0⟩ := Kd.at_int (Kd.R_reads' HO_7.out).2.2 ((rd_T53 l0 x10_3).f0) p147 q147
                              obtain rfl : (⟨go10, 0, none⟩ : Addr) = ad147 := (by injection e147)
                              (first | simp only [add_plain] at hx147_0 | simp only [add_at] at hx147_0 | simp only [Addr.add, Nat.zero_add] at hx147_0 | skip)
                              replace p147 := eq_true p147; replace q147 := eq_true q147; have p66 : 0 ≤ (((rd_T53 l0 x10_3).f0) : Int) := dt_; have q66 : (((rd_T53 l0 x10_3).f0) : Int) < ((x7_3.length : Int) : Int) := dt_; obtain ⟨hx66_0, hf66_0⟩ := Kd.R_celln 0 HO_7.out (((rd_T53 l0 x10_3).f0) : Int) p66 q66; replace p66 := eq_true p66; replace q66 := eq_true q66; have HP67 := Kd.R_putg HO_7.out (((rd_T53 l0 x10_3).f0) : Int) (wrap64 ((rd x7_3 ((rd_T53 l0 x10_3).f1)) + ((rd_T53 l0 x10_3).f2)))
                              go_wp2_with (first | ((with_reducible refine gate_store (t := 3) (p := 121) rfl ?_); (try (rw [drewN_self wc]; generalize hq_ : World.drewN wc _ = wc; replace HO_7 := Aside0.mk (Kd.R_at hq_ HO_7.out); replace HB := Aside0.mk (below_at hq_ HB.out); clear hq_; (try (have HP67 := Kd.R_putg HO_7.out (((rd_T53 l0 x10_3).f0) : Int) (wrap64 ((rd x7_3 ((rd_T53 l0 x10_3).f1)) + ((rd_T53 l0 x10_3).f2))))))); refine store_event (t := 3) (p := 121) (v := ?vo_w68) (w1 := (wc.setCell ⟨go10, (((rd_T53 l0 x10_3).f0) : Int).toNat, none⟩ (.int .i64 (wrap64 ((rd x7_3 ((rd_T53 l0 x10_3).f1)) + ((rd_T53 l0 x10_3).f2)))))) ?hg ?ho ?hn ?hr ?_; (case ho => rfl); (case hg => rfl); (case hn => rfl); (case hr => first | (go_simp; done) | (go_simp; rfl)); intro w68 hw; have hg : wc.grownBy w68 (some go10) := (by rw [hw]; exact HP67.2); have hp_ : Kd.R (Kd.int .i64) 3 w68 w.heap.size (fun _ => True) (.slice (some ⟨go10, 0, none⟩) x7_3.length co10) y148 := (by rw [hw, Ny148.out]; exact HP67.1); clear HP67; replace HO_7 := Aside0.mk (hp_); replace HB := Aside0.mk ((by rw [hw]; exact below_set (HB.out) GB10.out : Below w.heap.size w w68)); clear hg hw hp_))
                              repeat (go_quiet (first | ((with_reducible refine gate_store (t := 3) (p := 121) rfl ?_); (try (rw [drewN_self wc]; generalize hq_ : World.drewN wc _ = wc; replace HO_7 := Aside0.mk (Kd.R_at hq_ HO_7.out); replace HB := Aside0.mk (below_at hq_ HB.out); clear hq_; (try (have HP67 := Kd.R_putg HO_7.out (((rd_T53 l0 x10_3).f0) : Int) (wrap64 ((rd x7_3 ((rd_T53 l0 x10_3).f1)) + ((rd_T53 l0 x10_3).f2))))))); refine store_event (t := 3) (p := 121) (v := ?vo_w68) (w1 := (wc.setCell ⟨go10, (((rd_T53 l0 x10_3).f0) : Int).toNat, none⟩ (.int .i64 (wrap64 ((rd x7_3 ((rd_T53 l0 x10_3).f1)) + ((rd_T53 l0 x10_3).f2)))))) ?hg ?ho ?hn ?hr ?_; (case ho => rfl); (case hg => rfl); (case hn => rfl); (case hr => first | (go_simp; done) | (go_simp; rfl)); intro w68 hw; have hg : wc.grownBy w68 (some go10) := (by rw [hw]; exact HP67.2); have hp_ : Kd.R (Kd.int .i64) 3 w68 w.heap.size (fun _ => True) (.slice (some ⟨go10, 0, none⟩) x7_3.length co10) y148 := (by rw [hw, Ny148.out]; exact HP67.1); clear HP67; replace HO_7 := Aside0.mk (hp_); replace HB := Aside0.mk ((by rw [hw]; exact below_set (HB.out) GB10.out : Below w.heap.size w w68)); clear hg hw hp_)); try go_wp2_with (first | ((with_reducible refine gate_store (t := 3) (p := 121) rfl ?_); (try (rw [drewN_self wc]; generalize hq_ : World.drewN wc _ = wc; replace HO_7 := Aside0.mk (Kd.R_at hq_ HO_7.out); replace HB := Aside0.mk (below_at hq_ HB.out); clear hq_; (try (have HP67 := Kd.R_putg HO_7.out (((rd_T53 l0 x10_3).f0) : Int) (wrap64 ((rd x7_3 ((rd_T53 l0 x10_3).f1)) + ((rd_T53 l0 x10_3).f2))))))); refine store_event (t := 3) (p := 121) (v := ?vo_w68) (w1 := (wc.setCell ⟨go10, (((rd_T53 l0 x10_3).f0) : Int).toNat, none⟩ (.int .i64 (wrap64 ((rd x7_3 ((rd_T53 l0 x10_3).f1)) + ((rd_T53 l0 x10_3).f2)))))) ?hg ?ho ?hn ?hr ?_; (case ho => rfl); (case hg => rfl); (case hn => rfl); (case hr => first | (go_simp; done) | (go_simp; rfl)); intro w68 hw; have hg : wc.grownBy w68 (some go10) := (by rw [hw]; exact HP67.2); have hp_ : Kd.R (Kd.int .i64) 3 w68 w.heap.size (fun _ => True) (.slice (some ⟨go10, 0, none⟩) x7_3.length co10) y148 := (by rw [hw, Ny148.out]; exact HP67.1); clear HP67; replace HO_7 := Aside0.mk (hp_); replace HB := Aside0.mk ((by rw [hw]; exact below_set (HB.out) GB10.out : Below w.heap.size w w68)); clear hg hw hp_)))
                              (try simp only [← hl7_3])
                              go_roundg kj27
                              case measure => have := HK1.out; have := HK2.out; have := HK3.out; have := HJ15.out; have := HJ27.out; omega
                              case rel => exact ⟨(y148), (true), (wrap64 (x10_3 + 1)), (by first | rfl | (simp; done) | (simp [*]; done)), (by first | rfl | (simp; done) | (simp [*]; done)), H', ⟨by have := HK1.out; have := HK2.out; have := HK3.out; have := HJ15.out; have := HJ27.out; omega⟩, ⟨by (try simp only [hl7_2]); (try simp only [hl7_3]); (with_reducible repeat (first | apply Kd.R_alloc | apply Kd.R_drewN | apply Kd.R_drew)); first | exact HO_7.out | (rw [Ny148.out]; exact (Kd.R_putg (Kd.R_drewN HO_7.out _) _ _).1) | (rw [Ny148.out]; exact (Kd.R_putg HO_7.out _ _).1)⟩, ⟨by repeat (first | (with_reducible first | exact HB.out | apply below_alloc | apply pw_below_drewN | apply below_drew1) | exact HB.out | (first | exact below_set (pw_below_drewN HB.out _) GB10.out | exact below_set HB.out GB10.out))⟩⟩
                             ·
                              rw [if_neg c65] at H
                              have c65b0 : decide ((rd x7_3 ((rd_T53 l0 x10_3).f0)) < 0) = false := decide_eq_false c65; clear c65
                              by_cases c69 : (wrap64 ((rd x7_3 ((rd_T53 l0 x10_3).f1)) + ((rd_T53 l0 x10_3).f2))) < (rd x7_3 ((rd_T53 l0 x10_3).f0))
                              ·
                               rw [if_pos c69] at H
                               have c69b0 : decide ((wrap64 ((rd x7_3 ((rd_T53 l0 x10_3).f1)) + ((rd_T53 l0 x10_3).f2))) < (rd x7_3 ((rd_T53 l0 x10_3).f0))) = true := decide_eq_true c69; clear c69
                               obtain ⟨y150, hy150⟩ : ∃ y_ : List Int, y_ = (x7_3.set (((rd_T53 l0 x10_3).f0) : Int).toNat (wrap64 ((rd x7_3 ((rd_T53 l0 x10_3).f1)) + ((rd_T53 l0 x10_3).f2)))) := ⟨_, rfl⟩
                               replace H : (spec_l25Out.l2 kj27 l0 l1 a2 y150 true (wrap64 (x10_3 + 1))) = some r := by first | (rw [hy150]; with_reducible exact H) | (have H2_ := (Option.bind_some _ _).symm.trans H; rw [hy150]; with_reducible exact H2_) | (have H2_ := (Option.bind_some _ _).symm.trans H; with_reducible exact H2_) | with_reducible exact H | (rw [hy150]; exact H) | exact H
                               have Ny150 := Aside0.mk hy150; clear hy150; have H' := Aside0.mk H; clear H; have p144 : 0 ≤ (((rd_T53 l0 x10_3).f1) : Int) := dt_; have q144 : ((rd_T53 l0 x10_3).f1) < (x7_3.length : Int) := dt_; obtain ⟨ad144, e144, hx144_0⟩ := Kd.at_int (Kd.R_reads' HO_7.out).2.2 ((rd_T53 l0 x10_3).f1) p144 q144
                               obtain rfl : (⟨go10, 0, none⟩ : Addr) = ad144 := (by injection e144)
                               (first | simp only [add_plain] at hx144_0 | simp only [add_at] at hx144_0 | simp only [Addr.add, Nat.zero_add] at hx144_0 | skip)
                               replace p144 := eq_true p144; replace q144 := eq_true q144; have p145 : 0 ≤ (x10_3 : Int) := dt_; have q145 : x10_3 < (l0.length : Int) := dt_; obtain ⟨ad145, e145, hx145_0, hx145_1, hx145_2, hx145_3, hx145_4⟩ := at_T53 HR0.out x10_3 p145 q145
                               obtain rfl : ad127 = ad145 := (by injection e145)
                               replace hx145_0 := bc_ HB.out hx145_0; replace hx145_1 := bc_ HB.out hx145_1; replace hx145_2 := bc_ HB.out hx145_2; replace hx145_3 := bc_ HB.out hx145_3; replace hx145_4 := bc_ HB.out hx145_4; replace p145 := eq_true p145; replace q145 := eq_true q145; have p146 : 0 ≤ (((rd_T53 l0 x10_3).f1) : Int) := dt_; have q146 : ((rd_T53 l0 x10_3).f1) < (x7_3.length : Int) := dt_; obtain ⟨ad146, e146, hx146_0⟩ := Kd.at_int (Kd.R_reads' HO_7.out).2.2 ((rd_T53 l0 x10_3).f1) p146 q146
                               obtain rfl : (⟨go10, 0, none⟩ : Addr) = ad146 := (by injection e146)
                               (first | simp only [add_plain] at hx146_0 | simp only [add_at] at hx146_0 | simp only [Addr.add, Nat.zero_add] at hx146_0 | skip)
                               replace p146 := eq_true p146; replace q146 := eq_true q146; have p147 : 0 ≤ (((rd_T53 l0 x10_3).f0) : Int) := dt_; have q147 : ((rd_T53 l0 x10_3).f0) < (x7_3.length : Int) := dt_; obtain ⟨ad147, e147, hx147_0⟩ := Kd.at_int (Kd.R_reads' HO_7.out).2.2 ((rd_T53 l0 x10_3).f0) p147 q147
                               obtain rfl : (⟨go10, 0, none⟩ : Addr) = ad147 := (by injection e147)
                               (first | simp only [add_plain] at hx147_0 | simp only [add_at] at hx147_0 | simp only [Addr.add, Nat.zero_add] at hx147_0 | skip)
                               replace p147 := eq_true p147; replace q147 := eq_true q147; have p149 : 0 ≤ (((rd_T53 l0 x10_3).f0) : Int) := dt_; have q149 : ((rd_T53 l0 x10_3).f0) < (x7_3.length : Int) := dt_; obtain ⟨ad149, e149, hx149_0⟩ := Kd.at_int (Kd.R_reads' HO_7.out).2.2 ((rd_T53 l0 x10_3).f0) p149 q149
                               obtain rfl : (⟨go10, 0, none⟩ : Addr) = ad149 := (by injection e149)
                               (first | simp only [add_plain] at hx149_0 | simp only [add_at] at hx149_0 | simp only [Addr.add, Nat.zero_add] at hx149_0 | skip)
                               replace p149 := eq_true p149; replace q149 := eq_true q149; have p70 : 0 ≤ (((rd_T53 l0 x10_3).f0) : Int) := dt_; have q70 : (((rd_T53 l0 x10_3).f0) : Int) < ((x7_3.length : Int) : Int) := dt_; obtain ⟨hx70_0, hf70_0⟩ := Kd.R_celln 0 HO_7.out (((rd_T53 l0 x10_3).f0) : Int) p70 q70; replace p70 := eq_true p70; replace q70 := eq_true q70; have HP71 := Kd.R_putg HO_7.out (((rd_T53 l0 x10_3).f0) : Int) (wrap64 ((rd x7_3 ((rd_T53 l0 x10_3).f1)) + ((rd_T53 l0 x10_3).f2)))
                               go_wp2_with (first | ((with_reducible refine gate_store (t := 3) (p := 121) rfl ?_); (try (rw [drewN_self wc]; generalize hq_ : World.drewN wc _ = wc; replace HO_7 := Aside0.mk (Kd.R_at hq_ HO_7.out); replace HB := Aside0.mk (below_at hq_ HB.out); clear hq_; (try (have HP71 := Kd.R_putg HO_7.out (((rd_T53 l0 x10_3).f0) : Int) (wrap64 ((rd x7_3 ((rd_T53 l0 x10_3).f1)) + ((rd_T53 l0 x10_3).f2))))))); refine store_event (t := 3) (p := 121) (v := ?vo_w72) (w1 := (wc.setCell ⟨go10, (((rd_T53 l0 x10_3).f0) : Int).toNat, none⟩ (.int .i64 (wrap64 ((rd x7_3 ((rd_T53 l0 x10_3).f1)) + ((rd_T53 l0 x10_3).f2)))))) ?hg ?ho ?hn ?hr ?_; (case ho => rfl); (case hg => rfl); (case hn => rfl); (case hr => first | (go_simp; done) | (go_simp; rfl)); intro w72 hw; have hg : wc.grownBy w72 (some go10) := (by rw [hw]; exact HP71.2); have hp_ : Kd.R (Kd.int .i64) 3 w72 w.heap.size (fun _ => True) (.slice (some ⟨go10, 0, none⟩) x7_3.length co10) y150 := (by rw [hw, Ny150.out]; exact HP71.1); clear HP71; replace HO_7 := Aside0.mk (hp_); replace HB := Aside0.mk ((by rw [hw]; exact below_set (HB.out) GB10.out : Below w.heap.size w w72)); clear hg hw hp_))
                               repeat (go_quiet (first | ((with_reducible refine gate_store (t := 3) (p := 121) rfl ?_); (try (rw [drewN_self wc]; generalize hq_ : World.drewN wc _ = wc; replace HO_7 := Aside0.mk (Kd.R_at hq_ HO_7.out); replace HB := Aside0.mk (below_at hq_ HB.out); clear hq_; (try (have HP71 := Kd.R_putg HO_7.out (((rd_T53 l0 x10_3).f0) : Int) (wrap64 ((rd x7_3 ((rd_T53 l0 x10_3).f1)) + ((rd_T53 l0 x10_3).f2))))))); refine store_event (t := 3) (p := 121) (v := ?vo_w72) (w1 := (wc.setCell ⟨go10, (((rd_T53 l0 x10_3).f0) : Int).toNat, none⟩ (.int .i64 (wrap64 ((rd x7_3 ((rd_T53 l0 x10_3).f1)) + ((rd_T53 l0 x10_3).f2)))))) ?hg ?ho ?hn ?hr ?_; (case ho => rfl); (case hg => rfl); (case hn => rfl); (case hr => first | (go_simp; done) | (go_simp; rfl)); intro w72 hw; have hg : wc.grownBy w72 (some go10) := (by rw [hw]; exact HP71.2); have hp_ : Kd.R (Kd.int .i64) 3 w72 w.heap.size (fun _ => True) (.slice (some ⟨go10, 0, none⟩) x7_3.length co10) y150 := (by rw [hw, Ny150.out]; exact HP71.1); clear HP71; replace HO_7 := Aside0.mk (hp_); replace HB := Aside0.mk ((by rw [hw]; exact below_set (HB.out) GB10.out : Below w.heap.size w w72)); clear hg hw hp_)); try go_wp2_with (first | ((with_reducible refine gate_store (t := 3) (p := 121) rfl ?_); (try (rw [drewN_self wc]; generalize hq_ : World.drewN wc _ = wc; replace HO_7 := Aside0.mk (Kd.R_at hq_ HO_7.out); replace HB := Aside0.mk (below_at hq_ HB.out); clear hq_; (try (have HP71 := Kd.R_putg HO_7.out (((rd_T53 l0 x10_3).f0) : Int) (wrap64 ((rd x7_3 ((rd_T53 l0 x10_3).f1)) + ((rd_T53 l0 x10_3).f2))))))); refine store_event (t := 3) (p := 121) (v := ?vo_w72) (w1 := (wc.setCell ⟨go10, (((rd_T53 l0 x10_3).f0) : Int).toNat, none⟩ (.int .i64 (wrap64 ((rd x7_3 ((rd_T53 l0 x10_3).f1)) + ((rd_T53 l0 x10_3).f2)))))) ?hg ?ho ?hn ?hr ?_; (case ho => rfl); (case hg => rfl); (case hn => rfl); (case hr => first | (go_simp; done) | (go_simp; rfl)); intro w72 hw; have hg : wc.grownBy w72 (some go10) := (by rw [hw]; exact HP71.2); have hp_ : Kd.R (Kd.int .i64) 3 w72 w.heap.size (fun _ => True) (.slice (some ⟨go10, 0, none⟩) x7_3.length co10) y150 := (by rw [hw, Ny150.out]; exact HP71.1); clear HP71; replace HO_7 := Aside0.mk (hp_); replace HB := Aside0.mk ((by rw [hw]; exact below_set (HB.out) GB10.out : Below w.heap.size w w72)); clear hg hw hp_)))
                               (try simp only [← hl7_3])
                               go_roundg kj27
                               case measure => have := HK1.out; have := HK2.out; have := HK3.out; have := HJ15.out; have := HJ27.out; omega
                               case rel => exact ⟨(y150), (true), (wrap64 (x10_3 + 1)), (by first | rfl | (simp; done) | (simp [*]; done)), (by first | rfl | (simp; done) | (simp [*]; done)), H', ⟨by have := HK1.out; have := HK2.out; have := HK3.out; have := HJ15.out; have := HJ27.out; omega⟩, ⟨by (try simp only [hl7_2]); (try simp only [hl7_3]); (with_reducible repeat (first | apply Kd.R_alloc | apply Kd.R_drewN | apply Kd.R_drew)); first | exact HO_7.out | (rw [Ny150.out]; exact (Kd.R_putg (Kd.R_drewN HO_7.out _) _ _).1) | (rw [Ny150.out]; exact (Kd.R_putg HO_7.out _ _).1)⟩, ⟨by repeat (first | (with_reducible first | exact HB.out | apply below_alloc | apply pw_below_drewN | apply below_drew1) | exact HB.out | (first | exact below_set (pw_below_drewN HB.out _) GB10.out | exact below_set HB.out GB10.out))⟩⟩
                              ·
                               rw [if_neg c69] at H
                               have c69b0 : decide ((wrap64 ((rd x7_3 ((rd_T53 l0 x10_3).f1)) + ((rd_T53 l0 x10_3).f2))) < (rd x7_3 ((rd_T53 l0 x10_3).f0))) = false := decide_eq_false c69; clear c69; have H' := Aside0.mk H; clear H; have p144 : 0 ≤ (((rd_T53 l0 x10_3).f1) : Int) := dt_; have q144 : ((rd_T53 l0 x10_3).f1) < (x7_3.length : Int) := dt_; obtain ⟨ad144, e144, hx144_0⟩ := Kd.at_int (Kd.R_reads' HO_7.out).2.2 ((rd_T53 l0 x10_3).f1) p144 q144
                               obtain rfl : (⟨go10, 0, none⟩ : Addr) = ad144 := (by injection e144)
                               (first | simp only [add_plain] at hx144_0 | simp only [add_at] at hx144_0 | simp only [Addr.add, Nat.zero_add] at hx144_0 | skip)
                               replace p144 := eq_true p144; replace q144 := eq_true q144; have p145 : 0 ≤ (x10_3 : Int) := dt_; have q145 : x10_3 < (l0.length : Int) := dt_; obtain ⟨ad145, e145, hx145_0, hx145_1, hx145_2, hx145_3, hx145_4⟩ := at_T53 HR0.out x10_3 p145 q145
                               obtain rfl : ad127 = ad145 := (by injection e145)
                               replace hx145_0 := bc_ HB.out hx145_0; replace hx145_1 := bc_ HB.out hx145_1; replace hx145_2 := bc_ HB.out hx145_2; replace hx145_3 := bc_ HB.out hx145_3; replace hx145_4 := bc_ HB.out hx145_4; replace p145 := eq_true p145; replace q145 := eq_true q145; have p146 : 0 ≤ (((rd_T53 l0 x10_3).f1) : Int) := dt_; have q146 : ((rd_T53 l0 x10_3).f1) < (x7_3.length : Int) := dt_; obtain ⟨ad146, e146, hx146_0⟩ := Kd.at_int (Kd.R_reads' HO_7.out).2.2 ((rd_T53 l0 x10_3).f1) p146 q146
                               obtain rfl : (⟨go10, 0, none⟩ : Addr) = ad146 := (by injection e146)
                               (first | simp only [add_plain] at hx146_0 | simp only [add_at] at hx146_0 | simp only [Addr.add, Nat.zero_add] at hx146_0 | skip)
                               replace p146 := eq_true p146; replace q146 := eq_true q146; have p147 : 0 ≤ (((rd_T53 l0 x10_3).f0) : Int) := dt_; have q147 : ((rd_T53 l0 x10_3).f0) < (x7_3.length : Int) := dt_; obtain ⟨ad147, e147, hx147_0⟩ := Kd.at_int (Kd.R_reads' HO_7.out).2.2 ((rd_T53 l0 x10_3).f0) p147 q147
                               obtain rfl : (⟨go10, 0, none⟩ : Addr) = ad147 := (by injection e147)
                               (first | simp only [add_plain] at hx147_0 | simp only [add_at] at hx147_0 | simp only [Addr.add, Nat.zero_add] at hx147_0 | skip)
                               replace p147 := eq_true p147; replace q147 := eq_true q147; have p149 : 0 ≤ (((rd_T53 l0 x10_3).f0) : Int) := dt_; have q149 : ((rd_T53 l0 x10_3).f0) < (x7_3.length : Int) := dt_; obtain ⟨ad149, e149, hx149_0⟩ := Kd.at_int (Kd.R_reads' HO_7.out).2.2 ((rd_T53 l0 x10_3).f0) p149 q149
                               obtain rfl : (⟨go10, 0, none⟩ : Addr) = ad149 := (by injection e149)
                               (first | simp only [add_plain] at hx149_0 | simp only [add_at] at hx149_0 | simp only [Addr.add, Nat.zero_add] at hx149_0 | skip)
                               replace p149 := eq_true p149; replace q149 := eq_true q149
                               go_wp2
                               repeat (go_quiet (fail); try go_wp2)
                               (try simp only [← hl7_3])
                               go_roundg kj27
                               case measure => have := HK1.out; have := HK2.out; have := HK3.out; have := HJ15.out; have := HJ27.out; omega
                               case rel => exact ⟨(x7_3), (x9_3), (wrap64 (x10_3 + 1)), (by first | rfl | (simp; done) | (simp [*]; done)), (by first | rfl | (simp; done) | (simp [*]; done)), H', ⟨by have := HK1.out; have := HK2.out; have := HK3.out; have := HJ15.out; have := HJ27.out; omega⟩, ⟨by (try simp only [hl7_2]); (try simp only [hl7_3]); (with_reducible repeat (first | apply Kd.R_alloc | apply Kd.R_drewN | apply Kd.R_drew)); exact HO_7.out⟩, ⟨lb0_ HB.out⟩⟩
                            ·
                             rw [if_neg c64] at H
                             exact absurd H (by simp)
                           ·
                            rw [if_neg c63] at H
                            exact absurd H (by simp)
                          ·
                           rw [if_neg c62] at H
                           have c62b0 : decide (0 ≤ (rd x7_3 ((rd_T53 l0 x10_3).f1))) = false := decide_eq_false c62; clear c62; have H' := Aside0.mk H; clear H; have p144 : 0 ≤ (((rd_T53 l0 x10_3).f1) : Int) := dt_; have q144 : ((rd_T53 l0 x10_3).f1) < (x7_3.length : Int) := dt_; obtain ⟨ad144, e144, hx144_0⟩ := Kd.at_int (Kd.R_reads' HO_7.out).2.2 ((rd_T53 l0 x10_3).f1) p144 q144
                           obtain rfl : (⟨go10, 0, none⟩ : Addr) = ad144 := (by injection e144)
                           (first | simp only [add_plain] at hx144_0 | simp only [add_at] at hx144_0 | simp only [Addr.add, Nat.zero_add] at hx144_0 | skip)
                           replace p144 := eq_true p144; replace q144 := eq_true q144; have p145 : 0 ≤ (x10_3 : Int) := dt_; have q145 : x10_3 < (l0.length : Int) := dt_; obtain ⟨ad145, e145, hx145_0, hx145_1, hx145_2, hx145_3, hx145_4⟩ := at_T53 HR0.out x10_3 p145 q145
                           obtain rfl : ad127 = ad145 := (by injection e145)
                           replace hx145_0 := bc_ HB.out hx145_0; replace hx145_1 := bc_ HB.out hx145_1; replace hx145_2 := bc_ HB.out hx145_2; replace hx145_3 := bc_ HB.out hx145_3; replace hx145_4 := bc_ HB.out hx145_4; replace p145 := eq_true p145; replace q145 := eq_true q145; have p146 : 0 ≤ (((rd_T53 l0 x10_3).f1) : Int) := dt_; have q146 : ((rd_T53 l0 x10_3).f1) < (x7_3.length : Int) := dt_; obtain ⟨ad146, e146, hx146_0⟩ := Kd.at_int (Kd.R_reads' HO_7.out).2.2 ((rd_T53 l0 x10_3).f1) p146 q146
                           obtain rfl : (⟨go10, 0, none⟩ : Addr) = ad146 := (by injection e146)
                           (first | simp only [add_plain] at hx146_0 | simp only [add_at] at hx146_0 | simp only [Addr.add, Nat.zero_add] at hx146_0 | skip)
                           replace p146 := eq_true p146; replace q146 := eq_true q146
                           go_wp2
                           repeat (go_quiet (fail); try go_wp2)
                           (try simp only [← hl7_3])
                           go_roundg kj27
                           case measure => have := HK1.out; have := HK2.out; have := HK3.out; have := HJ15.out; have := HJ27.out; omega
                           case rel => exact ⟨(x7_3), (x9_3), (wrap64 (x10_3 + 1)), (by first | rfl | (simp; done) | (simp [*]; done)), (by first | rfl | (simp; done) | (simp [*]; done)), H', ⟨by have := HK1.out; have := HK2.out; have := HK3.out; have := HJ15.out; have := HJ27.out; omega⟩, ⟨by (try simp only [hl7_2]); (try simp only [hl7_3]); (with_reducible repeat (first | apply Kd.R_alloc | apply Kd.R_drewN | apply Kd.R_drew)); exact HO_7.out⟩, ⟨lb0_ HB.out⟩⟩
                         ·
                          rw [if_neg c61] at H
                          exact absurd H (by simp)
                        ·
                         rw [if_neg c60] at H
                         exact absurd H (by simp)
                       ·
                        rw [if_neg c59] at H
                        exact absurd H (by simp)
                      ·
                       rw [if_neg c58] at H
                       exact absurd H (by simp)
                  ·
                   rw [if_neg c27] at H
                   exact absurd H (by simp)
                 ·
                  rw [if_neg c26] at H
                  exact absurd H (by simp)
                ·
                 rw [if_neg c25] at H
                 exact absurd H (by simp)
               ·
                rw [if_neg c24] at H
                exact absurd H (by simp)
           ·
            rw [if_neg c15] at H
            exact absurd H (by simp)
          ·
           rw [if_neg c14] at H
           have c14b0 : decide (x10_3 < (l0.length : Int)) = false := decide_eq_false c14; clear c14; have H' := Aside0.mk H; clear H
           go_wp2
           repeat (go_quiet (fail); try go_wp2)
           (try simp only [← hl7_2, ← hl7_3])
           go_roundg k3
           case measure => have := HK1.out; have := HK2.out; have := HK3.out; omega
           case rel => exact ⟨(x7_3), (x9_3), (by first | rfl | (simp; done) | (simp [*]; done)), H', ⟨by have := HK1.out; have := HK2.out; have := HK3.out; omega⟩, ⟨by (try simp only [hl7_2]); (try simp only [hl7_3]); (with_reducible repeat (first | apply Kd.R_alloc | apply Kd.R_drewN | apply Kd.R_drew)); exact HO_7.out⟩, ⟨lb0_ HB.out⟩⟩
       ·
        replace c13 := Bool.eq_false_iff.mpr c13; subst c13
        have H1 : (if 0 ≤ a2 then (if a2 < (x7_2.length : Int) then (some (rd x7_2 a2)) else (none)) else (none)) = some r := by rw [if_neg (show ¬ (false = true) by decide)] at H; exact H
        clear H; have H := H1; clear H1
        by_cases c73 : 0 ≤ a2
        ·
         rw [if_pos c73] at H
         have c73b0 : decide (0 ≤ a2) = true := decide_eq_true c73; clear c73
         by_cases c74 : a2 < (x7_2.length : Int)
         ·
          rw [if_pos c74] at H
          have c74b0 : decide (a2 < (x7_2.length : Int)) = true := decide_eq_true c74; clear c74; obtain rfl := Option.some.inj H; have p126 : 0 ≤ (a2 : Int) := dt_; have q126 : a2 < (x7_2.length : Int) := dt_; obtain ⟨ad126, e126, hx126_0⟩ := Kd.at_int (Kd.R_reads' HO_7.out).2.2 a2 p126 q126
          obtain rfl : (⟨go10, 0, none⟩ : Addr) = ad126 := (by injection e126)
          (first | simp only [add_plain] at hx126_0 | simp only [add_at] at hx126_0 | simp only [Addr.add, Nat.zero_add] at hx126_0 | skip)
          replace p126 := eq_true p126; replace q126 := eq_true q126
          go_wp2
          repeat (go_quiet (fail); try go_wp2)
          go_ret
          exact ⟨rr_, lb0_ HB.out⟩
         ·
          rw [if_neg c74] at H
          exact absurd H (by simp)
        ·
         rw [if_neg c73] at H
         exact absurd H (by simp)
    ·
     rw [if_neg c9] at H
     exact absurd H (by simp)
def spec_l25Good.j0 : Nat → Bool → List (S53) → List Bool → List Bool → Int → Int → Option (Bool)
 | 0, _, _, _, _, _, _ => none
 | k + 1, x31, x152000, x152001, x152002, x152003, x152004 => if x31 = true then (some false) else (if 0 < (x152001.length : Int) then (if rdOf false x152001 0 = true then (if 0 ≤ x152003 then (if x152003 < (x152001.length : Int) then (if rdOf false x152001 x152003 = true then ((spec_l25Out.f k x152000 x152001 x152003).bind fun t157 => (if t157 ≥ 0 then (some (decide (t157 ≤ x152004))) else (some false))) else (some false)) else (none)) else (none)) else (some false)) else (none))
def spec_l25Good.f (k : Nat) (l0_0 : List (S53)) (l0_1 : List Bool) (l0_2 : List Bool) (a0_3 : Int) (a0_4 : Int) : Option (Bool) := (spec_l4Legs.f k l0_0).bind fun t152 => (if t152 = true then (if (l0_1.length : Int) = 8 then (if (l0_2.length : Int) = 8 then ((spec_l4Station.f a0_3).bind fun t153 => (if t153 = true then ((spec_l1In.f a0_4 0 100000).bind fun t154 => (spec_l25Good.j0 k (!t154) l0_0 l0_1 l0_2 a0_3 a0_4)) else (spec_l25Good.j0 k true l0_0 l0_1 l0_2 a0_3 a0_4))) else (spec_l25Good.j0 k true l0_0 l0_1 l0_2 a0_3 a0_4)) else (spec_l25Good.j0 k true l0_0 l0_1 l0_2 a0_3 a0_4)) else (spec_l25Good.j0 k true l0_0 l0_1 l0_2 a0_3 a0_4))
set_option maxHeartbeats 8000000 in
set_option maxRecDepth 100000 in
theorem spec_l25Good.calls (k : Nat) (A0_0 : Option Addr) (c0_0 : Nat) (l0_0 : List (S53)) (A0_1 : Option Addr) (c0_1 : Nat) (l0_1 : List Bool) (A0_2 : Option Addr) (c0_2 : Nat) (l0_2 : List Bool) (a0_3 : Int) (a0_4 : Int) (r : Bool) (w : World) (hr0_0 : Kd.C k53 w A0_0 l0_0.length l0_0) (hc0_0 : l0_0.length ≤ c0_0) (hr0_1 : Kd.C Kd.bool w A0_1 l0_1.length l0_1) (hc0_1 : l0_1.length ≤ c0_1) (hr0_2 : Kd.C Kd.bool w A0_2 l0_2.length l0_2) (hc0_2 : l0_2.length ≤ c0_2) (h : spec_l25Good.f k l0_0 l0_1 l0_2 a0_3 a0_4 = some r) :
  Calls Tryd.prog 31 #[.agg #[.slice A0_0 l0_0.length c0_0, .slice A0_1 l0_1.length c0_1, .slice A0_2 l0_2.length c0_2, .int .i64 a0_3, .int .i64 a0_4]] w fun e w' => e = .returned (.bool r) ∧ Below w.heap.size w w' := by
 have hu34 := Tryd.underlying34
 have HR0_0 := Aside0.mk hr0_0
 have HC0_0 := Aside0.mk hc0_0
 clear hr0_0 hc0_0
 have HR0_1 := Aside0.mk hr0_1
 have HC0_1 := Aside0.mk hc0_1
 clear hr0_1 hc0_1
 have HR0_2 := Aside0.mk hr0_2
 have HC0_2 := Aside0.mk hc0_2
 clear hr0_2 hc0_2
 have HB := Aside0.mk (Below.refl w.heap.size w)
 have H : ((spec_l4Legs.f k l0_0).bind fun t152 => (if t152 = true then (if (l0_1.length : Int) = 8 then (if (l0_2.length : Int) = 8 then ((spec_l4Station.f a0_3).bind fun t153 => (if t153 = true then ((spec_l1In.f a0_4 0 100000).bind fun t154 => (spec_l25Good.j0 k (!t154) l0_0 l0_1 l0_2 a0_3 a0_4)) else (spec_l25Good.j0 k true l0_0 l0_1 l0_2 a0_3 a0_4))) else (spec_l25Good.j0 k true l0_0 l0_1 l0_2 a0_3 a0_4)) else (spec_l25Good.j0 k true l0_0 l0_1 l0_2 a0_3 a0_4)) else (spec_l25Good.j0 k true l0_0 l0_1 l0_2 a0_3 a0_4))) = some r := h
 clear h
 have HC2 := Aside0.mk H
 clear H
 go_enter Tryd.func31, Tryd.ntmps31
 go_upto_region 1 with (first | ((with_reducible refine gate_dst (N := 1) rfl ?_); (try (refine gate_guard (by rfl) ?_; dsimp only)); refine box_event ?hg (N := 1) ?hd (cs := #[.slice A0_0 l0_0.length c0_0, .slice A0_1 l0_1.length c0_1, .slice A0_2 l0_2.length c0_2, .int .i64 a0_3, .int .i64 a0_4]) (t := 34) ?hr ?_; (case hd => rfl); (case hg => rfl); (case hr => first | (go_simp; done) | (go_simp; rfl)); intro gb151 hg w3 hbox hb; have BK151 := Aside0.mk (hbox); have GW151 := Aside0.mk ((bz_ hg (lb0_ HB.out))); have GE151 := Aside0.mk ((bz_ hg (lb0_ HB.out))); replace HB := Aside0.mk (below_step (lb0_ HB.out) hb); clear hb hbox hg))
 (try simp only [Act.put, List.setIfInBounds_toArray, List.set_cons_zero, List.set_cons_succ])
 go_cut [31] (fun v31 wc => ∃ (kq : Nat) (x31_1 : Bool), v31 = .bool x31_1 ∧ Aside0 (spec_l25Good.j0 kq x31_1 l0_0 l0_1 l0_2 a0_3 a0_4 = some r) ∧ Aside0 (kq ≤ k) ∧ Aside0 (wc.heap[gb151]? = some (.cells #[(.slice A0_0 l0_0.length c0_0), (.slice A0_1 l0_1.length c0_1), (.slice A0_2 l0_2.length c0_2), .int .i64 a0_3, .int .i64 a0_4] 34 (0, 0))) ∧ Aside0 (Below w.heap.size w wc))
 case first =>
  have H := HC2.out
  clear HC2
  replace H := Option.bind_eq_some_iff.mp H
  obtain ⟨t152, A40, H⟩ := H
  replace H : (if t152 = true then (if (l0_1.length : Int) = 8 then (if (l0_2.length : Int) = 8 then ((spec_l4Station.f a0_3).bind fun t153 => (if t153 = true then ((spec_l1In.f a0_4 0 100000).bind fun t154 => (spec_l25Good.j0 k (!t154) l0_0 l0_1 l0_2 a0_3 a0_4)) else (spec_l25Good.j0 k true l0_0 l0_1 l0_2 a0_3 a0_4))) else (spec_l25Good.j0 k true l0_0 l0_1 l0_2 a0_3 a0_4)) else (spec_l25Good.j0 k true l0_0 l0_1 l0_2 a0_3 a0_4)) else (spec_l25Good.j0 k true l0_0 l0_1 l0_2 a0_3 a0_4)) = some r := H
  have A4 := Aside0.mk A40
  clear A40
  by_cases c5 : t152 = true
  ·
   subst c5
   have H1 : (if (l0_1.length : Int) = 8 then (if (l0_2.length : Int) = 8 then ((spec_l4Station.f a0_3).bind fun t153 => (if t153 = true then ((spec_l1In.f a0_4 0 100000).bind fun t154 => (spec_l25Good.j0 k (!t154) l0_0 l0_1 l0_2 a0_3 a0_4)) else (spec_l25Good.j0 k true l0_0 l0_1 l0_2 a0_3 a0_4))) else (spec_l25Good.j0 k true l0_0 l0_1 l0_2 a0_3 a0_4)) else (spec_l25Good.j0 k true l0_0 l0_1 l0_2 a0_3 a0_4)) = some r := by rw [if_pos rfl] at H; exact H
   clear H
   have H := H1
   clear H1
   by_cases c6 : (l0_1.length : Int) = 8
   ·
    rw [if_pos c6] at H
    have c6b0 : ((l0_1.length : Int) == 8) = true := beq_iff_eq.mpr c6
    have c6b1 : ((l0_1.length : Int) != 8) = false := bne_eq_false_iff_eq.mpr c6
    clear c6
    (first | rw [c6b0] | (simp only [i64_w, i32_w]; rw [c6b0]) | skip)
    by_cases c7 : (l0_2.length : Int) = 8
    ·
     rw [if_pos c7] at H
     have c7b0 : ((l0_2.length : Int) == 8) = true := beq_iff_eq.mpr c7
     have c7b1 : ((l0_2.length : Int) != 8) = false := bne_eq_false_iff_eq.mpr c7
     clear c7
     replace H := Option.bind_eq_some_iff.mp H
     obtain ⟨t153, A80, H⟩ := H
     replace H : (if t153 = true then ((spec_l1In.f a0_4 0 100000).bind fun t154 => (spec_l25Good.j0 k (!t154) l0_0 l0_1 l0_2 a0_3 a0_4)) else (spec_l25Good.j0 k true l0_0 l0_1 l0_2 a0_3 a0_4)) = some r := H
     have A8 := Aside0.mk A80
     clear A80
     by_cases c9 : t153 = true
     ·
      subst c9
      have H1 : ((spec_l1In.f a0_4 0 100000).bind fun t154 => (spec_l25Good.j0 k (!t154) l0_0 l0_1 l0_2 a0_3 a0_4)) = some r := by rw [if_pos rfl] at H; exact H
      clear H
      have H := H1
      clear H1
      replace H := Option.bind_eq_some_iff.mp H
      obtain ⟨t154, A100, H⟩ := H
      replace H : (spec_l25Good.j0 k (!t154) l0_0 l0_1 l0_2 a0_3 a0_4) = some r := H
      have A10 := Aside0.mk A100
      clear A100
      have H' := Aside0.mk H
      clear H
      obtain ⟨hcz11_0, hcz11_1, hcz11_2, hcz11_3, hcz11_4⟩ := cz5_ BK151.out
      obtain ⟨hfz11_0, hfz11_1, hfz11_2, hfz11_3, hfz11_4⟩ := fz5_ BK151.out
      go_wp2_with (first | ((with_reducible refine gate_callee (f := 44) rfl ?_); refine ga_ (some 6) Tryd.func44 #[.slice A0_0 l0_0.length c0_0] ?_; (with_reducible refine (spec_l4Legs.calls k _ _ l0_0 true _ ?side1 ?side2 A4.out).mono ?_); (case side1 => exact kc_ (Kd.C_below HR0_0.out HB.out)); (case side2 => exact HC0_0.out); rintro e w12 ⟨rfl, hb⟩; refine ⟨_, rfl, ?_⟩; replace BK151 := Aside0.mk (bb_ (bk_ BK151.out) hb); replace HB := Aside0.mk (below_step (lb1_ HB.out GE151.out) hb); (try clear hb); (try clear hb2); (try clear hk); (try clear hi); obtain ⟨hcz13_0, hcz13_1, hcz13_2, hcz13_3, hcz13_4⟩ := cz5_ BK151.out; obtain ⟨hfz13_0, hfz13_1, hfz13_2, hfz13_3, hfz13_4⟩ := fz5_ BK151.out) | (go_at_call 45; (with_reducible refine (spec_l4Station.calls a0_3 true _ A8.out).mono ?_); rintro e w' ⟨rfl, ⟨nd, rfl⟩⟩) | (go_at_call 46; (with_reducible refine (spec_l1In.calls a0_4 0 100000 t154 _ A10.out).mono ?_); rintro e w' ⟨rfl, ⟨nd, rfl⟩⟩))
      go_meet
      case rel => exact ⟨_, (!t154), (by first | rfl | (simp; done) | (simp [*]; done)), H', ⟨by first | omega | exact Nat.le_refl _⟩, ⟨bk_ BK151.out⟩, ⟨lb1_ HB.out GE151.out⟩⟩
     ·
      replace c9 := Bool.eq_false_iff.mpr c9
      subst c9
      have H1 : (spec_l25Good.j0 k true l0_0 l0_1 l0_2 a0_3 a0_4) = some r := by rw [if_neg (show ¬ (false = true) by decide)] at H; exact H
      clear H
      have H := H1
      clear H1
      have H' := Aside0.mk H
      clear H
      obtain ⟨hcz14_0, hcz14_1, hcz14_2, hcz14_3, hcz14_4⟩ := cz5_ BK151.out
      obtain ⟨hfz14_0, hfz14_1, hfz14_2, hfz14_3, hfz14_4⟩ := fz5_ BK151.out
      go_wp2_with (first | ((with_reducible refine gate_callee (f := 44) rfl ?_); refine ga_ (some 6) Tryd.func44 #[.slice A0_0 l0_0.length c0_0] ?_; (with_reducible refine (spec_l4Legs.calls k _ _ l0_0 true _ ?side1 ?side2 A4.out).mono ?_); (case side1 => exact kc_ (Kd.C_below HR0_0.out HB.out)); (case side2 => exact HC0_0.out); rintro e w15 ⟨rfl, hb⟩; refine ⟨_, rfl, ?_⟩; replace BK151 := Aside0.mk (bb_ (bk_ BK151.out) hb); replace HB := Aside0.mk (below_step (lb1_ HB.out GE151.out) hb); (try clear hb); (try clear hb2); (try clear hk); (try clear hi); obtain ⟨hcz16_0, hcz16_1, hcz16_2, hcz16_3, hcz16_4⟩ := cz5_ BK151.out; obtain ⟨hfz16_0, hfz16_1, hfz16_2, hfz16_3, hfz16_4⟩ := fz5_ BK151.out) | (go_at_call 45; (with_reducible refine (spec_l4Station.calls a0_3 false _ A8.out).mono ?_); rintro e w' ⟨rfl, ⟨nd, rfl⟩⟩))
      go_meet
      case rel => exact ⟨_, (true), (by first | rfl | (simp; done) | (simp [*]; done)), H', ⟨by first | omega | exact Nat.le_refl _⟩, ⟨bk_ BK151.out⟩, ⟨lb1_ HB.out GE151.out⟩⟩
    ·
     rw [if_neg c7] at H
     have c7b0 : ((l0_2.length : Int) == 8) = false := beq_eq_false_iff_ne.mpr c7
     have c7b1 : ((l0_2.length : Int) != 8) = true := bne_iff_ne.mpr c7
     have H' := Aside0.mk H
     clear H
     obtain ⟨hcz17_0, hcz17_1, hcz17_2, hcz17_3, hcz17_4⟩ := cz5_ BK151.out
     obtain ⟨hfz17_0, hfz17_1, hfz17_2, hfz17_3, hfz17_4⟩ := fz5_ BK151.out
     go_wp2_with (first | ((with_reducible refine gate_callee (f := 44) rfl ?_); refine ga_ (some 6) Tryd.func44 #[.slice A0_0 l0_0.length c0_0] ?_; (with_reducible refine (spec_l4Legs.calls k _ _ l0_0 true _ ?side1 ?side2 A4.out).mono ?_); (case side1 => exact kc_ (Kd.C_below HR0_0.out HB.out)); (case side2 => exact HC0_0.out); rintro e w18 ⟨rfl, hb⟩; refine ⟨_, rfl, ?_⟩; replace BK151 := Aside0.mk (bb_ (bk_ BK151.out) hb); replace HB := Aside0.mk (below_step (lb1_ HB.out GE151.out) hb); (try clear hb); (try clear hb2); (try clear hk); (try clear hi); obtain ⟨hcz19_0, hcz19_1, hcz19_2, hcz19_3, hcz19_4⟩ := cz5_ BK151.out; obtain ⟨hfz19_0, hfz19_1, hfz19_2, hfz19_3, hfz19_4⟩ := fz5_ BK151.out))
     go_meet
     case rel => exact ⟨_, (true), (by first | rfl | (simp; done) | (simp [*]; done)), H', ⟨by first | omega | exact Nat.le_refl _⟩, ⟨bk_ BK151.out⟩, ⟨lb1_ HB.out GE151.out⟩⟩
   ·
    rw [if_neg c6] at H
    have c6b0 : ((l0_1.length : Int) == 8) = false := beq_eq_false_iff_ne.mpr c6
    have c6b1 : ((l0_1.length : Int) != 8) = true := bne_iff_ne.mpr c6
    (first | rw [c6b0] | (simp only [i64_w, i32_w]; rw [c6b0]) | skip)
    have H' := Aside0.mk H
    clear H
    obtain ⟨hcz20_0, hcz20_1, hcz20_2, hcz20_3, hcz20_4⟩ := cz5_ BK151.out
    obtain ⟨hfz20_0, hfz20_1, hfz20_2, hfz20_3, hfz20_4⟩ := fz5_ BK151.out
    go_wp2_with (first | ((with_reducible refine gate_callee (f := 44) rfl ?_); refine ga_ (some 6) Tryd.func44 #[.slice A0_0 l0_0.length c0_0] ?_; (with_reducible refine (spec_l4Legs.calls k _ _ l0_0 true _ ?side1 ?side2 A4.out).mono ?_); (case side1 => exact kc_ (Kd.C_below HR0_0.out HB.out)); (case side2 => exact HC0_0.out); rintro e w21 ⟨rfl, hb⟩; refine ⟨_, rfl, ?_⟩; replace BK151 := Aside0.mk (bb_ (bk_ BK151.out) hb); replace HB := Aside0.mk (below_step (lb1_ HB.out GE151.out) hb); (try clear hb); (try clear hb2); (try clear hk); (try clear hi); obtain ⟨hcz22_0, hcz22_1, hcz22_2, hcz22_3, hcz22_4⟩ := cz5_ BK151.out; obtain ⟨hfz22_0, hfz22_1, hfz22_2, hfz22_3, hfz22_4⟩ := fz5_ BK151.out))
    go_meet
    case rel => exact ⟨_, (true), (by first | rfl | (simp; done) | (simp [*]; done)), H', ⟨by first | omega | exact Nat.le_refl _⟩, ⟨bk_ BK151.out⟩, ⟨lb1_ HB.out GE151.out⟩⟩
  ·
   replace c5 := Bool.eq_false_iff.mpr c5
   subst c5
   have H1 : (spec_l25Good.j0 k true l0_0 l0_1 l0_2 a0_3 a0_4) = some r := by rw [if_neg (show ¬ (false = true) by decide)] at H; exact H
   clear H
   have H := H1
   clear H1
   have H' := Aside0.mk H
   clear H
   obtain ⟨hcz23_0, hcz23_1, hcz23_2, hcz23_3, hcz23_4⟩ := cz5_ BK151.out
   obtain ⟨hfz23_0, hfz23_1, hfz23_2, hfz23_3, hfz23_4⟩ := fz5_ BK151.out
   go_wp2_with (first | ((with_reducible refine gate_callee (f := 44) rfl ?_); refine ga_ (some 6) Tryd.func44 #[.slice A0_0 l0_0.length c0_0] ?_; (with_reducible refine (spec_l4Legs.calls k _ _ l0_0 false _ ?side1 ?side2 A4.out).mono ?_); (case side1 => exact kc_ (Kd.C_below HR0_0.out HB.out)); (case side2 => exact HC0_0.out); rintro e w24 ⟨rfl, hb⟩; refine ⟨_, rfl, ?_⟩; replace BK151 := Aside0.mk (bb_ (bk_ BK151.out) hb); replace HB := Aside0.mk (below_step (lb1_ HB.out GE151.out) hb); (try clear hb); (try clear hb2); (try clear hk); (try clear hi)))
   go_meet
   case rel => exact ⟨_, (true), (by first | rfl | (simp; done) | (simp [*]; done)), H', ⟨by first | omega | exact Nat.le_refl _⟩, ⟨bk_ BK151.out⟩, ⟨lb1_ HB.out GE151.out⟩⟩
 case rest =>
  clear HC2
  try clear p2
  try clear c3
  try clear c4
  try clear c5
  try clear c6
  try clear c6b0
  try clear c6b1
  try clear c7
  try clear c7b0
  try clear c7b1
  try clear c9
  try clear hcz11_0 hcz11_1 hcz11_2 hcz11_3 hcz11_4
  try clear hcz13_0 hcz13_1 hcz13_2 hcz13_3 hcz13_4
  try clear hcz14_0 hcz14_1 hcz14_2 hcz14_3 hcz14_4
  try clear hcz16_0 hcz16_1 hcz16_2 hcz16_3 hcz16_4
  try clear hcz17_0 hcz17_1 hcz17_2 hcz17_3 hcz17_4
  try clear hcz19_0 hcz19_1 hcz19_2 hcz19_3 hcz19_4
  try clear hcz20_0 hcz20_1 hcz20_2 hcz20_3 hcz20_4
  try clear hcz22_0 hcz22_1 hcz22_2 hcz22_3 hcz22_4
  try clear hcz23_0 hcz23_1 hcz23_2 hcz23_3 hcz23_4
  try clear hfz11_0 hfz11_1 hfz11_2 hfz11_3 hfz11_4
  try clear hfz13_0 hfz13_1 hfz13_2 hfz13_3 hfz13_4
  try clear hfz14_0 hfz14_1 hfz14_2 hfz14_3 hfz14_4
  try clear hfz16_0 hfz16_1 hfz16_2 hfz16_3 hfz16_4
  try clear hfz17_0 hfz17_1 hfz17_2 hfz17_3 hfz17_4
  try clear hfz19_0 hfz19_1 hfz19_2 hfz19_3 hfz19_4
  try clear hfz20_0 hfz20_1 hfz20_2 hfz20_3 hfz20_4
  try clear hfz22_0 hfz22_1 hfz22_2 hfz22_3 hfz22_4
  try clear hfz23_0 hfz23_1 hfz23_2 hfz23_3 hfz23_4
  obtain ⟨kq, x31_1, rfl, HA, HJ1, BK151, HB⟩ := hcut
  cases kq with
  | zero => exact absurd HA.out (by simp [spec_l25Good.j0])
  | succ kj1 =>
   have H := HA.out
   clear HA
   simp only [spec_l25Good.j0] at H
   by_cases c25 : x31_1 = true
   ·
    subst c25
    have H1 : (some false) = some r := by rw [if_pos rfl] at H; exact H
    clear H
    have H := H1
    clear H1
    obtain rfl := Option.some.inj H
    go_wp2
    go_ret
    exact ⟨rr_, lb1_ HB.out GE151.out⟩
   ·
    replace c25 := Bool.eq_false_iff.mpr c25
    subst c25
    have H1 : (if 0 < (l0_1.length : Int) then (if rdOf false l0_1 0 = true then (if 0 ≤ a0_3 then (if a0_3 < (l0_1.length : Int) then (if rdOf false l0_1 a0_3 = true then ((spec_l25Out.f kj1 l0_0 l0_1 a0_3).bind fun t157 => (if t157 ≥ 0 then (some (decide (t157 ≤ a0_4))) else (some false))) else (some false)) else (none)) else (none)) else (some false)) else (none)) = some r := by rw [if_neg (show ¬ (false = true) by decide)] at H; exact H
    clear H
    have H := H1
    clear H1
    by_cases c26 : 0 < (l0_1.length : Int)
    ·
     rw [if_pos c26] at H
     have c26b0 : decide (0 < (l0_1.length : Int)) = true := decide_eq_true c26
     have c26b1 : decide (0 < l0_1.length) = true := decide_eq_true (by omega)
     clear c26
     obtain ⟨bq27, hbq27⟩ : ∃ b_ : Bool, b_ = (rdOf false l0_1 0) := ⟨_, rfl⟩
     replace H : (if bq27 = true then (if 0 ≤ a0_3 then (if a0_3 < (l0_1.length : Int) then (if rdOf false l0_1 a0_3 = true then ((spec_l25Out.f kj1 l0_0 l0_1 a0_3).bind fun t157 => (if t157 ≥ 0 then (some (decide (t157 ≤ a0_4))) else (some false))) else (some false)) else (none)) else (none)) else (some false)) = some r := by rw [← hbq27] at H; exact H
     have Nbq27 := Aside0.mk hbq27
     clear hbq27
     by_cases c28 : bq27 = true
     ·
      subst c28
      have H1 : (if 0 ≤ a0_3 then (if a0_3 < (l0_1.length : Int) then (if rdOf false l0_1 a0_3 = true then ((spec_l25Out.f kj1 l0_0 l0_1 a0_3).bind fun t157 => (if t157 ≥ 0 then (some (decide (t157 ≤ a0_4))) else (some false))) else (some false)) else (none)) else (none)) = some r := by rw [if_pos rfl] at H; exact H
      clear H
      have H := H1
      clear H1
      by_cases c29 : 0 ≤ a0_3
      ·
       rw [if_pos c29] at H
       have c29b0 : decide (0 ≤ a0_3) = true := decide_eq_true c29
       clear c29
       by_cases c30 : a0_3 < (l0_1.length : Int)
       ·
        rw [if_pos c30] at H
        have c30b0 : decide (a0_3 < (l0_1.length : Int)) = true := decide_eq_true c30; clear c30
        obtain ⟨bq31, hbq31⟩ : ∃ b_ : Bool, b_ = (rdOf false l0_1 a0_3) := ⟨_, rfl⟩
        replace H : (if bq31 = true then ((spec_l25Out.f kj1 l0_0 l0_1 a0_3).bind fun t157 => (if t157 ≥ 0 then (some (decide (t157 ≤ a0_4))) else (some false))) else (some false)) = some r := by rw [← hbq31] at H; exact H
        have Nbq31 := Aside0.mk hbq31; clear hbq31
        by_cases c32 : bq31 = true
        ·
         subst c32
         have H1 : ((spec_l25Out.f kj1 l0_0 l0_1 a0_3).bind fun t157 => (if t157 ≥ 0 then (some (decide (t157 ≤ a0_4))) else (some false))) = some r := by rw [if_pos rfl] at H; exact H
         clear H; have H := H1; clear H1; replace H := Option.bind_eq_some_iff.mp H; obtain ⟨t157, A330, H⟩ := H; replace H : (if t157 ≥ 0 then (some (decide (t157 ≤ a0_4))) else (some false)) = some r := H; have A33 := Aside0.mk A330; clear A330
         by_cases c34 : t157 ≥ 0
         ·
          rw [if_pos c34] at H
          have c34b0 : decide (0 ≤ t157) = true := decide_eq_true c34; clear c34; obtain rfl := Option.some.inj H; obtain ⟨hcz35_0, hcz35_1, hcz35_2, hcz35_3, hcz35_4⟩ := cz5_ BK151.out; obtain ⟨hfz35_0, hfz35_1, hfz35_2, hfz35_3, hfz35_4⟩ := fz5_ BK151.out
          have p155 : 0 ≤ (0 : Int) := (by omega)
          have q155 : 0 < (l0_1.length : Int) := dt_; obtain ⟨ad155, e155, hx155_0⟩ := Kd.at_bool HR0_1.out 0 p155 q155; (try rw [← Nbq27.out] at hx155_0); (try rw [← Nbq31.out] at hx155_0)
          cases e155
          have qi155 : (0 < l0_1.length) = True := eq_true (by omega); (try rw [show ((0 : Int)).toNat = 0 from rfl] at hx155_0); (try rw [Addr.add_zero'] at hx155_0); replace hx155_0 := bc_ HB.out hx155_0; replace p155 := eq_true p155; replace q155 := eq_true q155; have p156 : 0 ≤ (a0_3 : Int) := dt_; have q156 : a0_3 < (l0_1.length : Int) := dt_; obtain ⟨ad156, e156, hx156_0⟩ := Kd.at_bool HR0_1.out a0_3 p156 q156; (try rw [← Nbq27.out] at hx156_0); (try rw [← Nbq31.out] at hx156_0)
          obtain rfl : ad155 = ad156 := (by injection e156)
          replace hx156_0 := bc_ HB.out hx156_0; replace p156 := eq_true p156; replace q156 := eq_true q156
          go_wp2_with (first | ((with_reducible refine gate_callee (f := 47) rfl ?_); refine ga_ (some 52) Tryd.func47 #[.slice A0_0 l0_0.length c0_0, .slice (some ad155) l0_1.length c0_1, .int .i64 a0_3] ?_; (with_reducible refine (spec_l25Out.calls kj1 _ _ l0_0 _ _ l0_1 a0_3 t157 _ ?side1 ?side2 ?side3 ?side4 A33.out).mono ?_); (case side1 => exact kc_ (Kd.C_below HR0_0.out HB.out)); (case side2 => exact HC0_0.out); (case side3 => exact kc_ (Kd.C_below HR0_1.out HB.out)); (case side4 => exact HC0_1.out); rintro e w36 ⟨rfl, hb⟩; refine ⟨_, rfl, ?_⟩; replace BK151 := Aside0.mk (bb_ (bk_ BK151.out) hb); replace HB := Aside0.mk (below_step (lb1_ HB.out GE151.out) hb); (try clear hb); (try clear hb2); (try clear hk); (try clear hi); obtain ⟨hcz37_0, hcz37_1, hcz37_2, hcz37_3, hcz37_4⟩ := cz5_ BK151.out; obtain ⟨hfz37_0, hfz37_1, hfz37_2, hfz37_3, hfz37_4⟩ := fz5_ BK151.out))
          go_ret
          exact ⟨rr_, lb1_ HB.out GE151.out⟩
         ·
          rw [if_neg c34] at H
          have c34b0 : decide (0 ≤ t157) = false := decide_eq_false c34; clear c34; obtain rfl := Option.some.inj H; obtain ⟨hcz38_0, hcz38_1, hcz38_2, hcz38_3, hcz38_4⟩ := cz5_ BK151.out; obtain ⟨hfz38_0, hfz38_1, hfz38_2, hfz38_3, hfz38_4⟩ := fz5_ BK151.out
          have p155 : 0 ≤ (0 : Int) := (by omega)
          have q155 : 0 < (l0_1.length : Int) := dt_; obtain ⟨ad155, e155, hx155_0⟩ := Kd.at_bool HR0_1.out 0 p155 q155; (try rw [← Nbq27.out] at hx155_0); (try rw [← Nbq31.out] at hx155_0)
          cases e155
          have qi155 : (0 < l0_1.length) = True := eq_true (by omega); (try rw [show ((0 : Int)).toNat = 0 from rfl] at hx155_0); (try rw [Addr.add_zero'] at hx155_0); replace hx155_0 := bc_ HB.out hx155_0; replace p155 := eq_true p155; replace q155 := eq_true q155; have p156 : 0 ≤ (a0_3 : Int) := dt_; have q156 : a0_3 < (l0_1.length : Int) := dt_; obtain ⟨ad156, e156, hx156_0⟩ := Kd.at_bool HR0_1.out a0_3 p156 q156; (try rw [← Nbq27.out] at hx156_0); (try rw [← Nbq31.out] at hx156_0)
          obtain rfl : ad155 = ad156 := (by injection e156)
          replace hx156_0 := bc_ HB.out hx156_0; replace p156 := eq_true p156; replace q156 := eq_true q156
          go_wp2_with (first | ((with_reducible refine gate_callee (f := 47) rfl ?_); refine ga_ (some 52) Tryd.func47 #[.slice A0_0 l0_0.length c0_0, .slice (some ad155) l0_1.length c0_1, .int .i64 a0_3] ?_; (with_reducible refine (spec_l25Out.calls kj1 _ _ l0_0 _ _ l0_1 a0_3 t157 _ ?side1 ?side2 ?side3 ?side4 A33.out).mono ?_); (case side1 => exact kc_ (Kd.C_below HR0_0.out HB.out)); (case side2 => exact HC0_0.out); (case side3 => exact kc_ (Kd.C_below HR0_1.out HB.out)); (case side4 => exact HC0_1.out); rintro e w39 ⟨rfl, hb⟩; refine ⟨_, rfl, ?_⟩; replace BK151 := Aside0.mk (bb_ (bk_ BK151.out) hb); replace HB := Aside0.mk (below_step (lb1_ HB.out GE151.out) hb); (try clear hb); (try clear hb2); (try clear hk); (try clear hi)))
          go_ret
          exact ⟨rr_, lb1_ HB.out GE151.out⟩
        ·
         replace c32 := Bool.eq_false_iff.mpr c32; subst c32
         have H1 : (some false) = some r := by rw [if_neg (show ¬ (false = true) by decide)] at H; exact H
         clear H; have H := H1; clear H1; obtain rfl := Option.some.inj H; obtain ⟨hcz40_0, hcz40_1, hcz40_2, hcz40_3, hcz40_4⟩ := cz5_ BK151.out; obtain ⟨hfz40_0, hfz40_1, hfz40_2, hfz40_3, hfz40_4⟩ := fz5_ BK151.out
         have p155 : 0 ≤ (0 : Int) := (by omega)
         have q155 : 0 < (l0_1.length : Int) := dt_; obtain ⟨ad155, e155, hx155_0⟩ := Kd.at_bool HR0_1.out 0 p155 q155; (try rw [← Nbq27.out] at hx155_0); (try rw [← Nbq31.out] at hx155_0)
         cases e155
         have qi155 : (0 < l0_1.length) = True := eq_true (by omega); (try rw [show ((0 : Int)).toNat = 0 from rfl] at hx155_0); (try rw [Addr.add_zero'] at hx155_0); replace hx155_0 := bc_ HB.out hx155_0; replace p155 := eq_true p155; replace q155 := eq_true q155; have p156 : 0 ≤ (a0_3 : Int) := dt_; have q156 : a0_3 < (l0_1.length : Int) := dt_; obtain ⟨ad156, e156, hx156_0⟩ := Kd.at_bool HR0_1.out a0_3 p156 q156; (try rw [← Nbq27.out] at hx156_0); (try rw [← Nbq31.out] at hx156_0)
         obtain rfl : ad155 = ad156 := (by injection e156)
         replace hx156_0 := bc_ HB.out hx156_0; replace p156 := eq_true p156; replace q156 := eq_true q156
         go_wp2
         go_ret
         exact ⟨rr_, lb1_ HB.out GE151.out⟩
       ·
        rw [if_neg c30] at H
        exact absurd H (by simp)
      ·
       rw [if_neg c29] at H
       exact absurd H (by simp)
     ·
      replace c28 := Bool.eq_false_iff.mpr c28
      subst c28
      have H1 : (some false) = some r := by rw [if_neg (show ¬ (false = true) by decide)] at H; exact H
      clear H
      have H := H1
      clear H1
      obtain rfl := Option.some.inj H
      obtain ⟨hcz41_0, hcz41_1, hcz41_2, hcz41_3, hcz41_4⟩ := cz5_ BK151.out
      obtain ⟨hfz41_0, hfz41_1, hfz41_2, hfz41_3, hfz41_4⟩ := fz5_ BK151.out
      have p155 : 0 ≤ (0 : Int) := (by omega)
      have q155 : 0 < (l0_1.length : Int) := dt_
      obtain ⟨ad155, e155, hx155_0⟩ := Kd.at_bool HR0_1.out 0 p155 q155
      (try rw [← Nbq27.out] at hx155_0)
      cases e155
      have qi155 : (0 < l0_1.length) = True := eq_true (by omega)
      (try rw [show ((0 : Int)).toNat = 0 from rfl] at hx155_0)
      (try rw [Addr.add_zero'] at hx155_0)
      replace hx155_0 := bc_ HB.out hx155_0
      replace p155 := eq_true p155
      replace q155 := eq_true q155
      go_wp2
      go_ret
      exact ⟨rr_, lb1_ HB.out GE151.out⟩
    ·
     rw [if_neg c26] at H
     exact absurd H (by simp)
def sc (a b : ByteArray) : ByteArray := a ++ b
theorem sc_in (a b : ByteArray) : a ++ b = sc a b := rfl
def sx (a : ByteArray) (i j : Nat) : ByteArray := a.extract i j
theorem sx_in (a : ByteArray) (i j : Nat) : a.extract i j = sx a i j := rfl
end Go.Proofs.YtckigdechhmegaaDoor.Pr

namespace Go.Proofs.YtckigdechhmegaaDoor.Pr
open Go.RowKit Go.Proofs.YtckigdechhmegaaDoorW.PrintWords Go.Proofs.YtckigdechhmegaaDoorW.PrintLast Go.Proofs.YtckigdechhmegaaDoorW.PrintMore
attribute [local go_sem] max2_int min2_int max_two min_two max_three min_three max_four min_four sc_in sx_in   -- for this text's walks alone
set_option linter.unusedVariables false
set_option linter.unusedSimpArgs false
def spec_l1Split.l0 : Nat → ByteArray → Int → List ByteArray → Int → Int → Option (List ByteArray)
 | 0, _, _, _, _, _ => none
 | k + 1, x0, x1, x5, x6, x7 => if x7 < (x0.size : Int) then (if 0 ≤ x7 then (if (bt x0 x7) = x1 then (if 0 ≤ x6 then (if x6 ≤ x7 then (if x7 ≤ (x0.size : Int) then (if x5.length < 8796093022208 then (spec_l1Split.l0 k x0 x1 (x5 ++ [sx x0 ((x6 : Int).toNat) ((x7 : Int).toNat)]) (wrap64 (x7 + 1)) (wrap64 (x7 + 1))) else (none)) else (none)) else (none)) else (none)) else (spec_l1Split.l0 k x0 x1 x5 x6 (wrap64 (x7 + 1)))) else (none)) else (if 0 ≤ x6 then (if x6 ≤ (x0.size : Int) then (if x5.length < 8796093022208 then (some (x5 ++ [sx x0 ((x6 : Int).toNat) (x0.size)])) else (none)) else (none)) else (none))
def spec_l1Split.f (k : Nat) (a0 : ByteArray) (a1 : Int) : Option (List ByteArray) := spec_l1Split.l0 k a0 a1 (([] : List ByteArray)) 0 0
set_option maxHeartbeats 8000000 in
set_option maxRecDepth 100000 in
theorem spec_l1Split.calls (k : Nat) (a0 : ByteArray) (a1 : Int) (r : List ByteArray) (w : World) (h : spec_l1Split.f k a0 a1 = some r) :
  Calls Tryd.prog 58 #[.string a0, .int .u8 a1] w fun e w' => ∃ v0_ : Value, e = .returned (v0_) ∧ Kd.R Kd.string 9 w' w.heap.size (fun _ => True) v0_ r ∧ Below w.heap.size w w' := by
 have HB := Aside0.mk (Below.refl w.heap.size w)
 have H : (spec_l1Split.l0 k a0 a1 (([] : List ByteArray)) 0 0) = some r := h
 clear h
 obtain ⟨y158, hy158⟩ : ∃ y_ : List ByteArray, y_ = (([] : List ByteArray)) := ⟨_, rfl⟩
 replace H : (spec_l1Split.l0 k a0 a1 y158 0 0) = some r := by first | (rw [hy158]; with_reducible exact H) | (have H2_ := (Option.bind_some _ _).symm.trans H; rw [hy158]; with_reducible exact H2_) | (have H2_ := (Option.bind_some _ _).symm.trans H; with_reducible exact H2_) | with_reducible exact H | (rw [hy158]; exact H) | exact H
 have Ny158 := Aside0.mk hy158
 clear hy158
 have H' := Aside0.mk H
 clear H
 go_enter Tryd.func58, Tryd.ntmps58
 go_wp2_with (first | ((with_reducible refine gate_dst (N := 8) rfl ?_); refine Kd.R_lit Kd.string _ 9 ?hg (N := 8) ?hd (xs := ([] : List ByteArray)) (inner := []) (ok := fun _ => True) (okp := fun _ => True) ?hr ?hp (fun _ hk => hk) trivial (Below.refl _ _) (Nat.le_refl _) (by simp) ?_; (case hd => rfl); (case hg => rfl); (case hr => first | (go_simp; done) | (go_simp; rfl)); (case hp => exact (Reps.none _ _)); intro v159 w3 ho4 hb hg_ hnew_; clear hg_ hnew_; replace ho4 := ry_ Ny158.out ho4; have HO160 := Aside0.mk (Kd.R_lower ho4 (below_size (lb0_ HB.out))); replace HB := Aside0.mk (below_step (lb0_ HB.out) hb); clear hb ho4))
 go_loopg [5, 6, 7] k (fun kq v5 v6 v7 w' => ∃ (x5_1 : List ByteArray) (x6_1 : Int) (x7_1 : Int), v6 = .int .i64 x6_1 ∧ v7 = .int .i64 x7_1 ∧ Aside0 (spec_l1Split.l0 kq a0 a1 x5_1 x6_1 x7_1 = some r) ∧ Aside0 (kq ≤ k) ∧ Aside0 (Kd.R Kd.string 9 w' w.heap.size (fun _ => True) v5 x5_1) ∧ Aside0 (Below w.heap.size w w'))
 case atStart => exact ⟨(y158), (0), (0), (by first | rfl | (simp; done) | (simp [*]; done)), (by first | rfl | (simp; done) | (simp [*]; done)), H', ⟨Nat.le_refl _⟩, ⟨kr_ HO160.out⟩, ⟨lb0_ HB.out⟩⟩
 case round =>
  clear H'
  try clear p2
  obtain ⟨x5_1, x6_1, x7_1, rfl, rfl, HA, HK1, HO_5, HB⟩ := hrel
  cases gk with
  | zero => exact absurd HA.out (by simp [spec_l1Split.l0])
  | succ k1 =>
   have H := HA.out
   clear HA
   simp only [spec_l1Split.l0] at H
   by_cases c5 : x7_1 < (a0.size : Int)
   ·
    rw [if_pos c5] at H
    have c5b0 : decide (x7_1 < (a0.size : Int)) = true := decide_eq_true c5
    clear c5
    by_cases c6 : 0 ≤ x7_1
    ·
     rw [if_pos c6] at H
     have c6b0 : decide (0 ≤ x7_1) = true := decide_eq_true c6
     clear c6
     by_cases c8 : (bt a0 x7_1) = a1
     ·
      rw [if_pos c8] at H
      have c8b0 : ((bt a0 x7_1) == a1) = true := beq_iff_eq.mpr c8
      have c8b1 : ((bt a0 x7_1) != a1) = false := bne_eq_false_iff_eq.mpr c8
      clear c8
      by_cases c9 : 0 ≤ x6_1
      ·
       rw [if_pos c9] at H
       have c9b0 := eq_true c9
       have c9b1 : decide (0 ≤ x6_1) = true := decide_eq_true c9
       clear c9
       by_cases c10 : x6_1 ≤ x7_1
       ·
        rw [if_pos c10] at H
        have c10b0 := eq_true c10; have c10b1 : decide (x6_1 ≤ x7_1) = true := decide_eq_true c10; clear c10
        by_cases c11 : x7_1 ≤ (a0.size : Int)
        ·
         rw [if_pos c11] at H
         have c11b0 := eq_true c11; have c11b1 : decide (x7_1 ≤ (a0.size : Int)) = true := decide_eq_true c11; clear c11
         by_cases c12 : x5_1.length < 8796093022208
         ·
          rw [if_pos c12] at H
          have LMc12 := Aside0.mk c12; clear c12
          obtain ⟨y161, hy161⟩ : ∃ y_ : List ByteArray, y_ = (x5_1 ++ [sx a0 ((x6_1 : Int).toNat) ((x7_1 : Int).toNat)]) := ⟨_, rfl⟩
          replace H : (spec_l1Split.l0 k1 a0 a1 y161 (wrap64 (x7_1 + 1)) (wrap64 (x7_1 + 1))) = some r := by first | (rw [hy161]; with_reducible exact H) | (have H2_ := (Option.bind_some _ _).symm.trans H; rw [hy161]; with_reducible exact H2_) | (have H2_ := (Option.bind_some _ _).symm.trans H; with_reducible exact H2_) | with_reducible exact H | (rw [hy161]; exact H) | exact H
          have Ny161 := Aside0.mk hy161; clear hy161; have H' := Aside0.mk H; clear H; have p7 : 0 ≤ (x7_1 : Int) := dt_; have q7 : x7_1 < (a0.size : Int) := dt_; have hx7 := bt_at a0 x7_1; replace p7 := eq_true p7; replace q7 := eq_true q7
          go_wp2_with (first | ((with_reducible refine gate_builtin (b := .append) (xs := #[.tmp 20, .tmp 25]) rfl ?_); at_builtin; refine Kd.R_append Kd.string (w0 := w) w.heap.size rfl (.tmp 20) (.tmp 25) 94 9 (.string ⟨#[]⟩) 16 rfl Tryd.underlying94 info9 rfl (by decide) (by omega) u5 x5_1 (sx a0 ((x6_1 : Int).toNat) ((x7_1 : Int).toNat)) [.string (sx a0 ((x6_1 : Int).toNat) ((x7_1 : Int).toNat))] (fun _ => True) (fun _ => False) rfl rfl ?aP (fun _ hk => hk.elim) ?aF ?aO ?aB ?aS ?aL ?_; (case aP => exact rfl); (case aB => exact (lb0_ HB.out)); (case aF => exact (fun _ _ => trivial)); (case aO => exact (kr_ HO_5.out)); (case aS => exact (below_size (lb0_ HB.out))); (case aL => have := LMc12.out; omega); intro v162 w13 ho hb hg hat; rw [← Ny161.out] at ho; replace HB := Aside0.mk (hb); have HO163 := Aside0.mk (ho); clear HO_5; clear ho hb hg hat))
          go_roundg k1
          case measure => have := HK1.out; omega
          case rel => exact ⟨(y161), (wrap64 (x7_1 + 1)), (wrap64 (x7_1 + 1)), (by first | rfl | (simp; done) | (simp [*]; done)), (by first | rfl | (simp; done) | (simp [*]; done)), H', ⟨by have := HK1.out; omega⟩, ⟨kr_ HO163.out⟩, ⟨lb0_ HB.out⟩⟩
         ·
          rw [if_neg c12] at H
          exact absurd H (by simp)
        ·
         rw [if_neg c11] at H
         exact absurd H (by simp)
       ·
        rw [if_neg c10] at H
        exact absurd H (by simp)
      ·
       rw [if_neg c9] at H
       exact absurd H (by simp)
     ·
      rw [if_neg c8] at H
      have c8b0 : ((bt a0 x7_1) == a1) = false := beq_eq_false_iff_ne.mpr c8
      have c8b1 : ((bt a0 x7_1) != a1) = true := bne_iff_ne.mpr c8
      have H' := Aside0.mk H
      clear H
      have p7 : 0 ≤ (x7_1 : Int) := dt_
      have q7 : x7_1 < (a0.size : Int) := dt_
      have hx7 := bt_at a0 x7_1
      replace p7 := eq_true p7
      replace q7 := eq_true q7
      go_wp2
      go_roundg k1
      case measure => have := HK1.out; omega
      case rel => exact ⟨(x5_1), (x6_1), (wrap64 (x7_1 + 1)), (by first | rfl | (simp; done) | (simp [*]; done)), (by first | rfl | (simp; done) | (simp [*]; done)), H', ⟨by have := HK1.out; omega⟩, ⟨kr_ HO_5.out⟩, ⟨lb0_ HB.out⟩⟩
    ·
     rw [if_neg c6] at H
     exact absurd H (by simp)
   ·
    rw [if_neg c5] at H
    have c5b0 : decide (x7_1 < (a0.size : Int)) = false := decide_eq_false c5
    clear c5
    by_cases c14 : 0 ≤ x6_1
    ·
     rw [if_pos c14] at H
     have c14b0 := eq_true c14
     have c14b1 : decide (0 ≤ x6_1) = true := decide_eq_true c14
     clear c14
     by_cases c15 : x6_1 ≤ (a0.size : Int)
     ·
      rw [if_pos c15] at H
      have c15b0 := eq_true c15
      have c15b1 : decide (x6_1 ≤ (a0.size : Int)) = true := decide_eq_true c15
      clear c15
      by_cases c16 : x5_1.length < 8796093022208
      ·
       rw [if_pos c16] at H
       have LMc16 := Aside0.mk c16
       clear c16
       obtain ⟨y164, hy164⟩ : ∃ y_ : List ByteArray, y_ = (x5_1 ++ [sx a0 ((x6_1 : Int).toNat) (a0.size)]) := ⟨_, rfl⟩
       replace H : (some y164) = some r := by first | (rw [hy164]; with_reducible exact H) | (have H2_ := (Option.bind_some _ _).symm.trans H; rw [hy164]; with_reducible exact H2_) | (have H2_ := (Option.bind_some _ _).symm.trans H; with_reducible exact H2_) | with_reducible exact H | (rw [hy164]; exact H) | exact H
       have Ny164 := Aside0.mk hy164
       clear hy164
       obtain rfl := Option.some.inj H
       go_wp2_with (first | ((with_reducible refine gate_builtin (b := .append) (xs := #[.tmp 29, .tmp 33]) rfl ?_); at_builtin; refine Kd.R_append Kd.string (w0 := w) w.heap.size rfl (.tmp 29) (.tmp 33) 94 9 (.string ⟨#[]⟩) 16 rfl Tryd.underlying94 info9 rfl (by decide) (by omega) u5 x5_1 (sx a0 ((x6_1 : Int).toNat) (a0.size)) [.string (sx a0 ((x6_1 : Int).toNat) (a0.size))] (fun _ => True) (fun _ => False) rfl rfl ?aP (fun _ hk => hk.elim) ?aF ?aO ?aB ?aS ?aL ?_; (case aP => exact rfl); (case aB => exact (lb0_ HB.out)); (case aF => exact (fun _ _ => trivial)); (case aO => exact (kr_ HO_5.out)); (case aS => exact (below_size (lb0_ HB.out))); (case aL => have := LMc16.out; omega); intro v165 w17 ho hb hg hat; rw [← Ny164.out] at ho; replace HB := Aside0.mk (hb); have HO166 := Aside0.mk (ho); clear HO_5; clear ho hb hg hat))
       go_ret
       exact ⟨_, rr_, kr_ HO166.out, lb0_ HB.out⟩
      ·
       rw [if_neg c16] at H
       exact absurd H (by simp)
     ·
      rw [if_neg c15] at H
      exact absurd H (by simp)
    ·
     rw [if_neg c14] at H
     exact absurd H (by simp)
def spec_l1Num.f : Nat → Int → Option (ByteArray)
 | 0, _ => none
 | k + 1, a0 => if a0 < 0 then ((spec_l1Num.f k (wrap64 (-a0))).bind fun t167 => (if 1 + t167.size ≤ 9223372036854775807 then (some (sc (⟨#[45]⟩ : ByteArray) t167)) else (none))) else (if a0 < 10 then (if 0 ≤ a0 then (if a0 ≤ (wrap64 (a0 + 1)) then (if (wrap64 (a0 + 1)) ≤ 10 then (some (sx (⟨#[48, 49, 50, 51, 52, 53, 54, 55, 56, 57]⟩ : ByteArray) ((a0 : Int).toNat) (((wrap64 (a0 + 1)) : Int).toNat))) else (none)) else (none)) else (none)) else ((spec_l1Num.f k (wrap64 (Int.tdiv a0 10))).bind fun t168 => (if 0 ≤ (Int.tmod a0 10) then (if (Int.tmod a0 10) ≤ (wrap64 ((Int.tmod a0 10) + 1)) then (if (wrap64 ((Int.tmod a0 10) + 1)) ≤ 10 then (if t168.size + (sx (⟨#[48, 49, 50, 51, 52, 53, 54, 55, 56, 57]⟩ : ByteArray) (((Int.tmod a0 10) : Int).toNat) (((wrap64 ((Int.tmod a0 10) + 1)) : Int).toNat)).size ≤ 9223372036854775807 then (some (sc t168 (sx (⟨#[48, 49, 50, 51, 52, 53, 54, 55, 56, 57]⟩ : ByteArray) (((Int.tmod a0 10) : Int).toNat) (((wrap64 ((Int.tmod a0 10) + 1)) : Int).toNat)))) else (none)) else (none)) else (none)) else (none))))
def spec_l1Num.T5 : Bool × List (List Nat × List Nat) := (true, [([], []), ([0], [0]), ([1], [1]), ([], []), ([3], [3]), ([], []), ([5], [5]), ([6], [6]), ([4, 7], [4, 7]), ([2, 8], [2, 8]), ([9, 2, 0, 1, 2, 3, 4, 5, 6, 7, 8, 9], [9])])
def spec_l1Num.B5 : List Nat := [0, 1, 3, 0, 8, 0, 32, 96, 248, 511, 1023]
theorem spec_l1Num.tab5 : rtab .any (opsOf Tryd.f22 5) = spec_l1Num.T5 := by kernel_rfl
theorem spec_l1Num.bits5 : waitsOk spec_l1Num.T5.2 spec_l1Num.B5 = true := by kernel_rfl
abbrev spec_l1Num.mk0 : Array Bool := #[false, false, false, false, false, false, false, false, false, false, false]
abbrev spec_l1Num.mk1 : Array Bool := #[true, false, false, false, false, false, false, false, false, false, false]
abbrev spec_l1Num.mk2 : Array Bool := #[true, true, false, false, false, false, false, false, false, false, false]
abbrev spec_l1Num.mk3 : Array Bool := #[true, true, false, true, false, false, false, false, false, false, false]
abbrev spec_l1Num.mk4 : Array Bool := #[true, true, false, true, true, false, false, false, false, false, false]
abbrev spec_l1Num.mk5 : Array Bool := #[true, true, false, true, true, true, false, false, false, false, false]
abbrev spec_l1Num.mk6 : Array Bool := #[true, true, false, true, true, true, true, false, false, false, false]
abbrev spec_l1Num.mk7 : Array Bool := #[true, true, false, true, true, true, true, true, false, false, false]
abbrev spec_l1Num.mk8 : Array Bool := #[true, true, false, true, true, true, true, true, true, false, false]
abbrev spec_l1Num.mk9 : Array Bool := #[true, true, true, true, true, true, true, true, true, false, false]
abbrev spec_l1Num.mk10 : Array Bool := #[true, true, true, true, true, true, true, true, true, true, false]
abbrev spec_l1Num.mk11 : Array Bool := #[true, true, true, true, true, true, true, true, true, true, true]
set_option maxHeartbeats 8000000 in
set_option maxRecDepth 100000 in
theorem spec_l1Num.calls (k : Nat) : ∀ (a0 : Int) (r : ByteArray) (w : World) (h : spec_l1Num.f k a0 = some r),
  Calls Tryd.prog 22 #[.int .i64 a0] w fun e w' => e = .returned (.string r) ∧ Below w.heap.size w w' := by
 induction k using Nat.strongRecOn with
 | _ k ih =>
 intro a0 r w h
 cases k with
 | zero => exact absurd h (by simp [spec_l1Num.f])
 | succ k =>
 simp only [spec_l1Num.f] at h
 have HB := Aside0.mk (Below.refl w.heap.size w)
 have H : (if a0 < 0 then ((spec_l1Num.f k (wrap64 (-a0))).bind fun t167 => (if 1 + t167.size ≤ 9223372036854775807 then (some (sc (⟨#[45]⟩ : ByteArray) t167)) else (none))) else (if a0 < 10 then (if 0 ≤ a0 then (if a0 ≤ (wrap64 (a0 + 1)) then (if (wrap64 (a0 + 1)) ≤ 10 then (some (sx (⟨#[48, 49, 50, 51, 52, 53, 54, 55, 56, 57]⟩ : ByteArray) ((a0 : Int).toNat) (((wrap64 (a0 + 1)) : Int).toNat))) else (none)) else (none)) else (none)) else ((spec_l1Num.f k (wrap64 (Int.tdiv a0 10))).bind fun t168 => (if 0 ≤ (Int.tmod a0 10) then (if (Int.tmod a0 10) ≤ (wrap64 ((Int.tmod a0 10) + 1)) then (if (wrap64 ((Int.tmod a0 10) + 1)) ≤ 10 then (if t168.size + (sx (⟨#[48, 49, 50, 51, 52, 53, 54, 55, 56, 57]⟩ : ByteArray) (((Int.tmod a0 10) : Int).toNat) (((wrap64 ((Int.tmod a0 10) + 1)) : Int).toNat)).size ≤ 9223372036854775807 then (some (sc t168 (sx (⟨#[48, 49, 50, 51, 52, 53, 54, 55, 56, 57]⟩ : ByteArray) (((Int.tmod a0 10) : Int).toNat) (((wrap64 ((Int.tmod a0 10) + 1)) : Int).toNat)))) else (none)) else (none)) else (none)) else (none))))) = some r := h
 clear h
 by_cases c2 : a0 < 0
 ·
  rw [if_pos c2] at H
  have c2b0 : decide (a0 < 0) = true := decide_eq_true c2
  clear c2
  replace H := Option.bind_eq_some_iff.mp H
  obtain ⟨t167, A30, H⟩ := H
  replace H : (if 1 + t167.size ≤ 9223372036854775807 then (some (sc (⟨#[45]⟩ : ByteArray) t167)) else (none)) = some r := H
  have A3 := Aside0.mk A30
  clear A30
  by_cases c4 : 1 + t167.size ≤ 9223372036854775807
  ·
   rw [if_pos c4] at H
   have c4b0 := eq_true c4
   have c4b1 : decide (1 + t167.size ≤ 9223372036854775807) = true := decide_eq_true c4
   try have c4b2 : (9223372036854775807 < 1 + t167.size) = False := eq_false (Nat.not_lt.2 c4)
   obtain rfl := Option.some.inj H
   go_enter Tryd.func22, Tryd.ntmps22
   go_wp2_with (first | ((with_reducible refine gate_callee (f := 22) rfl ?_); refine ga_ (some 7) Tryd.func22 #[.int .i64 (wrap64 (-a0))] ?_; (with_reducible refine (ih k (by omega) (wrap64 (-a0)) t167 _ A3.out).mono ?_); rintro e w5 ⟨rfl, hb⟩; refine ⟨_, rfl, ?_⟩; replace HB := Aside0.mk (below_step (lb0_ HB.out) hb); (try clear hb); (try clear hb2); (try clear hk); (try clear hi)))
   go_ret
   exact ⟨rr_, lb0_ HB.out⟩
  ·
   rw [if_neg c4] at H
   exact absurd H (by simp)
 ·
  rw [if_neg c2] at H
  have c2b0 : decide (a0 < 0) = false := decide_eq_false c2
  clear c2
  by_cases c6 : a0 < 10
  ·
   rw [if_pos c6] at H
   have c6b0 : decide (a0 < 10) = true := decide_eq_true c6
   clear c6
   by_cases c7 : 0 ≤ a0
   ·
    rw [if_pos c7] at H
    have c7b0 := eq_true c7
    have c7b1 : decide (0 ≤ a0) = true := decide_eq_true c7
    clear c7
    by_cases c8 : a0 ≤ (wrap64 (a0 + 1))
    ·
     rw [if_pos c8] at H
     have c8b0 := eq_true c8
     have c8b1 : decide (a0 ≤ (wrap64 (a0 + 1))) = true := decide_eq_true c8
     by_cases c9 : (wrap64 (a0 + 1)) ≤ 10
     ·
      rw [if_pos c9] at H
      have c9b0 := eq_true c9
      have c9b1 : decide ((wrap64 (a0 + 1)) ≤ 10) = true := decide_eq_true c9
      obtain rfl := Option.some.inj H
      go_enter Tryd.func22, Tryd.ntmps22
      go_wp2
      go_ret
      exact ⟨rr_, lb0_ HB.out⟩
     ·
      rw [if_neg c9] at H
      exact absurd H (by simp)
    ·
     rw [if_neg c8] at H
     exact absurd H (by simp)
   ·
    rw [if_neg c7] at H
    exact absurd H (by simp)
  ·
   rw [if_neg c6] at H
   have c6b0 : decide (a0 < 10) = false := decide_eq_false c6
   clear c6
   replace H := Option.bind_eq_some_iff.mp H
   obtain ⟨t168, A100, H⟩ := H
   replace H : (if 0 ≤ (Int.tmod a0 10) then (if (Int.tmod a0 10) ≤ (wrap64 ((Int.tmod a0 10) + 1)) then (if (wrap64 ((Int.tmod a0 10) + 1)) ≤ 10 then (if t168.size + (sx (⟨#[48, 49, 50, 51, 52, 53, 54, 55, 56, 57]⟩ : ByteArray) (((Int.tmod a0 10) : Int).toNat) (((wrap64 ((Int.tmod a0 10) + 1)) : Int).toNat)).size ≤ 9223372036854775807 then (some (sc t168 (sx (⟨#[48, 49, 50, 51, 52, 53, 54, 55, 56, 57]⟩ : ByteArray) (((Int.tmod a0 10) : Int).toNat) (((wrap64 ((Int.tmod a0 10) + 1)) : Int).toNat)))) else (none)) else (none)) else (none)) else (none)) = some r := H
   have A10 := Aside0.mk A100
   clear A100
   obtain ⟨ji11, hji11⟩ : ∃ j_ : Int, (Int.tmod a0 10) = j_ := ⟨_, rfl⟩
   replace H : (if 0 ≤ (ji11) then (if (ji11) ≤ (wrap64 ((ji11) + 1)) then (if (wrap64 ((ji11) + 1)) ≤ 10 then (if t168.size + (sx (⟨#[48, 49, 50, 51, 52, 53, 54, 55, 56, 57]⟩ : ByteArray) (((ji11) : Int).toNat) (((wrap64 ((ji11) + 1)) : Int).toNat)).size ≤ 9223372036854775807 then (some (sc t168 (sx (⟨#[48, 49, 50, 51, 52, 53, 54, 55, 56, 57]⟩ : ByteArray) (((ji11) : Int).toNat) (((wrap64 ((ji11) + 1)) : Int).toNat)))) else (none)) else (none)) else (none)) else (none)) = some r := by first | (rw [hji11] at H; exact H) | (simp only [hji11] at H ⊢; exact H)
   (try rw [hji11] at A10)
   by_cases c12 : 0 ≤ (ji11)
   ·
    rw [if_pos c12] at H
    have c12b0 := eq_true c12
    have c12b1 : decide (0 ≤ (ji11)) = true := decide_eq_true c12
    clear c12
    by_cases c13 : (ji11) ≤ (wrap64 ((ji11) + 1))
    ·
     rw [if_pos c13] at H
     have c13b0 := eq_true c13
     have c13b1 : decide ((ji11) ≤ (wrap64 ((ji11) + 1))) = true := decide_eq_true c13
     by_cases c14 : (wrap64 ((ji11) + 1)) ≤ 10
     ·
      rw [if_pos c14] at H
      have c14b0 := eq_true c14
      have c14b1 : decide ((wrap64 ((ji11) + 1)) ≤ 10) = true := decide_eq_true c14
      by_cases c15 : t168.size + (sx (⟨#[48, 49, 50, 51, 52, 53, 54, 55, 56, 57]⟩ : ByteArray) (((ji11) : Int).toNat) (((wrap64 ((ji11) + 1)) : Int).toNat)).size ≤ 9223372036854775807
      ·
       rw [if_pos c15] at H
       have c15b0 := eq_true c15
       have c15b1 : decide (t168.size + (sx (⟨#[48, 49, 50, 51, 52, 53, 54, 55, 56, 57]⟩ : ByteArray) (((ji11) : Int).toNat) (((wrap64 ((ji11) + 1)) : Int).toNat)).size ≤ 9223372036854775807) = true := decide_eq_true c15
       try have c15b2 : (9223372036854775807 < t168.size + (sx (⟨#[48, 49, 50, 51, 52, 53, 54, 55, 56, 57]⟩ : ByteArray) (((ji11) : Int).toNat) (((wrap64 ((ji11) + 1)) : Int).toNat)).size) = False := eq_false (Nat.not_lt.2 c15)
       obtain rfl := Option.some.inj H
       go_enter Tryd.func22, Tryd.ntmps22
       try go_wp2
       replace HB := Aside0.mk (below_drew1 HB.out)
       refine start_ (n := 11) (S := fun w' => True) (ds := []) spec_l1Num.mk0 (by kernel_rfl) rfl rfl trivial (fun hHeld => ?_); refine with_tabW spec_l1Num.tab5 spec_l1Num.bits5 (fun HT_ HW_ => ?_)
       generalize w.drew = w16 at HB hHeld ⊢
       refine pz_ HT_ 0 (some 15) spec_l1Num.mk1 ?_
       refine pz_ HT_ 1 (some 16) spec_l1Num.mk2 ?_
       refine pz_ HT_ 3 (some 18) spec_l1Num.mk3 ?_
       refine pz_ HT_ 4 (some 19) spec_l1Num.mk4 ?_
       refine pz_ HT_ 5 (some 20) spec_l1Num.mk5 ?_
       refine pz_ HT_ 6 (some 21) spec_l1Num.mk6 ?_
       refine pz_ HT_ 7 (some 22) spec_l1Num.mk7 ?_
       refine pz_ HT_ 8 (some 23) spec_l1Num.mk8 ?_
       refine one_ (i := 2) (N := some 17) spec_l1Num.mk9 rfl rfl (one_of HT_.out (by kernel_rfl)) (by decide) (fun K hK => ?_)
       refine gs_ Tryd.func22 #[.int .i64 (wrap64 (Int.tdiv a0 10))] ?_
       with_reducible refine (ih k (by omega) (wrap64 (Int.tdiv a0 10)) t168 _ A10.out).mono ?_
       rintro e w17 ⟨rfl, hb⟩
       refine ⟨_, rfl, ?_⟩
       replace HB := Aside0.mk (below_step (lb0_ HB.out) hb)
       (try clear hb)
       (try clear hb2)
       (try clear hk)
       (try clear hi)
       refine hK.out _ _ trivial (fun hHeld => ?_)
       clear hK K
       refine na_ ?_
       refine pz_ HT_ 9 (some 24) spec_l1Num.mk10 ?_
       refine pz_ HT_ 10 (some 2) spec_l1Num.mk11 ?_
       refine done_ (done_of HT_.out (by kernel_rfl)) ?_
       try go_wp2
       go_ret
       exact ⟨by first | rfl | (simp [errW_none, errW_some] <;> rfl) | (simp only [← hji11]; first | rfl | (simp [errW_none, errW_some] <;> rfl)) | (simp [*, errW_none, errW_some] <;> rfl), lb0_ HB.out⟩
      ·
       rw [if_neg c15] at H
       exact absurd H (by simp)
     ·
      rw [if_neg c14] at H
      exact absurd H (by simp)
    ·
     rw [if_neg c13] at H
     exact absurd H (by simp)
   ·
    rw [if_neg c12] at H
    exact absurd H (by simp)
end Go.Proofs.YtckigdechhmegaaDoor.Pr

